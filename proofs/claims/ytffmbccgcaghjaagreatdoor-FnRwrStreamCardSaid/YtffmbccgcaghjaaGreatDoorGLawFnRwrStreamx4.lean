import Derived.Test.YtffmbccgcaghjaaGreatDoorGLawFnRwrStreamx3
import Derived.RangeFuncBox
import Derived.Maps.AppendAt
import Derived.Test.YtffmbccgcaghjaaGreatDoorUFnRwrStreamOwn
import Derived.Shelf.Strings.BuilderK
namespace Go.Proofs.YtffmbccgcaghjaaGreatDoor.P
open Go.Proofs.YtffmbccgcaghjaaGreatDoorUFnRwrStream.PrintLast Go.Proofs.YtffmbccgcaghjaaGreatDoorUFnRwrStream.PrintMore Go.Proofs.YtffmbccgcaghjaaGreatDoorUFnRwrStream.PrintWords Go.RowKit Go.Shelf
set_option linter.unusedVariables false
set_option linter.unusedSimpArgs false
section
attribute [local go_sem] Oper.semAt_some
def impl_StrLines.f (s : ByteArray) : Option (List ByteArray × ByteArray) := if s.size ≤ 4000000000 then some (linesB s, restB s) else none
theorem ownsRow_from {β : Type} (B base : Nat) (e : TypeId) (sz : Nat) (v : β → Value) (n : β → Nat) (xs : β → List Value) : OwnFrom B (fun (s : β) W => W.ownsRow base e sz (v s) (n s) (xs s)) := fun s X Y row hs hg hr => by
  refine hs.kept hg ?_
  rcases hv : (v s).ownBlock with _ | k
  · exact .inl rfl
  · refine .inr fun e => ?_
    obtain ⟨_, o, ho, hc⟩ := hr k e.symm
    obtain ⟨cells, h⟩ := own_typed (.of_owns hs) k hv
    rw [h] at ho
    cases ho
    cases hc
theorem kpl_b {n₀ b : Nat} {w : World} (hn : n₀ ≤ w.heap.size) (hb : b < w.heap.size) (W : World) (l : Nat) (o o' : Obj) (hl : w.heap.size ≤ l) (ho : W.heap[l]? = some o) (hc : o.isCells = false) (hk : o.isWalk = false) : KpL n₀ b W (W.putObj l o') :=
  ⟨belowK_b (w := w) hn W l o o' hl ho hc hk, World.putObj_heap_other (by omega)⟩
theorem ownsRow_moved {w w1 : World} {base : Nat} {e : TypeId} {size n : Nat} {v : Value} {xs : List Value} (h : w.ownsRow base e size v n xs) (hm : ∀ k, v.ownBlock = some k → w1.heap[k]? = w.heap[k]?) : w1.ownsRow base e size v n xs := by
  obtain ⟨h1, h2⟩ := h
  refine ⟨h1, ?_⟩
  rcases h2 with h2 | ⟨g, cap, cur, rfl, hg, hh, r⟩
  · exact .inl h2
  · exact .inr ⟨g, cap, cur, rfl, hg, (hm g (by simp [Value.ownBlock])).trans hh, r⟩
theorem cells_own' {β : Type} (b : Nat) (t : TypeId) (v : β → Value) : Own (fun (s : β) W => Boxed W b t (v s)) := fun s X Y row hs hg hr => by
  refine (hg.block b (Array.getElem?_eq_some_iff.1 hs).1 (fun e => ?_)).trans hs
  obtain ⟨o, ho, hc⟩ := hr b e.symm
  rw [show X.heap[b]? = _ from hs] at ho; cases ho; cases hc
theorem count_calls (s : ByteArray) (w : World) : Calls Tryz.prog 70 #[.string s, .string (⟨#[59]⟩ : ByteArray)] w fun e w' => e = .returned (.int .i64 ((linesB s).length : Int)) ∧ w = w' := by
  rw [linesB_count]
  exact (Tryz.strings_Count_one s 59 w).mono fun _ _ h => ⟨h.1, h.2.symm⟩
theorem last_calls (s : ByteArray) (hs : s.size ≤ 4000000000) (w : World) : Calls Tryz.prog 72 #[.string s, .string (⟨#[59]⟩ : ByteArray)] w fun e w' => e = .returned (.int .i64 (Lib.lastIndexByte s 59)) ∧ w = w' :=
  (Tryz.strings_LastIndex_one s ⟨#[59]⟩ rfl (by omega) w).mono fun _ _ h => ⟨h.1, h.2.symm⟩
set_option maxRecDepth 100000 in
set_option maxHeartbeats 4000000 in
theorem impl_StrLines.calls (a0 : ByteArray) (r1 : List ByteArray) (r2 : ByteArray) (w : World) (h : impl_StrLines.f a0 = some (r1, r2)) (hE : Env w) :
    Calls Tryz.prog 36 #[.string a0] w fun e w' => ∃ v0_ : Value, e = .returned (.tuple #[v0_, .string r2]) ∧ Kd.R Kd.string 9 w' w.heap.size (fun _ => True) v0_ r1 ∧ Below w.heap.size w w' := by
  unfold impl_StrLines.f at h
  by_cases hs : a0.size ≤ 4000000000
  · rw [if_pos hs] at h
    simp only [Option.some.injEq, Prod.mk.injEq] at h
    obtain ⟨rfl, rfl⟩ := h
    have hlen : (linesB a0).length ≤ a0.size := by
      rw [linesB_count]; unfold Lib.countByte
      exact Nat.le_trans List.count_le_length (by rw [len_data]; exact Nat.le_refl _)
    obtain ⟨N, hN⟩ : ∃ N, (linesB a0).length = N := ⟨_, rfl⟩
    have HS := Lib.hid hs
    have HL := Lib.hid hlen
    have HE := Lib.hid hE
    clear hs hlen hE
    obtain ⟨i0, hi, hz0, hz1, hz2⟩ := info_parts info9
    refine (callsIn_wide (n := 9)).1 ?_
    refine callsIn_of_wp_marks Tryz.func36 rfl trivial (wpIn_wide.2 ?_) rfl
    simp only [Tryz.ntmps36, List.size_toArray, List.length_cons, List.length_nil, Nat.reduceAdd, Nat.reduceSub, Array.replicate_succ, Array.replicate_zero, List.push_toArray, List.append_toArray, List.nil_append, List.cons_append]
    go_wp2_with (first
      | (go_at_call 70; refine (count_calls a0 _).mono ?_; rintro e w' ⟨rfl, rfl⟩; rw [hN])
      | (at_make; refine wpList_make_own w rfl _ _ 51 rfl w.heap.size 9 i0 (.string ⟨#[]⟩) 1 Tryz.underlying51 hi hz0 hz1 .i64 .i64 (N : Int) N rfl rfl rfl (by rw [hz2]; have := HS.out; have := HL.out; omega) (by unfold maxLen; have := HS.out; have := HL.out; omega) (Nat.le_refl _) ?_; intro w1 hown hgr)
      | (go_at_call 71; refine (linesOf0 a0 _).mono ?_; rintro e w2 ⟨rfl, rfl⟩))
    have hB1 : Below w.heap.size w w1 := (Below.refl _ w).grown hgr (Nat.le_refl _) (fun k e => by cases e)
    have hs1 := hB1.size
    obtain ⟨W0, hW0⟩ : ∃ W0, (w1.alloc (.cells #[.slice (some ⟨w.heap.size, 0, none⟩) 0 N] 51)).alloc (.cells #[.string a0] 9) = W0 := ⟨_, rfl⟩
    have hb0 : Boxed W0 w1.heap.size 51 (.slice (some ⟨w.heap.size, 0, none⟩) 0 N) := by rw [← hW0]; exact (Boxed.new _ _ _).alloc _
    have hst : W0.heap[w1.heap.size + 1]? = some (.cells #[.string a0] 9 (0, 0)) := by
      rw [← hW0]
      have := heap_alloc_new (w1.alloc (.cells #[.slice (some ⟨w.heap.size, 0, none⟩) 0 N] 51)) (.cells #[.string a0] 9)
      simp only [World.size_alloc] at this
      exact this
    have hB0 : Below w.heap.size w W0 := by rw [← hW0]; exact (hB1.alloc hs1 _).alloc (by simp only [World.size_alloc]; omega) _
    have hr0 : W0.ownsRow w.heap.size 9 1 (.slice (some ⟨w.heap.size, 0, none⟩) 0 N) 0 [] := by rw [← hW0]; exact (hown.alloc _).alloc _
    have hsz : W0.heap.size = w1.heap.size + 2 := by rw [← hW0]; simp
    have hlt1 := (hown.lt w.heap.size rfl).2
    rw [hW0]
    clear hW0 hown hgr hB1
    have HHS := Lib.hid hs1
    refine (wpIn_wide (n := 9)).1 ?_
    refine wpIn_rangeFunc_runs rfl (by omega) (gf := 101) (lb := #[.pointer (some ⟨w1.heap.size + 1, 0, none⟩)]) rfl trivial (enters_of Tryz.func101 (by kernel_rfl) rfl)
      (lines_runs (w1.heap.size + 1) w.heap.size a0 w W0 rfl hB0 (by omega) hst (by have := HS.out; omega) HE.out) KpL.trans (kpl_b (by omega) (by omega))
      (fun A B ⟨v, h⟩ k hk => by rw [h]; exact Below.heap_setCell A _ _ _ (by simp only; omega)) (Below.refl _ _) (fun _ => rfl)
      (fun pre W => Boxed W w1.heap.size 51 (.slice (some ⟨w.heap.size, 0, none⟩) pre.length N) ∧ (W.ownsRow w.heap.size 9 1 (.slice (some ⟨w.heap.size, 0, none⟩) pre.length N) pre.length (pre.map Value.string) ∧ Below w.heap.size W0 W))
      (OwnFrom.and (Own.from (cells_own' _ _ _) _) (OwnFrom.and (ownsRow_from _ _ _ _ _ _ _) (ownFrom_below (by omega) (by omega))))
      (fun s A B ⟨h1, h2, h3⟩ ⟨v, h⟩ => by
        subst h
        exact ⟨(Below.heap_setCell A _ _ _ (by simp only; omega)).trans h1, ownsRow_moved h2 (fun k hk => Below.heap_setCell A _ _ _ (by have e : w.heap.size = k := (by simpa [Value.ownBlock] using hk); simp only; omega)), h3.setCell (p := ⟨w1.heap.size + 1, 0, none⟩) (by simp only; omega) _⟩)
      ⟨hb0, hr0, Below.refl _ _⟩
      (fun x => { tmps := #[.string a0, undef, .slice none 0 0, .string ⟨#[]⟩, .pointer (some ⟨w1.heap.size, 0, none⟩), .string x, .string a0, .int .i64 N, .slice (some ⟨w.heap.size, 0, none⟩) 0 N, .string a0, .func (.func 101) #[] #[.pointer (some ⟨w1.heap.size + 1, 0, none⟩)], .string x, undef, undef, undef, undef, undef, undef, undef, undef, undef, undef], defers := [] })
      ?assign ?body ?done
    case assign =>
      intro l x W K hK
      gi_wp2
      exact hK
    case body =>
      rintro l pre x W ⟨hbx, hrow, hB⟩ hlt
      have hlN : pre.length + 1 ≤ N := by
        obtain ⟨r, hr⟩ := hlt
        rw [← hN, ← hr, List.length_append, List.length_cons]; omega
      have hc := hbx.cell
      have hf := hbx.frozen
      have HB := Lib.hid hB
      have HR := Lib.hid hrow
      have HX := Lib.hid hbx
      have HSZ := Lib.hid hsz
      have HLT := Lib.hid hlt1
      clear hB hrow hbx hlt hsz hs1 hr0 hst hb0 hB0 hlt1
      gi_wp2_with (gi_at_builtin; refine wpListIn_append_fits _ rfl _ _ 51 rfl w.heap.size 9 i0 1 Tryz.underlying51 hi hz1 w.heap.size pre.length N (pre.map Value.string) rfl (HR.out.alloc _) ⟨W.heap.size, 0, none⟩ 1 1 [.string x] rfl rfl (cell_one_new _ _ _) (by simp [Value.oneCell']) hlN ?_; intro w2 hown2 hgr2; obtain ⟨hv1, hv2, hr2, hk2, hb2⟩ := HX.out.appended (by decide) HR.out (by have := HB.out.size; have := HSZ.out; have := HHS.out; omega) HHS.out hown2 hgr2; have HG2 := Lib.hid hgr2; have HV2 := Lib.hid hv2; have HR2 := Lib.hid hr2; have HK2 := Lib.hid hk2; have HB2 := Lib.hid hb2; have hc1 := hv1.cell; have hf1 := hv1.frozen; clear hv1 hv2 hr2 hk2 hb2 hown2 hgr2)
      have hWs := HB.out.size
      have hsz := HSZ.out
      have hlt := HLT.out
      refine ⟨HK2.out, ⟨HB2.out, ?_⟩, ?_, ?_, HB.out.trans HB2.out⟩
      · refine (Below.heap_setCell _ _ _ _ (by simp only; omega)).trans ((HG2.out.block _ (by simp; omega) (by simp [Value.ownBlock]; omega)).trans (Below.heap_alloc W _ _ (by omega)))
      · rw [List.length_append]; exact HV2.out
      · rw [List.length_append, List.map_append]; exact HR2.out
    case done =>
      rintro D xs W hD rfl ⟨hbx, hrow, hB⟩ hK
      rw [hN] at hbx hrow
      have hc := hbx.cell
      have HR := Lib.hid hrow
      have HB := Lib.hid hB
      have HK := Lib.hid hK
      have HD := Lib.hid hD
      have HB0 := Lib.hid hB0
      have HSZ := Lib.hid hsz
      obtain ⟨q1, q2, q3⟩ := restB_last a0
      have HLC := Lib.hid (last_calls a0 HS.out)
      obtain ⟨x, hx⟩ : ∃ x, Lib.lastIndexByte a0 59 = x := ⟨_, rfl⟩
      rw [hx] at q1 q2 q3 HLC
      have Q3 := Lib.hid q3
      clear hbx hrow hB hK hD hB0 hsz hs1 hr0 hst hb0 hlt1 q3 hx
      have z1 : IntKind.i64.wrap (x + 1) = x + 1 := IntWalk.i64_in _ (by have := HS.out; omega)
      go_wp2_with fail
      go_quiet ((go_at_call 72; exact Calls.quiet_of_same ((HLC.out _).mono fun _ _ h => ⟨h.1, h.2.symm⟩)))
      go_wp2
      have hDl := (Array.getElem?_eq_some_iff.1 HK.out).1
      have hbW : Below w.heap.size w ((W.drewN nq).putObj D (.deferred none)) :=
        (HB0.out.trans (pw_below_drewN HB.out nq)).trans (belowK_b (w := w) (Nat.le_refl _) (W.drewN nq) D _ _ (by have := HD.out; have := HSZ.out; have := HHS.out; omega) HK.out rfl rfl)
      refine ⟨by simp, .inl ⟨_, _, rfl, run_takeDeferred (w := W.drewN nq) HK.out, ?_⟩⟩
      refine ⟨_, results_tmp2 rfl _ _ _, ⟨_, by rw [Q3.out]; rfl, ?_, hbW⟩⟩
      have hrow : ((W.drewN nq).putObj D (.deferred none)).ownsRow w.heap.size 9 1 (.slice (some ⟨w.heap.size, 0, none⟩) N N) N ((linesB a0).map Value.string) :=
        ownsRow_moved HR.out (fun k hk => by
          have e : w.heap.size = k := (by simpa [Value.ownBlock] using hk)
          exact World.putObj_heap_other (by have := HD.out; have := HSZ.out; have := HHS.out; omega))
      rw [← hN] at hrow ⊢
      exact Kd.R_of_own (.of_owns hrow) (fun _ _ => trivial)
  · rw [if_neg hs] at h; cases h
end
end Go.Proofs.YtffmbccgcaghjaaGreatDoor.P
namespace Go.Proofs.YtffmbccgcaghjaaGreatDoor.P
open Go.Proofs.YtffmbccgcaghjaaGreatDoorUFnRwrStream.PrintLast Go.Proofs.YtffmbccgcaghjaaGreatDoorUFnRwrStream.PrintMore Go.Proofs.YtffmbccgcaghjaaGreatDoorUFnRwrStream.PrintWords Go.RowKit
set_option linter.unusedVariables false
set_option linter.unusedSimpArgs false
section
attribute [local go_sem] max2_int min2_int max_two min_two max_three min_three max_four min_four
def impl_StrOk.l0 : Nat → ByteArray → List ByteArray → Int → Int → Option (Bool)
 | 0, _, _, _, _ => none
 | k + 1, x0, x15, x16, x17 => if x17 < x16 then (if 0 ≤ x17 then (if x17 < (x15.length : Int) then ((impl_LinOk.f (rdOf ByteArray.empty x15 x17)).bind fun t707 => (if t707 = true then (impl_StrOk.l0 k x0 x15 x16 (wrap64 (x17 + 1))) else (some false))) else (none)) else (none)) else (some (decide ((x0.size : Int) ≤ 120)))
def impl_StrOk.f (k : Nat) (a0 : ByteArray) : Option (Bool) := (impl_StrLines.f a0).bind fun bt699 => (if bt699.1.length < 8796093022208 then ((some (bt699.1 ++ [bt699.2] : List ByteArray)).bind fun y703 => (impl_StrOk.l0 k a0 y703 (y703.length : Int) 0)) else (none))
theorem impl_StrOk.mono_l : ∀ k, (∀ y0 y1 y2 y3, LeO (impl_StrOk.l0 k y0 y1 y2 y3) (impl_StrOk.l0 (k + 1) y0 y1 y2 y3))
 | 0 => fun _ _ _ _ r h => by simp [impl_StrOk.l0] at h
 | k + 1 => by
  have ih0 := impl_StrOk.mono_l k
  ·intro y0 y1 y2 y3
   unfold impl_StrOk.l0
   repeat' first | (with_reducible first | exact ih0 _ _ _ _ | exact LeO.refl _ | exact LeO.none _ | refine LeO.ite ?_ ?_ | refine LeO.bind ?_ (fun _ => ?_)) | exact ih0 _ _ _ _ | exact LeO.none _ | refine LeO.ite ?_ ?_ | refine LeO.bind ?_ (fun _ => ?_)
theorem impl_StrOk.mono : ∀ a0 k, LeO (impl_StrOk.f k a0) (impl_StrOk.f (k + 1) a0) := by
 intro a0 k
 have ih0 := impl_StrOk.mono_l k
 unfold impl_StrOk.f
 repeat' first | (with_reducible first | exact ih0 _ _ _ _ | exact LeO.refl _ | exact LeO.none _ | refine LeO.ite ?_ ?_ | refine LeO.bind ?_ (fun _ => ?_)) | exact ih0 _ _ _ _ | exact LeO.none _ | refine LeO.ite ?_ ?_ | refine LeO.bind ?_ (fun _ => ?_)
set_option maxHeartbeats 8000000 in
set_option maxRecDepth 100000 in
theorem impl_StrOk.calls (k : Nat) (a0 : ByteArray) (r : Bool) (w : World) (h : impl_StrOk.f k a0 = some r) (hE : Env w) :
  Calls Tryz.prog 68 #[.string a0] w fun e w' => e = .returned (.bool r) ∧ Below w.heap.size w w' := by
 have HB := am (Below.refl w.heap.size w)
 have H : ((impl_StrLines.f a0).bind fun bt699 => (if bt699.1.length < 8796093022208 then ((some (bt699.1 ++ [bt699.2] : List ByteArray)).bind fun y703 => (impl_StrOk.l0 k a0 y703 (y703.length : Int) 0)) else (none))) = some r := h
 clear h
 obtain ⟨⟨t699, t700⟩, A2, H⟩ := bse H
 try dsimp only at H
 by_cases c3 : t699.length < 8796093022208
 ·rw [if_pos c3] at H
  have LMc3 := am c3
  clear c3
  obtain ⟨y703, hy703⟩ : ∃ y_ : List ByteArray, y_ = (t699 ++ [t700]) := ⟨_, rfl⟩
  replace H : (impl_StrOk.l0 k a0 y703 (y703.length : Int) 0) = some r := by first | (rw [hy703]; with_reducible exact H) | (have H2_ := (Option.bind_some _ _).symm.trans H; rw [hy703]; with_reducible exact H2_) | (have H2_ := (Option.bind_some _ _).symm.trans H; with_reducible exact H2_) | with_reducible exact H | (rw [hy703]; exact H) | exact H
  have Ny703 := am hy703
  clear hy703
  have H' := am H
  clear H
  go_enter Tryz.func68, Tryz.ntmps68
  go_wp2_with (first | ((with_reducible refine gate_callee (f := 36) rfl ?_); refine gL (some 9) Tryz.func36 #[.string a0] ?_; (with_reducible refine (impl_StrLines.calls a0 t699 t700 _ A2.out (Env.below hE (bl HB))).mono ?_); rintro e w4 ⟨v701, rfl, ho0, hb⟩; refine ⟨_, rfl, ?_⟩; have HO702 := am (Kd.R_lower ho0 (below_size (bl HB))); replace HB := hbS HB hb; (try clear hb); (try clear ho0)) | ((with_reducible refine gate_builtin (b := .append) (xs := #[.tmp 12, .tmp 14]) rfl ?_); at_builtin; refine Kd.R_append Kd.string (w0 := w) w.heap.size rfl (.tmp 12) (.tmp 14) 51 9 (.string ⟨#[]⟩) 16 rfl Tryz.underlying51 info9 rfl (by decide) (by omega) v701 t699 t700 [.string t700] (fun _ => True) (fun _ => False) rfl rfl ?aP (fun _ hk => hk.elim) ?aF ?aO ?aB ?aS ?aL ?_; (case aP => exact rfl); (case aB => exact (bl HB)); (case aF => exact (fun _ _ => trivial)); (case aO => exact (rs HO702)); (case aS => exact (below_size (bl HB))); (case aL => have := LMc3.out; omega); intro v704 w5 ho hb hg hat; rw [← Ny703.out] at ho; replace HB := am hb; have HO705 := am (ho); clear HO702; clear ho hb hg hat; obtain ⟨Ao6, co6, eo6⟩ := Kd.R_slice HO705.out; subst eo6))
  go_loopg [17] k (fun kq v17 w' => ∃ (x17_1 : Int), v17 = .int .i64 x17_1 ∧ Aside0 (impl_StrOk.l0 kq a0 y703 (y703.length : Int) x17_1 = some r) ∧ Aside0 (kq ≤ k) ∧ Aside0 (Kd.R Kd.string 9 w' w.heap.size (fun _ => True) (.slice Ao6 y703.length co6) y703) ∧ Aside0 (Below w.heap.size w w'))
  case atStart => exact ⟨(0), rs_, H', ⟨Nat.le_refl _⟩, ⟨by (with_reducible repeat apply ru); exact HO705.out⟩, ⟨m0_⟩⟩
  case round =>
   clear H'
   try clear p2
   try clear c3
   try clear c6
   obtain ⟨x17_1, rfl, HA, HK1, HO_15, HB⟩ := hrel
   cases gk with
   | zero => exact absurd HA.out (by simp [impl_StrOk.l0])
   | succ k1 =>
    have H := HA.out
    clear HA
    simp only [impl_StrOk.l0] at H
    by_cases c7 : x17_1 < (y703.length : Int)
    ·rw [if_pos c7] at H
     have c7b0 : decide (x17_1 < (y703.length : Int)) = true := decide_eq_true c7
     clear c7
     by_cases c8 : 0 ≤ x17_1
     ·rw [if_pos c8] at H
      have c8b0 : decide (0 ≤ x17_1) = true := decide_eq_true c8
      clear c8
      by_cases c9 : x17_1 < (y703.length : Int)
      ·rw [if_pos c9] at H
       have c9b0 : decide (x17_1 < (y703.length : Int)) = true := decide_eq_true c9
       clear c9
       obtain ⟨t707, A10, H⟩ := bse H
       try dsimp only at H
       by_cases c11 : t707 = true
       ·subst c11
        have H1 : (impl_StrOk.l0 k1 a0 y703 (y703.length : Int) (wrap64 (x17_1 + 1))) = some r := by rw [if_pos rfl] at H; exact H
        clear H
        have H := H1
        clear H1
        have H' := am H
        clear H
        have p706 : 0 ≤ (x17_1 : Int) := of_decide_eq_true da_
        have q706 : x17_1 < (y703.length : Int) := of_decide_eq_true da_
        obtain ⟨ad706, e706, hx706_0⟩ := Kd.at_string (Kd.R_reads' HO_15.out).2.2 x17_1 p706 q706
        cases e706
        replace p706 := eq_true p706
        replace q706 := eq_true q706
        go_wp2_with (first | ((with_reducible refine gate_callee (f := 22) rfl ?_); refine gL (some 22) Tryz.func22 #[.string (rdOf ByteArray.empty y703 x17_1)] ?_; (with_reducible refine (impl_LinOk.calls (rdOf ByteArray.empty y703 x17_1) true _ A10.out).mono ?_); rintro e w12 ⟨rfl, hb⟩; refine ⟨_, rfl, ?_⟩; replace HO_15 := am (Kd.R_below (rs HO_15) hb); replace HB := hbS HB hb; (try clear hb)))
        go_roundg k1
        case measure => have := HK1.out; omega
        case rel => exact ⟨(wrap64 (x17_1 + 1)), rs_, H', ⟨by have := HK1.out; omega⟩, ⟨by (with_reducible repeat apply ru); exact HO_15.out⟩, ⟨m0_⟩⟩
       ·replace c11 := Bool.eq_false_iff.mpr c11
        subst c11
        have H1 : (some false) = some r := by rw [if_neg (show ¬ (false = true) by decide)] at H; exact H
        clear H
        have H := H1
        clear H1
        obtain rfl := Option.some.inj H
        have p706 : 0 ≤ (x17_1 : Int) := of_decide_eq_true da_
        have q706 : x17_1 < (y703.length : Int) := of_decide_eq_true da_
        obtain ⟨ad706, e706, hx706_0⟩ := Kd.at_string (Kd.R_reads' HO_15.out).2.2 x17_1 p706 q706
        cases e706
        replace p706 := eq_true p706
        replace q706 := eq_true q706
        go_wp2_with (first | ((with_reducible refine gate_callee (f := 22) rfl ?_); refine gL (some 22) Tryz.func22 #[.string (rdOf ByteArray.empty y703 x17_1)] ?_; (with_reducible refine (impl_LinOk.calls (rdOf ByteArray.empty y703 x17_1) false _ A10.out).mono ?_); rintro e w13 ⟨rfl, hb⟩; refine ⟨_, rfl, ?_⟩; replace HO_15 := am (Kd.R_below (rs HO_15) hb); replace HB := hbS HB hb; (try clear hb)))
        go_ret
        exact ⟨fi_, m0_⟩
      ·rw [if_neg c9] at H
       exact absurd H (by simp)
     ·rw [if_neg c8] at H
      exact absurd H (by simp)
    ·rw [if_neg c7] at H
     have c7b0 : decide (x17_1 < (y703.length : Int)) = false := decide_eq_false c7
     clear c7
     obtain rfl := Option.some.inj H
     go_wp2
     go_ret
     exact ⟨fi_, m0_⟩
 ·rw [if_neg c3] at H
  exact absurd H (by simp)
end
end Go.Proofs.YtffmbccgcaghjaaGreatDoor.P
namespace Go.Proofs.YtffmbccgcaghjaaGreatDoor.P
open Go.RowKit Go.Shelf
set_option linter.unusedVariables false
set_option linter.unusedSimpArgs false
set_option maxHeartbeats 1000000 in
set_option maxRecDepth 100000 in
theorem copyCheck_used (b : Nat) (w : World) (h0 : w.cell? ⟨b, 0, none⟩ = some (.pointer (some ⟨b, 0, none⟩))) :
    Calls Tryz.prog 115 #[.pointer (some ⟨b, 0, none⟩)] w fun e w' => e = .returned (.tuple #[]) ∧ w = w' := by
  obtain ⟨j, hj, _⟩ := Option.map_eq_some_iff.1 Tryz.Builder_Extra_169.sizeBuilder
  go_enter Tryz.func115, Tryz.ntmps115
  go_wp2
  rw [Lib.run_neq_ptr_same w _ Tryz.underlying105 hj]
  go_wp2
  go_end0
  exact ⟨rfl, rfl⟩
set_option maxHeartbeats 1000000 in
set_option maxRecDepth 100000 in
theorem copyCheck_fresh (b : Nat) (w : World) (h0 : w.cell? ⟨b, 0, none⟩ = some (.pointer none)) (hsh : w.shape? b = some (107, 2)) (hfz : w.frozen? ⟨b, 0, none⟩ = false) :
    Calls Tryz.prog 115 #[.pointer (some ⟨b, 0, none⟩)] w fun e w' => e = .returned (.tuple #[]) ∧ w' = w.setCell ⟨b, 0, none⟩ (.pointer (some ⟨b, 0, none⟩)) := by
  obtain ⟨j, hj, hjs⟩ := Option.map_eq_some_iff.1 Tryz.Builder_Extra_169.sizeBuilder
  go_enter Tryz.func115, Tryz.ntmps115
  go_wp2
  rw [Lib.run_to_unsafe w ⟨b, 0, none⟩ Tryz.underlying105 Tryz.underlying123 hj (by rw [hjs]; decide) hsh (Nat.zero_lt_succ 1)]
  simp only [Result.andThen]
  rw [Oper.upon_value]
  go_wp2
  rw [run_callFunc_extern Tryz.func125 (by kernel_rfl) (by kernel_rfl) (by kernel_rfl) (e := Extern.AbiNoEscape.same) (by kernel_rfl)]
  rw [Lib.run_noEscape]
  simp only [Result.andThen]
  rw [Oper.upon_value]
  go_wp2
  rw [Lib.run_from_unsafe w ⟨b, 0, none⟩ Tryz.underlying123 Tryz.underlying105 hj hsh Tryz.Builder_Extra_169.liesBuilder]
  simp only [Result.andThen]
  rw [Oper.upon_value]
  go_wp2
  go_end0
  exact ⟨rfl, rfl⟩
theorem copyCheck_k (B b : Nat) (bs : List Value) (w : World) (h : Lib.IsBuilderF 107 5 B b bs w) :
    Calls Tryz.prog 115 #[.pointer (some ⟨b, 0, none⟩)] w fun e w' => e = .returned (.tuple #[]) ∧ (Lib.BuilderAtF 107 5 B b (.pointer (some ⟨b, 0, none⟩)) bs w' ∧ Below B w w' ∧ Lib.OthersKept 5 (some b) w w') := by
  rcases h with h | h
  · refine (copyCheck_fresh b w h.cell0 h.shape h.frozen0).mono ?_
    rintro e w' ⟨rfl, rfl⟩
    exact ⟨rfl, h.used _, (Below.refl B w).setCell (p := ⟨b, 0, none⟩) h.1 _, (Lib.OthersKept.refl _ _ w).setCell ⟨b, 0, none⟩ rfl _⟩
  · refine (copyCheck_used b w h.cell0).mono ?_
    rintro e w' ⟨rfl, rfl⟩
    exact ⟨rfl, h, Below.refl B _, Lib.OthersKept.refl _ _ _⟩
set_option maxHeartbeats 2000000 in
set_option maxRecDepth 100000 in
theorem writeString_k (B b : Nat) (bs : List Value) (s : ByteArray) (w : World) (h : Lib.IsBuilderF 107 5 B b bs w) (hlen : bs.length + s.size ≤ 140737488355328) (hBw : B ≤ w.heap.size) :
    Calls Tryz.prog 96 #[.pointer (some ⟨b, 0, none⟩), .string s] w fun e w' => e = .returned (.tuple #[.int .i64 s.size, .nilIface]) ∧ (Lib.BuilderAtF 107 5 B b (.pointer (some ⟨b, 0, none⟩)) (bs ++ Lib.strCells s) w' ∧ Below B w w' ∧ Lib.OthersKept 5 (some b) w w') := by
  obtain ⟨i0, hi, hz0, hz1, hz2⟩ := info_parts Tryz.Builder_Extra_169.infoByte
  go_enter Tryz.func96, Tryz.ntmps96
  go_wp2_with (go_at_call 115; refine (copyCheck_k B b bs _ h).mono ?_)
  rintro e w1 ⟨rfl, h1, hb1, hk1⟩
  obtain ⟨hB, v, hbk, hown, hne⟩ := h1
  have c0 : w1.cell? ⟨b, 0, none⟩ = some (.pointer (some ⟨b, 0, none⟩)) := by rw [Lib.cell_of_heap hbk]; rfl
  have c1 : w1.cell? ⟨b, 1, none⟩ = some v := by rw [Lib.cell_of_heap hbk]; rfl
  go_wp2_with (at_builtin; refine Lib.wpList_append_own_stringF _ rfl _ _ 22 9 rfl B 5 i0 Tryz.underlying22 Tryz.underlying9 hi hz0 hz1 hz2 _ _ _ rfl hown s rfl ?c3 ?c4 ?c5 ?_)
  case c3 => unfold maxLen; omega
  case c4 => omega
  case c5 => have := hb1.size; omega
  intro v' w2 hown' hgrow _
  have hlt : b < w1.heap.size := by
    rcases Nat.lt_or_ge b w1.heap.size with h' | h'
    · exact h'
    · simp [Array.getElem?_eq_none h'] at hbk
  have hb2 : w2.heap[b]? = some (.cells #[.pointer (some ⟨b, 0, none⟩), v] 107 (0, 0)) := by
    rw [hgrow.block b hlt (fun e => hne e.symm)]
    exact hbk
  have d0 : w2.cell? ⟨b, 0, none⟩ = some (.pointer (some ⟨b, 0, none⟩)) := by rw [Lib.cell_of_heap hb2]; rfl
  have d1 : w2.cell? ⟨b, 1, none⟩ = some v := by rw [Lib.cell_of_heap hb2]; rfl
  have f1 : w2.frozen? ⟨b, 1, none⟩ = false := Lib.frozen_of_heap hb2 1
  obtain ⟨ao, n', cap, rfl⟩ : ∃ ao n' cap, v' = .slice ao n' cap := by
    rcases hown'.2 with ⟨hv, _⟩ | ⟨g, cap, cur, fz, hv, _⟩
    · exact ⟨_, _, _, hv⟩
    · exact ⟨_, _, _, hv⟩
  go_wp2
  go_ret2
  refine ⟨rfl, ?_, ?_, (hk1.grown hgrow (Lib.ownsRowF_kind hown)).setCell ⟨b, 1, none⟩ rfl _⟩
  · exact Lib.BuilderAtF.put (T := 107) (e := 5) hB hb2 (bs' := bs ++ Lib.strCells s) (by simpa [Lib.strCells_length] using hown') Tryz.Builder_Extra_169.neB5
  · exact (hb1.grown hgrow (by have := hb1.size; omega) (fun k hk => (hown.lt k hk).1)).setCell (p := ⟨b, 1, none⟩) hB _
end Go.Proofs.YtffmbccgcaghjaaGreatDoor.P
namespace Go.Proofs.YtffmbccgcaghjaaGreatDoor.P
open Go.Proofs.YtffmbccgcaghjaaGreatDoorUFnRwrStream.PrintLast Go.Proofs.YtffmbccgcaghjaaGreatDoorUFnRwrStream.PrintMore Go.Proofs.YtffmbccgcaghjaaGreatDoorUFnRwrStream.PrintWords Go.RowKit Go.Shelf
set_option linter.unusedVariables false
set_option linter.unusedSimpArgs false
section
attribute [local go_sem] Oper.semAt_some
def outStep (q : List S34 × ByteArray) (x : ByteArray) : Option (List S34 × ByteArray) :=
  (impl_MapTab_goesOut.f q.1 x).bind fun r => if r.2.size ≤ 1000000 ∧ q.2.size ≤ 100000000000 then some (r.1, q.2 ++ (r.2 ++ (⟨#[59]⟩ : ByteArray))) else none
def impl_MapTab_streamOut.f (l : List S34) (s : ByteArray) : Option (List S34 × ByteArray) :=
  if s.size ≤ 4000000000 then (impl_MapTab_copied.f l).bind fun l' => (linesB s).foldlM outStep (l', (⟨#[]⟩ : ByteArray)) else none
def txtOf (o : ByteArray) : List Value := Lib.byteCells o.data.toList
theorem txt_size (o : ByteArray) : (txtOf o).length = o.size := by unfold txtOf; rw [Lib.byteCells_length]; exact len_data o
theorem txt_append (o p : ByteArray) : txtOf (o ++ p) = txtOf o ++ Lib.strCells p := by
  unfold txtOf Lib.byteCells Lib.strCells
  rw [ByteArray.data_append, Array.toList_append, List.map_append]
def StaysT (q : TypeId) (W W' : World) : Prop := W.heap.size ≤ W'.heap.size ∧ ∀ (k : Nat) (c : Array Value) (t : TypeId) (f : Nat × Nat), W.heap[k]? = some (.cells c t f) → t ≠ q → W'.heap[k]? = some (.cells c t f)
theorem StaysT.grown {q : TypeId} {X Y : World} {row : Option Nat} (hg : X.grownBy Y row) (hr : ∀ r, row = some r → ∃ o : Obj, X.heap[r]? = some o ∧ o.isCells = false) : StaysT q X Y :=
  ⟨hg.size, fun k c t f h _ => cells_kept0 h hg hr⟩
where
  cells_kept0 {X Y : World} {row : Option Nat} {b : Nat} {c : Array Value} {t : TypeId} {f : Nat × Nat} (h : X.heap[b]? = some (.cells c t f)) (hg : X.grownBy Y row) (hr : ∀ r, row = some r → ∃ o : Obj, X.heap[r]? = some o ∧ o.isCells = false) : Y.heap[b]? = some (.cells c t f) :=
    (hg.block b (Array.getElem?_eq_some_iff.1 h).1 (fun e => by obtain ⟨o, ho, hc⟩ := hr b e.symm; rw [h] at ho; cases ho; cases hc)).trans h
theorem StaysT.trans {q : TypeId} {X Y Z : World} (h : StaysT q X Y) (k : StaysT q Y Z) : StaysT q X Z := ⟨Nat.le_trans h.1 k.1, fun a c t f e ne => k.2 _ _ _ _ (h.2 _ _ _ _ e ne) ne⟩
theorem StaysT.below {q : TypeId} {X Y : World} (h : Below X.heap.size X Y) : StaysT q X Y := ⟨h.size, fun k c t f e _ => (h.block _ (Array.getElem?_eq_some_iff.1 e).1).trans e⟩
theorem StaysT.set {q : TypeId} {X : World} {b : Nat} {u : Value} (h : Boxed X b q u) (v : Value) : StaysT q X (X.setCell ⟨b, 0, none⟩ v) :=
  ⟨by simp, fun k c t f hk ht => (Below.heap_setCell X _ _ _ (fun e => by simp only at e; subst e; rw [show X.heap[k]? = _ from h] at hk; cases hk; exact ht rfl)).trans hk⟩
theorem builder_stays {T e q : TypeId} {B b : Nat} {bs : List Value} {W W' : World} (h : Lib.IsBuilderF T e B b bs W) (hs : StaysT q W W') (hT : T ≠ q) (he : e ≠ q) : Lib.IsBuilderF T e B b bs W' := by
  have at_ : ∀ p, Lib.BuilderAtF T e B b p bs W → Lib.BuilderAtF T e B b p bs W' := by
    rintro p ⟨hB, v, hb, ⟨ho1, ho⟩, hne⟩
    refine ⟨hB, v, hs.2 _ _ _ _ hb hT, ⟨ho1, ?_⟩, hne⟩
    rcases ho with ho | ⟨g, cap, cur, fz, hv, hbg, hg, r⟩
    · exact .inl ho
    · exact .inr ⟨g, cap, cur, fz, hv, hbg, hs.2 _ _ _ _ hg he, r⟩
  exact h.elim (fun h => .inl (at_ _ h)) (fun h => .inr (at_ _ h))
theorem R_stays {α : Type} {d : Kd α} {e q : TypeId} {W W' : World} {base : Nat} {ok : Nat → Prop} {v : Value} {xs : List α} (h : d.R e W base ok v xs) (hs : StaysT q W W') (hq : ∀ t, t ∈ e :: d.E → t ≠ q) : d.R e W' base ok v xs :=
  Kd.R_mono (Kd.R_move (Kd.R_bound h) (fun k hk => by
    obtain ⟨_, _, _, t, ht, cells, hc⟩ := hk
    exact (hs.2 _ _ _ _ hc (hq t ht)).trans hc.symm)) (fun _ hk => hk.1)
theorem R_others {α : Type} {d : Kd α} {e q T : TypeId} {W W' : World} {base b : Nat} {ok : Nat → Prop} {v : Value} {xs : List α} {c : Array Value} (h : d.R e W base ok v xs) (hs : Lib.OthersKept q (some b) W W') (hb : W.heap[b]? = some (.cells c T (0, 0))) (hq : ∀ t, t ∈ e :: d.E → t ≠ q ∧ t ≠ T) : d.R e W' base ok v xs :=
  Kd.R_mono (Kd.R_move (Kd.R_bound h) (fun k hk => by
    obtain ⟨_, _, _, t, ht, cells, hc⟩ := hk
    refine (hs k _ hc (fun e => ?_) (fun c' fz e => ?_)).trans hc.symm
    · injection e with e; subst e; rw [hb] at hc; cases hc; exact (hq _ ht).2 rfl
    · injection e with _ e; exact (hq _ ht).1 e)) (fun _ hk => hk.1)
theorem box_others {q : TypeId} {W W' : World} {b k : Nat} {t : TypeId} {v : Value} (hs : Lib.OthersKept q (some b) W W') (h : Boxed W k t v) (hne : k ≠ b) (ht : t ≠ q) : Boxed W' k t v :=
  hs k _ h (fun e => hne (Option.some.inj e)) (fun c fz e => by injection e with _ e; exact ht e)
theorem keeps_others {q : TypeId} {W W' : World} {b : Nat} {c : Array Value} {T : TypeId} (hs : Lib.OthersKept q (some b) W W') (hb : W.heap[b]? = some (.cells c T (0, 0))) (hsz : W.heap.size ≤ W'.heap.size) : KeepsOthers W W' :=
  ⟨hsz, fun k o hk ho => hs k o hk (fun e => by injection e with e; subst e; rw [hb] at hk; cases hk; cases ho) (fun c fz e => by subst e; cases ho)⟩
theorem fold_next {q q' : List S34 × ByteArray} {pre r : List ByteArray} {x : ByteArray} {xs : List ByteArray} {z : List S34 × ByteArray} (hx : pre ++ x :: r = xs) (h : xs.foldlM outStep q = some z) (h1 : pre.foldlM outStep q = some q') :
    ∃ q2, outStep q' x = some q2 ∧ (pre ++ [x]).foldlM outStep q = some q2 := by
  subst hx
  rw [List.foldlM_append, h1] at h
  have h' : (outStep q' x).bind (fun init => List.foldlM outStep init r) = some z := h
  obtain ⟨q2, h2, _⟩ := Option.bind_eq_some_iff.mp h'
  exact ⟨q2, h2, by rw [List.foldlM_append, h1]; simpa using h2⟩
theorem outStep_some {q q2 : List S34 × ByteArray} {x : ByteArray} (h : outStep q x = some q2) : ∃ y, impl_MapTab_goesOut.f q.1 x = some (q2.1, y) ∧ y.size ≤ 1000000 ∧ q.2.size ≤ 100000000000 ∧ q2.2 = q.2 ++ (y ++ (⟨#[59]⟩ : ByteArray)) := by
  obtain ⟨⟨t, y⟩, h1, h2⟩ := Option.bind_eq_some_iff.mp h
  by_cases hc : y.size ≤ 1000000 ∧ q.2.size ≤ 100000000000
  · rw [if_pos hc] at h2
    cases h2
    exact ⟨y, h1, hc.1, hc.2, rfl⟩
  · rw [if_neg hc] at h2; cases h2
theorem wp_still {P : Program} {c : Code} {Q : Exit → Act → World → Prop} {a : Act} {w : World} (h : c.wp P (fun e a w => e = .normal ∧ Q .normal a w) a w) : c.wp P Q a w :=
  wp_mono h (by rintro e a w ⟨rfl, h⟩; exact h)
def OutI (n₀ bo bb bs b4 : Nat) (l0 : List S34) (W0 : World) (pre : List ByteArray) (W : World) : Prop :=
  ∃ (lt : List S34) (ot : ByteArray) (v u : Value), pre.foldlM outStep (l0, (⟨#[]⟩ : ByteArray)) = some (lt, ot) ∧ Boxed W bo 25 v ∧ Kd.R k34 34 W n₀ (fun _ => True) v lt ∧
    Lib.IsBuilderF 107 5 n₀ bb (txtOf ot) W ∧ Boxed W bs 9 u ∧ Boxed W b4 25 (.slice none 0 0) ∧ Below n₀ W0 W
theorem OutI.stays {n₀ bo bb bs b4 : Nat} {l0 : List S34} {W0 A B : World} {pre : List ByteArray} (h : OutI n₀ bo bb bs b4 l0 W0 pre A) (hs : StaysT 9 A B) (hbs : ∃ u, Boxed B bs 9 u) (hb : Below n₀ W0 B) : OutI n₀ bo bb bs b4 l0 W0 pre B := by
  obtain ⟨lt, ot, v, u, h1, h2, h3, h4, h5, h6, h7⟩ := h
  obtain ⟨u', h5'⟩ := hbs
  exact ⟨lt, ot, v, u', h1, hs.2 _ _ _ _ h2 (by decide), R_stays h3 hs (by decide), builder_stays h4 hs (by decide) (by decide), h5', hs.2 _ _ _ _ h6 (by decide), hb⟩
theorem OutI.own {n₀ bo bb bs b4 B : Nat} {l0 : List S34} {W0 : World} (hn : n₀ ≤ W0.heap.size) (hB : n₀ ≤ B) : OwnFrom B (fun pre W => OutI n₀ bo bb bs b4 l0 W0 pre W) := by
  intro s X Y row hs hg hr
  have hb : Below n₀ W0 Y := by
    obtain ⟨_, _, _, _, _, _, _, _, _, _, h6⟩ := hs
    exact ownFrom_below (β := List ByteArray) hn hB s X Y row h6 hg hr
  refine hs.stays (StaysT.grown hg (fun r e => (hr r e).2)) ?_ hb
  obtain ⟨_, _, _, u, _, _, _, _, h5, _, _⟩ := hs
  exact ⟨u, StaysT.grown.cells_kept0 h5 hg (fun r e => (hr r e).2)⟩
set_option maxRecDepth 100000 in
set_option maxHeartbeats 8000000 in
theorem impl_MapTab_streamOut.calls (A0_0 : Option Addr) (c0_0 : Nat) (l0_0 : List (S34)) (a1 : ByteArray) (r1 : List (S34)) (r2 : ByteArray) (w : World) (hr0_0 : Kd.C k34 w A0_0 l0_0.length l0_0) (hc0_0 : l0_0.length ≤ c0_0) (h : impl_MapTab_streamOut.f l0_0 a1 = some (r1, r2)) (hE : EnvE w) :
    Calls Tryz.prog 69 #[.agg #[.slice A0_0 l0_0.length c0_0], .string a1] w fun e w' => ∃ v0_ : Value, e = .returned (.tuple #[.agg #[v0_], .string r2]) ∧ Kd.R k34 34 w' w.heap.size (fun _ => True) v0_ r1 ∧ Below w.heap.size w w' := by
  unfold impl_MapTab_streamOut.f at h
  by_cases hs : a1.size ≤ 4000000000
  · rw [if_pos hs] at h
    obtain ⟨l1, hcop, h⟩ := Option.bind_eq_some_iff.mp h
    have HS := Lib.hid hs
    have HE := Lib.hid hE
    have HF := Lib.hid h
    have HCOP := Lib.hid hcop
    have HC0 := Lib.hid hc0_0
    have HR0 := Lib.hid hr0_0
    clear hs hE h hcop hc0_0 hr0_0
    refine (callsIn_wide (n := 9)).1 ?_
    refine callsIn_of_wp_marks Tryz.func69 rfl trivial (wpIn_wide.2 ?_) rfl
    simp only [Tryz.ntmps69, List.size_toArray, List.length_cons, List.length_nil, Nat.reduceAdd, Nat.reduceSub, Array.replicate_succ, Array.replicate_zero, List.push_toArray, List.append_toArray, List.nil_append, List.cons_append]
    go_wp2_with (first
      | (go_at_call 77; refine (impl_MapTab_copied.calls A0_0 c0_0 l0_0 l1 _ (Kd.C_below HR0.out (below_alloc (below_alloc (Below.refl _ _) _) _)) HC0.out HCOP.out).mono ?_; rintro e w2 ⟨v1, rfl, hv1, hb2⟩; obtain ⟨A1, c1, rfl⟩ := Kd.R_slice hv1; have HV1 := Lib.hid hv1; have HB2 := Lib.hid hb2; clear hv1 hb2)
      | (go_at_call 71; refine (linesOf0 a1 _).mono ?_; rintro e w3 ⟨rfl, rfl⟩))
    have hb2 := HB2.out
    have hs2 : w.heap.size + 2 ≤ w2.heap.size := by have := hb2.size; simpa using this
    have hbW2 : Below w.heap.size w w2 := (below_alloc (below_alloc (Below.refl _ _) _) _).trans (hb2.mono (by simp; omega))
    have h4 : w2.heap[w.heap.size + 1]? = some (.cells #[.slice none 0 0] 25 (0, 0)) := by
      refine (hb2.block _ (by simp)).trans ?_
      have := heap_alloc_new (w.alloc (.cells #[.slice A0_0 l0_0.length c0_0] 25)) (.cells #[.slice none 0 0] 25)
      simp only [World.size_alloc] at this
      exact this
    obtain ⟨W0, hW0⟩ : ∃ W0, ((w2.alloc (.cells #[.slice A1 l1.length c1] 25)).alloc (.cells #[.pointer none, .slice none 0 0] 107)).alloc (.cells #[.string a1] 9) = W0 := ⟨_, rfl⟩
    have hsz : W0.heap.size = w2.heap.size + 3 := by rw [← hW0]; simp
    have hbo : Boxed W0 w2.heap.size 25 (.slice A1 l1.length c1) := by rw [← hW0]; exact ((Boxed.new _ _ _).alloc _).alloc _
    have hbb : W0.heap[w2.heap.size + 1]? = some (.cells #[.pointer none, .slice none 0 0] 107 (0, 0)) := by
      rw [← hW0]
      have := heap_alloc_new (w2.alloc (.cells #[.slice A1 l1.length c1] 25)) (.cells #[.pointer none, .slice none 0 0] 107)
      simp only [World.size_alloc] at this
      exact blk_alloc this _
    have hst : W0.heap[w2.heap.size + 1 + 1]? = some (.cells #[.string a1] 9 (0, 0)) := by
      rw [← hW0]
      have := heap_alloc_new ((w2.alloc (.cells #[.slice A1 l1.length c1] 25)).alloc (.cells #[.pointer none, .slice none 0 0] 107)) (.cells #[.string a1] 9)
      simp only [World.size_alloc] at this
      exact this
    have h40 : Boxed W0 (w.heap.size + 1) 25 (.slice none 0 0) := by rw [← hW0]; exact blk_alloc (blk_alloc (blk_alloc h4 _) _) _
    have hB0 : Below w.heap.size w W0 := by rw [← hW0]; exact ((hbW2.alloc (by omega) _).alloc (by simp only [World.size_alloc]; omega) _).alloc (by simp only [World.size_alloc]; omega) _
    have hR0 : Kd.R k34 34 W0 w.heap.size (fun _ => True) (.slice A1 l1.length c1) l1 := by
      rw [← hW0]
      exact Kd.R_alloc (Kd.R_alloc (Kd.R_alloc (Kd.R_lower HV1.out (by simp; omega)) _) _) _
    have hBd : Lib.IsBuilderF 107 5 w.heap.size (w2.heap.size + 1) (txtOf (⟨#[]⟩ : ByteArray)) W0 :=
      .inl ⟨by omega, .slice none 0 0, hbb, World.ownsRowF_nil _ _ _ _, by simp [Value.ownBlock]⟩
    rw [hW0]
    have HS2 := Lib.hid hs2
    have HB0 := Lib.hid hB0
    clear hW0 hbb h4 hbW2 HB2 hb2 HV1
    refine (wpIn_wide (n := 9)).1 ?_
    refine wpIn_rangeFunc_runs rfl (by omega) (gf := 101) (lb := #[.pointer (some ⟨w2.heap.size + 1 + 1, 0, none⟩)]) rfl trivial (enters_of Tryz.func101 (by kernel_rfl) rfl)
      (lines_runs (w2.heap.size + 1 + 1) w.heap.size a1 w W0 rfl hB0 (by omega) hst (by have := HS.out; omega) HE.out.e) KpL.trans (kpl_b (by omega) (by omega))
      (fun A B ⟨v, h⟩ k hk => by rw [h]; exact Below.heap_setCell A _ _ _ (by simp only; omega)) (Below.refl _ _) (fun _ => rfl)
      (OutI w.heap.size w2.heap.size (w2.heap.size + 1) (w2.heap.size + 1 + 1) (w.heap.size + 1) l1 W0)
      (OutI.own (by omega) (by omega))
      (fun s A B hi ⟨v, h⟩ => by
        subst h
        obtain ⟨_, _, _, u, _, _, _, _, h5, _, h7⟩ := id hi
        exact hi.stays (StaysT.set h5 v) ⟨v, h5.set v⟩ (h7.setCell (p := ⟨w2.heap.size + 1 + 1, 0, none⟩) (by simp only; omega) _))
      ⟨l1, _, _, _, rfl, hbo, hR0, hBd, hst, h40, Below.refl _ _⟩
      (fun x => { tmps := #[.agg #[.slice A0_0 l0_0.length c0_0], .string a1, .pointer (some ⟨w.heap.size, 0, none⟩), undef, .pointer (some ⟨w.heap.size + 1, 0, none⟩), .string ⟨#[]⟩, .pointer (some ⟨w2.heap.size, 0, none⟩), .pointer (some ⟨w2.heap.size + 1, 0, none⟩), .string x, undef, undef, .agg #[.slice A0_0 l0_0.length c0_0], .agg #[.slice A1 l1.length c1], .string a1, .func (.func 101) #[] #[.pointer (some ⟨w2.heap.size + 1 + 1, 0, none⟩)], .string x, undef, undef, undef, undef, undef, undef, undef, undef, undef, undef, undef, undef], defers := [] })
      ?assign ?body ?done
    case assign =>
      intro l x W K hK
      gi_wp2
      exact hK
    case body =>
      rintro l pre x W ⟨lt, ot, v, u, i1, i2, i3, i4, i5, i6, i7⟩ ⟨rr, hrr⟩
      obtain ⟨q2, g1, g2⟩ := fold_next hrr HF.out i1
      obtain ⟨y, g3, g4, g5, g6⟩ := outStep_some g1
      obtain ⟨A2, c2, hv, hc2, hC2⟩ := Kd.R_reads i3
      subst hv
      have hc := i2.cell
      have I2 := Lib.hid i2
      have I3 := Lib.hid i3
      have I4 := Lib.hid i4
      have I5 := Lib.hid i5
      have I6 := Lib.hid i6
      have I7 := Lib.hid i7
      have G2 := Lib.hid g2
      have G3 := Lib.hid g3
      have G4 := Lib.hid g4
      have G5 := Lib.hid g5
      have G6 := Lib.hid g6
      have HC2 := Lib.hid hc2
      have HCC := Lib.hid hC2
      have HEW := Lib.hid (HE.out.below (HB0.out.trans i7))
      have HSZ := Lib.hid hsz
      have hys : (9223372036854775807 < y.size + 1) = False := eq_false (by omega)
      clear i1 i2 i3 i4 i5 i6 i7 g1 g2 g3 g4 g5 g6 hrr hc2 hC2 hsz hbo hst h40 hB0 hR0 hBd hs2
      gi_wp2_with (first
        | (refine ⟨trivial, ?_⟩; gi_at_call 45; refine (CallsIn.inRound l (callsIn_wide.2 (impl_MapTab_goesOut.calls A2 c2 lt x q2.1 y W HCC.out HC2.out G3.out HEW.out))).mono ?_; rintro e w3 ⟨v3, rfl, hv3, hb3⟩; obtain ⟨A3, c3, rfl⟩ := Kd.R_slice hv3; have HV3 := Lib.hid hv3; have HB3 := Lib.hid hb3; have hbx3 : Boxed w3 w2.heap.size 25 (.slice A2 lt.length c2) := (hb3.block _ I2.out.lt).trans I2.out; have HX3 := Lib.hid hbx3; have hc3 := hbx3.cell; have hf3 := hbx3.frozen; have hl3 := hbx3.lt; clear hv3 hb3 hbx3 hc))
      refine ⟨trivial, ?_⟩
      obtain ⟨W4, hW4⟩ : ∃ W4, (w3.setCell ⟨w2.heap.size, 0, none⟩ (.slice A3 q2.1.length c3)).alloc (.cells #[.slice A3 q2.1.length c3] 25) = W4 := ⟨_, rfl⟩
      have st1 : StaysT 25 w3 W4 := by rw [← hW4]; exact (StaysT.set HX3.out _).trans (StaysT.below (below_alloc (Below.refl _ _) _))
      have st0 : StaysT 25 W W4 := (StaysT.below HB3.out).trans st1
      have bd4 := builder_stays I4.out st0 (by decide) (by decide)
      have r4 := R_stays HV3.out st1 (by decide)
      have bo4 : Boxed W4 w2.heap.size 25 (.slice A3 q2.1.length c3) := by rw [← hW4]; exact (HX3.out.set _).alloc _
      have bs4 : Boxed W4 (w2.heap.size + 1 + 1) 9 u := st0.2 _ _ _ _ I5.out (by decide)
      have hs2 := HS2.out
      have b44 : Boxed W4 (w.heap.size + 1) 25 (.slice none 0 0) := by
        rw [← hW4]
        refine blk_alloc ?_ _
        exact (Below.heap_setCell _ _ _ _ (by simp only; omega)).trans ((HB3.out.block _ I6.out.lt).trans I6.out)
      have hWn : w.heap.size ≤ W.heap.size := Nat.le_trans HB0.out.size I7.out.size
      have be4 : Below w.heap.size W W4 := by
        rw [← hW4]
        exact ((HB3.out.mono hWn).setCell (p := ⟨w2.heap.size, 0, none⟩) (by simp only; omega) _).alloc (by have := HB3.out.size; simp; omega) _
      have ko4 : KeepsOthers W W4 := by
        rw [← hW4]
        exact ((KeepsOthers.of_grownBy (grown_of_below HB3.out none) (fun _ _ e => by cases e)).trans (KeepsOthers.setCell _ _ _)).trans (KeepsOthers.alloc _ _)
      have hbbx : ∃ c, W4.heap[w2.heap.size + 1]? = some (.cells c 107 (0, 0)) := by
        rcases bd4 with ⟨_, _, h, _⟩ | ⟨_, _, h, _⟩ <;> exact ⟨_, h⟩
      rw [hW4]
      clear hW4 hys hc3 hf3 hl3
      refine (CallsIn.inRound l (callsIn_wide.2 (writeString_k w.heap.size (w2.heap.size + 1) (txtOf ot) (y ++ (⟨#[59]⟩ : ByteArray)) W4 bd4 (by rw [txt_size, ByteArray.size_append]; have := G4.out; have := G5.out; have : (⟨#[59]⟩ : ByteArray).size = 1 := rfl; omega) (Nat.le_trans hWn st0.1)))).mono ?_
      rintro e w5 ⟨rfl, hbd5, hb5, hk5⟩
      obtain ⟨cb, hcb⟩ := hbbx
      have fin : KeepsOthers W w5 ∧ (KpL w.heap.size (w2.heap.size + 1 + 1) W w5 ∧ OutI w.heap.size w2.heap.size (w2.heap.size + 1) (w2.heap.size + 1 + 1) (w.heap.size + 1) l1 W0 (pre ++ [x]) w5) := by
        have bs5 := box_others hk5 bs4 (by omega) (by decide)
        refine ⟨ko4.trans (keeps_others hk5 hcb hb5.size), ⟨be4.trans hb5, bs5.trans I5.out.symm⟩, q2.1, q2.2, _, u, G2.out, box_others hk5 bo4 (by omega) (by decide), R_others (Kd.R_lower r4 hWn) hk5 hcb (by decide), .inr ?_, bs5, box_others hk5 b44 (by omega) (by decide), (I7.out.trans be4).trans hb5⟩
        rw [G6.out, txt_append]; exact hbd5
      have FIN := Lib.hid fin
      clear fin hbd5 hb5 hk5 hcb st1 st0 bd4 r4 bo4 bs4 b44 be4 ko4
      gi_wp2
      exact FIN.out
    case done =>
      rintro D xs W hD rfl ⟨lt, ot, v, u, i1, i2, i3, i4, i5, i6, i7⟩ hK
      have hfin := Option.some.inj (i1.symm.trans HF.out)
      simp only [Prod.mk.injEq] at hfin
      obtain ⟨rfl, rfl⟩ := hfin
      obtain ⟨A2, c2, hv, hc2, hC2⟩ := Kd.R_reads i3
      subst hv
      have HSZ := Lib.hid hsz
      have HD := Lib.hid hD
      have I2 := Lib.hid i2
      have I3 := Lib.hid i3
      have I4 := Lib.hid i4
      have I6 := Lib.hid i6
      have I7 := Lib.hid i7
      have HK := Lib.hid hK
      have c2' := i2.cell
      have HC2 := Lib.hid c2'
      clear c2' i1 i2 i3 i4 i5 i6 i7 hc2 hC2 hsz hbo hst h40 hB0 hR0 hBd hs2 hD hK
      go_wp2_with fail
      refine wp_still ?_
      refine start_ (n := 4) (S := fun w' => w'.cell? ⟨w2.heap.size, 0, none⟩ = some (.slice A2 lt.length c2)) (ds := []) #[false, false, false, false] (by kernel_rfl) rfl rfl HC2.out (fun hHeld => ?_)
      refine take_ (i := 0) (N := some 26) (v := ?_) (a' := ?_) #[true, false, false, false] rfl rfl (by kernel_rfl) (fun _ _ _ h => nomatch h.1) (Or.inl ⟨by rfl, ?_⟩) hHeld ?_ ?_
      rotate_left
      · intro w' s0
        go_simp
        with_reducible rfl
      rotate_left
      · simp only [Act.put, List.setIfInBounds_toArray, List.set_cons_zero, List.set_cons_succ, i64_w, i32_w]
        rfl
      refine one_ (i := 1) (N := some 27) #[true, true, false, false] rfl rfl (by kernel_rfl) (by decide) (fun K hK => ?_)
      refine goes_ Tryz.func97 (by kernel_rfl) rfl #[.pointer (some ⟨w2.heap.size + 1, 0, none⟩)] (by rfl) rfl rfl (by (try simp only [List.map_toArray, List.map_cons, List.map_nil]); first | done | rfl) ?_
      have hWn : w.heap.size ≤ W.heap.size := Nat.le_trans HB0.out.size I7.out.size
      have hWd : w.heap.size ≤ W.drew.heap.size := hWn
      have bd : Lib.IsBuilderF 107 5 w.heap.size (w2.heap.size + 1) (Lib.byteCells ot.data.toList) W.drew := I4.out
      have hbbx : ∃ c, W.drew.heap[w2.heap.size + 1]? = some (.cells c 107 (0, 0)) := by
        rcases bd with ⟨_, _, h, _⟩ | ⟨_, _, h, _⟩ <;> exact ⟨_, h⟩
      with_reducible refine (Tryz.Builder_String_any_k w.heap.size (w2.heap.size + 1) ot.data.toList W.drew bd hWd).mono ?_
      rintro e w5 ⟨rfl, _, hb5, hk5⟩
      obtain ⟨cb, hcb⟩ := hbbx
      refine ⟨_, rfl, ?_⟩
      have hs2 := HS2.out
      have bo5 : Boxed w5 w2.heap.size 25 (.slice A2 lt.length c2) := box_others hk5 (show Boxed W.drew _ _ _ from I2.out) (by omega) (by decide)
      have b45 : Boxed w5 (w.heap.size + 1) 25 (.slice none 0 0) := box_others hk5 (show Boxed W.drew _ _ _ from I6.out) (by omega) (by decide)
      have R5 := Lib.hid (R_others (Kd.R_drew I3.out) hk5 hcb (by decide))
      have K5 : w5.heap[D]? = some (.deferred (some [])) := (keeps_others hk5 hcb hb5.size).same D _ HK.out rfl
      have KK5 := Lib.hid K5
      have BB5 := Lib.hid ((HB0.out.trans (below_drew I7.out)).trans hb5)
      have BO5 := Lib.hid bo5
      have B45 := Lib.hid b45
      clear hb5 hk5 hcb bd bo5 b45 K5
      refine hK.out _ _ BO5.out.cell (fun hHeld => ?_)
      clear hK K
      refine norm_ (a' := ?_) ?_ ?_
      rotate_left
      · show Act.put _ (some 27) _ = _
        simp only [Act.put, List.setIfInBounds_toArray, List.set_cons_zero, List.set_cons_succ, i64_w, i32_w]
        rfl
      refine one_ (i := 2) (N := none) #[true, true, true, false] rfl rfl (by kernel_rfl) (by decide) (fun K hK => ?_)
      have q1 := B45.out.cell
      have q2 := B45.out.frozen
      have q3 := B45.out.lt
      refine skip_ (w1 := ?_) (by rfl) rfl ?_ ?_
      rotate_left
      · go_simp
        rfl
      have bo6 : Boxed (w5.setCell ⟨w.heap.size + 1, 0, none⟩ (.slice A2 lt.length c2)) w2.heap.size 25 (.slice A2 lt.length c2) := (Below.heap_setCell _ _ _ _ (by simp only; omega)).trans BO5.out
      refine hK.out _ _ bo6.cell (fun hHeld => ?_)
      clear hK K
      refine pure_ (i := 3) (N := some 5) (v := ?_) (a' := ?_) #[true, true, true, true] rfl rfl (by kernel_rfl) (fun _ _ _ h => nomatch h.1) (Or.inl ⟨by rfl, ?_⟩) ?_ ?_
      rotate_left
      · intro w'
        go_simp
        with_reducible rfl
      rotate_left
      · simp only [Act.put, List.setIfInBounds_toArray, List.set_cons_zero, List.set_cons_succ, i64_w, i32_w]
        rfl
      refine done_ (by kernel_rfl) ⟨rfl, ?_⟩
      go_wp2
      have hs7 := HSZ.out
      have hd7 := HD.out
      have k6 : (w5.setCell ⟨w.heap.size + 1, 0, none⟩ (.slice A2 lt.length c2)).heap[D]? = some (.deferred (some [])) := (Below.heap_setCell _ _ _ _ (by simp only; omega)).trans KK5.out
      have b6 : ((w5.setCell ⟨w.heap.size + 1, 0, none⟩ (.slice A2 lt.length c2)).putObj D (.deferred none)).heap[w.heap.size + 1]? = some (.cells #[.slice A2 lt.length c2] 25 (0, 0)) :=
        (World.putObj_heap_other (by omega)).trans (B45.out.set _)
      have R6 : Kd.R k34 34 ((w5.setCell ⟨w.heap.size + 1, 0, none⟩ (.slice A2 lt.length c2)).putObj D (.deferred none)) w.heap.size (fun _ => True) (.slice A2 lt.length c2) lt :=
        R_stays (R_stays R5.out (StaysT.set B45.out _) (by decide)) (q := 25) ⟨by simp [World.putObj], fun k c t f h _ => (World.putObj_heap_other (fun e => by subst e; rw [k6] at h; cases h)).trans h⟩ (by decide)
      have B6 : Below w.heap.size w ((w5.setCell ⟨w.heap.size + 1, 0, none⟩ (.slice A2 lt.length c2)).putObj D (.deferred none)) :=
        (BB5.out.setCell (p := ⟨w.heap.size + 1, 0, none⟩) (by simp) _).trans (belowK_b (w := w) (Nat.le_refl _) _ D _ _ (by omega) k6 rfl rfl)
      refine ⟨by simp, .inl ⟨_, _, rfl, run_takeDeferred k6, ?_⟩⟩
      exact ⟨_, results_ct rfl _ _ (w.heap.size + 1) 25 #[.slice A2 lt.length c2] (0, 0) _ rfl b6 Tryz.underlying25 rfl (by kernel_rfl), _, rfl, R6, B6⟩
  · rw [if_neg hs] at h; cases h
end
end Go.Proofs.YtffmbccgcaghjaaGreatDoor.P
namespace Go.Proofs.YtffmbccgcaghjaaGreatDoor.P
open Go.Proofs.YtffmbccgcaghjaaGreatDoorUFnRwrStream.PrintLast Go.Proofs.YtffmbccgcaghjaaGreatDoorUFnRwrStream.PrintMore Go.Proofs.YtffmbccgcaghjaaGreatDoorUFnRwrStream.PrintWords Go.RowKit
set_option linter.unusedVariables false
set_option linter.unusedSimpArgs false
section
attribute [local go_sem] max2_int min2_int max_two min_two max_three min_three max_four min_four
def impl_RwrStream.f (k : Nat) (l0_0 : List (S34)) (a1 : ByteArray) : Option ((List (S34)) × ByteArray) := (impl_MapOk.f k l0_0).bind fun t710 => (if t710 = true then ((impl_StrOk.f k a1).bind fun t711 => (if t711 = true then ((impl_MapTab_streamOut.f l0_0 a1).bind fun bt712 => (some (bt712.1, bt712.2))) else (some (([] : List (S34)), (⟨#[]⟩ : ByteArray))))) else (some (([] : List (S34)), (⟨#[]⟩ : ByteArray))))
theorem impl_RwrStream.mono : ∀ a0 a1 k, LeO (impl_RwrStream.f k a0 a1) (impl_RwrStream.f (k + 1) a0 a1) := by
 intro a0 a1 k
 unfold impl_RwrStream.f
 repeat' first | (with_reducible first | exact impl_MapOk.mono _ _ | exact impl_StrOk.mono _ _ | exact LeO.refl _ | exact LeO.none _ | refine LeO.ite ?_ ?_ | refine LeO.bind ?_ (fun _ => ?_)) | exact impl_MapOk.mono _ _ | exact impl_StrOk.mono _ _ | exact LeO.none _ | refine LeO.ite ?_ ?_ | refine LeO.bind ?_ (fun _ => ?_)
set_option maxHeartbeats 8000000 in
set_option maxRecDepth 100000 in
theorem impl_RwrStream.calls (k : Nat) (A0_0 : Option Addr) (c0_0 : Nat) (l0_0 : List (S34)) (a1 : ByteArray) (r1 : List (S34)) (r2 : ByteArray) (w : World) (hr0_0 : Kd.C k34 w A0_0 l0_0.length l0_0) (hc0_0 : l0_0.length ≤ c0_0) (h : impl_RwrStream.f k l0_0 a1 = some (r1, r2)) (hE : EnvE w) :
  Calls Tryz.prog 34 #[.agg #[.slice A0_0 l0_0.length c0_0], .string a1] w fun e w' => ∃ v0_ : Value, e = .returned (.tuple #[.agg #[v0_], .string r2]) ∧ Kd.R k34 34 w' w.heap.size (fun _ => True) v0_ r1 ∧ Below w.heap.size w w' := by
 have hu25 := Tryz.underlying25
 have HR0_0 := am hr0_0
 have HC0_0 := am hc0_0
 clear hr0_0 hc0_0
 have HB := am (Below.refl w.heap.size w)
 have H : ((impl_MapOk.f k l0_0).bind fun t710 => (if t710 = true then ((impl_StrOk.f k a1).bind fun t711 => (if t711 = true then ((impl_MapTab_streamOut.f l0_0 a1).bind fun bt712 => (some (bt712.1, bt712.2))) else (some (([] : List (S34)), (⟨#[]⟩ : ByteArray))))) else (some (([] : List (S34)), (⟨#[]⟩ : ByteArray))))) = some (r1, r2) := h
 clear h
 obtain ⟨t710, A3, H⟩ := bse H
 try dsimp only at H
 by_cases c4 : t710 = true
 ·subst c4
  have H1 : ((impl_StrOk.f k a1).bind fun t711 => (if t711 = true then ((impl_MapTab_streamOut.f l0_0 a1).bind fun bt712 => (some (bt712.1, bt712.2))) else (some (([] : List (S34)), (⟨#[]⟩ : ByteArray))))) = some (r1, r2) := by rw [if_pos rfl] at H; exact H
  clear H
  have H := H1
  clear H1
  obtain ⟨t711, A5, H⟩ := bse H
  try dsimp only at H
  by_cases c6 : t711 = true
  ·subst c6
   have H1 : ((impl_MapTab_streamOut.f l0_0 a1).bind fun bt712 => (some (bt712.1, bt712.2))) = some (r1, r2) := by rw [if_pos rfl] at H; exact H
   clear H
   have H := H1
   clear H1
   obtain ⟨⟨t712, t715⟩, A7, H⟩ := bse H
   try dsimp only at H
   simp only [Option.some.injEq, Prod.mk.injEq] at H
   obtain ⟨rfl, rfl⟩ := H
   go_enter Tryz.func34, Tryz.ntmps34
   go_wp2_with (first | ((with_reducible refine gate_dst (N := 2) rfl ?_); refine box_event rfl (N := 2) rfl (cs := #[.slice A0_0 l0_0.length c0_0]) (t := 25) hr_ ?_; intro gb708 hg w8 hbox hb; have BK708 := am hbox; have GW708 := gwE HB hg; have GE708 := gwE HB hg; replace HB := hbS HB hb; clear hb hbox hg) | ((with_reducible refine gate_dst (N := 4) rfl ?_); refine box_event rfl (N := 4) rfl (cs := #[.slice none 0 0]) (t := 25) hr_ ?_; intro gb709 hg w9 hbox hb; have BK709 := am hbox; have GW709 := gwE HB hg; have GE709 := gwE HB hg; replace HB := hbS HB hb; have NB708_709 := neL BK708 hg; have NB709_708 := neG BK708 hg; replace BK708 := bkB BK708 hb; clear hb hbox hg; have := NB708_709.out; have := NB709_708.out; have := bcell BK708 0; have := bfz BK708 0) | ((with_reducible refine gate_callee (f := 20) rfl ?_); refine gL (some 7) Tryz.func20 #[.agg #[.slice A0_0 l0_0.length c0_0]] ?_; (with_reducible refine (impl_MapOk.calls k _ _ l0_0 true _ ?side1 ?side2 A3.out).mono ?_); (case side1 => exact m4_); (case side2 => exact HC0_0.out); rintro e w12 ⟨rfl, hb⟩; refine ⟨_, rfl, ?_⟩; replace BK708 := bkB BK708 hb; replace BK709 := bkB BK709 hb; replace HB := hbS HB hb; (try clear hb)) | (go_at_call 68; (with_reducible refine (impl_StrOk.calls k a1 true _ A5.out (Env.below hE.e (bl HB))).mono ?_); rintro e w13 ⟨rfl, hb⟩; replace BK708 := bkB BK708 hb; replace BK709 := bkB BK709 hb; replace HB := hbS HB hb; (try clear hb); have := bcell BK708 0; have := bfz BK708 0) | ((with_reducible refine gate_callee (f := 69) rfl ?_); refine gL (some 17) Tryz.func69 #[.agg #[.slice A0_0 l0_0.length c0_0], .string a1] ?_; (with_reducible refine (impl_MapTab_streamOut.calls _ _ l0_0 a1 t712 t715 _ ?side1 ?side2 A7.out (EnvE.below hE (bl HB))).mono ?_); (case side1 => exact m4_); (case side2 => exact HC0_0.out); rintro e w15 ⟨v713, rfl, ho0, hb⟩; refine ⟨_, rfl, ?_⟩; have HO714 := am (Kd.R_lower ho0 (below_size (bl HB))); replace BK708 := bkB BK708 hb; replace BK709 := bkB BK709 hb; replace HB := hbS HB hb; (try clear hb); (try clear ho0); obtain ⟨Ao16, co16, eo16⟩ := Kd.R_slice HO714.out; subst eo16; have := bcell BK709 0; have := bfz BK709 0))
   refine bodyPost_ret (results_ct rfl _ _ gb709 25 #[.slice Ao16 t712.length co16] (0, 0) _ rfl (by (with_reducible repeat refine bu ?_); refine blk_put (cs := #[.slice none 0 0]) ?_ 0 _ rfl; (with_reducible repeat refine bu ?_); exact BK709.out) Tryz.underlying25 rfl (by kernel_rfl)) rfl ?_
   exact ⟨_, fi_, by (with_reducible repeat apply ru); exact Kd.R_mono (Kd.R_far (p := ⟨gb709, 0, none⟩) (Kd.R_types HO714.out BK709.out (by decide)) (fun _ hk => hk.2) (.slice Ao16 t712.length co16)) (fun _ hk => trivial), m2_⟩
  ·replace c6 := Bool.eq_false_iff.mpr c6
   subst c6
   have H1 : (some (([] : List (S34)), (⟨#[]⟩ : ByteArray))) = some (r1, r2) := by rw [if_neg (show ¬ (false = true) by decide)] at H; exact H
   clear H
   have H := H1
   clear H1
   simp only [Option.some.injEq, Prod.mk.injEq] at H
   obtain ⟨rfl, rfl⟩ := H
   go_enter Tryz.func34, Tryz.ntmps34
   go_wp2_with (first | ((with_reducible refine gate_dst (N := 2) rfl ?_); refine box_event rfl (N := 2) rfl (cs := #[.slice A0_0 l0_0.length c0_0]) (t := 25) hr_ ?_; intro gb708 hg w18 hbox hb; have BK708 := am hbox; have GW708 := gwE HB hg; have GE708 := gwE HB hg; replace HB := hbS HB hb; clear hb hbox hg) | ((with_reducible refine gate_dst (N := 4) rfl ?_); refine box_event rfl (N := 4) rfl (cs := #[.slice none 0 0]) (t := 25) hr_ ?_; intro gb709 hg w19 hbox hb; have BK709 := am hbox; have GW709 := gwE HB hg; have GE709 := gwE HB hg; replace HB := hbS HB hb; have NB708_709 := neL BK708 hg; have NB709_708 := neG BK708 hg; replace BK708 := bkB BK708 hb; clear hb hbox hg; have := NB708_709.out; have := NB709_708.out; have := bcell BK708 0; have := bfz BK708 0) | ((with_reducible refine gate_callee (f := 20) rfl ?_); refine gL (some 7) Tryz.func20 #[.agg #[.slice A0_0 l0_0.length c0_0]] ?_; (with_reducible refine (impl_MapOk.calls k _ _ l0_0 true _ ?side1 ?side2 A3.out).mono ?_); (case side1 => exact m4_); (case side2 => exact HC0_0.out); rintro e w22 ⟨rfl, hb⟩; refine ⟨_, rfl, ?_⟩; replace BK708 := bkB BK708 hb; replace BK709 := bkB BK709 hb; replace HB := hbS HB hb; (try clear hb)) | (go_at_call 68; (with_reducible refine (impl_StrOk.calls k a1 false _ A5.out (Env.below hE.e (bl HB))).mono ?_); rintro e w23 ⟨rfl, hb⟩; replace BK708 := bkB BK708 hb; replace BK709 := bkB BK709 hb; replace HB := hbS HB hb; (try clear hb); have := bcell BK709 0; have := bfz BK709 0))
   refine bodyPost_ret (results_ct rfl _ _ gb709 25 #[.slice none 0 0] (0, 0) _ rfl (by (with_reducible repeat refine bu ?_); refine blk_put (cs := #[.slice none 0 0]) ?_ 0 _ rfl; (with_reducible repeat refine bu ?_); exact BK709.out) Tryz.underlying25 rfl (by kernel_rfl)) rfl ?_
   exact ⟨_, fi_, by first | exact Kd.R_nil _ _ _ _ _ | exact Kd.N_nil _ _ _ _ _ | exact Kd.V_nil _ _ _ _ _ | exact Kd.Q_nil _ _ _ _ _ | exact Kd.S_nil _ _ _ _ _, m2_⟩
 ·replace c4 := Bool.eq_false_iff.mpr c4
  subst c4
  have H1 : (some (([] : List (S34)), (⟨#[]⟩ : ByteArray))) = some (r1, r2) := by rw [if_neg (show ¬ (false = true) by decide)] at H; exact H
  clear H
  have H := H1
  clear H1
  simp only [Option.some.injEq, Prod.mk.injEq] at H
  obtain ⟨rfl, rfl⟩ := H
  go_enter Tryz.func34, Tryz.ntmps34
  go_wp2_with (first | ((with_reducible refine gate_dst (N := 2) rfl ?_); refine box_event rfl (N := 2) rfl (cs := #[.slice A0_0 l0_0.length c0_0]) (t := 25) hr_ ?_; intro gb708 hg w25 hbox hb; have BK708 := am hbox; have GW708 := gwE HB hg; have GE708 := gwE HB hg; replace HB := hbS HB hb; clear hb hbox hg) | ((with_reducible refine gate_dst (N := 4) rfl ?_); refine box_event rfl (N := 4) rfl (cs := #[.slice none 0 0]) (t := 25) hr_ ?_; intro gb709 hg w26 hbox hb; have BK709 := am hbox; have GW709 := gwE HB hg; have GE709 := gwE HB hg; replace HB := hbS HB hb; have NB708_709 := neL BK708 hg; have NB709_708 := neG BK708 hg; replace BK708 := bkB BK708 hb; clear hb hbox hg; have := NB708_709.out; have := NB709_708.out; have := bcell BK708 0; have := bfz BK708 0) | ((with_reducible refine gate_callee (f := 20) rfl ?_); refine gL (some 7) Tryz.func20 #[.agg #[.slice A0_0 l0_0.length c0_0]] ?_; (with_reducible refine (impl_MapOk.calls k _ _ l0_0 false _ ?side1 ?side2 A3.out).mono ?_); (case side1 => exact m4_); (case side2 => exact HC0_0.out); rintro e w29 ⟨rfl, hb⟩; refine ⟨_, rfl, ?_⟩; replace BK708 := bkB BK708 hb; replace BK709 := bkB BK709 hb; replace HB := hbS HB hb; (try clear hb); have := bcell BK709 0; have := bfz BK709 0))
  refine bodyPost_ret (results_ct rfl _ _ gb709 25 #[.slice none 0 0] (0, 0) _ rfl (by (with_reducible repeat refine bu ?_); refine blk_put (cs := #[.slice none 0 0]) ?_ 0 _ rfl; (with_reducible repeat refine bu ?_); exact BK709.out) Tryz.underlying25 rfl (by kernel_rfl)) rfl ?_
  exact ⟨_, fi_, by first | exact Kd.R_nil _ _ _ _ _ | exact Kd.N_nil _ _ _ _ _ | exact Kd.V_nil _ _ _ _ _ | exact Kd.Q_nil _ _ _ _ _ | exact Kd.S_nil _ _ _ _ _, m2_⟩
def spec_l1Words.l0 : Nat → ByteArray → List ByteArray → ByteArray → Int → Option (List ByteArray)
 | 0, _, _, _, _ => none
 | k + 1, x0, x3, x4, x5 => if x5 < (x0.size : Int) then (if 0 ≤ x5 then (if (bt x0 x5) = 32 then (if x3.length < 8796093022208 then (spec_l1Words.l0 k x0 (x3 ++ [x4]) (⟨#[]⟩ : ByteArray) (wrap64 (x5 + 1))) else (none)) else (if x5 ≤ (wrap64 (x5 + 1)) then (if (wrap64 (x5 + 1)) ≤ (x0.size : Int) then (if x4.size + (x0.extract (x5 : Int).toNat ((wrap64 (x5 + 1)) : Int).toNat).size ≤ 9223372036854775807 then (spec_l1Words.l0 k x0 x3 (x4 ++ (x0.extract (x5 : Int).toNat ((wrap64 (x5 + 1)) : Int).toNat)) (wrap64 (x5 + 1))) else (none)) else (none)) else (none))) else (none)) else (if x3.length < 8796093022208 then (some (x3 ++ [x4])) else (none))
def spec_l1Words.f (k : Nat) (a0 : ByteArray) : Option (List ByteArray) := spec_l1Words.l0 k a0 (([] : List ByteArray)) (⟨#[]⟩ : ByteArray) 0
theorem spec_l1Words.mono_l : ∀ k, (∀ y0 y1 y2 y3, LeO (spec_l1Words.l0 k y0 y1 y2 y3) (spec_l1Words.l0 (k + 1) y0 y1 y2 y3))
 | 0 => fun _ _ _ _ r h => by simp [spec_l1Words.l0] at h
 | k + 1 => by
  have ih0 := spec_l1Words.mono_l k
  ·intro y0 y1 y2 y3
   unfold spec_l1Words.l0
   repeat' first | (with_reducible first | exact ih0 _ _ _ _ | exact LeO.refl _ | exact LeO.none _ | refine LeO.ite ?_ ?_ | refine LeO.bind ?_ (fun _ => ?_)) | exact ih0 _ _ _ _ | exact LeO.none _ | refine LeO.ite ?_ ?_ | refine LeO.bind ?_ (fun _ => ?_)
theorem spec_l1Words.mono : ∀ a0 k, LeO (spec_l1Words.f k a0) (spec_l1Words.f (k + 1) a0) := by
 intro a0 k
 have ih0 := spec_l1Words.mono_l k
 unfold spec_l1Words.f
 repeat' first | (with_reducible first | exact ih0 _ _ _ _ | exact LeO.refl _ | exact LeO.none _ | refine LeO.ite ?_ ?_ | refine LeO.bind ?_ (fun _ => ?_)) | exact ih0 _ _ _ _ | exact LeO.none _ | refine LeO.ite ?_ ?_ | refine LeO.bind ?_ (fun _ => ?_)
set_option maxHeartbeats 8000000 in
set_option maxRecDepth 100000 in
theorem spec_l1Words.calls (k : Nat) (a0 : ByteArray) (r : List ByteArray) (w : World) (h : spec_l1Words.f k a0 = some r) :
  Calls Tryz.prog 119 #[.string a0] w fun e w' => ∃ v0_ : Value, e = .returned (v0_) ∧ Kd.R Kd.string 9 w' w.heap.size (fun _ => True) v0_ r ∧ Below w.heap.size w w' := by
 have HB := am (Below.refl w.heap.size w)
 have H : (spec_l1Words.l0 k a0 (([] : List ByteArray)) (⟨#[]⟩ : ByteArray) 0) = some r := h
 clear h
 obtain ⟨y408, hy408⟩ : ∃ y_ : List ByteArray, y_ = (([] : List ByteArray)) := ⟨_, rfl⟩
 replace H : (spec_l1Words.l0 k a0 y408 (⟨#[]⟩ : ByteArray) 0) = some r := by first | (rw [hy408]; with_reducible exact H) | (have H2_ := (Option.bind_some _ _).symm.trans H; rw [hy408]; with_reducible exact H2_) | (have H2_ := (Option.bind_some _ _).symm.trans H; with_reducible exact H2_) | with_reducible exact H | (rw [hy408]; exact H) | exact H
 have Ny408 := am hy408
 clear hy408
 have H' := am H
 clear H
 go_enter Tryz.func119, Tryz.ntmps119
 go_wp2_with (first | ((with_reducible refine gate_dst (N := 6) rfl ?_); refine Kd.R_lit Kd.string _ 9 rfl (N := 6) rfl (xs := ([] : List ByteArray)) (inner := []) (ok := fun _ => True) (okp := fun _ => True) hr_ ?hp (fun _ hk => hk) trivial (Below.refl _ _) (Nat.le_refl _) (by simp) ?_; (case hp => exact (Reps.none _ _)); intro v409 w2 ho3 hb hg_ hnew_; clear hg_ hnew_; (first | rw [← Ny408.out] at ho3 | (simp only [Int.reduceToNat] at ho3; rw [← Ny408.out] at ho3)); have HO410 := am (Kd.R_lower ho3 (below_size (bl HB))); replace HB := hbS HB hb; clear hb ho3))
 go_loopg [3, 4, 5] k (fun kq v3 v4 v5 w' => ∃ (x3_1 : List ByteArray) (x4_1 : ByteArray) (x5_1 : Int), v4 = .string x4_1 ∧ v5 = .int .i64 x5_1 ∧ Aside0 (spec_l1Words.l0 kq a0 x3_1 x4_1 x5_1 = some r) ∧ Aside0 (kq ≤ k) ∧ Aside0 (Kd.R Kd.string 9 w' w.heap.size (fun _ => True) v3 x3_1) ∧ Aside0 (Below w.heap.size w w'))
 case atStart => exact ⟨(y408), ((⟨#[]⟩ : ByteArray)), (0), rs_, rs_, H', ⟨Nat.le_refl _⟩, ⟨by (with_reducible repeat apply ru); exact HO410.out⟩, ⟨m0_⟩⟩
 case round =>
  clear H'
  try clear c1
  try clear p2
  obtain ⟨x3_1, x4_1, x5_1, rfl, rfl, HA, HK1, HO_3, HB⟩ := hrel
  cases gk with
  | zero => exact absurd HA.out (by simp [spec_l1Words.l0])
  | succ k1 =>
   have H := HA.out
   clear HA
   simp only [spec_l1Words.l0] at H
   by_cases c4 : x5_1 < (a0.size : Int)
   ·rw [if_pos c4] at H
    have c4b0 : decide (x5_1 < (a0.size : Int)) = true := decide_eq_true c4
    clear c4
    by_cases c5 : 0 ≤ x5_1
    ·rw [if_pos c5] at H
     have c5b0 : decide (0 ≤ x5_1) = true := decide_eq_true c5
     clear c5
     by_cases c7 : (bt a0 x5_1) = 32
     ·rw [if_pos c7] at H
      have c7b0 : ((bt a0 x5_1) == 32) = true := beq_iff_eq.mpr c7
      have c7b1 : ((bt a0 x5_1) != 32) = false := bne_eq_false_iff_eq.mpr c7
      clear c7
      by_cases c8 : x3_1.length < 8796093022208
      ·rw [if_pos c8] at H
       have LMc8 := am c8
       clear c8
       obtain ⟨y411, hy411⟩ : ∃ y_ : List ByteArray, y_ = (x3_1 ++ [x4_1]) := ⟨_, rfl⟩
       replace H : (spec_l1Words.l0 k1 a0 y411 (⟨#[]⟩ : ByteArray) (wrap64 (x5_1 + 1))) = some r := by first | (rw [hy411]; with_reducible exact H) | (have H2_ := (Option.bind_some _ _).symm.trans H; rw [hy411]; with_reducible exact H2_) | (have H2_ := (Option.bind_some _ _).symm.trans H; with_reducible exact H2_) | with_reducible exact H | (rw [hy411]; exact H) | exact H
       have Ny411 := am hy411
       clear hy411
       have H' := am H
       clear H
       have p6 : 0 ≤ (x5_1 : Int) := of_decide_eq_true da_
       have q6 : x5_1 < (a0.size : Int) := of_decide_eq_true da_
       have hx6 := bt_at a0 x5_1
       replace p6 := eq_true p6
       replace q6 := eq_true q6
       go_wp2_with (first | ((with_reducible refine gate_builtin (b := .append) (xs := #[.tmp 17, .tmp 19]) rfl ?_); at_builtin; refine Kd.R_append Kd.string (w0 := w) w.heap.size rfl (.tmp 17) (.tmp 19) 51 9 (.string ⟨#[]⟩) 16 rfl Tryz.underlying51 info9 rfl (by decide) (by omega) u3 x3_1 x4_1 [.string x4_1] (fun _ => True) (fun _ => False) rfl rfl ?aP (fun _ hk => hk.elim) ?aF ?aO ?aB ?aS ?aL ?_; (case aP => exact rfl); (case aB => exact (bl HB)); (case aF => exact (fun _ _ => trivial)); (case aO => exact (rs HO_3)); (case aS => exact (below_size (bl HB))); (case aL => have := LMc8.out; omega); intro v412 w9 ho hb hg hat; rw [← Ny411.out] at ho; replace HB := am hb; have HO413 := am (ho); clear HO_3; clear ho hb hg hat))
       go_roundg k1
       case measure => have := HK1.out; omega
       case rel => exact ⟨(y411), ((⟨#[]⟩ : ByteArray)), (wrap64 (x5_1 + 1)), rs_, rs_, H', ⟨by have := HK1.out; omega⟩, ⟨by (with_reducible repeat apply ru); exact HO413.out⟩, ⟨m0_⟩⟩
      ·rw [if_neg c8] at H
       exact absurd H (by simp)
     ·rw [if_neg c7] at H
      have c7b0 : ((bt a0 x5_1) == 32) = false := beq_eq_false_iff_ne.mpr c7
      have c7b1 : ((bt a0 x5_1) != 32) = true := bne_iff_ne.mpr c7
      have c10b0 := eq_true (of_decide_eq_true da_ : 0 ≤ x5_1)
      by_cases c11 : x5_1 ≤ (wrap64 (x5_1 + 1))
      ·rw [if_pos c11] at H
       have c11b0 := eq_true c11
       have c11b1 : decide (x5_1 ≤ (wrap64 (x5_1 + 1))) = true := decide_eq_true c11
       by_cases c12 : (wrap64 (x5_1 + 1)) ≤ (a0.size : Int)
       ·rw [if_pos c12] at H
        have c12b0 := eq_true c12
        have c12b1 : decide ((wrap64 (x5_1 + 1)) ≤ (a0.size : Int)) = true := decide_eq_true c12
        by_cases c13 : x4_1.size + (a0.extract (x5_1 : Int).toNat ((wrap64 (x5_1 + 1)) : Int).toNat).size ≤ 9223372036854775807
        ·rw [if_pos c13] at H
         have c13b0 := eq_true c13
         have c13b1 : decide (x4_1.size + (a0.extract (x5_1 : Int).toNat ((wrap64 (x5_1 + 1)) : Int).toNat).size ≤ 9223372036854775807) = true := decide_eq_true c13
         try have c13b2 : (9223372036854775807 < x4_1.size + (a0.extract (x5_1 : Int).toNat ((wrap64 (x5_1 + 1)) : Int).toNat).size) = False := eq_false (Nat.not_lt.2 c13)
         have H' := am H
         clear H
         have p6 : 0 ≤ (x5_1 : Int) := of_decide_eq_true da_
         have q6 : x5_1 < (a0.size : Int) := of_decide_eq_true da_
         have hx6 := bt_at a0 x5_1
         replace p6 := eq_true p6
         replace q6 := eq_true q6
         go_wp2
         go_roundg k1
         case measure => have := HK1.out; omega
         case rel => exact ⟨(x3_1), (x4_1 ++ (a0.extract (x5_1 : Int).toNat ((wrap64 (x5_1 + 1)) : Int).toNat)), (wrap64 (x5_1 + 1)), rs_, rs_, H', ⟨by have := HK1.out; omega⟩, ⟨by (with_reducible repeat apply ru); exact HO_3.out⟩, ⟨m0_⟩⟩
        ·rw [if_neg c13] at H
         exact absurd H (by simp)
       ·rw [if_neg c12] at H
        exact absurd H (by simp)
      ·rw [if_neg c11] at H
       exact absurd H (by simp)
    ·rw [if_neg c5] at H
     exact absurd H (by simp)
   ·rw [if_neg c4] at H
    have c4b0 : decide (x5_1 < (a0.size : Int)) = false := decide_eq_false c4
    clear c4
    by_cases c14 : x3_1.length < 8796093022208
    ·rw [if_pos c14] at H
     have LMc14 := am c14
     clear c14
     obtain ⟨y414, hy414⟩ : ∃ y_ : List ByteArray, y_ = (x3_1 ++ [x4_1]) := ⟨_, rfl⟩
     replace H : (some y414) = some r := by first | (rw [hy414]; with_reducible exact H) | (have H2_ := (Option.bind_some _ _).symm.trans H; rw [hy414]; with_reducible exact H2_) | (have H2_ := (Option.bind_some _ _).symm.trans H; with_reducible exact H2_) | with_reducible exact H | (rw [hy414]; exact H) | exact H
     have Ny414 := am hy414
     clear hy414
     obtain rfl := Option.some.inj H
     go_wp2_with (first | ((with_reducible refine gate_builtin (b := .append) (xs := #[.tmp 28, .tmp 30]) rfl ?_); at_builtin; refine Kd.R_append Kd.string (w0 := w) w.heap.size rfl (.tmp 28) (.tmp 30) 51 9 (.string ⟨#[]⟩) 16 rfl Tryz.underlying51 info9 rfl (by decide) (by omega) u3 x3_1 x4_1 [.string x4_1] (fun _ => True) (fun _ => False) rfl rfl ?aP (fun _ hk => hk.elim) ?aF ?aO ?aB ?aS ?aL ?_; (case aP => exact rfl); (case aB => exact (bl HB)); (case aF => exact (fun _ _ => trivial)); (case aO => exact (rs HO_3)); (case aS => exact (below_size (bl HB))); (case aL => have := LMc14.out; omega); intro v415 w15 ho hb hg hat; rw [← Ny414.out] at ho; replace HB := am hb; have HO416 := am (ho); clear HO_3; clear ho hb hg hat))
     go_ret
     exact ⟨_, fi_, by (with_reducible repeat apply ru); exact HO416.out, m0_⟩
    ·rw [if_neg c14] at H
     exact absurd H (by simp)
mutual
def spec_l1Num.j0 : Nat → ByteArray → Bool → Option (Int)
 | 0, _, _ => none
 | k + 1, x0, x12 => if x12 = true then (some (-1)) else (spec_l1Num.l0 k x0 0 0)
def spec_l1Num.l0 : Nat → ByteArray → Int → Int → Option (Int)
 | 0, _, _, _ => none
 | k + 1, x0, x3, x4 => if x4 < (x0.size : Int) then (if 0 ≤ x4 then (if (bt x0 x4) < 48 then (some (-1)) else (if (bt x0 x4) > 57 then (some (-1)) else (spec_l1Num.l0 k x0 (wrap64 ((wrap64 (x3 * 10)) + (((bt x0 x4) - 48) % 256))) (wrap64 (x4 + 1))))) else (none)) else ((spec_l1Plain.f k x3).bind fun t417 => (if t417.toList = x0.toList then (some x3) else (some (-1))))
end
def spec_l1Num.f (k : Nat) (a0 : ByteArray) : Option (Int) := if (a0.size : Int) = 0 then (spec_l1Num.j0 k a0 true) else (spec_l1Num.j0 k a0 (decide ((a0.size : Int) > 4)))
theorem spec_l1Num.mono_l : ∀ k, (∀ y0 y1, LeO (spec_l1Num.j0 k y0 y1) (spec_l1Num.j0 (k + 1) y0 y1)) ∧ (∀ y0 y1 y2, LeO (spec_l1Num.l0 k y0 y1 y2) (spec_l1Num.l0 (k + 1) y0 y1 y2))
 | 0 => ⟨fun _ _ r h => by simp [spec_l1Num.j0] at h, fun _ _ _ r h => by simp [spec_l1Num.l0] at h⟩
 | k + 1 => by
  obtain ⟨ih0, ih1⟩ := spec_l1Num.mono_l k
  refine ⟨?_, ?_⟩
  ·intro y0 y1
   unfold spec_l1Num.j0
   repeat' first | (with_reducible first | exact ih0 _ _ | exact ih1 _ _ _ | exact spec_l1Plain.mono _ _ | exact LeO.refl _ | exact LeO.none _ | refine LeO.ite ?_ ?_ | refine LeO.bind ?_ (fun _ => ?_)) | exact ih0 _ _ | exact ih1 _ _ _ | exact spec_l1Plain.mono _ _ | exact LeO.none _ | refine LeO.ite ?_ ?_ | refine LeO.bind ?_ (fun _ => ?_)
  ·intro y0 y1 y2
   unfold spec_l1Num.l0
   repeat' first | (with_reducible first | exact ih0 _ _ | exact ih1 _ _ _ | exact spec_l1Plain.mono _ _ | exact LeO.refl _ | exact LeO.none _ | refine LeO.ite ?_ ?_ | refine LeO.bind ?_ (fun _ => ?_)) | exact ih0 _ _ | exact ih1 _ _ _ | exact spec_l1Plain.mono _ _ | exact LeO.none _ | refine LeO.ite ?_ ?_ | refine LeO.bind ?_ (fun _ => ?_)
theorem spec_l1Num.mono : ∀ a0 k, LeO (spec_l1Num.f k a0) (spec_l1Num.f (k + 1) a0) := by
 intro a0 k
 obtain ⟨ih0, ih1⟩ := spec_l1Num.mono_l k
 unfold spec_l1Num.f
 repeat' first | (with_reducible first | exact ih0 _ _ | exact ih1 _ _ _ | exact spec_l1Plain.mono _ _ | exact LeO.refl _ | exact LeO.none _ | refine LeO.ite ?_ ?_ | refine LeO.bind ?_ (fun _ => ?_)) | exact ih0 _ _ | exact ih1 _ _ _ | exact spec_l1Plain.mono _ _ | exact LeO.none _ | refine LeO.ite ?_ ?_ | refine LeO.bind ?_ (fun _ => ?_)
set_option maxHeartbeats 8000000 in
set_option maxRecDepth 100000 in
theorem spec_l1Num.calls (k : Nat) (a0 : ByteArray) (r : Int) (w : World) (h : spec_l1Num.f k a0 = some r) :
  Calls Tryz.prog 120 #[.string a0] w fun e w' => e = .returned (.int .i64 r) ∧ Below w.heap.size w w' := by
 have HB := am (Below.refl w.heap.size w)
 have H : (if (a0.size : Int) = 0 then (spec_l1Num.j0 k a0 true) else (spec_l1Num.j0 k a0 (decide ((a0.size : Int) > 4)))) = some r := h
 clear h
 have HC2 := am H
 clear H
 go_enter Tryz.func120, Tryz.ntmps120
 go_upto_region 1 with (fail)
 go_cut [12] (fun v12 wc => ∃ (kq : Nat) (x12_1 : Bool), v12 = .bool x12_1 ∧ Aside0 (spec_l1Num.j0 kq a0 x12_1 = some r) ∧ Aside0 (kq ≤ k) ∧ Aside0 (Below w.heap.size w wc))
 case first =>
  have H := HC2.out
  clear HC2
  by_cases c3 : (a0.size : Int) = 0
  ·rw [if_pos c3] at H
   have c3b0 : ((a0.size : Int) == 0) = true := beq_iff_eq.mpr c3
   have c3b1 : ((a0.size : Int) != 0) = false := bne_eq_false_iff_eq.mpr c3
   clear c3
   (first | rw [c3b0] | (simp only [i64_w, i32_w]; rw [c3b0]) | skip)
   have H' := am H
   clear H
   go_wp2
   go_meet
   case rel => exact ⟨_, (true), rs_, H', ⟨by first | omega | exact Nat.le_refl _⟩, ⟨m0_⟩⟩
  ·rw [if_neg c3] at H
   have c3b0 : ((a0.size : Int) == 0) = false := beq_eq_false_iff_ne.mpr c3
   have c3b1 : ((a0.size : Int) != 0) = true := bne_iff_ne.mpr c3
   (first | rw [c3b0] | (simp only [i64_w, i32_w]; rw [c3b0]) | skip)
   have H' := am H
   clear H
   go_wp2
   go_meet
   case rel => exact ⟨_, (decide ((a0.size : Int) > 4)), rs_, H', ⟨by first | omega | exact Nat.le_refl _⟩, ⟨m0_⟩⟩
 case rest =>
  clear HC2
  try clear c1
  try clear p2
  try clear c3
  try clear c3b0
  try clear c3b1
  obtain ⟨kq, x12_1, rfl, HA, HJ1, HB⟩ := hcut
  cases kq with
  | zero => exact absurd HA.out (by simp [spec_l1Num.j0])
  | succ kj1 =>
   have H := HA.out
   clear HA
   simp only [spec_l1Num.j0] at H
   by_cases c4 : x12_1 = true
   ·subst c4
    have H1 : (some (-1)) = some r := by rw [if_pos rfl] at H; exact H
    clear H
    have H := H1
    clear H1
    obtain rfl := Option.some.inj H
    go_wp2
    go_ret
    exact ⟨fi_, m0_⟩
   ·replace c4 := Bool.eq_false_iff.mpr c4
    subst c4
    have H1 : (spec_l1Num.l0 kj1 a0 0 0) = some r := by rw [if_neg (show ¬ (false = true) by decide)] at H; exact H
    clear H
    have H := H1
    clear H1
    have H' := am H
    clear H
    go_wp2
    go_loopg [3, 4] kj1 (fun kq v3 v4 w' => ∃ (x3_2 : Int) (x4_2 : Int), v3 = .int .i64 x3_2 ∧ v4 = .int .i64 x4_2 ∧ Aside0 (spec_l1Num.l0 kq a0 x3_2 x4_2 = some r) ∧ Aside0 (kq ≤ kj1) ∧ Aside0 (Below w.heap.size w w'))
    case atStart => exact ⟨(0), (0), rs_, rs_, H', ⟨Nat.le_refl _⟩, ⟨m0_⟩⟩
    case round =>
     clear H'
     try clear c1
     try clear p2
     try clear c3
     try clear c3b0
     try clear c3b1
     try clear c4
     try clear p2
     obtain ⟨x3_2, x4_2, rfl, rfl, HA, HK2, HB⟩ := hrel
     cases gk with
     | zero => exact absurd HA.out (by simp [spec_l1Num.l0])
     | succ k2 =>
      have H := HA.out
      clear HA
      simp only [spec_l1Num.l0] at H
      by_cases c5 : x4_2 < (a0.size : Int)
      ·rw [if_pos c5] at H
       have c5b0 : decide (x4_2 < (a0.size : Int)) = true := decide_eq_true c5
       clear c5
       by_cases c6 : 0 ≤ x4_2
       ·rw [if_pos c6] at H
        have c6b0 : decide (0 ≤ x4_2) = true := decide_eq_true c6
        clear c6
        by_cases c8 : (bt a0 x4_2) < 48
        ·rw [if_pos c8] at H
         have c8b0 : decide ((bt a0 x4_2) < 48) = true := decide_eq_true c8
         clear c8
         obtain rfl := Option.some.inj H
         have p7 : 0 ≤ (x4_2 : Int) := of_decide_eq_true da_
         have q7 : x4_2 < (a0.size : Int) := of_decide_eq_true da_
         have hx7 := bt_at a0 x4_2
         replace p7 := eq_true p7
         replace q7 := eq_true q7
         go_wp2
         go_ret
         exact ⟨fi_, m0_⟩
        ·rw [if_neg c8] at H
         have c8b0 : decide ((bt a0 x4_2) < 48) = false := decide_eq_false c8
         clear c8
         by_cases c10 : (bt a0 x4_2) > 57
         ·rw [if_pos c10] at H
          have c10b0 : decide (57 < (bt a0 x4_2)) = true := decide_eq_true c10
          clear c10
          obtain rfl := Option.some.inj H
          have p7 : 0 ≤ (x4_2 : Int) := of_decide_eq_true da_
          have q7 : x4_2 < (a0.size : Int) := of_decide_eq_true da_
          have hx7 := bt_at a0 x4_2
          replace p7 := eq_true p7
          replace q7 := eq_true q7
          have p9 : 0 ≤ (x4_2 : Int) := of_decide_eq_true da_
          have q9 : x4_2 < (a0.size : Int) := of_decide_eq_true da_
          have hx9 := bt_at a0 x4_2
          replace p9 := eq_true p9
          replace q9 := eq_true q9
          go_wp2
          go_ret
          exact ⟨fi_, m0_⟩
         ·rw [if_neg c10] at H
          have c10b0 : decide (57 < (bt a0 x4_2)) = false := decide_eq_false c10
          clear c10
          have H' := am H
          clear H
          have p7 : 0 ≤ (x4_2 : Int) := of_decide_eq_true da_
          have q7 : x4_2 < (a0.size : Int) := of_decide_eq_true da_
          have hx7 := bt_at a0 x4_2
          replace p7 := eq_true p7
          replace q7 := eq_true q7
          have p9 : 0 ≤ (x4_2 : Int) := of_decide_eq_true da_
          have q9 : x4_2 < (a0.size : Int) := of_decide_eq_true da_
          have hx9 := bt_at a0 x4_2
          replace p9 := eq_true p9
          replace q9 := eq_true q9
          have p11 : 0 ≤ (x4_2 : Int) := of_decide_eq_true da_
          have q11 : x4_2 < (a0.size : Int) := of_decide_eq_true da_
          have hx11 := bt_at a0 x4_2
          replace p11 := eq_true p11
          replace q11 := eq_true q11
          go_wp2
          go_roundg k2
          case measure => have := HJ1.out; have := HK2.out; omega
          case rel => exact ⟨(wrap64 ((wrap64 (x3_2 * 10)) + (((bt a0 x4_2) - 48) % 256))), (wrap64 (x4_2 + 1)), rs_, rs_, H', ⟨by have := HJ1.out; have := HK2.out; omega⟩, ⟨m0_⟩⟩
       ·rw [if_neg c6] at H
        exact absurd H (by simp)
      ·rw [if_neg c5] at H
       have c5b0 : decide (x4_2 < (a0.size : Int)) = false := decide_eq_false c5
       clear c5
       obtain ⟨t417, A12, H⟩ := bse H
       try dsimp only at H
       by_cases c13 : t417.toList = a0.toList
       ·rw [if_pos c13] at H
        have c13b0 : (t417.toList == a0.toList) = true := beq_iff_eq.mpr c13
        have c13b1 : (t417.toList != a0.toList) = false := bne_eq_false_iff_eq.mpr c13
        clear c13
        obtain rfl := Option.some.inj H
        go_wp2_with (first | ((with_reducible refine gate_callee (f := 114) rfl ?_); refine gL (some 38) Tryz.func114 #[.int .i64 x3_2] ?_; (with_reducible refine (spec_l1Plain.calls k2 x3_2 t417 _ A12.out).mono ?_); rintro e w14 ⟨rfl, hb⟩; refine ⟨_, rfl, ?_⟩; replace HB := hbS HB hb; (try clear hb)))
        go_ret
        exact ⟨fi_, m0_⟩
       ·rw [if_neg c13] at H
        have c13b0 : (t417.toList == a0.toList) = false := beq_eq_false_iff_ne.mpr c13
        have c13b1 : (t417.toList != a0.toList) = true := bne_iff_ne.mpr c13
        obtain rfl := Option.some.inj H
        go_wp2_with (first | ((with_reducible refine gate_callee (f := 114) rfl ?_); refine gL (some 38) Tryz.func114 #[.int .i64 x3_2] ?_; (with_reducible refine (spec_l1Plain.calls k2 x3_2 t417 _ A12.out).mono ?_); rintro e w15 ⟨rfl, hb⟩; refine ⟨_, rfl, ?_⟩; replace HB := hbS HB hb; (try clear hb)))
        go_ret
        exact ⟨fi_, m0_⟩
def spec_EndRead.f (k : Nat) (a0 : ByteArray) : Option (Int × Int × Bool) := (spec_l1Words.f k a0).bind fun t419 => (if (t419.length : Int) = 2 then (if 0 < (t419.length : Int) then ((spec_l1Num.f k (rdOf ByteArray.empty t419 0)).bind fun t423 => (if 1 < (t419.length : Int) then ((spec_l1Num.f k (rdOf ByteArray.empty t419 1)).bind fun t425 => ((spec_EndOk.f t423 t425).bind fun t427 => (if t427 = true then (some (t423, t425, true)) else (some (0, 0, false))))) else (none))) else (none)) else (some (0, 0, false)))
theorem spec_EndRead.mono : ∀ a0 k, LeO (spec_EndRead.f k a0) (spec_EndRead.f (k + 1) a0) := by
 intro a0 k
 unfold spec_EndRead.f
 repeat' first | (with_reducible first | exact spec_l1Num.mono _ _ | exact spec_l1Words.mono _ _ | exact LeO.refl _ | exact LeO.none _ | refine LeO.ite ?_ ?_ | refine LeO.bind ?_ (fun _ => ?_)) | exact spec_l1Num.mono _ _ | exact spec_l1Words.mono _ _ | exact LeO.none _ | refine LeO.ite ?_ ?_ | refine LeO.bind ?_ (fun _ => ?_)
def spec_EndRead.T4 : Bool × List (List Nat × List Nat) := (true, [([], []), ([0], [0]), ([1], [1]), ([2], [2]), ([], []), ([4], [4]), ([5], [5]), ([6, 3], [6]), ([3, 7], [3, 7]), ([], []), ([9, 8, 7, 0, 1, 2, 3, 4, 5, 6, 7, 8, 9], [8, 9])])
def spec_EndRead.B4 : List Nat := [0, 1, 3, 7, 0, 16, 48, 127, 255, 0, 1023]
theorem spec_EndRead.tab4 : rtab .any (opsOf Tryz.f107 4) = spec_EndRead.T4 := by kernel_rfl
theorem spec_EndRead.bits4 : waitsOk spec_EndRead.T4.2 spec_EndRead.B4 = true := by kernel_rfl
set_option maxHeartbeats 8000000 in
set_option maxRecDepth 100000 in
theorem spec_EndRead.calls (k : Nat) (a0 : ByteArray) (r1 : Int) (r2 : Int) (r3 : Bool) (w : World) (h : spec_EndRead.f k a0 = some (r1, r2, r3)) :
  Calls Tryz.prog 107 #[.string a0] w fun e w' => e = .returned (.tuple #[.agg #[.int .i64 r1, .int .i64 r2], .bool r3]) ∧ Below w.heap.size w w' := by
 have hu34 := Tryz.underlying34
 have HB := am (Below.refl w.heap.size w)
 have H : ((spec_l1Words.f k a0).bind fun t419 => (if (t419.length : Int) = 2 then (if 0 < (t419.length : Int) then ((spec_l1Num.f k (rdOf ByteArray.empty t419 0)).bind fun t423 => (if 1 < (t419.length : Int) then ((spec_l1Num.f k (rdOf ByteArray.empty t419 1)).bind fun t425 => ((spec_EndOk.f t423 t425).bind fun t427 => (if t427 = true then (some (t423, t425, true)) else (some (0, 0, false))))) else (none))) else (none)) else (some (0, 0, false)))) = some (r1, r2, r3) := h
 clear h
 obtain ⟨t419, A2, H⟩ := bse H
 try dsimp only at H
 by_cases c3 : (t419.length : Int) = 2
 ·rw [if_pos c3] at H
  have c3b0 : ((t419.length : Int) == 2) = true := beq_iff_eq.mpr c3
  have c3b1 : ((t419.length : Int) != 2) = false := bne_eq_false_iff_eq.mpr c3
  clear c3
  by_cases c4 : 0 < (t419.length : Int)
  ·rw [if_pos c4] at H
   have c4b0 : decide (0 < (t419.length : Int)) = true := decide_eq_true c4
   have c4b1 : decide (0 < t419.length) = true := decide_eq_true (by omega)
   clear c4
   obtain ⟨t423, A5, H⟩ := bse H
   try dsimp only at H
   by_cases c6 : 1 < (t419.length : Int)
   ·rw [if_pos c6] at H
    have c6b0 : decide (1 < (t419.length : Int)) = true := decide_eq_true c6
    have c6b1 : decide (1 < t419.length) = true := decide_eq_true (by omega)
    clear c6
    obtain ⟨t425, A7, H⟩ := bse H
    try dsimp only at H
    obtain ⟨t427, A8, H⟩ := bse H
    try dsimp only at H
    by_cases c9 : t427 = true
    ·subst c9
     have H1 : (some (t423, t425, true)) = some (r1, r2, r3) := by rw [if_pos rfl] at H; exact H
     clear H
     have H := H1
     clear H1
     simp only [Option.some.injEq, Prod.mk.injEq] at H
     obtain ⟨rfl, rfl, rfl⟩ := H
     go_enter Tryz.func107, Tryz.ntmps107
     try go_wp2_with (first | ((with_reducible refine gate_dst (N := 2) rfl ?_); refine box_event rfl (N := 2) rfl (cs := #[.int .i64 0, .int .i64 0]) (t := 34) hr_ ?_; intro gb418 hg w10 hbox hb; have BK418 := am hbox; have GW418 := gwE HB hg; have GE418 := gwE HB hg; replace HB := hbS HB hb; clear hb hbox hg) | ((with_reducible refine gate_callee (f := 119) rfl ?_); refine gL (some 7) Tryz.func119 #[.string a0] ?_; (with_reducible refine (spec_l1Words.calls k a0 t419 _ A2.out).mono ?_); rintro e w11 ⟨v420, rfl, ho0, hb⟩; refine ⟨_, rfl, ?_⟩; have HO421 := am (Kd.R_lower ho0 (below_size (bl HB))); replace BK418 := bkB BK418 hb; replace HB := hbS HB hb; (try clear hb); (try clear ho0); obtain ⟨Ao12, co12, eo12⟩ := Kd.R_slice HO421.out; subst eo12))
     replace HO421 := am (Kd.R_drew HO421.out)
     replace BK418 := am (blk_drew BK418.out)
     replace HB := am (below_drew1 HB.out)
     have p422 : 0 ≤ (0 : Int) := (by omega)
     have q422 : 0 < (t419.length : Int) := of_decide_eq_true da_
     obtain ⟨ad422, e422, hx422_0⟩ := Kd.at_string (Kd.R_reads' HO421.out).2.2 0 p422 q422
     cases e422
     have qi422 : (0 < t419.length) = True := eq_true (by omega)
     (try rw [show ((0 : Int)).toNat = 0 from rfl] at hx422_0)
     (try rw [Addr.add_zero'] at hx422_0)
     replace p422 := eq_true p422
     replace q422 := eq_true q422
     have p424 : 0 ≤ (1 : Int) := (by omega)
     have q424 : 1 < (t419.length : Int) := of_decide_eq_true da_
     obtain ⟨ad424, e424, hx424_0⟩ := Kd.at_string (Kd.R_reads' HO421.out).2.2 1 p424 q424
     obtain rfl : ad422 = ad424 := (by injection e424)
     (try simp only [show (1 : Int).toNat = 1 from rfl, Nat.reduceMul, Nat.reduceEqDiff, Go.Addr.add, ↓reduceIte] at hx424_0)
     have qi424 : (1 < t419.length) = True := eq_true (by omega)
     (try rw [show ((1 : Int)).toNat = 1 from rfl] at hx424_0)
     replace p424 := eq_true p424
     replace q424 := eq_true q424
     refine start_ (n := 11) (S := fun w' => w'.cell? ad422 = some (.string (rdOf ByteArray.empty t419 0)) ∧ w'.cell? ⟨ad422.block, ad422.off + 1, none⟩ = some (.string (rdOf ByteArray.empty t419 1))) (ds := []) #[false, false, false, false, false, false, false, false, false, false, false] (by kernel_rfl) rfl rfl ⟨hx422_0, hx424_0⟩ (fun hHeld => ?_); refine with_tabW spec_EndRead.tab4 spec_EndRead.bits4 (fun HT_ HW_ => ?_)
     generalize w11.drew = w13 at HO421 BK418 HB hx422_0 hx424_0 hHeld ⊢
     refine pu_ 0 (some 12) (bm 11 1) ?_
     refine pu_ 1 (some 13) (bm 11 3) ?_
     refine pu_ 4 (some 16) (bm 11 19) ?_
     refine pu_ 5 (some 17) (bm 11 51) ?_
     refine tk_ 2 (some 14) (bm 11 55) rfl (.inl ⟨rfl, m3_⟩) ?_
     refine tk_ 6 (some 18) (bm 11 119) rfl (.inl ⟨rfl, m3_⟩) ?_
     refine join_ (σ := Nat) 1 #[true, true, true, true, true, true, true, true, true, true, false] (fun s_ => [(15, .int .i64 t423), (19, .int .i64 t425), (5, .pointer (some ⟨s_, 0, none⟩)), (20, .agg #[.int .i64 t423, .int .i64 t425])]) (fun s_ w' => (w'.cell? ad422 = some (.string (rdOf ByteArray.empty t419 0)) ∧ w'.cell? ⟨ad422.block, ad422.off + 1, none⟩ = some (.string (rdOf ByteArray.empty t419 1))) ∧ (Kd.R Kd.string 9 w' w.heap.size (fun _ => True) (.slice (some ad422) t419.length co12) t419) ∧ (w'.heap[gb418]? = some (.cells #[.int .i64 0, .int .i64 0] 34 (0, 0))) ∧ (w'.heap[s_]? = some (.cells #[.int .i64 0, .int .i64 0] 34 (0, 0))) ∧ (w.heap.size ≤ s_) ∧ (w.heap.size ≤ s_) ∧ (gb418 ≠ s_) ∧ (s_ ≠ gb418) ∧ (Below w.heap.size w w')) ?_ ?_
     rotate_left
     ·intro hCont
      refine two_ (i := 3) (j := 9) (Ni := some 15) (Nj := some 5) #[true, true, true, true, true, true, true, false, false, false, false] #[true, true, true, false, true, true, true, false, false, true, false] rfl rfl rfl rfl (two_of HT_.out (by kernel_rfl)) (by decide) (by decide) (fun K hK => ?_) (fun K hK => ?_)
      ·skip
       refine gR Tryz.func120 #[.string (rdOf ByteArray.empty t419 0)] ?_
       with_reducible refine (spec_l1Num.calls k (rdOf ByteArray.empty t419 0) t423 _ A5.out).mono ?_
       rintro e w14 ⟨rfl, hb⟩
       have HS0_ := bch hb (hHeld.1)
       have HS1_ := bch hb (hHeld.2)
       refine ⟨_, rfl, ?_⟩
       replace HO421 := am (Kd.R_below (rs HO421) hb)
       replace BK418 := bkB BK418 hb
       replace HB := hbS HB hb
       (try clear hb)
       (try clear hb2)
       (try clear hk)
       (try clear hi)
       refine hK.out _ _ ⟨HS0_, HS1_⟩ (fun hHeld => ?_)
       clear hK K
       refine nm_ ?_
       refine two_ (i := 7) (j := 9) (Ni := some 19) (Nj := some 5) #[true, true, true, true, true, true, true, true, false, false, false] #[true, true, true, true, true, true, true, false, false, true, false] rfl rfl rfl rfl (two_of HT_.out (by kernel_rfl)) (by decide) (by decide) (fun K hK => ?_) (fun K hK => ?_)
       ·skip
        refine gR Tryz.func120 #[.string (rdOf ByteArray.empty t419 1)] ?_
        with_reducible refine (spec_l1Num.calls k (rdOf ByteArray.empty t419 1) t425 _ A7.out).mono ?_
        rintro e w15 ⟨rfl, hb⟩
        have HS0_ := bch hb (hHeld.1)
        have HS1_ := bch hb (hHeld.2)
        refine ⟨_, rfl, ?_⟩
        replace HO421 := am (Kd.R_below (rs HO421) hb)
        replace BK418 := bkB BK418 hb
        replace HB := hbS HB hb
        (try clear hb)
        (try clear hb2)
        (try clear hk)
        (try clear hi)
        refine hK.out _ _ ⟨HS0_, HS1_⟩ (fun hHeld => ?_)
        clear hK K
        refine nm_ ?_
        refine pu_ 8 (some 20) (bm 11 511) ?_
        refine on_ 9 (some 5) (bm 11 1023) (fun K hK => ?_)
        refine box_step rfl (N := 5) rfl (cs := #[.int .i64 0, .int .i64 0]) (t := 34) hr_ ?_
        intro gb426 hg w16 hbox hb
        have HS0_ := bch hb (hHeld.1)
        have HS1_ := bch hb (hHeld.2)
        replace HO421 := am (Kd.R_below (rs HO421) hb)
        have BK426 := am hbox
        have GW426 := gwE HB hg
        have GE426 := gwE HB hg
        replace HB := hbS HB hb
        have NB418_426 := neL BK418 hg
        have NB426_418 := neG BK418 hg
        replace BK418 := bkB BK418 hb
        clear hb hbox hg
        refine hK.out _ _ ⟨HS0_, HS1_⟩ (fun hHeld => ?_)
        clear hK K
        refine nm_ ?_
        exact norm_ (by simp only [putAll, Act.put, List.setIfInBounds_toArray, List.set_cons_zero, List.set_cons_succ]) (hCont (gb426) _ ⟨hHeld, (rs HO421), (bk BK418), (bk BK426), GW426.out, GE426.out, NB418_426.out, NB426_418.out, (bl HB)⟩)
       ·skip
        refine box_step rfl (N := 5) rfl (cs := #[.int .i64 0, .int .i64 0]) (t := 34) hr_ ?_
        intro gb426 hg w15 hbox hb
        have HS0_ := bch hb (hHeld.1)
        have HS1_ := bch hb (hHeld.2)
        replace HO421 := am (Kd.R_below (rs HO421) hb)
        have BK426 := am hbox
        have GW426 := gwE HB hg
        have GE426 := gwE HB hg
        replace HB := hbS HB hb
        have NB418_426 := neL BK418 hg
        have NB426_418 := neG BK418 hg
        replace BK418 := bkB BK418 hb
        clear hb hbox hg
        refine hK.out _ _ ⟨HS0_, HS1_⟩ (fun hHeld => ?_)
        clear hK K
        refine nm_ ?_
        refine on_ 7 (some 19) (bm 11 767) (fun K hK => ?_)
        refine gR Tryz.func120 #[.string (rdOf ByteArray.empty t419 1)] ?_
        with_reducible refine (spec_l1Num.calls k (rdOf ByteArray.empty t419 1) t425 _ A7.out).mono ?_
        rintro e w16 ⟨rfl, hb⟩
        have HS0_ := bch hb (hHeld.1)
        have HS1_ := bch hb (hHeld.2)
        refine ⟨_, rfl, ?_⟩
        replace HO421 := am (Kd.R_below (rs HO421) hb)
        replace BK418 := bkB BK418 hb
        replace BK426 := bkB BK426 hb
        replace HB := hbS HB hb
        (try clear hb)
        (try clear hb2)
        (try clear hk)
        (try clear hi)
        refine hK.out _ _ ⟨HS0_, HS1_⟩ (fun hHeld => ?_)
        clear hK K
        refine nm_ ?_
        refine pu_ 8 (some 20) (bm 11 1023) ?_
        exact norm_ (by simp only [putAll, Act.put, List.setIfInBounds_toArray, List.set_cons_zero, List.set_cons_succ]) (hCont (gb426) _ ⟨hHeld, (rs HO421), (bk BK418), (bk BK426), GW426.out, GE426.out, NB418_426.out, NB426_418.out, (bl HB)⟩)
      ·skip
       refine box_step rfl (N := 5) rfl (cs := #[.int .i64 0, .int .i64 0]) (t := 34) hr_ ?_
       intro gb426 hg w14 hbox hb
       have HS0_ := bch hb (hHeld.1)
       have HS1_ := bch hb (hHeld.2)
       replace HO421 := am (Kd.R_below (rs HO421) hb)
       have BK426 := am hbox
       have GW426 := gwE HB hg
       have GE426 := gwE HB hg
       replace HB := hbS HB hb
       have NB418_426 := neL BK418 hg
       have NB426_418 := neG BK418 hg
       replace BK418 := bkB BK418 hb
       clear hb hbox hg
       refine hK.out _ _ ⟨HS0_, HS1_⟩ (fun hHeld => ?_)
       clear hK K
       refine nm_ ?_
       refine on_ 3 (some 15) (bm 11 639) (fun K hK => ?_)
       refine gR Tryz.func120 #[.string (rdOf ByteArray.empty t419 0)] ?_
       with_reducible refine (spec_l1Num.calls k (rdOf ByteArray.empty t419 0) t423 _ A5.out).mono ?_
       rintro e w15 ⟨rfl, hb⟩
       have HS0_ := bch hb (hHeld.1)
       have HS1_ := bch hb (hHeld.2)
       refine ⟨_, rfl, ?_⟩
       replace HO421 := am (Kd.R_below (rs HO421) hb)
       replace BK418 := bkB BK418 hb
       replace BK426 := bkB BK426 hb
       replace HB := hbS HB hb
       (try clear hb)
       (try clear hb2)
       (try clear hk)
       (try clear hi)
       refine hK.out _ _ ⟨HS0_, HS1_⟩ (fun hHeld => ?_)
       clear hK K
       refine nm_ ?_
       refine on_ 7 (some 19) (bm 11 767) (fun K hK => ?_)
       refine gR Tryz.func120 #[.string (rdOf ByteArray.empty t419 1)] ?_
       with_reducible refine (spec_l1Num.calls k (rdOf ByteArray.empty t419 1) t425 _ A7.out).mono ?_
       rintro e w16 ⟨rfl, hb⟩
       have HS0_ := bch hb (hHeld.1)
       have HS1_ := bch hb (hHeld.2)
       refine ⟨_, rfl, ?_⟩
       replace HO421 := am (Kd.R_below (rs HO421) hb)
       replace BK418 := bkB BK418 hb
       replace BK426 := bkB BK426 hb
       replace HB := hbS HB hb
       (try clear hb)
       (try clear hb2)
       (try clear hk)
       (try clear hi)
       refine hK.out _ _ ⟨HS0_, HS1_⟩ (fun hHeld => ?_)
       clear hK K
       refine nm_ ?_
       refine pu_ 8 (some 20) (bm 11 1023) ?_
       exact norm_ (by simp only [putAll, Act.put, List.setIfInBounds_toArray, List.set_cons_zero, List.set_cons_succ]) (hCont (gb426) _ ⟨hHeld, (rs HO421), (bk BK418), (bk BK426), GW426.out, GE426.out, NB418_426.out, NB426_418.out, (bl HB)⟩)
     rintro gb426 w17 ⟨hS_, h0_, h1_, h2_, h3_, h4_, h5_, h6_, h7_⟩
     have n0_ : Aside0 (Kd.R Kd.string 9 w17 w.heap.size (fun _ => True) (.slice (some ad422) t419.length co12) t419) := ⟨h0_⟩
     have n1_ : Aside0 (w17.heap[gb418]? = some (.cells #[.int .i64 0, .int .i64 0] 34 (0, 0))) := ⟨h1_⟩
     have n2_ : Aside0 (w17.heap[gb426]? = some (.cells #[.int .i64 0, .int .i64 0] 34 (0, 0))) := ⟨h2_⟩
     have n3_ : Aside0 (w.heap.size ≤ gb426) := ⟨h3_⟩
     have n4_ : Aside0 (w.heap.size ≤ gb426) := ⟨h4_⟩
     have n5_ : Aside0 (gb418 ≠ gb426) := ⟨h5_⟩
     have n6_ : Aside0 (gb426 ≠ gb418) := ⟨h6_⟩
     have n7_ : Aside0 (Below w.heap.size w w17) := ⟨h7_⟩
     clear HO421
     clear BK418
     clear HB
     clear h0_ h1_ h2_ h3_ h4_ h5_ h6_ h7_
     have HO421 := n0_
     have BK418 := n1_
     have BK426 := n2_
     have GW426 := n3_
     have GE426 := n4_
     have NB418_426 := n5_
     have NB426_418 := n6_
     have HB := n7_
     clear n0_ n1_ n2_ n3_ n4_ n5_ n6_ n7_
     have hHeld : w17.cell? ad422 = some (.string (rdOf ByteArray.empty t419 0)) ∧ w17.cell? ⟨ad422.block, ad422.off + 1, none⟩ = some (.string (rdOf ByteArray.empty t419 1)) := hS_
     refine norm_ (a' := ?_) ?_ ?_
     rotate_left
     ·simp only [putAll, Act.put, List.setIfInBounds_toArray, List.set_cons_zero, List.set_cons_succ]
      rfl
     refine on_ 10 none (bm 11 2047) (fun K hK => ?_)
     have : w17.cell? ⟨gb426, 0, none⟩ = some (.int .i64 0) := bcell BK426 0
     have := bfz BK426 0
     have := NB418_426.out
     have := NB426_418.out
     have : w17.cell? ⟨gb426, 1, none⟩ = some (.int .i64 0) := bcell BK426 1
     have := bfz BK426 1
     have := NB418_426.out
     have := NB426_418.out
     refine skip_ (w1 := ?_) (by rfl) rfl ?_ ?_
     rotate_left
     ·go_simp
      rfl
     refine hK.out _ _ ⟨((cell_far (p := ⟨gb426, _, none⟩) (by first | exact Kd.own_blk (Kd.R_ne HO421.out BK426.out (by decide)) | (rw [add_block]; exact Kd.own_blk (Kd.R_ne HO421.out BK426.out (by decide))) | (show (Addr.add _ _).block ≠ _; rw [add_block]; exact Kd.own_blk (Kd.R_ne HO421.out BK426.out (by decide))) | (dsimp only; exact Kd.own_blk (Kd.R_ne HO421.out BK426.out (by decide)))) _).trans (((cell_far (p := ⟨gb426, _, none⟩) (by first | exact Kd.own_blk (Kd.R_ne HO421.out BK426.out (by decide)) | (rw [add_block]; exact Kd.own_blk (Kd.R_ne HO421.out BK426.out (by decide))) | (show (Addr.add _ _).block ≠ _; rw [add_block]; exact Kd.own_blk (Kd.R_ne HO421.out BK426.out (by decide))) | (dsimp only; exact Kd.own_blk (Kd.R_ne HO421.out BK426.out (by decide)))) _).trans (hHeld.1)))), ((cell_far (p := ⟨gb426, _, none⟩) (by first | exact Kd.own_blk (Kd.R_ne HO421.out BK426.out (by decide)) | (rw [add_block]; exact Kd.own_blk (Kd.R_ne HO421.out BK426.out (by decide))) | (show (Addr.add _ _).block ≠ _; rw [add_block]; exact Kd.own_blk (Kd.R_ne HO421.out BK426.out (by decide))) | (dsimp only; exact Kd.own_blk (Kd.R_ne HO421.out BK426.out (by decide)))) _).trans (((cell_far (p := ⟨gb426, _, none⟩) (by first | exact Kd.own_blk (Kd.R_ne HO421.out BK426.out (by decide)) | (rw [add_block]; exact Kd.own_blk (Kd.R_ne HO421.out BK426.out (by decide))) | (show (Addr.add _ _).block ≠ _; rw [add_block]; exact Kd.own_blk (Kd.R_ne HO421.out BK426.out (by decide))) | (dsimp only; exact Kd.own_blk (Kd.R_ne HO421.out BK426.out (by decide)))) _).trans (hHeld.2))))⟩ (fun hHeld => ?_)
     clear hK K
     refine done_ (done_of HT_.out (by kernel_rfl)) ?_
     have := NB426_418.out
     have := NB418_426.out
     have := bcell BK426 0
     have := bcell BK426 1
     have := bfz BK426 0
     have := bfz BK426 1
     try go_wp2_with (first | ((with_reducible refine gate_callee (f := 92) rfl ?_); refine gL (some 22) Tryz.func92 #[.agg #[.int .i64 t423, .int .i64 t425]] ?_; (with_reducible refine (spec_EndOk.calls t423 t425 true _ A8.out).mono ?_); rintro e w22 ⟨rfl, hb⟩; refine ⟨_, rfl, ?_⟩; replace HO421 := am (Kd.R_below (by (with_reducible repeat apply ru); exact (Kd.R_mono (Kd.R_far (p := ⟨gb426, 1, none⟩) (Kd.R_far (p := ⟨gb426, 0, none⟩) (Kd.R_types HO421.out BK426.out (by decide)) (fun _ hk => hk.2) (.int .i64 t423)) (fun _ hk => hk.2) (.int .i64 t425)) (fun _ h_ => h_.1))) hb); replace BK418 := am (blk_below (g := gb418) (o := .cells #[.int .i64 0, .int .i64 0] 34 (0, 0)) (by (with_reducible repeat refine bu ?_); refine blk_far ?_ NB418_426.out _; (with_reducible repeat refine bu ?_); refine blk_far ?_ NB418_426.out _; (with_reducible repeat refine bu ?_); exact BK418.out) hb); replace BK426 := am (blk_below (g := gb426) (o := .cells #[.int .i64 t423, .int .i64 t425] 34 (0, 0)) (by (with_reducible repeat refine bu ?_); refine blk_put (cs := #[.int .i64 t423, .int .i64 0]) ?_ 1 _ rfl; (with_reducible repeat refine bu ?_); refine blk_put (cs := #[.int .i64 0, .int .i64 0]) ?_ 0 _ rfl; (with_reducible repeat refine bu ?_); exact BK426.out) hb); replace HB := hbS HB hb; (try clear hb); (try clear hk); have := bcell BK426 0; have := bcell BK426 1; have := bfz BK426 0; have := bfz BK426 1; have := bcell BK418 0; have := bcell BK418 1; have := bfz BK418 0; have := bfz BK418 1))
     refine bodyPost_ret (results_ct rfl _ _ gb418 34 #[.int .i64 t423, .int .i64 t425] (0, 0) _ rfl (by (with_reducible repeat refine bu ?_); refine blk_put (cs := #[.int .i64 t423, .int .i64 0]) ?_ 1 _ rfl; (with_reducible repeat refine bu ?_); refine blk_put (cs := #[.int .i64 0, .int .i64 0]) ?_ 0 _ rfl; (with_reducible repeat refine bu ?_); exact BK418.out) Tryz.underlying34 rfl (by kernel_rfl)) rfl ?_
     exact ⟨fi_, m2_⟩
    ·replace c9 := Bool.eq_false_iff.mpr c9
     subst c9
     have H1 : (some (0, 0, false)) = some (r1, r2, r3) := by rw [if_neg (show ¬ (false = true) by decide)] at H; exact H
     clear H
     have H := H1
     clear H1
     simp only [Option.some.injEq, Prod.mk.injEq] at H
     obtain ⟨rfl, rfl, rfl⟩ := H
     go_enter Tryz.func107, Tryz.ntmps107
     try go_wp2_with (first | ((with_reducible refine gate_dst (N := 2) rfl ?_); refine box_event rfl (N := 2) rfl (cs := #[.int .i64 0, .int .i64 0]) (t := 34) hr_ ?_; intro gb418 hg w25 hbox hb; have BK418 := am hbox; have GW418 := gwE HB hg; have GE418 := gwE HB hg; replace HB := hbS HB hb; clear hb hbox hg) | ((with_reducible refine gate_callee (f := 119) rfl ?_); refine gL (some 7) Tryz.func119 #[.string a0] ?_; (with_reducible refine (spec_l1Words.calls k a0 t419 _ A2.out).mono ?_); rintro e w26 ⟨v420, rfl, ho0, hb⟩; refine ⟨_, rfl, ?_⟩; have HO421 := am (Kd.R_lower ho0 (below_size (bl HB))); replace BK418 := bkB BK418 hb; replace HB := hbS HB hb; (try clear hb); (try clear ho0); obtain ⟨Ao27, co27, eo27⟩ := Kd.R_slice HO421.out; subst eo27))
     replace HO421 := am (Kd.R_drew HO421.out)
     replace BK418 := am (blk_drew BK418.out)
     replace HB := am (below_drew1 HB.out)
     have p422 : 0 ≤ (0 : Int) := (by omega)
     have q422 : 0 < (t419.length : Int) := of_decide_eq_true da_
     obtain ⟨ad422, e422, hx422_0⟩ := Kd.at_string (Kd.R_reads' HO421.out).2.2 0 p422 q422
     cases e422
     have qi422 : (0 < t419.length) = True := eq_true (by omega)
     (try rw [show ((0 : Int)).toNat = 0 from rfl] at hx422_0)
     (try rw [Addr.add_zero'] at hx422_0)
     replace p422 := eq_true p422
     replace q422 := eq_true q422
     have p424 : 0 ≤ (1 : Int) := (by omega)
     have q424 : 1 < (t419.length : Int) := of_decide_eq_true da_
     obtain ⟨ad424, e424, hx424_0⟩ := Kd.at_string (Kd.R_reads' HO421.out).2.2 1 p424 q424
     obtain rfl : ad422 = ad424 := (by injection e424)
     (try simp only [show (1 : Int).toNat = 1 from rfl, Nat.reduceMul, Nat.reduceEqDiff, Go.Addr.add, ↓reduceIte] at hx424_0)
     have qi424 : (1 < t419.length) = True := eq_true (by omega)
     (try rw [show ((1 : Int)).toNat = 1 from rfl] at hx424_0)
     replace p424 := eq_true p424
     replace q424 := eq_true q424
     refine start_ (n := 11) (S := fun w' => w'.cell? ad422 = some (.string (rdOf ByteArray.empty t419 0)) ∧ w'.cell? ⟨ad422.block, ad422.off + 1, none⟩ = some (.string (rdOf ByteArray.empty t419 1))) (ds := []) #[false, false, false, false, false, false, false, false, false, false, false] (by kernel_rfl) rfl rfl ⟨hx422_0, hx424_0⟩ (fun hHeld => ?_); refine with_tabW spec_EndRead.tab4 spec_EndRead.bits4 (fun HT_ HW_ => ?_)
     generalize w26.drew = w28 at HO421 BK418 HB hx422_0 hx424_0 hHeld ⊢
     refine pu_ 0 (some 12) (bm 11 1) ?_
     refine pu_ 1 (some 13) (bm 11 3) ?_
     refine pu_ 4 (some 16) (bm 11 19) ?_
     refine pu_ 5 (some 17) (bm 11 51) ?_
     refine tk_ 2 (some 14) (bm 11 55) rfl (.inl ⟨rfl, m3_⟩) ?_
     refine tk_ 6 (some 18) (bm 11 119) rfl (.inl ⟨rfl, m3_⟩) ?_
     refine join_ (σ := Nat) 1 #[true, true, true, true, true, true, true, true, true, true, false] (fun s_ => [(15, .int .i64 t423), (19, .int .i64 t425), (5, .pointer (some ⟨s_, 0, none⟩)), (20, .agg #[.int .i64 t423, .int .i64 t425])]) (fun s_ w' => (w'.cell? ad422 = some (.string (rdOf ByteArray.empty t419 0)) ∧ w'.cell? ⟨ad422.block, ad422.off + 1, none⟩ = some (.string (rdOf ByteArray.empty t419 1))) ∧ (Kd.R Kd.string 9 w' w.heap.size (fun _ => True) (.slice (some ad422) t419.length co27) t419) ∧ (w'.heap[gb418]? = some (.cells #[.int .i64 0, .int .i64 0] 34 (0, 0))) ∧ (w'.heap[s_]? = some (.cells #[.int .i64 0, .int .i64 0] 34 (0, 0))) ∧ (w.heap.size ≤ s_) ∧ (w.heap.size ≤ s_) ∧ (gb418 ≠ s_) ∧ (s_ ≠ gb418) ∧ (Below w.heap.size w w')) ?_ ?_
     rotate_left
     ·intro hCont
      refine two_ (i := 3) (j := 9) (Ni := some 15) (Nj := some 5) #[true, true, true, true, true, true, true, false, false, false, false] #[true, true, true, false, true, true, true, false, false, true, false] rfl rfl rfl rfl (two_of HT_.out (by kernel_rfl)) (by decide) (by decide) (fun K hK => ?_) (fun K hK => ?_)
      ·skip
       refine gR Tryz.func120 #[.string (rdOf ByteArray.empty t419 0)] ?_
       with_reducible refine (spec_l1Num.calls k (rdOf ByteArray.empty t419 0) t423 _ A5.out).mono ?_
       rintro e w29 ⟨rfl, hb⟩
       have HS0_ := bch hb (hHeld.1)
       have HS1_ := bch hb (hHeld.2)
       refine ⟨_, rfl, ?_⟩
       replace HO421 := am (Kd.R_below (rs HO421) hb)
       replace BK418 := bkB BK418 hb
       replace HB := hbS HB hb
       (try clear hb)
       (try clear hb2)
       (try clear hk)
       (try clear hi)
       refine hK.out _ _ ⟨HS0_, HS1_⟩ (fun hHeld => ?_)
       clear hK K
       refine nm_ ?_
       refine two_ (i := 7) (j := 9) (Ni := some 19) (Nj := some 5) #[true, true, true, true, true, true, true, true, false, false, false] #[true, true, true, true, true, true, true, false, false, true, false] rfl rfl rfl rfl (two_of HT_.out (by kernel_rfl)) (by decide) (by decide) (fun K hK => ?_) (fun K hK => ?_)
       ·skip
        refine gR Tryz.func120 #[.string (rdOf ByteArray.empty t419 1)] ?_
        with_reducible refine (spec_l1Num.calls k (rdOf ByteArray.empty t419 1) t425 _ A7.out).mono ?_
        rintro e w30 ⟨rfl, hb⟩
        have HS0_ := bch hb (hHeld.1)
        have HS1_ := bch hb (hHeld.2)
        refine ⟨_, rfl, ?_⟩
        replace HO421 := am (Kd.R_below (rs HO421) hb)
        replace BK418 := bkB BK418 hb
        replace HB := hbS HB hb
        (try clear hb)
        (try clear hb2)
        (try clear hk)
        (try clear hi)
        refine hK.out _ _ ⟨HS0_, HS1_⟩ (fun hHeld => ?_)
        clear hK K
        refine nm_ ?_
        refine pu_ 8 (some 20) (bm 11 511) ?_
        refine on_ 9 (some 5) (bm 11 1023) (fun K hK => ?_)
        refine box_step rfl (N := 5) rfl (cs := #[.int .i64 0, .int .i64 0]) (t := 34) hr_ ?_
        intro gb426 hg w31 hbox hb
        have HS0_ := bch hb (hHeld.1)
        have HS1_ := bch hb (hHeld.2)
        replace HO421 := am (Kd.R_below (rs HO421) hb)
        have BK426 := am hbox
        have GW426 := gwE HB hg
        have GE426 := gwE HB hg
        replace HB := hbS HB hb
        have NB418_426 := neL BK418 hg
        have NB426_418 := neG BK418 hg
        replace BK418 := bkB BK418 hb
        clear hb hbox hg
        refine hK.out _ _ ⟨HS0_, HS1_⟩ (fun hHeld => ?_)
        clear hK K
        refine nm_ ?_
        exact norm_ (by simp only [putAll, Act.put, List.setIfInBounds_toArray, List.set_cons_zero, List.set_cons_succ]) (hCont (gb426) _ ⟨hHeld, (rs HO421), (bk BK418), (bk BK426), GW426.out, GE426.out, NB418_426.out, NB426_418.out, (bl HB)⟩)
       ·skip
        refine box_step rfl (N := 5) rfl (cs := #[.int .i64 0, .int .i64 0]) (t := 34) hr_ ?_
        intro gb426 hg w30 hbox hb
        have HS0_ := bch hb (hHeld.1)
        have HS1_ := bch hb (hHeld.2)
        replace HO421 := am (Kd.R_below (rs HO421) hb)
        have BK426 := am hbox
        have GW426 := gwE HB hg
        have GE426 := gwE HB hg
        replace HB := hbS HB hb
        have NB418_426 := neL BK418 hg
        have NB426_418 := neG BK418 hg
        replace BK418 := bkB BK418 hb
        clear hb hbox hg
        refine hK.out _ _ ⟨HS0_, HS1_⟩ (fun hHeld => ?_)
        clear hK K
        refine nm_ ?_
        refine on_ 7 (some 19) (bm 11 767) (fun K hK => ?_)
        refine gR Tryz.func120 #[.string (rdOf ByteArray.empty t419 1)] ?_
        with_reducible refine (spec_l1Num.calls k (rdOf ByteArray.empty t419 1) t425 _ A7.out).mono ?_
        rintro e w31 ⟨rfl, hb⟩
        have HS0_ := bch hb (hHeld.1)
        have HS1_ := bch hb (hHeld.2)
        refine ⟨_, rfl, ?_⟩
        replace HO421 := am (Kd.R_below (rs HO421) hb)
        replace BK418 := bkB BK418 hb
        replace BK426 := bkB BK426 hb
        replace HB := hbS HB hb
        (try clear hb)
        (try clear hb2)
        (try clear hk)
        (try clear hi)
        refine hK.out _ _ ⟨HS0_, HS1_⟩ (fun hHeld => ?_)
        clear hK K
        refine nm_ ?_
        refine pu_ 8 (some 20) (bm 11 1023) ?_
        exact norm_ (by simp only [putAll, Act.put, List.setIfInBounds_toArray, List.set_cons_zero, List.set_cons_succ]) (hCont (gb426) _ ⟨hHeld, (rs HO421), (bk BK418), (bk BK426), GW426.out, GE426.out, NB418_426.out, NB426_418.out, (bl HB)⟩)
      ·skip
       refine box_step rfl (N := 5) rfl (cs := #[.int .i64 0, .int .i64 0]) (t := 34) hr_ ?_
       intro gb426 hg w29 hbox hb
       have HS0_ := bch hb (hHeld.1)
       have HS1_ := bch hb (hHeld.2)
       replace HO421 := am (Kd.R_below (rs HO421) hb)
       have BK426 := am hbox
       have GW426 := gwE HB hg
       have GE426 := gwE HB hg
       replace HB := hbS HB hb
       have NB418_426 := neL BK418 hg
       have NB426_418 := neG BK418 hg
       replace BK418 := bkB BK418 hb
       clear hb hbox hg
       refine hK.out _ _ ⟨HS0_, HS1_⟩ (fun hHeld => ?_)
       clear hK K
       refine nm_ ?_
       refine on_ 3 (some 15) (bm 11 639) (fun K hK => ?_)
       refine gR Tryz.func120 #[.string (rdOf ByteArray.empty t419 0)] ?_
       with_reducible refine (spec_l1Num.calls k (rdOf ByteArray.empty t419 0) t423 _ A5.out).mono ?_
       rintro e w30 ⟨rfl, hb⟩
       have HS0_ := bch hb (hHeld.1)
       have HS1_ := bch hb (hHeld.2)
       refine ⟨_, rfl, ?_⟩
       replace HO421 := am (Kd.R_below (rs HO421) hb)
       replace BK418 := bkB BK418 hb
       replace BK426 := bkB BK426 hb
       replace HB := hbS HB hb
       (try clear hb)
       (try clear hb2)
       (try clear hk)
       (try clear hi)
       refine hK.out _ _ ⟨HS0_, HS1_⟩ (fun hHeld => ?_)
       clear hK K
       refine nm_ ?_
       refine on_ 7 (some 19) (bm 11 767) (fun K hK => ?_)
       refine gR Tryz.func120 #[.string (rdOf ByteArray.empty t419 1)] ?_
       with_reducible refine (spec_l1Num.calls k (rdOf ByteArray.empty t419 1) t425 _ A7.out).mono ?_
       rintro e w31 ⟨rfl, hb⟩
       have HS0_ := bch hb (hHeld.1)
       have HS1_ := bch hb (hHeld.2)
       refine ⟨_, rfl, ?_⟩
       replace HO421 := am (Kd.R_below (rs HO421) hb)
       replace BK418 := bkB BK418 hb
       replace BK426 := bkB BK426 hb
       replace HB := hbS HB hb
       (try clear hb)
       (try clear hb2)
       (try clear hk)
       (try clear hi)
       refine hK.out _ _ ⟨HS0_, HS1_⟩ (fun hHeld => ?_)
       clear hK K
       refine nm_ ?_
       refine pu_ 8 (some 20) (bm 11 1023) ?_
       exact norm_ (by simp only [putAll, Act.put, List.setIfInBounds_toArray, List.set_cons_zero, List.set_cons_succ]) (hCont (gb426) _ ⟨hHeld, (rs HO421), (bk BK418), (bk BK426), GW426.out, GE426.out, NB418_426.out, NB426_418.out, (bl HB)⟩)
     rintro gb426 w32 ⟨hS_, h0_, h1_, h2_, h3_, h4_, h5_, h6_, h7_⟩
     have n0_ : Aside0 (Kd.R Kd.string 9 w32 w.heap.size (fun _ => True) (.slice (some ad422) t419.length co27) t419) := ⟨h0_⟩
     have n1_ : Aside0 (w32.heap[gb418]? = some (.cells #[.int .i64 0, .int .i64 0] 34 (0, 0))) := ⟨h1_⟩
     have n2_ : Aside0 (w32.heap[gb426]? = some (.cells #[.int .i64 0, .int .i64 0] 34 (0, 0))) := ⟨h2_⟩
     have n3_ : Aside0 (w.heap.size ≤ gb426) := ⟨h3_⟩
     have n4_ : Aside0 (w.heap.size ≤ gb426) := ⟨h4_⟩
     have n5_ : Aside0 (gb418 ≠ gb426) := ⟨h5_⟩
     have n6_ : Aside0 (gb426 ≠ gb418) := ⟨h6_⟩
     have n7_ : Aside0 (Below w.heap.size w w32) := ⟨h7_⟩
     clear HO421
     clear BK418
     clear HB
     clear h0_ h1_ h2_ h3_ h4_ h5_ h6_ h7_
     have HO421 := n0_
     have BK418 := n1_
     have BK426 := n2_
     have GW426 := n3_
     have GE426 := n4_
     have NB418_426 := n5_
     have NB426_418 := n6_
     have HB := n7_
     clear n0_ n1_ n2_ n3_ n4_ n5_ n6_ n7_
     have hHeld : w32.cell? ad422 = some (.string (rdOf ByteArray.empty t419 0)) ∧ w32.cell? ⟨ad422.block, ad422.off + 1, none⟩ = some (.string (rdOf ByteArray.empty t419 1)) := hS_
     refine norm_ (a' := ?_) ?_ ?_
     rotate_left
     ·simp only [putAll, Act.put, List.setIfInBounds_toArray, List.set_cons_zero, List.set_cons_succ]
      rfl
     refine on_ 10 none (bm 11 2047) (fun K hK => ?_)
     have : w32.cell? ⟨gb426, 0, none⟩ = some (.int .i64 0) := bcell BK426 0
     have := bfz BK426 0
     have := NB418_426.out
     have := NB426_418.out
     have : w32.cell? ⟨gb426, 1, none⟩ = some (.int .i64 0) := bcell BK426 1
     have := bfz BK426 1
     have := NB418_426.out
     have := NB426_418.out
     refine skip_ (w1 := ?_) (by rfl) rfl ?_ ?_
     rotate_left
     ·go_simp
      rfl
     refine hK.out _ _ ⟨((cell_far (p := ⟨gb426, _, none⟩) (by first | exact Kd.own_blk (Kd.R_ne HO421.out BK426.out (by decide)) | (rw [add_block]; exact Kd.own_blk (Kd.R_ne HO421.out BK426.out (by decide))) | (show (Addr.add _ _).block ≠ _; rw [add_block]; exact Kd.own_blk (Kd.R_ne HO421.out BK426.out (by decide))) | (dsimp only; exact Kd.own_blk (Kd.R_ne HO421.out BK426.out (by decide)))) _).trans (((cell_far (p := ⟨gb426, _, none⟩) (by first | exact Kd.own_blk (Kd.R_ne HO421.out BK426.out (by decide)) | (rw [add_block]; exact Kd.own_blk (Kd.R_ne HO421.out BK426.out (by decide))) | (show (Addr.add _ _).block ≠ _; rw [add_block]; exact Kd.own_blk (Kd.R_ne HO421.out BK426.out (by decide))) | (dsimp only; exact Kd.own_blk (Kd.R_ne HO421.out BK426.out (by decide)))) _).trans (hHeld.1)))), ((cell_far (p := ⟨gb426, _, none⟩) (by first | exact Kd.own_blk (Kd.R_ne HO421.out BK426.out (by decide)) | (rw [add_block]; exact Kd.own_blk (Kd.R_ne HO421.out BK426.out (by decide))) | (show (Addr.add _ _).block ≠ _; rw [add_block]; exact Kd.own_blk (Kd.R_ne HO421.out BK426.out (by decide))) | (dsimp only; exact Kd.own_blk (Kd.R_ne HO421.out BK426.out (by decide)))) _).trans (((cell_far (p := ⟨gb426, _, none⟩) (by first | exact Kd.own_blk (Kd.R_ne HO421.out BK426.out (by decide)) | (rw [add_block]; exact Kd.own_blk (Kd.R_ne HO421.out BK426.out (by decide))) | (show (Addr.add _ _).block ≠ _; rw [add_block]; exact Kd.own_blk (Kd.R_ne HO421.out BK426.out (by decide))) | (dsimp only; exact Kd.own_blk (Kd.R_ne HO421.out BK426.out (by decide)))) _).trans (hHeld.2))))⟩ (fun hHeld => ?_)
     clear hK K
     refine done_ (done_of HT_.out (by kernel_rfl)) ?_
     have := NB426_418.out
     have := NB418_426.out
     have := bcell BK426 0
     have := bcell BK426 1
     have := bfz BK426 0
     have := bfz BK426 1
     try go_wp2_with (first | ((with_reducible refine gate_callee (f := 92) rfl ?_); refine gL (some 22) Tryz.func92 #[.agg #[.int .i64 t423, .int .i64 t425]] ?_; (with_reducible refine (spec_EndOk.calls t423 t425 false _ A8.out).mono ?_); rintro e w37 ⟨rfl, hb⟩; refine ⟨_, rfl, ?_⟩; replace HO421 := am (Kd.R_below (by (with_reducible repeat apply ru); exact (Kd.R_mono (Kd.R_far (p := ⟨gb426, 1, none⟩) (Kd.R_far (p := ⟨gb426, 0, none⟩) (Kd.R_types HO421.out BK426.out (by decide)) (fun _ hk => hk.2) (.int .i64 t423)) (fun _ hk => hk.2) (.int .i64 t425)) (fun _ h_ => h_.1))) hb); replace BK418 := am (blk_below (g := gb418) (o := .cells #[.int .i64 0, .int .i64 0] 34 (0, 0)) (by (with_reducible repeat refine bu ?_); refine blk_far ?_ NB418_426.out _; (with_reducible repeat refine bu ?_); refine blk_far ?_ NB418_426.out _; (with_reducible repeat refine bu ?_); exact BK418.out) hb); replace BK426 := am (blk_below (g := gb426) (o := .cells #[.int .i64 t423, .int .i64 t425] 34 (0, 0)) (by (with_reducible repeat refine bu ?_); refine blk_put (cs := #[.int .i64 t423, .int .i64 0]) ?_ 1 _ rfl; (with_reducible repeat refine bu ?_); refine blk_put (cs := #[.int .i64 0, .int .i64 0]) ?_ 0 _ rfl; (with_reducible repeat refine bu ?_); exact BK426.out) hb); replace HB := hbS HB hb; (try clear hb); (try clear hk); have := bcell BK418 0; have := bcell BK418 1; have := bfz BK418 0; have := bfz BK418 1))
     refine bodyPost_ret (results_ct rfl _ _ gb418 34 #[.int .i64 0, .int .i64 0] (0, 0) _ rfl (by (with_reducible repeat refine bu ?_); refine blk_put (cs := #[.int .i64 0, .int .i64 0]) ?_ 1 _ rfl; (with_reducible repeat refine bu ?_); refine blk_put (cs := #[.int .i64 0, .int .i64 0]) ?_ 0 _ rfl; (with_reducible repeat refine bu ?_); exact BK418.out) Tryz.underlying34 rfl (by kernel_rfl)) rfl ?_
     exact ⟨fi_, m2_⟩
   ·rw [if_neg c6] at H
    exact absurd H (by simp)
  ·rw [if_neg c4] at H
   exact absurd H (by simp)
 ·rw [if_neg c3] at H
  have c3b0 : ((t419.length : Int) == 2) = false := beq_eq_false_iff_ne.mpr c3
  have c3b1 : ((t419.length : Int) != 2) = true := bne_iff_ne.mpr c3
  simp only [Option.some.injEq, Prod.mk.injEq] at H
  obtain ⟨rfl, rfl, rfl⟩ := H
  go_enter Tryz.func107, Tryz.ntmps107
  go_wp2_with (first | ((with_reducible refine gate_dst (N := 2) rfl ?_); refine box_event rfl (N := 2) rfl (cs := #[.int .i64 0, .int .i64 0]) (t := 34) hr_ ?_; intro gb418 hg w39 hbox hb; have BK418 := am hbox; have GW418 := gwE HB hg; have GE418 := gwE HB hg; replace HB := hbS HB hb; clear hb hbox hg) | ((with_reducible refine gate_callee (f := 119) rfl ?_); refine gL (some 7) Tryz.func119 #[.string a0] ?_; (with_reducible refine (spec_l1Words.calls k a0 t419 _ A2.out).mono ?_); rintro e w40 ⟨v420, rfl, ho0, hb⟩; refine ⟨_, rfl, ?_⟩; have HO421 := am (Kd.R_lower ho0 (below_size (bl HB))); replace BK418 := bkB BK418 hb; replace HB := hbS HB hb; (try clear hb); (try clear ho0); obtain ⟨Ao41, co41, eo41⟩ := Kd.R_slice HO421.out; subst eo41; have := bcell BK418 0; have := bcell BK418 1; have := bfz BK418 0; have := bfz BK418 1))
  refine bodyPost_ret (results_ct rfl _ _ gb418 34 #[.int .i64 0, .int .i64 0] (0, 0) _ rfl (by (with_reducible repeat refine bu ?_); refine blk_put (cs := #[.int .i64 0, .int .i64 0]) ?_ 1 _ rfl; (with_reducible repeat refine bu ?_); refine blk_put (cs := #[.int .i64 0, .int .i64 0]) ?_ 0 _ rfl; (with_reducible repeat refine bu ?_); exact BK418.out) Tryz.underlying34 rfl (by kernel_rfl)) rfl ?_
  exact ⟨fi_, m2_⟩
def spec_LinSays.j0 : Nat → ByteArray → Bool → Option (Int × Int × Bool)
 | 0, _, _ => none
 | k + 1, x0, x13 => if x13 = true then (some (0, 0, false)) else (if 5 ≤ (x0.size : Int) then ((spec_EndRead.f k (x0.extract 5 x0.size)).bind fun bt429 => (if bt429.2.2 = true then ((spec_EndInside.f bt429.1 bt429.2.1).bind fun t433 => (if t433 = true then (some (bt429.1, bt429.2.1, true)) else (some (0, 0, false)))) else (some (0, 0, false)))) else (none))
def spec_LinSays.f (k : Nat) (a0 : ByteArray) : Option (Int × Int × Bool) := if (a0.size : Int) < 5 then (spec_LinSays.j0 k a0 true) else (if 0 ≤ 5 then (if 5 ≤ (a0.size : Int) then (spec_LinSays.j0 k a0 ((a0.extract 0 5).toList != ([112, 111, 114, 116, 32] : List UInt8))) else (none)) else (none))
theorem spec_LinSays.mono_l : ∀ k, (∀ y0 y1, LeO (spec_LinSays.j0 k y0 y1) (spec_LinSays.j0 (k + 1) y0 y1))
 | 0 => fun _ _ r h => by simp [spec_LinSays.j0] at h
 | k + 1 => by
  have ih0 := spec_LinSays.mono_l k
  ·intro y0 y1
   unfold spec_LinSays.j0
   repeat' first | (with_reducible first | exact ih0 _ _ | exact spec_EndRead.mono _ _ | exact LeO.refl _ | exact LeO.none _ | refine LeO.ite ?_ ?_ | refine LeO.bind ?_ (fun _ => ?_)) | exact ih0 _ _ | exact spec_EndRead.mono _ _ | exact LeO.none _ | refine LeO.ite ?_ ?_ | refine LeO.bind ?_ (fun _ => ?_)
theorem spec_LinSays.mono : ∀ a0 k, LeO (spec_LinSays.f k a0) (spec_LinSays.f (k + 1) a0) := by
 intro a0 k
 have ih0 := spec_LinSays.mono_l k
 unfold spec_LinSays.f
 repeat' first | (with_reducible first | exact ih0 _ _ | exact spec_EndRead.mono _ _ | exact LeO.refl _ | exact LeO.none _ | refine LeO.ite ?_ ?_ | refine LeO.bind ?_ (fun _ => ?_)) | exact ih0 _ _ | exact spec_EndRead.mono _ _ | exact LeO.none _ | refine LeO.ite ?_ ?_ | refine LeO.bind ?_ (fun _ => ?_)
set_option maxHeartbeats 8000000 in
set_option maxRecDepth 100000 in
theorem spec_LinSays.calls (k : Nat) (a0 : ByteArray) (r1 : Int) (r2 : Int) (r3 : Bool) (w : World) (h : spec_LinSays.f k a0 = some (r1, r2, r3)) :
  Calls Tryz.prog 79 #[.string a0] w fun e w' => e = .returned (.tuple #[.agg #[.int .i64 r1, .int .i64 r2], .bool r3]) ∧ Below w.heap.size w w' := by
 have hu34 := Tryz.underlying34
 have HB := am (Below.refl w.heap.size w)
 have H : (if (a0.size : Int) < 5 then (spec_LinSays.j0 k a0 true) else (if 0 ≤ 5 then (if 5 ≤ (a0.size : Int) then (spec_LinSays.j0 k a0 ((a0.extract 0 5).toList != ([112, 111, 114, 116, 32] : List UInt8))) else (none)) else (none))) = some (r1, r2, r3) := h
 clear h
 have HC2 := am H
 clear H
 go_enter Tryz.func79, Tryz.ntmps79
 go_upto_region 1 with (first | ((with_reducible refine gate_dst (N := 2) rfl ?_); refine box_event rfl (N := 2) rfl (cs := #[.int .i64 0, .int .i64 0]) (t := 34) hr_ ?_; intro gb428 hg w3 hbox hb; have BK428 := am hbox; have GW428 := gwE HB hg; have GE428 := gwE HB hg; replace HB := hbS HB hb; clear hb hbox hg))
 (try simp only [Act.put, List.setIfInBounds_toArray, List.set_cons_zero, List.set_cons_succ])
 go_cut [13] (fun v13 wc => ∃ (kq : Nat) (x13_1 : Bool), v13 = .bool x13_1 ∧ Aside0 (spec_LinSays.j0 kq a0 x13_1 = some (r1, r2, r3)) ∧ Aside0 (kq ≤ k) ∧ Aside0 (wc.heap[gb428]? = some (.cells #[.int .i64 0, .int .i64 0] 34 (0, 0))) ∧ Aside0 (Below w.heap.size w wc))
 case first =>
  have H := HC2.out
  clear HC2
  by_cases c4 : (a0.size : Int) < 5
  ·rw [if_pos c4] at H
   have c4b0 : decide ((a0.size : Int) < 5) = true := decide_eq_true c4
   have c4b1 : decide (a0.size < 5) = true := decide_eq_true (by omega)
   clear c4
   (first | rw [c4b0] | (simp only [i64_w, i32_w]; rw [c4b0]) | skip)
   have H' := am H
   clear H
   go_wp2
   go_meet
   case rel => exact ⟨_, (true), rs_, H', ⟨by first | omega | exact Nat.le_refl _⟩, ⟨bk BK428⟩, ⟨m2_⟩⟩
  ·rw [if_neg c4] at H
   have c4b0 : decide ((a0.size : Int) < 5) = false := decide_eq_false c4
   have c4b1 : decide (a0.size < 5) = false := decide_eq_false (by omega)
   clear c4
   (first | rw [c4b0] | (simp only [i64_w, i32_w]; rw [c4b0]) | skip)
   by_cases c5 : 0 ≤ 5
   ·rw [if_pos c5] at H
    have c5b0 := eq_true c5
    have c5b1 : decide (0 ≤ 5) = true := decide_eq_true c5
    clear c5
    by_cases c6 : 5 ≤ (a0.size : Int)
    ·rw [if_pos c6] at H
     have c6b0 := eq_true c6
     have c6b1 : decide (5 ≤ (a0.size : Int)) = true := decide_eq_true c6
     clear c6
     have H' := am H
     clear H
     go_wp2
     go_meet
     case rel => exact ⟨_, (((a0.extract 0 5).toList != ([112, 111, 114, 116, 32] : List UInt8))), rs_, H', ⟨by first | omega | exact Nat.le_refl _⟩, ⟨bk BK428⟩, ⟨m2_⟩⟩
    ·rw [if_neg c6] at H
     exact absurd H (by simp)
   ·rw [if_neg c5] at H
    exact absurd H (by simp)
 case rest =>
  clear HC2
  try clear p2
  try clear c4
  try clear c4b0
  try clear c4b1
  try clear c5
  try clear c5b0
  try clear c5b1
  try clear c6
  try clear c6b0
  try clear c6b1
  obtain ⟨kq, x13_1, rfl, HA, HJ1, BK428, HB⟩ := hcut
  cases kq with
  | zero => exact absurd HA.out (by simp [spec_LinSays.j0])
  | succ kj1 =>
   have H := HA.out
   clear HA
   simp only [spec_LinSays.j0] at H
   by_cases c7 : x13_1 = true
   ·subst c7
    have H1 : (some (0, 0, false)) = some (r1, r2, r3) := by rw [if_pos rfl] at H; exact H
    clear H
    have H := H1
    clear H1
    simp only [Option.some.injEq, Prod.mk.injEq] at H
    obtain ⟨rfl, rfl, rfl⟩ := H
    have := bcell BK428 0
    have := bcell BK428 1
    have := bfz BK428 0
    have := bfz BK428 1
    go_wp2
    refine bodyPost_ret (results_ct rfl _ _ gb428 34 #[.int .i64 0, .int .i64 0] (0, 0) _ rfl (by (with_reducible repeat refine bu ?_); refine blk_put (cs := #[.int .i64 0, .int .i64 0]) ?_ 1 _ rfl; (with_reducible repeat refine bu ?_); refine blk_put (cs := #[.int .i64 0, .int .i64 0]) ?_ 0 _ rfl; (with_reducible repeat refine bu ?_); exact BK428.out) Tryz.underlying34 rfl (by kernel_rfl)) rfl ?_
    exact ⟨fi_, m2_⟩
   ·replace c7 := Bool.eq_false_iff.mpr c7
    subst c7
    have H1 : (if 5 ≤ (a0.size : Int) then ((spec_EndRead.f kj1 (a0.extract 5 a0.size)).bind fun bt429 => (if bt429.2.2 = true then ((spec_EndInside.f bt429.1 bt429.2.1).bind fun t433 => (if t433 = true then (some (bt429.1, bt429.2.1, true)) else (some (0, 0, false)))) else (some (0, 0, false)))) else (none)) = some (r1, r2, r3) := by rw [if_neg (show ¬ (false = true) by decide)] at H; exact H
    clear H
    have H := H1
    clear H1
    by_cases c9 : 5 ≤ (a0.size : Int)
    ·rw [if_pos c9] at H
     have c9b0 := eq_true c9
     have c9b1 : decide (5 ≤ (a0.size : Int)) = true := decide_eq_true c9
     clear c9
     obtain ⟨⟨t429, t430, t431⟩, A10, H⟩ := bse H
     try dsimp only at H
     by_cases c11 : t431 = true
     ·subst c11
      have H1 : ((spec_EndInside.f t429 t430).bind fun t433 => (if t433 = true then (some (t429, t430, true)) else (some (0, 0, false)))) = some (r1, r2, r3) := by rw [if_pos rfl] at H; exact H
      clear H
      have H := H1
      clear H1
      obtain ⟨t433, A12, H⟩ := bse H
      try dsimp only at H
      by_cases c13 : t433 = true
      ·subst c13
       have H1 : (some (t429, t430, true)) = some (r1, r2, r3) := by rw [if_pos rfl] at H; exact H
       clear H
       have H := H1
       clear H1
       simp only [Option.some.injEq, Prod.mk.injEq] at H
       obtain ⟨rfl, rfl, rfl⟩ := H
       go_wp2_with (first | ((with_reducible refine gate_callee (f := 107) rfl ?_); refine gL (some 18) Tryz.func107 #[.string (a0.extract 5 a0.size)] ?_; (with_reducible refine (spec_EndRead.calls kj1 (a0.extract 5 a0.size) t429 t430 true _ A10.out).mono ?_); rintro e w14 ⟨rfl, hb⟩; refine ⟨_, rfl, ?_⟩; replace BK428 := bkB BK428 hb; replace HB := hbS HB hb; (try clear hb)) | ((with_reducible refine gate_dst (N := 4) rfl ?_); refine box_event rfl (N := 4) rfl (cs := #[.int .i64 0, .int .i64 0]) (t := 34) hr_ ?_; intro gb432 hg w15 hbox hb; have BK432 := am hbox; have GW432 := gwE HB hg; have GE432 := gwE HB hg; replace HB := hbS HB hb; have NB428_432 := neL BK428 hg; have NB432_428 := neG BK428 hg; replace BK428 := bkB BK428 hb; clear hb hbox hg; have := NB432_428.out; have := NB428_432.out; have := bcell BK432 0; have := bcell BK432 1; have := bfz BK432 0; have := bfz BK432 1) | (go_at_call 48; (with_reducible refine (spec_EndInside.calls t429 t430 true _ A12.out).mono ?_); rintro e w18 ⟨rfl, hb⟩; replace BK428 := am (blk_below (g := gb428) (o := .cells #[.int .i64 0, .int .i64 0] 34 (0, 0)) (by (with_reducible repeat refine bu ?_); refine blk_far ?_ NB428_432.out _; (with_reducible repeat refine bu ?_); refine blk_far ?_ NB428_432.out _; (with_reducible repeat refine bu ?_); exact BK428.out) hb); replace BK432 := am (blk_below (g := gb432) (o := .cells #[.int .i64 t429, .int .i64 t430] 34 (0, 0)) (by (with_reducible repeat refine bu ?_); refine blk_put (cs := #[.int .i64 t429, .int .i64 0]) ?_ 1 _ rfl; (with_reducible repeat refine bu ?_); refine blk_put (cs := #[.int .i64 0, .int .i64 0]) ?_ 0 _ rfl; (with_reducible repeat refine bu ?_); exact BK432.out) hb); replace HB := hbS HB hb; (try clear hb); have := bcell BK432 0; have := bcell BK432 1; have := bfz BK432 0; have := bfz BK432 1; have := bcell BK428 0; have := bcell BK428 1; have := bfz BK428 0; have := bfz BK428 1))
       refine bodyPost_ret (results_ct rfl _ _ gb428 34 #[.int .i64 t429, .int .i64 t430] (0, 0) _ rfl (by (with_reducible repeat refine bu ?_); refine blk_put (cs := #[.int .i64 t429, .int .i64 0]) ?_ 1 _ rfl; (with_reducible repeat refine bu ?_); refine blk_put (cs := #[.int .i64 0, .int .i64 0]) ?_ 0 _ rfl; (with_reducible repeat refine bu ?_); exact BK428.out) Tryz.underlying34 rfl (by kernel_rfl)) rfl ?_
       exact ⟨fi_, m2_⟩
      ·replace c13 := Bool.eq_false_iff.mpr c13
       subst c13
       have H1 : (some (0, 0, false)) = some (r1, r2, r3) := by rw [if_neg (show ¬ (false = true) by decide)] at H; exact H
       clear H
       have H := H1
       clear H1
       simp only [Option.some.injEq, Prod.mk.injEq] at H
       obtain ⟨rfl, rfl, rfl⟩ := H
       go_wp2_with (first | ((with_reducible refine gate_callee (f := 107) rfl ?_); refine gL (some 18) Tryz.func107 #[.string (a0.extract 5 a0.size)] ?_; (with_reducible refine (spec_EndRead.calls kj1 (a0.extract 5 a0.size) t429 t430 true _ A10.out).mono ?_); rintro e w21 ⟨rfl, hb⟩; refine ⟨_, rfl, ?_⟩; replace BK428 := bkB BK428 hb; replace HB := hbS HB hb; (try clear hb)) | ((with_reducible refine gate_dst (N := 4) rfl ?_); refine box_event rfl (N := 4) rfl (cs := #[.int .i64 0, .int .i64 0]) (t := 34) hr_ ?_; intro gb432 hg w22 hbox hb; have BK432 := am hbox; have GW432 := gwE HB hg; have GE432 := gwE HB hg; replace HB := hbS HB hb; have NB428_432 := neL BK428 hg; have NB432_428 := neG BK428 hg; replace BK428 := bkB BK428 hb; clear hb hbox hg; have := NB432_428.out; have := NB428_432.out; have := bcell BK432 0; have := bcell BK432 1; have := bfz BK432 0; have := bfz BK432 1) | (go_at_call 48; (with_reducible refine (spec_EndInside.calls t429 t430 false _ A12.out).mono ?_); rintro e w25 ⟨rfl, hb⟩; replace BK428 := am (blk_below (g := gb428) (o := .cells #[.int .i64 0, .int .i64 0] 34 (0, 0)) (by (with_reducible repeat refine bu ?_); refine blk_far ?_ NB428_432.out _; (with_reducible repeat refine bu ?_); refine blk_far ?_ NB428_432.out _; (with_reducible repeat refine bu ?_); exact BK428.out) hb); replace BK432 := am (blk_below (g := gb432) (o := .cells #[.int .i64 t429, .int .i64 t430] 34 (0, 0)) (by (with_reducible repeat refine bu ?_); refine blk_put (cs := #[.int .i64 t429, .int .i64 0]) ?_ 1 _ rfl; (with_reducible repeat refine bu ?_); refine blk_put (cs := #[.int .i64 0, .int .i64 0]) ?_ 0 _ rfl; (with_reducible repeat refine bu ?_); exact BK432.out) hb); replace HB := hbS HB hb; (try clear hb); have := bcell BK428 0; have := bcell BK428 1; have := bfz BK428 0; have := bfz BK428 1))
       refine bodyPost_ret (results_ct rfl _ _ gb428 34 #[.int .i64 0, .int .i64 0] (0, 0) _ rfl (by (with_reducible repeat refine bu ?_); refine blk_put (cs := #[.int .i64 0, .int .i64 0]) ?_ 1 _ rfl; (with_reducible repeat refine bu ?_); refine blk_put (cs := #[.int .i64 0, .int .i64 0]) ?_ 0 _ rfl; (with_reducible repeat refine bu ?_); exact BK428.out) Tryz.underlying34 rfl (by kernel_rfl)) rfl ?_
       exact ⟨fi_, m2_⟩
     ·replace c11 := Bool.eq_false_iff.mpr c11
      subst c11
      have H1 : (some (0, 0, false)) = some (r1, r2, r3) := by rw [if_neg (show ¬ (false = true) by decide)] at H; exact H
      clear H
      have H := H1
      clear H1
      simp only [Option.some.injEq, Prod.mk.injEq] at H
      obtain ⟨rfl, rfl, rfl⟩ := H
      go_wp2_with (first | ((with_reducible refine gate_callee (f := 107) rfl ?_); refine gL (some 18) Tryz.func107 #[.string (a0.extract 5 a0.size)] ?_; (with_reducible refine (spec_EndRead.calls kj1 (a0.extract 5 a0.size) t429 t430 false _ A10.out).mono ?_); rintro e w27 ⟨rfl, hb⟩; refine ⟨_, rfl, ?_⟩; replace BK428 := bkB BK428 hb; replace HB := hbS HB hb; (try clear hb)) | ((with_reducible refine gate_dst (N := 4) rfl ?_); refine box_event rfl (N := 4) rfl (cs := #[.int .i64 0, .int .i64 0]) (t := 34) hr_ ?_; intro gb432 hg w28 hbox hb; have BK432 := am hbox; have GW432 := gwE HB hg; have GE432 := gwE HB hg; replace HB := hbS HB hb; have NB428_432 := neL BK428 hg; have NB432_428 := neG BK428 hg; replace BK428 := bkB BK428 hb; clear hb hbox hg; have := NB432_428.out; have := NB428_432.out; have := bcell BK432 0; have := bcell BK432 1; have := bfz BK432 0; have := bfz BK432 1; have := bcell BK428 0; have := bcell BK428 1; have := bfz BK428 0; have := bfz BK428 1))
      refine bodyPost_ret (results_ct rfl _ _ gb428 34 #[.int .i64 0, .int .i64 0] (0, 0) _ rfl (by (with_reducible repeat refine bu ?_); refine blk_put (cs := #[.int .i64 0, .int .i64 0]) ?_ 1 _ rfl; (with_reducible repeat refine bu ?_); refine blk_put (cs := #[.int .i64 0, .int .i64 0]) ?_ 0 _ rfl; (with_reducible repeat refine bu ?_); refine blk_far ?_ NB428_432.out _; (with_reducible repeat refine bu ?_); refine blk_far ?_ NB428_432.out _; (with_reducible repeat refine bu ?_); exact BK428.out) Tryz.underlying34 rfl (by kernel_rfl)) rfl ?_
      exact ⟨fi_, m2_⟩
    ·rw [if_neg c9] at H
     exact absurd H (by simp)
def spec_l3Line.f (k : Nat) (l0_0 : List (S34)) (a1 : ByteArray) : Option ((List (S34)) × ByteArray) := (spec_LinSays.f k a1).bind fun bt436 => (if bt436.2.2 = true then ((spec_l3Put.f k l0_0 bt436.1 bt436.2.1).bind fun bt440 => (if bt440.2 = 0 then (some (bt440.1, (⟨#[110, 111, 110, 101]⟩ : ByteArray))) else ((spec_LinPort.f k 50 bt440.2).bind fun t445 => (some (bt440.1, t445))))) else (some (l0_0, a1)))
theorem spec_l3Line.mono : ∀ a0 a1 k, LeO (spec_l3Line.f k a0 a1) (spec_l3Line.f (k + 1) a0 a1) := by
 intro a0 a1 k
 unfold spec_l3Line.f
 repeat' first | (with_reducible first | exact spec_LinPort.mono _ _ _ | exact spec_LinSays.mono _ _ | exact spec_l3Put.mono _ _ _ _ | exact LeO.refl _ | exact LeO.none _ | refine LeO.ite ?_ ?_ | refine LeO.bind ?_ (fun _ => ?_)) | exact spec_LinPort.mono _ _ _ | exact spec_LinSays.mono _ _ | exact spec_l3Put.mono _ _ _ _ | exact LeO.none _ | refine LeO.ite ?_ ?_ | refine LeO.bind ?_ (fun _ => ?_)
set_option maxHeartbeats 8000000 in
set_option maxRecDepth 100000 in
theorem spec_l3Line.calls (k : Nat) (P0_0_ : Nat → Prop) (u9000_ : Value) (l0_0 : List (S34)) (a1 : ByteArray) (r1 : List (S34)) (r2 : ByteArray) (w0 w : World) (hB : Below w0.heap.size w0 w) (ho0_0 : Kd.R k34 34 w w0.heap.size P0_0_ u9000_ l0_0) (h : spec_l3Line.f k l0_0 a1 = some (r1, r2)) :
  Calls Tryz.prog 46 #[.agg #[u9000_], .string a1] w fun e w' => ∃ v0_ : Value, e = .returned (.tuple #[.agg #[v0_], .string r2]) ∧ Kd.R k34 34 w' w0.heap.size (fun k_ => (P0_0_ k_ ∨ w.heap.size ≤ k_)) v0_ r1 ∧ Below w0.heap.size w0 w' ∧ Kept w w' (fun k_ => P0_0_ k_) := by
 have hu25 := Tryz.underlying25
 have hu34 := Tryz.underlying34
 have HO0_0 := am (show Kd.R k34 34 w w0.heap.size (fun k_ => (P0_0_ k_ ∨ w.heap.size ≤ k_)) u9000_ l0_0 from Kd.R_mono ho0_0 (fun k_ hk => (.inl hk)))
 have HK := am (Kept.refl w (fun k_ => P0_0_ k_))
 have HW0 := am hB.size
 have HB := am hB
 clear hB
 have H : ((spec_LinSays.f k a1).bind fun bt436 => (if bt436.2.2 = true then ((spec_l3Put.f k l0_0 bt436.1 bt436.2.1).bind fun bt440 => (if bt440.2 = 0 then (some (bt440.1, (⟨#[110, 111, 110, 101]⟩ : ByteArray))) else ((spec_LinPort.f k 50 bt440.2).bind fun t445 => (some (bt440.1, t445))))) else (some (l0_0, a1)))) = some (r1, r2) := h
 clear h
 obtain ⟨⟨t436, t437, t438⟩, A3, H⟩ := bse H
 try dsimp only at H
 by_cases c4 : t438 = true
 ·subst c4
  have H1 : ((spec_l3Put.f k l0_0 t436 t437).bind fun bt440 => (if bt440.2 = 0 then (some (bt440.1, (⟨#[110, 111, 110, 101]⟩ : ByteArray))) else ((spec_LinPort.f k 50 bt440.2).bind fun t445 => (some (bt440.1, t445))))) = some (r1, r2) := by rw [if_pos rfl] at H; exact H
  clear H
  have H := H1
  clear H1
  obtain ⟨⟨t440, t443⟩, A5, H⟩ := bse H
  try dsimp only at H
  by_cases c6 : t443 = 0
  ·rw [if_pos c6] at H
   have c6b0 : (t443 == 0) = true := beq_iff_eq.mpr c6
   have c6b1 : (t443 != 0) = false := bne_eq_false_iff_eq.mpr c6
   clear c6
   simp only [Option.some.injEq, Prod.mk.injEq] at H
   obtain ⟨rfl, rfl⟩ := H
   obtain ⟨Ao7, co7, eo7⟩ := Kd.R_slice HO0_0.out
   subst eo7
   go_enter Tryz.func46, Tryz.ntmps46
   go_wp2_with (first | ((with_reducible refine gate_dst (N := 2) rfl ?_); refine box_event rfl (N := 2) rfl (cs := #[.slice Ao7 l0_0.length co7]) (t := 25) hr_ ?_; intro gb434 hg w8 hbox hb; replace HO0_0 := am (Kd.R_below (rs HO0_0) hb); have BK434 := am hbox; have GW434 := am ((by rw [hg]; exact (by first | exact HK.out.1 | exact (show Kept w _ (fun k_ => P0_0_ k_) from m15_).1) : w.heap.size ≤ gb434)); replace HK := am (Kept.below (S := (fun k_ => P0_0_ k_)) m15_ hb); have GE434 := gwE HB hg; replace HB := hbS HB hb; clear hb hbox hg) | ((with_reducible refine gate_dst (N := 4) rfl ?_); refine box_event rfl (N := 4) rfl (cs := #[.slice none 0 0]) (t := 25) hr_ ?_; intro gb435 hg w9 hbox hb; replace HO0_0 := am (Kd.R_below (rs HO0_0) hb); have BK435 := am hbox; have GW435 := am ((by rw [hg]; exact (by first | exact HK.out.1 | exact (show Kept w _ (fun k_ => P0_0_ k_) from m16_).1) : w.heap.size ≤ gb435)); replace HK := am (Kept.below (S := (fun k_ => P0_0_ k_)) m16_ hb); have GE435 := gwE HB hg; replace HB := hbS HB hb; have NB434_435 := neL BK434 hg; have NB435_434 := neG BK434 hg; replace BK434 := bkB BK434 hb; clear hb hbox hg) | ((with_reducible refine gate_callee (f := 79) rfl ?_); refine gL (some 12) Tryz.func79 #[.string a1] ?_; (with_reducible refine (spec_LinSays.calls k a1 t436 t437 true _ A3.out).mono ?_); rintro e w10 ⟨rfl, hb⟩; refine ⟨_, rfl, ?_⟩; replace HO0_0 := am (Kd.R_below (rs HO0_0) hb); replace BK434 := bkB BK434 hb; replace BK435 := bkB BK435 hb; replace HK := am (Kept.below (S := (fun k_ => P0_0_ k_)) m16_ hb); replace HB := hbS HB hb; (try clear hb)) | ((with_reducible refine gate_dst (N := 6) rfl ?_); refine box_event rfl (N := 6) rfl (cs := #[.int .i64 0, .int .i64 0]) (t := 34) hr_ ?_; intro gb439 hg w11 hbox hb; replace HO0_0 := am (Kd.R_below (Kd.R_elderB (rs HO0_0) gb439 (Nat.le_of_eq hg.symm)) hb); have BK439 := am hbox; have GW439 := am ((by rw [hg]; exact (by first | exact HK.out.1 | exact (show Kept w _ (fun k_ => P0_0_ k_) from m16_).1) : w.heap.size ≤ gb439)); replace HK := am (Kept.below (S := (fun k_ => P0_0_ k_)) m16_ hb); have GE439 := gwE HB hg; replace HB := hbS HB hb; have NB434_439 := neL BK434 hg; have NB439_434 := neG BK434 hg; replace BK434 := bkB BK434 hb; have NB435_439 := neL BK435 hg; have NB439_435 := neG BK435 hg; replace BK435 := bkB BK435 hb; clear hb hbox hg; have := NB439_434.out; have := NB434_439.out; have := NB439_435.out; have := NB435_439.out; have := bcell BK439 0; have := bcell BK439 1; have := bfz BK439 0; have := bfz BK439 1) | ((with_reducible refine gate_store (t := 34) (p := 6) rfl ?_); refine store_event (t := 34) (p := 6) (v := ?vo_w15) (w1 := ((w11.setCell ⟨gb439, 0, none⟩ (.int .i64 t436)).setCell ⟨gb439, 1, none⟩ (.int .i64 t437))) ?hg ?ho ?hn ?hr ?_; (case ho => rfl); (case hg => rfl); (case hn => rfl); (case hr => first | (go_simp; done) | (go_simp; rfl)); intro w15 hw; have n0_ : Aside0 (Kd.R k34 34 w15 w0.heap.size (fun k_ => (P0_0_ k_ ∨ w.heap.size ≤ k_) ∧ k_ ≠ gb439) (.slice Ao7 l0_0.length co7) l0_0) := ⟨(by rw [hw]; exact (by (with_reducible repeat apply ru); exact Kd.R_mono (Kd.R_far (p := ⟨gb439, 1, none⟩) (Kd.R_far (p := ⟨gb439, 0, none⟩) (Kd.R_mono HO0_0.out (fun k_ hk => (⟨hk, hk.2⟩ : _ ∧ k_ ≠ gb439))) (fun _ hk => hk.2) (.int .i64 t436)) (fun _ hk => hk.2) (.int .i64 t437)) ok_))⟩; have n1_ : Aside0 (w15.heap[gb434]? = some (.cells #[.slice Ao7 l0_0.length co7] 25 (0, 0))) := ⟨(by rw [hw]; exact (by (with_reducible repeat refine bu ?_); refine blk_far ?_ NB434_439.out _; (with_reducible repeat refine bu ?_); refine blk_far ?_ NB434_439.out _; (with_reducible repeat refine bu ?_); exact BK434.out))⟩; have n2_ : Aside0 (w15.heap[gb435]? = some (.cells #[.slice none 0 0] 25 (0, 0))) := ⟨(by rw [hw]; exact (by (with_reducible repeat refine bu ?_); refine blk_far ?_ NB435_439.out _; (with_reducible repeat refine bu ?_); refine blk_far ?_ NB435_439.out _; (with_reducible repeat refine bu ?_); exact BK435.out))⟩; have n3_ : Aside0 (w15.heap[gb439]? = some (.cells #[.int .i64 t436, .int .i64 t437] 34 (0, 0))) := ⟨(by rw [hw]; exact (by (with_reducible repeat refine bu ?_); refine blk_put (cs := #[.int .i64 t436, .int .i64 0]) ?_ 1 _ rfl; (with_reducible repeat refine bu ?_); refine blk_put (cs := #[.int .i64 0, .int .i64 0]) ?_ 0 _ rfl; (with_reducible repeat refine bu ?_); exact BK439.out))⟩; have n4_ : Aside0 (Kept w w15 (fun k_ => P0_0_ k_)) := ⟨(by rw [hw]; exact m16_)⟩; have n5_ : Aside0 (Below w0.heap.size w0 w15) := ⟨(by rw [hw]; exact (bl HB))⟩; clear hw; clear HO0_0; clear BK434; clear BK435; clear BK439; clear HK; clear HB; have HO0_0 := n0_; have BK434 := n1_; have BK435 := n2_; have BK439 := n3_; have HK := n4_; have HB := n5_; clear n0_ n1_ n2_ n3_ n4_ n5_; have := NB434_435.out; have := NB435_434.out; have := bcell BK434 0; have := bfz BK434 0; have := bcell BK439 0; have := bcell BK439 1; have := bfz BK439 0; have := bfz BK439 1) | ((with_reducible refine gate_callee (f := 80) rfl ?_); refine gL (some 22) Tryz.func80 #[.agg #[.slice Ao7 l0_0.length co7], .agg #[.int .i64 t436, .int .i64 t437]] ?_; (with_reducible refine (spec_l3Put.calls k (fun k_ => some k_ = (.slice Ao7 l0_0.length co7 : Value).ownBlock) (.slice Ao7 l0_0.length co7) l0_0 t436 t437 t440 t443 w0 _ ?side1 ?side2 A5.out).mono ?_); (case side1 => exact m2_); (case side2 => exact Kd.R_tight rfl HO0_0.out); rintro e w19 ⟨v441, rfl, ho0, hb, hkp⟩; refine ⟨_, rfl, ?_⟩; replace BK434 := am (blk_kept (bk BK434) hkp (fun hs_ => (fun e_ => (Kd.R_ne HO0_0.out BK434.out (by decide)) e_) hs_)); replace BK435 := am (blk_kept (bk BK435) hkp (fun hs_ => (fun e_ => (Kd.R_ne HO0_0.out BK435.out (by decide)) e_) hs_)); have HO442 := am (Kd.R_mono (ok' := fun k_ => (P0_0_ k_ ∨ w.heap.size ≤ k_) ∧ k_ ≠ gb439) ho0 (fun k_ hk_ => ⟨Or.elim hk_ (fun hs_ => (HO0_0.out.1 k_ (hs_).symm).1) (fun hn_ => (.inr (Nat.le_trans (by first | exact HK.out.1 | exact (show Kept w _ (fun k_ => P0_0_ k_) from m16_).1) hn_))), Or.elim hk_ (fun hs_ => fun e_ => (Kd.R_away HO0_0.out (fun _ hk => hk.2)) (by rw [← e_]; exact hs_)) (fun hn_ => (Kd.freshB (g := gb439) (o := .cells #[.int .i64 t436, .int .i64 t437] 34 (0, 0)) (bk BK439) k_ hn_))⟩)); replace BK439 := am (blk_kept (bk BK439) hkp (fun hs_ => (fun e_ => (Kd.R_away HO0_0.out (fun _ hk => hk.2)) e_) hs_)); replace HK := am (Kept.then_ (S := (fun k_ => P0_0_ k_)) m16_ hkp (fun k_ hs_ => (fun e_ => (HO0_0.out.1 k_ e_.symm).1) hs_)); replace HB := am hb; clear HO0_0; (try clear hb); (try clear hkp); (try clear ho0)) | ((with_reducible refine gate_dst (N := 8) rfl ?_); refine box_event rfl (N := 8) rfl (cs := #[.slice none 0 0]) (t := 25) hr_ ?_; intro gb444 hg w20 hbox hb; replace HO442 := am (Kd.R_below (rs HO442) hb); have BK444 := am hbox; have GW444 := am ((by rw [hg]; exact (by first | exact HK.out.1 | exact (show Kept w _ (fun k_ => P0_0_ k_) from m16_).1) : w.heap.size ≤ gb444)); replace HK := am (Kept.below (S := (fun k_ => P0_0_ k_)) m16_ hb); have GE444 := gwE HB hg; replace HB := hbS HB hb; have NB434_444 := neL BK434 hg; have NB444_434 := neG BK434 hg; replace BK434 := bkB BK434 hb; have NB435_444 := neL BK435 hg; have NB444_435 := neG BK435 hg; replace BK435 := bkB BK435 hb; have NB439_444 := neL BK439 hg; have NB444_439 := neG BK439 hg; replace BK439 := bkB BK439 hb; clear hb hbox hg; obtain ⟨Ao21, co21, eo21⟩ := Kd.R_slice HO442.out; subst eo21; have := NB444_434.out; have := NB434_444.out; have := NB444_435.out; have := NB435_444.out; have := NB444_439.out; have := NB439_444.out; have := bcell BK444 0; have := bfz BK444 0; have := bcell BK435 0; have := bfz BK435 0))
   refine bodyPost_ret (results_ct rfl _ _ gb435 25 #[.slice Ao21 t440.length co21] (0, 0) _ rfl (by (with_reducible repeat refine bu ?_); refine blk_put (cs := #[.slice none 0 0]) ?_ 0 _ rfl; (with_reducible repeat refine bu ?_); refine blk_far ?_ NB435_444.out _; (with_reducible repeat refine bu ?_); exact BK435.out) Tryz.underlying25 rfl (by kernel_rfl)) rfl ?_
   exact ⟨_, fi_, by (with_reducible repeat apply ru); exact Kd.R_mono (Kd.R_far (p := ⟨gb435, 0, none⟩) (Kd.R_far (p := ⟨gb444, 0, none⟩) (Kd.R_types (Kd.R_types HO442.out BK444.out (by decide)) BK435.out (by decide)) (fun _ hk => hk.1.2) (.slice Ao21 t440.length co21)) (fun _ hk => hk.2) (.slice Ao21 t440.length co21)) (fun _ hk => hk.1.1.1), m2_, m16_⟩
  ·rw [if_neg c6] at H
   have c6b0 : (t443 == 0) = false := beq_eq_false_iff_ne.mpr c6
   have c6b1 : (t443 != 0) = true := bne_iff_ne.mpr c6
   obtain ⟨t445, A27, H⟩ := bse H
   try dsimp only at H
   simp only [Option.some.injEq, Prod.mk.injEq] at H
   obtain ⟨rfl, rfl⟩ := H
   obtain ⟨Ao28, co28, eo28⟩ := Kd.R_slice HO0_0.out
   subst eo28
   go_enter Tryz.func46, Tryz.ntmps46
   try go_wp2_with (first | ((with_reducible refine gate_dst (N := 2) rfl ?_); refine box_event rfl (N := 2) rfl (cs := #[.slice Ao28 l0_0.length co28]) (t := 25) hr_ ?_; intro gb434 hg w29 hbox hb; replace HO0_0 := am (Kd.R_below (rs HO0_0) hb); have BK434 := am hbox; have GW434 := am ((by rw [hg]; exact (by first | exact HK.out.1 | exact (show Kept w _ (fun k_ => P0_0_ k_) from m15_).1) : w.heap.size ≤ gb434)); replace HK := am (Kept.below (S := (fun k_ => P0_0_ k_)) m15_ hb); have GE434 := gwE HB hg; replace HB := hbS HB hb; clear hb hbox hg) | ((with_reducible refine gate_dst (N := 4) rfl ?_); refine box_event rfl (N := 4) rfl (cs := #[.slice none 0 0]) (t := 25) hr_ ?_; intro gb435 hg w30 hbox hb; replace HO0_0 := am (Kd.R_below (rs HO0_0) hb); have BK435 := am hbox; have GW435 := am ((by rw [hg]; exact (by first | exact HK.out.1 | exact (show Kept w _ (fun k_ => P0_0_ k_) from m16_).1) : w.heap.size ≤ gb435)); replace HK := am (Kept.below (S := (fun k_ => P0_0_ k_)) m16_ hb); have GE435 := gwE HB hg; replace HB := hbS HB hb; have NB434_435 := neL BK434 hg; have NB435_434 := neG BK434 hg; replace BK434 := bkB BK434 hb; clear hb hbox hg) | ((with_reducible refine gate_callee (f := 79) rfl ?_); refine gL (some 12) Tryz.func79 #[.string a1] ?_; (with_reducible refine (spec_LinSays.calls k a1 t436 t437 true _ A3.out).mono ?_); rintro e w31 ⟨rfl, hb⟩; refine ⟨_, rfl, ?_⟩; replace HO0_0 := am (Kd.R_below (rs HO0_0) hb); replace BK434 := bkB BK434 hb; replace BK435 := bkB BK435 hb; replace HK := am (Kept.below (S := (fun k_ => P0_0_ k_)) m16_ hb); replace HB := hbS HB hb; (try clear hb)) | ((with_reducible refine gate_dst (N := 6) rfl ?_); refine box_event rfl (N := 6) rfl (cs := #[.int .i64 0, .int .i64 0]) (t := 34) hr_ ?_; intro gb439 hg w32 hbox hb; replace HO0_0 := am (Kd.R_below (Kd.R_elderB (rs HO0_0) gb439 (Nat.le_of_eq hg.symm)) hb); have BK439 := am hbox; have GW439 := am ((by rw [hg]; exact (by first | exact HK.out.1 | exact (show Kept w _ (fun k_ => P0_0_ k_) from m16_).1) : w.heap.size ≤ gb439)); replace HK := am (Kept.below (S := (fun k_ => P0_0_ k_)) m16_ hb); have GE439 := gwE HB hg; replace HB := hbS HB hb; have NB434_439 := neL BK434 hg; have NB439_434 := neG BK434 hg; replace BK434 := bkB BK434 hb; have NB435_439 := neL BK435 hg; have NB439_435 := neG BK435 hg; replace BK435 := bkB BK435 hb; clear hb hbox hg; have := NB439_434.out; have := NB434_439.out; have := NB439_435.out; have := NB435_439.out; have := bcell BK439 0; have := bcell BK439 1; have := bfz BK439 0; have := bfz BK439 1) | ((with_reducible refine gate_store (t := 34) (p := 6) rfl ?_); refine store_event (t := 34) (p := 6) (v := ?vo_w36) (w1 := ((w32.setCell ⟨gb439, 0, none⟩ (.int .i64 t436)).setCell ⟨gb439, 1, none⟩ (.int .i64 t437))) ?hg ?ho ?hn ?hr ?_; (case ho => rfl); (case hg => rfl); (case hn => rfl); (case hr => first | (go_simp; done) | (go_simp; rfl)); intro w36 hw; have n0_ : Aside0 (Kd.R k34 34 w36 w0.heap.size (fun k_ => (P0_0_ k_ ∨ w.heap.size ≤ k_) ∧ k_ ≠ gb439) (.slice Ao28 l0_0.length co28) l0_0) := ⟨(by rw [hw]; exact (by (with_reducible repeat apply ru); exact Kd.R_mono (Kd.R_far (p := ⟨gb439, 1, none⟩) (Kd.R_far (p := ⟨gb439, 0, none⟩) (Kd.R_mono HO0_0.out (fun k_ hk => (⟨hk, hk.2⟩ : _ ∧ k_ ≠ gb439))) (fun _ hk => hk.2) (.int .i64 t436)) (fun _ hk => hk.2) (.int .i64 t437)) ok_))⟩; have n1_ : Aside0 (w36.heap[gb434]? = some (.cells #[.slice Ao28 l0_0.length co28] 25 (0, 0))) := ⟨(by rw [hw]; exact (by (with_reducible repeat refine bu ?_); refine blk_far ?_ NB434_439.out _; (with_reducible repeat refine bu ?_); refine blk_far ?_ NB434_439.out _; (with_reducible repeat refine bu ?_); exact BK434.out))⟩; have n2_ : Aside0 (w36.heap[gb435]? = some (.cells #[.slice none 0 0] 25 (0, 0))) := ⟨(by rw [hw]; exact (by (with_reducible repeat refine bu ?_); refine blk_far ?_ NB435_439.out _; (with_reducible repeat refine bu ?_); refine blk_far ?_ NB435_439.out _; (with_reducible repeat refine bu ?_); exact BK435.out))⟩; have n3_ : Aside0 (w36.heap[gb439]? = some (.cells #[.int .i64 t436, .int .i64 t437] 34 (0, 0))) := ⟨(by rw [hw]; exact (by (with_reducible repeat refine bu ?_); refine blk_put (cs := #[.int .i64 t436, .int .i64 0]) ?_ 1 _ rfl; (with_reducible repeat refine bu ?_); refine blk_put (cs := #[.int .i64 0, .int .i64 0]) ?_ 0 _ rfl; (with_reducible repeat refine bu ?_); exact BK439.out))⟩; have n4_ : Aside0 (Kept w w36 (fun k_ => P0_0_ k_)) := ⟨(by rw [hw]; exact m16_)⟩; have n5_ : Aside0 (Below w0.heap.size w0 w36) := ⟨(by rw [hw]; exact (bl HB))⟩; clear hw; clear HO0_0; clear BK434; clear BK435; clear BK439; clear HK; clear HB; have HO0_0 := n0_; have BK434 := n1_; have BK435 := n2_; have BK439 := n3_; have HK := n4_; have HB := n5_; clear n0_ n1_ n2_ n3_ n4_ n5_; have := NB434_435.out; have := NB435_434.out; have := bcell BK434 0; have := bfz BK434 0; have := bcell BK439 0; have := bcell BK439 1; have := bfz BK439 0; have := bfz BK439 1) | ((with_reducible refine gate_callee (f := 80) rfl ?_); refine gL (some 22) Tryz.func80 #[.agg #[.slice Ao28 l0_0.length co28], .agg #[.int .i64 t436, .int .i64 t437]] ?_; (with_reducible refine (spec_l3Put.calls k (fun k_ => some k_ = (.slice Ao28 l0_0.length co28 : Value).ownBlock) (.slice Ao28 l0_0.length co28) l0_0 t436 t437 t440 t443 w0 _ ?side1 ?side2 A5.out).mono ?_); (case side1 => exact m2_); (case side2 => exact Kd.R_tight rfl HO0_0.out); rintro e w40 ⟨v441, rfl, ho0, hb, hkp⟩; refine ⟨_, rfl, ?_⟩; replace BK434 := am (blk_kept (bk BK434) hkp (fun hs_ => (fun e_ => (Kd.R_ne HO0_0.out BK434.out (by decide)) e_) hs_)); replace BK435 := am (blk_kept (bk BK435) hkp (fun hs_ => (fun e_ => (Kd.R_ne HO0_0.out BK435.out (by decide)) e_) hs_)); have HO442 := am (Kd.R_mono (ok' := fun k_ => (P0_0_ k_ ∨ w.heap.size ≤ k_) ∧ k_ ≠ gb439) ho0 (fun k_ hk_ => ⟨Or.elim hk_ (fun hs_ => (HO0_0.out.1 k_ (hs_).symm).1) (fun hn_ => (.inr (Nat.le_trans (by first | exact HK.out.1 | exact (show Kept w _ (fun k_ => P0_0_ k_) from m16_).1) hn_))), Or.elim hk_ (fun hs_ => fun e_ => (Kd.R_away HO0_0.out (fun _ hk => hk.2)) (by rw [← e_]; exact hs_)) (fun hn_ => (Kd.freshB (g := gb439) (o := .cells #[.int .i64 t436, .int .i64 t437] 34 (0, 0)) (bk BK439) k_ hn_))⟩)); replace BK439 := am (blk_kept (bk BK439) hkp (fun hs_ => (fun e_ => (Kd.R_away HO0_0.out (fun _ hk => hk.2)) e_) hs_)); replace HK := am (Kept.then_ (S := (fun k_ => P0_0_ k_)) m16_ hkp (fun k_ hs_ => (fun e_ => (HO0_0.out.1 k_ e_.symm).1) hs_)); replace HB := am hb; clear HO0_0; (try clear hb); (try clear hkp); (try clear ho0)) | ((with_reducible refine gate_dst (N := 8) rfl ?_); refine box_event rfl (N := 8) rfl (cs := #[.slice none 0 0]) (t := 25) hr_ ?_; intro gb444 hg w41 hbox hb; replace HO442 := am (Kd.R_below (rs HO442) hb); have BK444 := am hbox; have GW444 := am ((by rw [hg]; exact (by first | exact HK.out.1 | exact (show Kept w _ (fun k_ => P0_0_ k_) from m16_).1) : w.heap.size ≤ gb444)); replace HK := am (Kept.below (S := (fun k_ => P0_0_ k_)) m16_ hb); have GE444 := gwE HB hg; replace HB := hbS HB hb; have NB434_444 := neL BK434 hg; have NB444_434 := neG BK434 hg; replace BK434 := bkB BK434 hb; have NB435_444 := neL BK435 hg; have NB444_435 := neG BK435 hg; replace BK435 := bkB BK435 hb; have NB439_444 := neL BK439 hg; have NB444_439 := neG BK439 hg; replace BK439 := bkB BK439 hb; clear hb hbox hg; obtain ⟨Ao42, co42, eo42⟩ := Kd.R_slice HO442.out; subst eo42; have := NB444_434.out; have := NB434_444.out; have := NB444_435.out; have := NB435_444.out; have := NB444_439.out; have := NB439_444.out; have := bcell BK444 0; have := bfz BK444 0))
   have n0_ : Aside0 (Kd.R k34 34 (w41.setCell ⟨gb444, 0, none⟩ (.slice Ao42 t440.length co42)) w0.heap.size (fun k_ => (P0_0_ k_ ∨ w.heap.size ≤ k_) ∧ k_ ≠ gb439) (.slice Ao42 t440.length co42) t440) := ⟨by (with_reducible repeat apply ru); exact Kd.R_mono (Kd.R_far (p := ⟨gb444, 0, none⟩) (Kd.R_types HO442.out BK444.out (by decide)) (fun _ hk => hk.2) (.slice Ao42 t440.length co42)) ok_⟩
   have n1_ : Aside0 ((w41.setCell ⟨gb444, 0, none⟩ (.slice Ao42 t440.length co42)).heap[gb434]? = some (.cells #[.slice Ao28 l0_0.length co28] 25 (0, 0))) := bf_ BK434
   have n2_ : Aside0 ((w41.setCell ⟨gb444, 0, none⟩ (.slice Ao42 t440.length co42)).heap[gb435]? = some (.cells #[.slice none 0 0] 25 (0, 0))) := bf_ BK435
   have n3_ : Aside0 ((w41.setCell ⟨gb444, 0, none⟩ (.slice Ao42 t440.length co42)).heap[gb439]? = some (.cells #[.int .i64 t436, .int .i64 t437] 34 (0, 0))) := bf_ BK439
   have n4_ : Aside0 ((w41.setCell ⟨gb444, 0, none⟩ (.slice Ao42 t440.length co42)).heap[gb444]? = some (.cells #[.slice Ao42 t440.length co42] 25 (0, 0))) := ⟨by (with_reducible repeat refine bu ?_); refine blk_put (cs := #[.slice none 0 0]) ?_ 0 _ rfl; (with_reducible repeat refine bu ?_); exact BK444.out⟩
   have n5_ : Aside0 (Kept w (w41.setCell ⟨gb444, 0, none⟩ (.slice Ao42 t440.length co42)) (fun k_ => P0_0_ k_)) := ⟨m16_⟩
   have n6_ : Aside0 (Below w0.heap.size w0 (w41.setCell ⟨gb444, 0, none⟩ (.slice Ao42 t440.length co42))) := ⟨m2_⟩
   (try clear HO442)
   (try clear BK434)
   (try clear BK435)
   (try clear BK439)
   (try clear BK444)
   (try clear HK)
   (try clear HB)
   generalize (w41.setCell ⟨gb444, 0, none⟩ (.slice Ao42 t440.length co42)) = w47 at n0_ n1_ n2_ n3_ n4_ n5_ n6_ ⊢
   have HO442 := n0_
   have BK434 := n1_
   have BK435 := n2_
   have BK439 := n3_
   have BK444 := n4_
   have HK := n5_
   have HB := n6_
   clear n0_ n1_ n2_ n3_ n4_ n5_ n6_
   replace HO442 := am (Kd.R_drew HO442.out)
   replace BK434 := am (blk_drew BK434.out)
   replace BK435 := am (blk_drew BK435.out)
   replace BK439 := am (blk_drew BK439.out)
   replace BK444 := am (blk_drew BK444.out)
   replace HK := am (Kept.drew HK.out)
   replace HB := am (below_drew1 HB.out)
   refine start_ (n := 6) (S := fun w' => w'.cell? ⟨gb444, 0, none⟩ = some (.slice Ao42 t440.length co42)) (ds := []) #[false, false, false, false, false, false] (by kernel_rfl) rfl rfl (bcell BK444 0) (fun hHeld => ?_)
   generalize w47.drew = w48 at HO442 BK434 BK435 BK439 BK444 HK HB hHeld ⊢
   refine pu_ 1 (some 29) (bm 6 2) ?_
   refine pu_ 2 (some 30) (bm 6 6) ?_
   refine take_ (i := 0) (N := some 28) (v := ?_) (a' := ?_) #[true, true, true, false, false, false] rfl rfl (by kernel_rfl) (fun _ _ _ h => h) (Or.inl ⟨by rfl, ?_⟩) hHeld ?_ ?_
   rotate_left
   ·intro w' s0
    go_simp
    with_reducible rfl
   rotate_left
   ·simp only [Act.put, List.setIfInBounds_toArray, List.set_cons_zero, List.set_cons_succ, i64_w, i32_w]
    rfl
   refine one_ (i := 3) (N := some 31) #[true, true, true, true, false, false] rfl rfl (by kernel_rfl) (by decide) (fun K hK => ?_)
   refine gR Tryz.func64 #[.agg #[.int .i64 50, .int .i64 t443]] ?_
   with_reducible refine (spec_LinPort.calls k 50 t443 t445 _ A27.out).mono ?_
   rintro e w49 ⟨rfl, hb⟩
   refine ⟨_, rfl, ?_⟩
   replace HO442 := am (Kd.R_below (rs HO442) hb)
   replace BK434 := bkB BK434 hb
   replace BK435 := bkB BK435 hb
   replace BK439 := bkB BK439 hb
   replace BK444 := bkB BK444 hb
   replace HK := am (Kept.below (S := (fun k_ => P0_0_ k_)) m16_ hb)
   replace HB := hbS HB hb
   (try clear hb)
   (try clear hb2)
   (try clear hk)
   (try clear hi)
   refine hK.out _ _ (bcell BK444 0) (fun hHeld => ?_)
   clear hK K
   refine nm_ ?_
   refine one_ (i := 4) (N := none) #[true, true, true, true, true, false] rfl rfl (by kernel_rfl) (by decide) (fun K hK => ?_)
   have : w49.cell? ⟨gb435, 0, none⟩ = some (.slice none 0 0) := bcell BK435 0
   have := bfz BK435 0
   have := NB434_435.out
   have := NB439_435.out
   have := NB444_435.out
   have := NB435_434.out
   have := NB435_439.out
   have := NB435_444.out
   refine skip_ (w1 := ?_) (by rfl) rfl ?_ ?_
   rotate_left
   ·go_simp
    rfl
   refine hK.out _ _ (((cell_far (p := ⟨gb435, _, none⟩) NB444_435.out _).trans (hHeld))) (fun hHeld => ?_)
   clear hK K
   refine pu_ 5 (some 5) (bm 6 63) ?_
   refine done_ (by kernel_rfl) ?_
   try go_wp2
   refine bodyPost_ret (results_ct rfl _ _ gb435 25 #[.slice Ao42 t440.length co42] (0, 0) _ rfl (by (with_reducible repeat refine bu ?_); refine blk_put (cs := #[.slice none 0 0]) ?_ 0 _ rfl; (with_reducible repeat refine bu ?_); exact BK435.out) Tryz.underlying25 rfl (by kernel_rfl)) rfl ?_
   exact ⟨_, fi_, by (with_reducible repeat apply ru); exact Kd.R_mono (Kd.R_far (p := ⟨gb435, 0, none⟩) (Kd.R_types HO442.out BK435.out (by decide)) (fun _ hk => hk.2) (.slice Ao42 t440.length co42)) (fun _ hk => hk.1.1), m2_, m16_⟩
 ·replace c4 := Bool.eq_false_iff.mpr c4
  subst c4
  have H1 : (some (l0_0, a1)) = some (r1, r2) := by rw [if_neg (show ¬ (false = true) by decide)] at H; exact H
  clear H
  have H := H1
  clear H1
  simp only [Option.some.injEq, Prod.mk.injEq] at H
  obtain ⟨rfl, rfl⟩ := H
  obtain ⟨Ao51, co51, eo51⟩ := Kd.R_slice HO0_0.out
  subst eo51
  go_enter Tryz.func46, Tryz.ntmps46
  go_wp2_with (first | ((with_reducible refine gate_dst (N := 2) rfl ?_); refine box_event rfl (N := 2) rfl (cs := #[.slice Ao51 l0_0.length co51]) (t := 25) hr_ ?_; intro gb434 hg w52 hbox hb; replace HO0_0 := am (Kd.R_below (rs HO0_0) hb); have BK434 := am hbox; have GW434 := am ((by rw [hg]; exact (by first | exact HK.out.1 | exact (show Kept w _ (fun k_ => P0_0_ k_) from m15_).1) : w.heap.size ≤ gb434)); replace HK := am (Kept.below (S := (fun k_ => P0_0_ k_)) m15_ hb); have GE434 := gwE HB hg; replace HB := hbS HB hb; clear hb hbox hg) | ((with_reducible refine gate_dst (N := 4) rfl ?_); refine box_event rfl (N := 4) rfl (cs := #[.slice none 0 0]) (t := 25) hr_ ?_; intro gb435 hg w53 hbox hb; replace HO0_0 := am (Kd.R_below (rs HO0_0) hb); have BK435 := am hbox; have GW435 := am ((by rw [hg]; exact (by first | exact HK.out.1 | exact (show Kept w _ (fun k_ => P0_0_ k_) from m16_).1) : w.heap.size ≤ gb435)); replace HK := am (Kept.below (S := (fun k_ => P0_0_ k_)) m16_ hb); have GE435 := gwE HB hg; replace HB := hbS HB hb; have NB434_435 := neL BK434 hg; have NB435_434 := neG BK434 hg; replace BK434 := bkB BK434 hb; clear hb hbox hg) | ((with_reducible refine gate_callee (f := 79) rfl ?_); refine gL (some 12) Tryz.func79 #[.string a1] ?_; (with_reducible refine (spec_LinSays.calls k a1 t436 t437 false _ A3.out).mono ?_); rintro e w54 ⟨rfl, hb⟩; refine ⟨_, rfl, ?_⟩; replace HO0_0 := am (Kd.R_below (rs HO0_0) hb); replace BK434 := bkB BK434 hb; replace BK435 := bkB BK435 hb; replace HK := am (Kept.below (S := (fun k_ => P0_0_ k_)) m16_ hb); replace HB := hbS HB hb; (try clear hb)) | ((with_reducible refine gate_dst (N := 6) rfl ?_); refine box_event rfl (N := 6) rfl (cs := #[.int .i64 0, .int .i64 0]) (t := 34) hr_ ?_; intro gb439 hg w55 hbox hb; replace HO0_0 := am (Kd.R_below (Kd.R_elderB (rs HO0_0) gb439 (Nat.le_of_eq hg.symm)) hb); have BK439 := am hbox; have GW439 := am ((by rw [hg]; exact (by first | exact HK.out.1 | exact (show Kept w _ (fun k_ => P0_0_ k_) from m16_).1) : w.heap.size ≤ gb439)); replace HK := am (Kept.below (S := (fun k_ => P0_0_ k_)) m16_ hb); have GE439 := gwE HB hg; replace HB := hbS HB hb; have NB434_439 := neL BK434 hg; have NB439_434 := neG BK434 hg; replace BK434 := bkB BK434 hb; have NB435_439 := neL BK435 hg; have NB439_435 := neG BK435 hg; replace BK435 := bkB BK435 hb; clear hb hbox hg; have := NB439_434.out; have := NB434_439.out; have := NB439_435.out; have := NB435_439.out; have := bcell BK439 0; have := bcell BK439 1; have := bfz BK439 0; have := bfz BK439 1; have := NB434_435.out; have := NB435_434.out; have := bcell BK434 0; have := bfz BK434 0; have := bcell BK435 0; have := bfz BK435 0))
  refine bodyPost_ret (results_ct rfl _ _ gb435 25 #[.slice Ao51 l0_0.length co51] (0, 0) _ rfl (by (with_reducible repeat refine bu ?_); refine blk_put (cs := #[.slice none 0 0]) ?_ 0 _ rfl; (with_reducible repeat refine bu ?_); refine blk_far ?_ NB435_439.out _; (with_reducible repeat refine bu ?_); refine blk_far ?_ NB435_439.out _; (with_reducible repeat refine bu ?_); exact BK435.out) Tryz.underlying25 rfl (by kernel_rfl)) rfl ?_
  exact ⟨_, fi_, by (with_reducible repeat apply ru); exact Kd.R_mono (Kd.R_far (p := ⟨gb435, 0, none⟩) (Kd.R_far (p := ⟨gb439, 1, none⟩) (Kd.R_far (p := ⟨gb439, 0, none⟩) (Kd.R_types (Kd.R_mono HO0_0.out (fun k_ hk => (⟨hk, hk.2⟩ : _ ∧ k_ ≠ gb439))) BK435.out (by decide)) (fun _ hk => hk.1.2) (.int .i64 t436)) (fun _ hk => hk.1.2) (.int .i64 t437)) (fun _ hk => hk.2) (.slice Ao51 l0_0.length co51)) (fun _ hk => hk.1.1.1), m2_, m16_⟩
def spec_l3Stream.l0 : Nat → List ByteArray → ByteArray → Int → List (S34) → Option ((List (S34)) × ByteArray)
 | 0, _, _, _, _ => none
 | k + 1, x6, x8, x9, x768000 => if x9 < (x6.length : Int) then (if 0 ≤ x9 then ((spec_l3Line.f k x768000 (rdOf ByteArray.empty x6 x9)).bind fun bt774 => (if x8.size + bt774.2.size ≤ 9223372036854775807 then (if (x8 ++ bt774.2).size + 1 ≤ 9223372036854775807 then (spec_l3Stream.l0 k x6 ((x8 ++ bt774.2) ++ (⟨#[59]⟩ : ByteArray)) (wrap64 (x9 + 1)) bt774.1) else (none)) else (none))) else (none)) else (some (x768000, x8))
def spec_l3Stream.f (k : Nat) (l0_0 : List (S34)) (a1 : ByteArray) : Option ((List (S34)) × ByteArray) := (spec_StrLines.f k a1).bind fun bt769 => (spec_l3Stream.l0 k bt769.1 (⟨#[]⟩ : ByteArray) 0 l0_0)
theorem spec_l3Stream.mono_l : ∀ k, (∀ y0 y1 y2 y3, LeO (spec_l3Stream.l0 k y0 y1 y2 y3) (spec_l3Stream.l0 (k + 1) y0 y1 y2 y3))
 | 0 => fun _ _ _ _ r h => by simp [spec_l3Stream.l0] at h
 | k + 1 => by
  have ih0 := spec_l3Stream.mono_l k
  ·intro y0 y1 y2 y3
   unfold spec_l3Stream.l0
   repeat' first | (with_reducible first | exact ih0 _ _ _ _ | exact spec_StrLines.mono _ _ | exact spec_l3Line.mono _ _ _ | exact LeO.refl _ | exact LeO.none _ | refine LeO.ite ?_ ?_ | refine LeO.bind ?_ (fun _ => ?_)) | exact ih0 _ _ _ _ | exact spec_StrLines.mono _ _ | exact spec_l3Line.mono _ _ _ | exact LeO.none _ | refine LeO.ite ?_ ?_ | refine LeO.bind ?_ (fun _ => ?_)
theorem spec_l3Stream.mono : ∀ a0 a1 k, LeO (spec_l3Stream.f k a0 a1) (spec_l3Stream.f (k + 1) a0 a1) := by
 intro a0 a1 k
 have ih0 := spec_l3Stream.mono_l k
 unfold spec_l3Stream.f
 repeat' first | (with_reducible first | exact ih0 _ _ _ _ | exact spec_StrLines.mono _ _ | exact spec_l3Line.mono _ _ _ | exact LeO.refl _ | exact LeO.none _ | refine LeO.ite ?_ ?_ | refine LeO.bind ?_ (fun _ => ?_)) | exact ih0 _ _ _ _ | exact spec_StrLines.mono _ _ | exact spec_l3Line.mono _ _ _ | exact LeO.none _ | refine LeO.ite ?_ ?_ | refine LeO.bind ?_ (fun _ => ?_)
def spec_l3Stream.T6 : Bool × List (List Nat × List Nat) := (true, [([], []), ([], []), ([], []), ([1, 2], [1, 2]), ([3], [3]), ([0, 4], [0, 4]), ([5], [5]), ([6], [6]), ([6], [6]), ([], []), ([9, 7, 5, 0, 1, 2, 3, 4, 5, 6, 7, 9], [7, 9]), ([8, 10, 0, 1, 2, 3, 4, 5, 6, 7, 8, 9, 10], [8])])
def spec_l3Stream.B6 : List Nat := [0, 0, 0, 6, 14, 31, 63, 127, 127, 0, 767, 2047]
theorem spec_l3Stream.tab6 : rtab .any (opsOf Tryz.f73 6) = spec_l3Stream.T6 := by kernel_rfl
theorem spec_l3Stream.bits6 : waitsOk spec_l3Stream.T6.2 spec_l3Stream.B6 = true := by kernel_rfl
set_option maxHeartbeats 8000000 in
set_option maxRecDepth 100000 in
theorem spec_l3Stream.calls (k : Nat) (P0_0_ : Nat → Prop) (u9000_ : Value) (l0_0 : List (S34)) (a1 : ByteArray) (r1 : List (S34)) (r2 : ByteArray) (w0 w : World) (hB : Below w0.heap.size w0 w) (ho0_0 : Kd.R k34 34 w w0.heap.size P0_0_ u9000_ l0_0) (h : spec_l3Stream.f k l0_0 a1 = some (r1, r2)) :
  Calls Tryz.prog 73 #[.agg #[u9000_], .string a1] w fun e w' => ∃ v0_ : Value, e = .returned (.tuple #[.agg #[v0_], .string r2]) ∧ Kd.R k34 34 w' w0.heap.size (fun k_ => (P0_0_ k_ ∨ w.heap.size ≤ k_)) v0_ r1 ∧ Below w0.heap.size w0 w' ∧ Kept w w' (fun k_ => P0_0_ k_) := by
 have hu25 := Tryz.underlying25
 have HO0_0 := am (show Kd.R k34 34 w w0.heap.size (fun k_ => (P0_0_ k_ ∨ w.heap.size ≤ k_)) u9000_ l0_0 from Kd.R_mono ho0_0 (fun k_ hk => (.inl hk)))
 have HK := am (Kept.refl w (fun k_ => P0_0_ k_))
 have HW0 := am hB.size
 have HB := am hB
 clear hB
 have H : ((spec_StrLines.f k a1).bind fun bt769 => (spec_l3Stream.l0 k bt769.1 (⟨#[]⟩ : ByteArray) 0 l0_0)) = some (r1, r2) := h
 clear h
 obtain ⟨⟨t769, t770⟩, A3, H⟩ := bse H
 try dsimp only at H
 have H' := am H
 clear H
 obtain ⟨Ao4, co4, eo4⟩ := Kd.R_slice HO0_0.out
 subst eo4
 go_enter Tryz.func73, Tryz.ntmps73
 go_wp2_with (first | ((with_reducible refine gate_dst (N := 2) rfl ?_); refine box_event rfl (N := 2) rfl (cs := #[.slice Ao4 l0_0.length co4]) (t := 25) hr_ ?_; intro gb767 hg w5 hbox hb; replace HO0_0 := am (Kd.R_below (rs HO0_0) hb); have BK767 := am hbox; have GW767 := am ((by rw [hg]; exact (by first | exact HK.out.1 | exact (show Kept w _ (fun k_ => P0_0_ k_) from m15_).1) : w.heap.size ≤ gb767)); replace HK := am (Kept.below (S := (fun k_ => P0_0_ k_)) m15_ hb); have GE767 := gwE HB hg; replace HB := hbS HB hb; clear hb hbox hg) | ((with_reducible refine gate_dst (N := 4) rfl ?_); refine box_event rfl (N := 4) rfl (cs := #[.slice none 0 0]) (t := 25) hr_ ?_; intro gb768 hg w6 hbox hb; replace HO0_0 := am (Kd.R_below (rs HO0_0) hb); have BK768 := am hbox; have GW768 := am ((by rw [hg]; exact (by first | exact HK.out.1 | exact (show Kept w _ (fun k_ => P0_0_ k_) from m16_).1) : w.heap.size ≤ gb768)); replace HK := am (Kept.below (S := (fun k_ => P0_0_ k_)) m16_ hb); have GE768 := gwE HB hg; replace HB := hbS HB hb; have NB767_768 := neL BK767 hg; have NB768_767 := neG BK767 hg; replace BK767 := bkB BK767 hb; clear hb hbox hg) | ((with_reducible refine gate_callee (f := 39) rfl ?_); refine gL (some 14) Tryz.func39 #[.string a1] ?_; (with_reducible refine (spec_StrLines.calls k a1 t769 t770 _ A3.out).mono ?_); rintro e w7 ⟨v771, rfl, ho0, hb⟩; refine ⟨_, rfl, ?_⟩; replace HO0_0 := am (Kd.R_below (rs HO0_0) hb); have HO772 := am (Kd.R_lower (Kd.R_newM (M := fun k_ => (P0_0_ k_ ∨ w.heap.size ≤ k_)) ho0 (by first | exact HK.out.1 | exact (show Kept w _ (fun k_ => P0_0_ k_) from m16_).1) (fun k_ h_ => .inr h_)) (below_size (bl HB))); replace BK767 := bkB BK767 hb; replace BK768 := bkB BK768 hb; replace HK := am (Kept.below (S := (fun k_ => P0_0_ k_)) m16_ hb); replace HB := hbS HB hb; (try clear hb); (try clear ho0)))
 go_loopg [8, 9] k (fun kq v8 v9 w' => ∃ (x8_1 : ByteArray) (x9_1 : Int) (x768000_1 : List (S34)) (u768000 : Value), v8 = .string x8_1 ∧ v9 = .int .i64 x9_1 ∧ Aside0 (spec_l3Stream.l0 kq t769 x8_1 x9_1 x768000_1 = some (r1, r2)) ∧ Aside0 (kq ≤ k) ∧ Aside0 (Kd.R Kd.string 9 w' w0.heap.size (fun k_ => (P0_0_ k_ ∨ w.heap.size ≤ k_)) v771 t769) ∧ Aside0 (Kd.R k34 34 w' w0.heap.size (fun k_ => (P0_0_ k_ ∨ w.heap.size ≤ k_)) u768000 x768000_1) ∧ Aside0 (w'.heap[gb767]? = some (.cells #[u768000] 25 (0, 0))) ∧ Aside0 (w'.heap[gb768]? = some (.cells #[(.slice none 0 0)] 25 (0, 0))) ∧ Aside0 (Kept w w' (fun k_ => P0_0_ k_)) ∧ Aside0 (Below w0.heap.size w0 w'))
 case atStart => exact ⟨((⟨#[]⟩ : ByteArray)), (0), (l0_0), (.slice Ao4 l0_0.length co4), rs_, rs_, H', ⟨Nat.le_refl _⟩, ⟨by (with_reducible repeat apply ru); exact Kd.R_mono HO772.out (fun _ hk => hk.1)⟩, ⟨by (with_reducible repeat apply ru); exact HO0_0.out⟩, ⟨bk BK767⟩, ⟨bk BK768⟩, ⟨m16_⟩, ⟨m2_⟩⟩
 case round =>
  clear H'
  try clear p2
  try clear c3
  try clear c7
  obtain ⟨x8_1, x9_1, x768000_1, u768000, rfl, rfl, HA, HK1, HO_6, HO_768000, BK767, BK768, HK, HB⟩ := hrel
  cases gk with
  | zero => exact absurd HA.out (by simp [spec_l3Stream.l0])
  | succ k1 =>
   have H := HA.out
   clear HA
   simp only [spec_l3Stream.l0] at H
   by_cases c8 : x9_1 < (t769.length : Int)
   ·rw [if_pos c8] at H
    have c8b0 : decide (x9_1 < (t769.length : Int)) = true := decide_eq_true c8
    clear c8
    by_cases c9 : 0 ≤ x9_1
    ·rw [if_pos c9] at H
     have c9b0 : decide (0 ≤ x9_1) = true := decide_eq_true c9
     clear c9
     obtain ⟨⟨t774, t777⟩, A10, H⟩ := bse H
     try dsimp only at H
     by_cases c11 : x8_1.size + t777.size ≤ 9223372036854775807
     ·rw [if_pos c11] at H
      have c11b0 := eq_true c11
      have c11b1 : decide (x8_1.size + t777.size ≤ 9223372036854775807) = true := decide_eq_true c11
      try have c11b2 : (9223372036854775807 < x8_1.size + t777.size) = False := eq_false (Nat.not_lt.2 c11)
      by_cases c12 : (x8_1 ++ t777).size + 1 ≤ 9223372036854775807
      ·rw [if_pos c12] at H
       have c12b0 := eq_true c12
       have c12b1 : decide ((x8_1 ++ t777).size + 1 ≤ 9223372036854775807) = true := decide_eq_true c12
       try have c12b2 : (9223372036854775807 < (x8_1 ++ t777).size + 1) = False := eq_false (Nat.not_lt.2 c12)
       try have c12b3 : (9223372036854775807 < x8_1.size + t777.size + 1) = False := (by have z_ := c12b2; simp only [ByteArray.size_append] at z_; exact z_)
       have H' := am H
       clear H
       obtain ⟨Ao13, co13, eo13⟩ := Kd.R_slice HO_6.out
       subst eo13
       obtain ⟨Ao14, co14, eo14⟩ := Kd.R_slice HO_768000.out
       subst eo14
       try go_wp2
       replace HO_6 := am (Kd.R_drew HO_6.out)
       replace HO_768000 := am (Kd.R_drew HO_768000.out)
       replace BK767 := am (blk_drew BK767.out)
       replace BK768 := am (blk_drew BK768.out)
       replace HK := am (Kept.drew HK.out)
       replace HB := am (below_drew1 HB.out)
       have p773 : 0 ≤ (x9_1 : Int) := of_decide_eq_true da_
       have q773 : x9_1 < (t769.length : Int) := of_decide_eq_true da_
       obtain ⟨ad773, e773, hx773_0⟩ := Kd.at_string (Kd.R_reads' HO_6.out).2.2 x9_1 p773 q773
       cases e773
       replace p773 := eq_true p773
       replace q773 := eq_true q773
       refine start_ (n := 12) (S := fun w' => w'.cell? ⟨gb767, 0, none⟩ = some (.slice Ao14 x768000_1.length co14) ∧ w'.cell? (ad773.add (x9_1).toNat) = some (.string (rdOf ByteArray.empty t769 x9_1))) (ds := []) #[false, false, false, false, false, false, false, false, false, false, false, false] (by kernel_rfl) rfl rfl ⟨bcell BK767 0, hx773_0⟩ (fun hHeld => ?_); refine with_tabW spec_l3Stream.tab6 spec_l3Stream.bits6 (fun HT_ HW_ => ?_)
       generalize wr.drew = w15 at HO_6 HO_768000 BK767 BK768 HK HB hx773_0 hHeld ⊢
       refine pu_ 1 (some 25) (bm 12 2) ?_
       refine pu_ 2 (some 26) (bm 12 6) ?_
       refine pu_ 3 (some 27) (bm 12 14) ?_
       refine tk_ 0 (some 24) (bm 12 15) rfl (.inl ⟨rfl, m3_⟩) ?_
       refine tk_ 4 (some 28) (bm 12 31) rfl (.inl ⟨rfl, m3_⟩) ?_
       refine join_ (σ := Value × Nat) 2 #[true, true, true, true, true, true, true, true, true, true, false, false] (fun s_ => [(29, .tuple #[.agg #[s_.1], .string t777]), (10, .pointer (some ⟨s_.2, 0, none⟩)), (23, .tuple #[.agg #[s_.1], .string t777]), (30, .agg #[s_.1]), (31, .string t777)]) (fun s_ w' => (w'.cell? ⟨gb767, 0, none⟩ = some (.slice Ao14 x768000_1.length co14) ∧ w'.cell? (ad773.add (x9_1).toNat) = some (.string (rdOf ByteArray.empty t769 x9_1))) ∧ (Kd.R k34 34 w' w0.heap.size (fun k_ => (P0_0_ k_ ∨ w.heap.size ≤ k_)) s_.1 t774) ∧ (Kd.R Kd.string 9 w' w0.heap.size (fun k_ => (P0_0_ k_ ∨ w.heap.size ≤ k_)) (.slice (some ad773) t769.length co13) t769) ∧ (w'.heap[gb767]? = some (.cells #[.slice Ao14 x768000_1.length co14] 25 (0, 0))) ∧ (w'.heap[gb768]? = some (.cells #[.slice none 0 0] 25 (0, 0))) ∧ (w'.heap[s_.2]? = some (.cells #[.slice none 0 0] 25 (0, 0))) ∧ (w.heap.size ≤ s_.2) ∧ (w0.heap.size ≤ s_.2) ∧ (gb767 ≠ s_.2) ∧ (s_.2 ≠ gb767) ∧ (gb768 ≠ s_.2) ∧ (s_.2 ≠ gb768) ∧ (Kept w w' (fun k_ => P0_0_ k_)) ∧ (Below w0.heap.size w0 w')) ?_ ?_
       rotate_left
       ·intro hCont
        refine two_ (i := 5) (j := 9) (Ni := some 29) (Nj := some 10) #[true, true, true, true, true, true, false, false, false, false, false, false] #[true, true, true, true, true, false, false, false, false, true, false, false] rfl rfl rfl rfl (two_of HT_.out (by kernel_rfl)) (by decide) (by decide) (fun K hK => ?_) (fun K hK => ?_)
        ·skip
         refine gR Tryz.func46 #[.agg #[.slice Ao14 x768000_1.length co14], .string (rdOf ByteArray.empty t769 x9_1)] ?_
         with_reducible refine (spec_l3Line.calls k1 (fun k_ => some k_ = (.slice Ao14 x768000_1.length co14 : Value).ownBlock) (.slice Ao14 x768000_1.length co14) x768000_1 (rdOf ByteArray.empty t769 x9_1) t774 t777 w0 _ ?side1 ?side2 A10.out).mono ?_
         (case side1 => exact m2_)
         (case side2 => exact Kd.R_tight rfl HO_768000.out)
         rintro e w16 ⟨v775, rfl, ho0, hb, hkp⟩
         have HS1_ := ckp_ (hHeld.2) hkp (by first | (rw [add_block]; exact (fun hs_ => ((((Kd.R_apart' HO_6.out (Kd.R_typed HO_768000.out) (by decide))).1 _ rfl).2) hs_)) | (show ¬ _; simp only [add_block]; exact (fun hs_ => ((((Kd.R_apart' HO_6.out (Kd.R_typed HO_768000.out) (by decide))).1 _ rfl).2) hs_)) | exact (fun hs_ => ((((Kd.R_apart' HO_6.out (Kd.R_typed HO_768000.out) (by decide))).1 _ rfl).2) hs_))
         refine ⟨_, rfl, ?_⟩
         replace HO_6 := am (Kd.R_mono (ok' := fun k_ => (P0_0_ k_ ∨ w.heap.size ≤ k_)) (Kd.R_keptB ((Kd.R_apart' HO_6.out (Kd.R_typed HO_768000.out) (by decide))) hkp (fun k_ hk_ hs_ => (hk_.2) hs_)) (fun k_ hk_ => hk_.1.1))
         replace BK767 := am (blk_kept (bk BK767) hkp (fun hs_ => (fun e_ => (Kd.R_ne HO_768000.out BK767.out (by decide)) e_) hs_))
         replace BK768 := am (blk_kept (bk BK768) hkp (fun hs_ => (fun e_ => (Kd.R_ne HO_768000.out BK768.out (by decide)) e_) hs_))
         have HO776 := am (Kd.R_mono (ok' := fun k_ => (P0_0_ k_ ∨ w.heap.size ≤ k_)) ho0 (fun k_ hk_ => Or.elim hk_ (fun hs_ => (HO_768000.out.1 k_ (hs_).symm)) (fun hn_ => (.inr (Nat.le_trans (by first | exact HK.out.1 | exact (show Kept w _ (fun k_ => P0_0_ k_) from m16_).1) hn_)))))
         replace HK := am (Kept.then_ (S := (fun k_ => P0_0_ k_)) m16_ hkp (fun k_ hs_ => (fun e_ => (HO_768000.out.1 k_ e_.symm)) hs_))
         replace HB := am hb
         clear HO_768000
         (try clear hb)
         (try clear hkp)
         (try clear ho0)
         refine hK.out _ _ ⟨bcell BK767 0, HS1_⟩ (fun hHeld => ?_)
         clear hK K
         refine nm_ ?_
         refine pu_ 6 (some 23) (bm 12 127) ?_
         refine pu_ 7 (some 30) (bm 12 255) ?_
         refine pu_ 8 (some 31) (bm 12 511) ?_
         refine on_ 9 (some 10) (bm 12 1023) (fun K hK => ?_)
         refine box_step rfl (N := 10) rfl (cs := #[.slice none 0 0]) (t := 25) hr_ ?_
         intro gb778 hg w17 hbox hb
         have HS1_ := bch hb (hHeld.2)
         replace HO_6 := am (Kd.R_below (rs HO_6) hb)
         replace HO776 := am (Kd.R_below (rs HO776) hb)
         have BK778 := am hbox
         have GW778 := am ((by rw [hg]; exact (by first | exact HK.out.1 | exact (show Kept w _ (fun k_ => P0_0_ k_) from m16_).1) : w.heap.size ≤ gb778))
         replace HK := am (Kept.below (S := (fun k_ => P0_0_ k_)) m16_ hb)
         have GE778 := gwE HB hg
         replace HB := hbS HB hb
         have NB767_778 := neL BK767 hg
         have NB778_767 := neG BK767 hg
         replace BK767 := bkB BK767 hb
         have NB768_778 := neL BK768 hg
         have NB778_768 := neG BK768 hg
         replace BK768 := bkB BK768 hb
         clear hb hbox hg
         refine hK.out _ _ ⟨bcell BK767 0, HS1_⟩ (fun hHeld => ?_)
         clear hK K
         refine nm_ ?_
         exact norm_ (by simp only [putAll, Act.put, List.setIfInBounds_toArray, List.set_cons_zero, List.set_cons_succ]) (hCont (v775, gb778) _ ⟨hHeld, (rs HO776), (rs HO_6), (bk BK767), (bk BK768), (bk BK778), GW778.out, GE778.out, NB767_778.out, NB778_767.out, NB768_778.out, NB778_768.out, m16_, (bl HB)⟩)
        ·skip
         refine box_step rfl (N := 10) rfl (cs := #[.slice none 0 0]) (t := 25) hr_ ?_
         intro gb778 hg w16 hbox hb
         have HS1_ := bch hb (hHeld.2)
         replace HO_6 := am (Kd.R_below (rs HO_6) hb)
         replace HO_768000 := am (Kd.R_below (rs HO_768000) hb)
         have BK778 := am hbox
         have GW778 := am ((by rw [hg]; exact (by first | exact HK.out.1 | exact (show Kept w _ (fun k_ => P0_0_ k_) from m16_).1) : w.heap.size ≤ gb778))
         replace HK := am (Kept.below (S := (fun k_ => P0_0_ k_)) m16_ hb)
         have GE778 := gwE HB hg
         replace HB := hbS HB hb
         have NB767_778 := neL BK767 hg
         have NB778_767 := neG BK767 hg
         replace BK767 := bkB BK767 hb
         have NB768_778 := neL BK768 hg
         have NB778_768 := neG BK768 hg
         replace BK768 := bkB BK768 hb
         clear hb hbox hg
         refine hK.out _ _ ⟨bcell BK767 0, HS1_⟩ (fun hHeld => ?_)
         clear hK K
         refine nm_ ?_
         refine on_ 5 (some 29) (bm 12 575) (fun K hK => ?_)
         refine gR Tryz.func46 #[.agg #[.slice Ao14 x768000_1.length co14], .string (rdOf ByteArray.empty t769 x9_1)] ?_
         with_reducible refine (spec_l3Line.calls k1 (fun k_ => some k_ = (.slice Ao14 x768000_1.length co14 : Value).ownBlock) (.slice Ao14 x768000_1.length co14) x768000_1 (rdOf ByteArray.empty t769 x9_1) t774 t777 w0 _ ?side1 ?side2 A10.out).mono ?_
         (case side1 => exact m2_)
         (case side2 => exact Kd.R_tight rfl HO_768000.out)
         rintro e w17 ⟨v775, rfl, ho0, hb, hkp⟩
         have HS1_ := ckp_ (hHeld.2) hkp (by first | (rw [add_block]; exact (fun hs_ => ((((Kd.R_apart' HO_6.out (Kd.R_typed HO_768000.out) (by decide))).1 _ rfl).2) hs_)) | (show ¬ _; simp only [add_block]; exact (fun hs_ => ((((Kd.R_apart' HO_6.out (Kd.R_typed HO_768000.out) (by decide))).1 _ rfl).2) hs_)) | exact (fun hs_ => ((((Kd.R_apart' HO_6.out (Kd.R_typed HO_768000.out) (by decide))).1 _ rfl).2) hs_))
         refine ⟨_, rfl, ?_⟩
         replace HO_6 := am (Kd.R_mono (ok' := fun k_ => (P0_0_ k_ ∨ w.heap.size ≤ k_)) (Kd.R_keptB ((Kd.R_apart' HO_6.out (Kd.R_typed HO_768000.out) (by decide))) hkp (fun k_ hk_ hs_ => (hk_.2) hs_)) (fun k_ hk_ => hk_.1.1))
         replace BK767 := am (blk_kept (bk BK767) hkp (fun hs_ => (fun e_ => (Kd.R_ne HO_768000.out BK767.out (by decide)) e_) hs_))
         replace BK768 := am (blk_kept (bk BK768) hkp (fun hs_ => (fun e_ => (Kd.R_ne HO_768000.out BK768.out (by decide)) e_) hs_))
         replace BK778 := am (blk_kept (bk BK778) hkp (fun hs_ => (fun e_ => (Kd.R_ne HO_768000.out BK778.out (by decide)) e_) hs_))
         have HO776 := am (Kd.R_mono (ok' := fun k_ => (P0_0_ k_ ∨ w.heap.size ≤ k_)) ho0 (fun k_ hk_ => Or.elim hk_ (fun hs_ => (HO_768000.out.1 k_ (hs_).symm)) (fun hn_ => (.inr (Nat.le_trans (by first | exact HK.out.1 | exact (show Kept w _ (fun k_ => P0_0_ k_) from m16_).1) hn_)))))
         replace HK := am (Kept.then_ (S := (fun k_ => P0_0_ k_)) m16_ hkp (fun k_ hs_ => (fun e_ => (HO_768000.out.1 k_ e_.symm)) hs_))
         replace HB := am hb
         clear HO_768000
         (try clear hb)
         (try clear hkp)
         (try clear ho0)
         refine hK.out _ _ ⟨bcell BK767 0, HS1_⟩ (fun hHeld => ?_)
         clear hK K
         refine nm_ ?_
         refine pu_ 6 (some 23) (bm 12 639) ?_
         refine pu_ 7 (some 30) (bm 12 767) ?_
         refine pu_ 8 (some 31) (bm 12 1023) ?_
         exact norm_ (by simp only [putAll, Act.put, List.setIfInBounds_toArray, List.set_cons_zero, List.set_cons_succ]) (hCont (v775, gb778) _ ⟨hHeld, (rs HO776), (rs HO_6), (bk BK767), (bk BK768), (bk BK778), GW778.out, GE778.out, NB767_778.out, NB778_767.out, NB768_778.out, NB778_768.out, m16_, (bl HB)⟩)
       rintro ⟨v775, gb778⟩ w18 ⟨hS_, h0_, h1_, h2_, h3_, h4_, h5_, h6_, h7_, h8_, h9_, h10_, h11_, h12_⟩
       have n0_ : Aside0 (Kd.R k34 34 w18 w0.heap.size (fun k_ => (P0_0_ k_ ∨ w.heap.size ≤ k_)) v775 t774) := ⟨h0_⟩
       have n1_ : Aside0 (Kd.R Kd.string 9 w18 w0.heap.size (fun k_ => (P0_0_ k_ ∨ w.heap.size ≤ k_)) (.slice (some ad773) t769.length co13) t769) := ⟨h1_⟩
       have n2_ : Aside0 (w18.heap[gb767]? = some (.cells #[.slice Ao14 x768000_1.length co14] 25 (0, 0))) := ⟨h2_⟩
       have n3_ : Aside0 (w18.heap[gb768]? = some (.cells #[.slice none 0 0] 25 (0, 0))) := ⟨h3_⟩
       have n4_ : Aside0 (w18.heap[gb778]? = some (.cells #[.slice none 0 0] 25 (0, 0))) := ⟨h4_⟩
       have n5_ : Aside0 (w.heap.size ≤ gb778) := ⟨h5_⟩
       have n6_ : Aside0 (w0.heap.size ≤ gb778) := ⟨h6_⟩
       have n7_ : Aside0 (gb767 ≠ gb778) := ⟨h7_⟩
       have n8_ : Aside0 (gb778 ≠ gb767) := ⟨h8_⟩
       have n9_ : Aside0 (gb768 ≠ gb778) := ⟨h9_⟩
       have n10_ : Aside0 (gb778 ≠ gb768) := ⟨h10_⟩
       have n11_ : Aside0 (Kept w w18 (fun k_ => P0_0_ k_)) := ⟨h11_⟩
       have n12_ : Aside0 (Below w0.heap.size w0 w18) := ⟨h12_⟩
       clear HO_6
       clear HO_768000
       clear BK767
       clear BK768
       clear HK
       clear HB
       clear h0_ h1_ h2_ h3_ h4_ h5_ h6_ h7_ h8_ h9_ h10_ h11_ h12_
       have HO776 := n0_
       have HO_6 := n1_
       have BK767 := n2_
       have BK768 := n3_
       have BK778 := n4_
       have GW778 := n5_
       have GE778 := n6_
       have NB767_778 := n7_
       have NB778_767 := n8_
       have NB768_778 := n9_
       have NB778_768 := n10_
       have HK := n11_
       have HB := n12_
       clear n0_ n1_ n2_ n3_ n4_ n5_ n6_ n7_ n8_ n9_ n10_ n11_ n12_
       have hHeld : w18.cell? ⟨gb767, 0, none⟩ = some (.slice Ao14 x768000_1.length co14) ∧ w18.cell? (ad773.add (x9_1).toNat) = some (.string (rdOf ByteArray.empty t769 x9_1)) := hS_
       obtain ⟨Ao19, co19, eo19⟩ := Kd.R_slice HO776.out
       (first | subst eo19 | (injection eo19 with f1_ f2_ f3_; have f4_ := f1_.symm; have f5_ := f3_.symm; clear f1_ f2_ f3_; subst f4_; subst f5_))
       refine norm_ (a' := ?_) ?_ ?_
       rotate_left
       ·simp only [putAll, Act.put, List.setIfInBounds_toArray, List.set_cons_zero, List.set_cons_succ]
        rfl
       refine on_ 10 none (bm 12 2047) (fun K hK => ?_)
       have : w18.cell? ⟨gb778, 0, none⟩ = some (.slice none 0 0) := bcell BK778 0
       have := bfz BK778 0
       have := NB767_778.out
       have := NB768_778.out
       have := NB778_767.out
       have := NB778_768.out
       refine skip_ (w1 := ?_) (by rfl) rfl ?_ ?_
       rotate_left
       ·go_simp
        rfl
       refine hK.out _ _ ⟨((cell_far (p := ⟨gb778, _, none⟩) NB767_778.out _).trans (hHeld.1)), ((cell_far (p := ⟨gb778, _, none⟩) (by first | exact Kd.own_blk (Kd.R_ne HO_6.out BK778.out (by decide)) | (rw [add_block]; exact Kd.own_blk (Kd.R_ne HO_6.out BK778.out (by decide))) | (show (Addr.add _ _).block ≠ _; rw [add_block]; exact Kd.own_blk (Kd.R_ne HO_6.out BK778.out (by decide))) | (dsimp only; exact Kd.own_blk (Kd.R_ne HO_6.out BK778.out (by decide)))) _).trans (hHeld.2))⟩ (fun hHeld => ?_)
       clear hK K
       refine pu_ 11 (some 11) (bm 12 4095) ?_
       refine done_ (done_of HT_.out (by kernel_rfl)) ?_
       have := NB778_767.out
       have := NB767_778.out
       have := NB778_768.out
       have := NB768_778.out
       have := bcell BK778 0
       have := bfz BK778 0
       have := NB767_768.out
       have := NB768_767.out
       have := bcell BK767 0
       have := bfz BK767 0
       try go_wp2
       go_roundg k1
       case measure => have := HK1.out; omega
       case rel => exact ⟨((x8_1 ++ t777) ++ (⟨#[59]⟩ : ByteArray)), (wrap64 (x9_1 + 1)), (t774), (.slice Ao19 t774.length co19), rs_, rs_, H', ⟨by have := HK1.out; omega⟩, ⟨by (with_reducible repeat apply ru); exact Kd.R_mono (Kd.R_far (p := ⟨gb767, 0, none⟩) (Kd.R_far (p := ⟨gb778, 0, none⟩) (Kd.R_types (Kd.R_types HO_6.out BK778.out (by decide)) BK767.out (by decide)) (fun _ hk => hk.1.2) (.slice Ao19 t774.length co19)) (fun _ hk => hk.2) (.slice Ao19 t774.length co19)) (fun _ hk => hk.1.1)⟩, ⟨by (with_reducible repeat apply ru); exact Kd.R_mono (Kd.R_far (p := ⟨gb767, 0, none⟩) (Kd.R_far (p := ⟨gb778, 0, none⟩) (Kd.R_types (Kd.R_types HO776.out BK778.out (by decide)) BK767.out (by decide)) (fun _ hk => hk.1.2) (.slice Ao19 t774.length co19)) (fun _ hk => hk.2) (.slice Ao19 t774.length co19)) (fun _ hk => hk.1.1)⟩, ⟨by (with_reducible repeat refine bu ?_); refine blk_put (cs := #[.slice Ao14 x768000_1.length co14]) ?_ 0 _ rfl; (with_reducible repeat refine bu ?_); refine blk_far ?_ NB767_778.out _; (with_reducible repeat refine bu ?_); exact BK767.out⟩, bf_ BK768, ⟨m16_⟩, ⟨m2_⟩⟩
      ·rw [if_neg c12] at H
       exact absurd H (by simp)
     ·rw [if_neg c11] at H
      exact absurd H (by simp)
    ·rw [if_neg c9] at H
     exact absurd H (by simp)
   ·rw [if_neg c8] at H
    have c8b0 : decide (x9_1 < (t769.length : Int)) = false := decide_eq_false c8
    clear c8
    simp only [Option.some.injEq, Prod.mk.injEq] at H
    obtain ⟨rfl, rfl⟩ := H
    obtain ⟨Ao26, co26, eo26⟩ := Kd.R_slice HO_6.out
    subst eo26
    have := NB767_768.out
    have := NB768_767.out
    have := bcell BK767 0
    have := bfz BK767 0
    obtain ⟨Ao29, co29, eo29⟩ := Kd.R_slice HO_768000.out
    subst eo29
    have := bcell BK768 0
    have := bfz BK768 0
    go_wp2
    refine bodyPost_ret (results_ct rfl _ _ gb768 25 #[.slice Ao29 x768000_1.length co29] (0, 0) _ rfl (by (with_reducible repeat refine bu ?_); refine blk_put (cs := #[.slice none 0 0]) ?_ 0 _ rfl; (with_reducible repeat refine bu ?_); exact BK768.out) Tryz.underlying25 rfl (by kernel_rfl)) rfl ?_
    exact ⟨_, fi_, by (with_reducible repeat apply ru); exact Kd.R_mono (Kd.R_far (p := ⟨gb768, 0, none⟩) (Kd.R_types HO_768000.out BK768.out (by decide)) (fun _ hk => hk.2) (.slice Ao29 x768000_1.length co29)) (fun _ hk => hk.1), m2_, m16_⟩
end
end Go.Proofs.YtffmbccgcaghjaaGreatDoor.P
