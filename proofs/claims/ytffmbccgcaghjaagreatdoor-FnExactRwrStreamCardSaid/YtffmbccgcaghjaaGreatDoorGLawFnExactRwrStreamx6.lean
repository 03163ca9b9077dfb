import Derived.Test.YtffmbccgcaghjaaGreatDoorGLawFnExactRwrStreamx5
import Derived.RangeFuncNested
import Derived.RangeFuncBound
import Derived.RangeFuncCalls
import Derived.RangeFuncLeaves
import Derived.Shelf.Abstract
import Derived.OwnWalkIn
import Derived.TacticsInMore
import Derived.LoopNIn
import Derived.LoopIn
import Derived.Lib.Hide
import Derived.Laws.EntriesVeiled
import Derived.Shelf.Strings.BuilderK
import Derived.Shelf.LaysM
import Derived.Shelf.LaysC
import Derived.Shelf.Strings.Count
import Derived.Shelf.Strings.LastIndex
import Derived.Test.YtffmbccgcaghjaaGreatDoorProg
import Derived.Shelf.Vars
import Derived.Shelf.Lays
import Derived.RangeFuncBox
import Derived.Maps.AppendAt
import Derived.Test.YtffmbccgcaghjaaGreatDoorUFnExactRwrStreamOwn
namespace Go.Proofs.YtffmbccgcaghjaaGreatDoor.P
open Go.Proofs.YtffmbccgcaghjaaGreatDoorUFnExactRwrStream.PrintLast Go.Proofs.YtffmbccgcaghjaaGreatDoorUFnExactRwrStream.PrintMore Go.Proofs.YtffmbccgcaghjaaGreatDoorUFnExactRwrStream.PrintWords Go.RowKit
set_option linter.unusedVariables false
set_option linter.unusedSimpArgs false
section
attribute [local go_sem] max2_int min2_int max_two min_two max_three min_three max_four min_four
def spec_RwrStream.j0 : Nat → ByteArray → Bool → List (S34) → Option ((List (S34)) × ByteArray)
 | 0, _, _, _ => none
 | k + 1, x1, x13, x780000 => if x13 = true then (some (([] : List (S34)), (⟨#[]⟩ : ByteArray))) else ((spec_l3Copy.f x780000).bind fun t783 => ((spec_l3Stream.f k t783 x1).bind fun bt786 => (some (bt786.1, bt786.2))))
def spec_RwrStream.f (k : Nat) (l0_0 : List (S34)) (a1 : ByteArray) : Option ((List (S34)) × ByteArray) := (spec_MapOk.f k l0_0).bind fun t781 => (if t781 = true then ((spec_StrOk.f k a1).bind fun t782 => (spec_RwrStream.j0 k a1 (!t782) l0_0)) else (spec_RwrStream.j0 k a1 true l0_0))
theorem spec_RwrStream.mono_l : ∀ k, (∀ y0 y1 y2, LeO (spec_RwrStream.j0 k y0 y1 y2) (spec_RwrStream.j0 (k + 1) y0 y1 y2))
 | 0 => fun _ _ _ r h => by simp [spec_RwrStream.j0] at h
 | k + 1 => by
  have ih0 := spec_RwrStream.mono_l k
  ·intro y0 y1 y2
   unfold spec_RwrStream.j0
   repeat' first | (with_reducible first | exact ih0 _ _ _ | exact spec_MapOk.mono _ _ | exact spec_StrOk.mono _ _ | exact spec_l3Stream.mono _ _ _ | exact LeO.refl _ | exact LeO.none _ | refine LeO.ite ?_ ?_ | refine LeO.bind ?_ (fun _ => ?_)) | exact ih0 _ _ _ | exact spec_MapOk.mono _ _ | exact spec_StrOk.mono _ _ | exact spec_l3Stream.mono _ _ _ | exact LeO.none _ | refine LeO.ite ?_ ?_ | refine LeO.bind ?_ (fun _ => ?_)
theorem spec_RwrStream.mono : ∀ a0 a1 k, LeO (spec_RwrStream.f k a0 a1) (spec_RwrStream.f (k + 1) a0 a1) := by
 intro a0 a1 k
 have ih0 := spec_RwrStream.mono_l k
 unfold spec_RwrStream.f
 repeat' first | (with_reducible first | exact ih0 _ _ _ | exact spec_MapOk.mono _ _ | exact spec_StrOk.mono _ _ | exact spec_l3Stream.mono _ _ _ | exact LeO.refl _ | exact LeO.none _ | refine LeO.ite ?_ ?_ | refine LeO.bind ?_ (fun _ => ?_)) | exact ih0 _ _ _ | exact spec_MapOk.mono _ _ | exact spec_StrOk.mono _ _ | exact spec_l3Stream.mono _ _ _ | exact LeO.none _ | refine LeO.ite ?_ ?_ | refine LeO.bind ?_ (fun _ => ?_)
set_option maxHeartbeats 8000000 in
set_option maxRecDepth 100000 in
theorem spec_RwrStream.calls (k : Nat) (A0_0 : Option Addr) (c0_0 : Nat) (l0_0 : List (S34)) (a1 : ByteArray) (r1 : List (S34)) (r2 : ByteArray) (w : World) (hr0_0 : Kd.C k34 w A0_0 l0_0.length l0_0) (hc0_0 : l0_0.length ≤ c0_0) (h : spec_RwrStream.f k l0_0 a1 = some (r1, r2)) :
  Calls Tryz.prog 37 #[.agg #[.slice A0_0 l0_0.length c0_0], .string a1] w fun e w' => ∃ v0_ : Value, e = .returned (.tuple #[.agg #[v0_], .string r2]) ∧ Kd.R k34 34 w' w.heap.size (fun _ => True) v0_ r1 ∧ Below w.heap.size w w' := by
 have hu25 := Tryz.underlying25
 have HR0_0 := am hr0_0
 have HC0_0 := am hc0_0
 clear hr0_0 hc0_0
 have HB := am (Below.refl w.heap.size w)
 have H : ((spec_MapOk.f k l0_0).bind fun t781 => (if t781 = true then ((spec_StrOk.f k a1).bind fun t782 => (spec_RwrStream.j0 k a1 (!t782) l0_0)) else (spec_RwrStream.j0 k a1 true l0_0))) = some (r1, r2) := h
 clear h
 have HC3 := am H
 clear H
 go_enter Tryz.func37, Tryz.ntmps37
 go_upto_region 1 with (first | ((with_reducible refine gate_dst (N := 2) rfl ?_); refine box_event rfl (N := 2) rfl (cs := #[.slice A0_0 l0_0.length c0_0]) (t := 25) hr_ ?_; intro gb779 hg w4 hbox hb; have BK779 := am hbox; have GW779 := gwE HB hg; have GE779 := gwE HB hg; replace HB := hbS HB hb; clear hb hbox hg) | ((with_reducible refine gate_dst (N := 4) rfl ?_); refine box_event rfl (N := 4) rfl (cs := #[.slice none 0 0]) (t := 25) hr_ ?_; intro gb780 hg w5 hbox hb; have BK780 := am hbox; have GW780 := gwE HB hg; have GE780 := gwE HB hg; replace HB := hbS HB hb; have NB779_780 := neL BK779 hg; have NB780_779 := neG BK779 hg; replace BK779 := bkB BK779 hb; clear hb hbox hg))
 (try simp only [Act.put, List.setIfInBounds_toArray, List.set_cons_zero, List.set_cons_succ])
 go_cut [13] (fun v13 wc => ∃ (kq : Nat) (x13_2 : Bool), v13 = .bool x13_2 ∧ Aside0 (spec_RwrStream.j0 kq a1 x13_2 l0_0 = some (r1, r2)) ∧ Aside0 (kq ≤ k) ∧ Aside0 (wc.heap[gb779]? = some (.cells #[(.slice A0_0 l0_0.length c0_0)] 25 (0, 0))) ∧ Aside0 (wc.heap[gb780]? = some (.cells #[(.slice none 0 0)] 25 (0, 0))) ∧ Aside0 (Below w.heap.size w wc))
 case first =>
  have H := HC3.out
  clear HC3
  obtain ⟨t781, A6, H⟩ := bse H
  try dsimp only at H
  by_cases c7 : t781 = true
  ·subst c7
   have H1 : ((spec_StrOk.f k a1).bind fun t782 => (spec_RwrStream.j0 k a1 (!t782) l0_0)) = some (r1, r2) := by rw [if_pos rfl] at H; exact H
   clear H
   have H := H1
   clear H1
   obtain ⟨t782, A8, H⟩ := bse H
   try dsimp only at H
   have H' := am H
   clear H
   have := NB779_780.out
   have := NB780_779.out
   have hcz10_0 := bcell BK779 0
   have hfz10_0 := blk_frozen BK779.out 0
   go_wp2_with (first | ((with_reducible refine gate_callee (f := 16) rfl ?_); refine gL (some 7) Tryz.func16 #[.agg #[.slice A0_0 l0_0.length c0_0]] ?_; (with_reducible refine (spec_MapOk.calls k _ _ l0_0 true _ ?side1 ?side2 A6.out).mono ?_); (case side1 => exact m4_); (case side2 => exact HC0_0.out); rintro e w11 ⟨rfl, hb⟩; refine ⟨_, rfl, ?_⟩; replace BK779 := bkB BK779 hb; replace BK780 := bkB BK780 hb; replace HB := hbS HB hb; (try clear hb)) | (go_at_call 33; (with_reducible refine (spec_StrOk.calls k a1 t782 _ A8.out).mono ?_); rintro e w12 ⟨rfl, hb⟩; replace BK779 := bkB BK779 hb; replace BK780 := bkB BK780 hb; replace HB := hbS HB hb; (try clear hb)))
   go_meet
   case rel => exact ⟨_, (!t782), rs_, H', ⟨by first | omega | exact Nat.le_refl _⟩, ⟨bk BK779⟩, ⟨bk BK780⟩, ⟨m2_⟩⟩
  ·replace c7 := Bool.eq_false_iff.mpr c7
   subst c7
   have H1 : (spec_RwrStream.j0 k a1 true l0_0) = some (r1, r2) := by rw [if_neg (show ¬ (false = true) by decide)] at H; exact H
   clear H
   have H := H1
   clear H1
   have H' := am H
   clear H
   have := NB779_780.out
   have := NB780_779.out
   have hcz14_0 := bcell BK779 0
   have hfz14_0 := blk_frozen BK779.out 0
   go_wp2_with (first | ((with_reducible refine gate_callee (f := 16) rfl ?_); refine gL (some 7) Tryz.func16 #[.agg #[.slice A0_0 l0_0.length c0_0]] ?_; (with_reducible refine (spec_MapOk.calls k _ _ l0_0 false _ ?side1 ?side2 A6.out).mono ?_); (case side1 => exact m4_); (case side2 => exact HC0_0.out); rintro e w15 ⟨rfl, hb⟩; refine ⟨_, rfl, ?_⟩; replace BK779 := bkB BK779 hb; replace BK780 := bkB BK780 hb; replace HB := hbS HB hb; (try clear hb)))
   go_meet
   case rel => exact ⟨_, (true), rs_, H', ⟨by first | omega | exact Nat.le_refl _⟩, ⟨bk BK779⟩, ⟨bk BK780⟩, ⟨m2_⟩⟩
 case rest =>
  clear HC3
  try clear c1
  try clear p2
  try clear c3
  try clear c7
  try clear c9
  try clear c13
  try clear hcz10_0
  try clear hcz14_0
  try clear hfz10_0
  try clear hfz14_0
  obtain ⟨kq, x13_2, rfl, HA, HJ2, BK779, BK780, HB⟩ := hcut
  cases kq with
  | zero => exact absurd HA.out (by simp [spec_RwrStream.j0])
  | succ kj2 =>
   have H := HA.out
   clear HA
   simp only [spec_RwrStream.j0] at H
   by_cases c16 : x13_2 = true
   ·subst c16
    have H1 : (some (([] : List (S34)), (⟨#[]⟩ : ByteArray))) = some (r1, r2) := by rw [if_pos rfl] at H; exact H
    clear H
    have H := H1
    clear H1
    simp only [Option.some.injEq, Prod.mk.injEq] at H
    obtain ⟨rfl, rfl⟩ := H
    have := NB780_779.out
    have := NB779_780.out
    have := bcell BK780 0
    have := bfz BK780 0
    go_wp2
    refine bodyPost_ret (results_ct rfl _ _ gb780 25 #[.slice none 0 0] (0, 0) _ rfl (by (with_reducible repeat refine bu ?_); refine blk_put (cs := #[.slice none 0 0]) ?_ 0 _ rfl; (with_reducible repeat refine bu ?_); exact BK780.out) Tryz.underlying25 rfl (by kernel_rfl)) rfl ?_
    exact ⟨_, fi_, by first | exact Kd.R_nil _ _ _ _ _ | exact Kd.N_nil _ _ _ _ _ | exact Kd.V_nil _ _ _ _ _ | exact Kd.Q_nil _ _ _ _ _ | exact Kd.S_nil _ _ _ _ _, m2_⟩
   ·replace c16 := Bool.eq_false_iff.mpr c16
    subst c16
    have H1 : ((spec_l3Copy.f l0_0).bind fun t783 => ((spec_l3Stream.f kj2 t783 a1).bind fun bt786 => (some (bt786.1, bt786.2)))) = some (r1, r2) := by rw [if_neg (show ¬ (false = true) by decide)] at H; exact H
    clear H
    have H := H1
    clear H1
    obtain ⟨t783, A19, H⟩ := bse H
    try dsimp only at H
    obtain ⟨⟨t786, t789⟩, A20, H⟩ := bse H
    try dsimp only at H
    simp only [Option.some.injEq, Prod.mk.injEq] at H
    obtain ⟨rfl, rfl⟩ := H
    have := NB779_780.out
    have := NB780_779.out
    have := bcell BK779 0
    have := bfz BK779 0
    go_wp2_with (first | ((with_reducible refine gate_callee (f := 47) rfl ?_); refine gL (some 16) Tryz.func47 #[.agg #[.slice A0_0 l0_0.length c0_0]] ?_; (with_reducible refine (spec_l3Copy.calls _ _ l0_0 t783 _ ?side1 ?side2 A19.out).mono ?_); (case side1 => exact m4_); (case side2 => exact HC0_0.out); rintro e w23 ⟨v784, rfl, ho0, hb⟩; refine ⟨_, rfl, ?_⟩; have HO785 := am (Kd.R_lower ho0 (below_size (bl HB))); replace BK779 := bkB BK779 hb; replace BK780 := bkB BK780 hb; replace HB := hbS HB hb; (try clear hb); (try clear ho0); obtain ⟨Ao24, co24, eo24⟩ := Kd.R_slice HO785.out; subst eo24) | ((with_reducible refine gate_callee (f := 73) rfl ?_); refine gL (some 18) Tryz.func73 #[.agg #[.slice Ao24 t783.length co24], .string a1] ?_; (with_reducible refine (spec_l3Stream.calls kj2 (fun k_ => some k_ = (.slice Ao24 t783.length co24 : Value).ownBlock) (.slice Ao24 t783.length co24) t783 a1 t786 t789 w _ ?side1 ?side2 A20.out).mono ?_); (case side1 => exact m2_); (case side2 => exact Kd.R_tight rfl HO785.out); rintro e w25 ⟨v787, rfl, ho0, hb, hkp⟩; refine ⟨_, rfl, ?_⟩; replace BK779 := am (blk_kept (bk BK779) hkp (fun hs_ => (fun e_ => (Kd.R_ne HO785.out BK779.out (by decide)) e_) hs_)); replace BK780 := am (blk_kept (bk BK780) hkp (fun hs_ => (fun e_ => (Kd.R_ne HO785.out BK780.out (by decide)) e_) hs_)); have HO788 := am (Kd.R_mono (ok' := fun k_ => True) ho0 (fun k_ hk_ => trivial)); replace HB := am hb; clear HO785; (try clear hb); (try clear hkp); (try clear ho0); obtain ⟨Ao26, co26, eo26⟩ := Kd.R_slice HO788.out; subst eo26; have := bcell BK780 0; have := bfz BK780 0))
    refine bodyPost_ret (results_ct rfl _ _ gb780 25 #[.slice Ao26 t786.length co26] (0, 0) _ rfl (by (with_reducible repeat refine bu ?_); refine blk_put (cs := #[.slice none 0 0]) ?_ 0 _ rfl; (with_reducible repeat refine bu ?_); exact BK780.out) Tryz.underlying25 rfl (by kernel_rfl)) rfl ?_
    exact ⟨_, fi_, by (with_reducible repeat apply ru); exact Kd.R_mono (Kd.R_far (p := ⟨gb780, 0, none⟩) (Kd.R_types HO788.out BK780.out (by decide)) (fun _ hk => hk.2) (.slice Ao26 t786.length co26)) (fun _ hk => trivial), m2_⟩
end
theorem ext_step (s : ByteArray) (j i : Nat) (hj : j ≤ i) (h : i < s.size) : s.extract j (i + 1) = s.extract j i ++ ⟨#[s.data.toList[i]'(by rw [len_size]; exact h)]⟩ := by
  apply ba_ext
  have hl : i < s.data.toList.length := by rw [len_size]; exact h
  rw [ByteArray.data_append, Array.toList_append, Lib.extract_data, Lib.extract_data]
  have hd : i - j < (s.data.toList.drop j).length := by rw [List.length_drop]; omega
  rw [show i + 1 - j = (i - j) + 1 by omega, List.take_add_one, List.getElem?_eq_getElem hd, List.getElem_drop]
  simp only [Option.toList_some]
  congr 3
  omega
theorem ext_nil (s : ByteArray) (i : Nat) : s.extract i i = ⟨#[]⟩ := by
  apply ba_ext
  rw [Lib.extract_data]
  simp
theorem specStrLines_a (s : ByteArray) (hs : s.size ≤ 1048576) : Ans (fun k => spec_StrLines.f k s) (fun r => r = (linesB s, restB s)) := by
  have L : ∀ (m i : Nat), s.size - i = m → i ≤ s.size → ∀ (j : Nat) (x4 : List ByteArray), j ≤ i → x4.length ≤ i → x4 ++ lineL (s.extract j i) (s.data.toList.drop i) = linesB s → restL (s.extract j i) (s.data.toList.drop i) = restB s →
      Ans (fun k => spec_StrLines.l0 k s x4 (j : Int) (i : Int)) (fun r => r = (linesB s, restB s)) := by
    intro m
    induction m with
    | zero =>
      intro i hm hi j x4 hj h4 h1 h2
      refine Ans.succ ?_
      unfold spec_StrLines.l0
      refine Ans.neg (by omega) (Ans.pos (by omega) (Ans.pos (by omega) (Ans.pure ?_)))
      have hii : i = s.size := by omega
      subst hii
      rw [List.drop_eq_nil_of_le (by rw [len_size]; omega)] at h1 h2
      rw [lineL, List.append_nil] at h1
      rw [restL] at h2
      rw [h1, Int.toNat_natCast, h2]
    | succ m ih =>
      intro i hm hi j x4 hj h4 h1 h2
      have hlt : i < s.size := by omega
      have hl : i < s.data.toList.length := by rw [len_size]; exact hlt
      have hw : wrap64 ((i : Int) + 1) = ((i + 1 : Nat) : Int) := w64 _ (by omega)
      have e : s.data.toList.drop i = s.data.toList[i] :: s.data.toList.drop (i + 1) := List.drop_eq_getElem_cons hl
      refine Ans.succ ?_
      unfold spec_StrLines.l0
      refine Ans.pos (by omega) (Ans.pos (by omega) ?_)
      rw [bt_get s i hlt, hw]
      rw [e] at h1 h2
      by_cases hc : s.data.toList[i] = 59
      · refine Ans.pos (by rw [hc]; rfl) (Ans.pos (by omega) (Ans.pos (by omega) (Ans.pos (by omega) (Ans.pos (by omega) ?_))))
        simp only [Int.toNat_natCast]
        rw [lineL, if_pos hc] at h1
        rw [restL, if_pos hc] at h2
        refine ih (i + 1) (by omega) (by omega) (i + 1) _ (Nat.le_refl _) (by simp; omega) ?_ ?_
        · rw [ext_nil]; simpa using h1
        · rw [ext_nil]; exact h2
      · refine Ans.neg (fun h => hc (UInt8.toNat_inj.mp (by have : ((59 : UInt8).toNat : Int) = 59 := rfl; omega))) ?_
        rw [lineL, if_neg hc] at h1
        rw [restL, if_neg hc] at h2
        refine ih (i + 1) (by omega) (by omega) j x4 (by omega) (by omega) ?_ ?_
        · rw [ext_step s j i hj hlt]; exact h1
        · rw [ext_step s j i hj hlt]; exact h2
  unfold spec_StrLines.f
  exact L s.size 0 (by omega) (Nat.zero_le _) 0 [] (Nat.le_refl _) (Nat.zero_le _) (by rw [ext_nil]; rfl) (by rw [ext_nil]; rfl)
theorem lineL_size : ∀ (l : List UInt8) (w : ByteArray), (lineL w l).length ≤ l.length ∧ (∀ x ∈ lineL w l, x.size ≤ w.size + l.length) ∧ (restL w l).size ≤ w.size + l.length
  | [], w => ⟨Nat.le_refl _, fun x hx => by simp [lineL] at hx, by simp [restL]⟩
  | c :: l, w => by
    have h1 : (⟨#[c]⟩ : ByteArray).size = 1 := rfl
    have h0 : (⟨#[]⟩ : ByteArray).size = 0 := rfl
    unfold lineL restL
    by_cases h : c = 59
    · rw [if_pos h, if_pos h]
      obtain ⟨a, b, d⟩ := lineL_size l ⟨#[]⟩
      refine ⟨by simp; omega, ?_, by simp; omega⟩
      intro x hx
      rcases List.mem_cons.mp hx with rfl | hx
      · omega
      · have := b x hx; simp; omega
    · rw [if_neg h, if_neg h]
      obtain ⟨a, b, d⟩ := lineL_size l (w ++ ⟨#[c]⟩)
      rw [ByteArray.size_append, h1] at b d
      refine ⟨by simp; omega, ?_, by simp; omega⟩
      intro x hx
      have := b x hx; simp; omega
theorem linesB_size (s : ByteArray) : (linesB s).length ≤ s.size ∧ (∀ x ∈ linesB s, x.size ≤ s.size) ∧ (restB s).size ≤ s.size := by
  have := lineL_size s.data.toList ⟨#[]⟩
  have h0 : (⟨#[]⟩ : ByteArray).size = 0 := rfl
  rw [len_size, h0] at this
  simpa [linesB, restB] using this
def strOkW (s : ByteArray) : Bool := decide (s.size ≤ 120) && ((linesB s).all linOk && linOk (restB s))
theorem rdOf_get {l : List ByteArray} {i : Nat} (h : i < l.length) : rdOf ByteArray.empty l (i : Int) = l[i] := by
  unfold rdOf
  simp [List.getD, h]
theorem specStrOk_a (s : ByteArray) (hs : s.size ≤ 1048576) : Ans (fun k => spec_StrOk.f k s) (fun r => r = strOkW s) := by
  unfold spec_StrOk.f strOkW
  refine Ans.ite (fun h => Ans.pure ?_) (fun h => ?_)
  · have : ¬ s.size ≤ 120 := by omega
    simp [this]
  · have h120 : s.size ≤ 120 := by omega
    obtain ⟨z1, z2, z3⟩ := linesB_size s
    refine Ans.bind (specStrLines_a s hs) ?_
    rintro _ rfl
    dsimp only
    have L : ∀ (m i : Nat), (linesB s).length - i = m → i ≤ (linesB s).length → Ans (fun k => spec_StrOk.l0 k (linesB s) (restB s) (i : Int)) (fun r => r = (((linesB s).drop i).all linOk && linOk (restB s))) := by
      intro m
      induction m with
      | zero =>
        intro i hm hi
        refine Ans.succ ?_
        unfold spec_StrOk.l0
        refine Ans.neg (by omega) (Ans.bind (specLinOk_a _) ?_)
        rintro _ rfl
        rw [List.drop_eq_nil_of_le (by omega)]
        exact Ans.pure (by simp)
      | succ m ih =>
        intro i hm hi
        have hlt : i < (linesB s).length := by omega
        have hw : wrap64 ((i : Int) + 1) = ((i + 1 : Nat) : Int) := w64 _ (by omega)
        refine Ans.succ ?_
        unfold spec_StrOk.l0
        refine Ans.pos (by omega) (Ans.pos (by omega) ?_)
        rw [rdOf_get hlt, hw]
        refine Ans.bind (specLinOk_a _) ?_
        rintro _ rfl
        have e : (linesB s).drop i = (linesB s)[i] :: (linesB s).drop (i + 1) := List.drop_eq_getElem_cons hlt
        rw [e, List.all_cons]
        cases hq : linOk (linesB s)[i] with
        | true => exact Ans.pos rfl ((ih (i + 1) (by omega) (by omega)).mono (by rintro v rfl; simp))
        | false => exact Ans.neg (by simp) (Ans.pure (by simp))
    refine (L _ 0 rfl (Nat.zero_le _)).mono ?_
    rintro v rfl
    simp [h120]
def strW : List S34 → List ByteArray → ByteArray → List S34 × ByteArray
  | l, [], o => (l, o)
  | l, x :: r, o => strW (lineW l x).1 r ((o ++ (lineW l x).2) ++ (⟨#[59]⟩ : ByteArray))
theorem lineW_ok {l : List S34} {s : ByteArray} (c : okT l = true) (cs : linOk s = true) : okT (lineW l s).1 = true ∧ (lineW l s).2.size ≤ 16 ∧ linOk (lineW l s).2 = true := by
  unfold lineW
  cases hr : saysW s with
  | none => exact ⟨c, linOk_size cs, cs⟩
  | some r =>
    obtain ⟨a, p⟩ := r
    have h1 := put_ok c (saysW_in hr)
    have h2 := lportW_size 50 (putV l a p).2
    dsimp only
    split
    · exact ⟨h1, by show noneB.size ≤ 16; decide, by show linOk noneB = true; decide⟩
    · exact ⟨h1, by show (lportW 50 (putV l a p).2).size ≤ 16; omega, lport_linOk _ _⟩
theorem specStream_a {l : List S34} {s : ByteArray} (c : okT l = true) (cs : strOkW s = true) : Ans (fun k => spec_l3Stream.f k l s) (fun r => r = strW l (linesB s) ⟨#[]⟩) := by
  unfold strOkW at cs
  simp only [Bool.and_eq_true, decide_eq_true_eq] at cs
  obtain ⟨h120, hall, _⟩ := cs
  obtain ⟨z1, z2, z3⟩ := linesB_size s
  unfold spec_l3Stream.f
  refine Ans.bind (specStrLines_a s (by omega)) ?_
  rintro _ rfl
  dsimp only
  have L : ∀ (m i : Nat), (linesB s).length - i = m → i ≤ (linesB s).length → ∀ (o : ByteArray) (l : List S34), okT l = true → o.size ≤ 17 * i →
      Ans (fun k => spec_l3Stream.l0 k (linesB s) o (i : Int) l) (fun r => r = strW l ((linesB s).drop i) o) := by
    intro m
    induction m with
    | zero =>
      intro i hm hi o l hl ho
      refine Ans.succ ?_
      unfold spec_l3Stream.l0
      rw [List.drop_eq_nil_of_le (by omega)]
      exact Ans.neg (by omega) (Ans.pure rfl)
    | succ m ih =>
      intro i hm hi o l hl ho
      have hlt : i < (linesB s).length := by omega
      have hw : wrap64 ((i : Int) + 1) = ((i + 1 : Nat) : Int) := w64 _ (by omega)
      have hx : linOk (linesB s)[i] = true := List.all_eq_true.mp hall _ (List.getElem_mem hlt)
      obtain ⟨g1, g2, g3⟩ := lineW_ok hl hx
      have h6 := okT_le hl
      refine Ans.succ ?_
      unfold spec_l3Stream.l0
      refine Ans.pos (by omega) (Ans.pos (by omega) ?_)
      rw [rdOf_get hlt, hw]
      refine Ans.bind (specLine_a (l := l) (by omega) (by have := linOk_size hx; omega)) ?_
      rintro _ rfl
      have e : (linesB s).drop i = (linesB s)[i] :: (linesB s).drop (i + 1) := List.drop_eq_getElem_cons hlt
      rw [e]
      refine Ans.pos (by omega) (Ans.pos (by rw [ByteArray.size_append]; omega) ?_)
      refine ih (i + 1) (by omega) (by omega) _ _ g1 ?_
      have h1 : (⟨#[59]⟩ : ByteArray).size = 1 := rfl
      simp only [ByteArray.size_append, h1]
      omega
  exact L _ 0 rfl (Nat.zero_le _) _ _ c (Nat.le_refl _)
def rwrStreamW (l : List S34) (s : ByteArray) : List S34 × ByteArray := if okT l && strOkW s then strW l (linesB s) ⟨#[]⟩ else ([], ⟨#[]⟩)
theorem specRwrStream_a (l : List S34) (hl : l.length ≤ 2000000) (s : ByteArray) (hs : s.size ≤ 1048576) : Ans (fun k => spec_RwrStream.f k l s) (fun r => r = rwrStreamW l s) := by
  unfold spec_RwrStream.f rwrStreamW
  refine Ans.bind (specMapOk_a l hl) ?_
  rintro _ rfl
  have J0 : Ans (fun k => spec_RwrStream.j0 k s true l) (fun r => r = ([], ⟨#[]⟩)) := by
    refine Ans.succ ?_
    unfold spec_RwrStream.j0
    exact Ans.pos rfl (Ans.pure rfl)
  cases c : okT l with
  | false => exact Ans.neg (by simp) (by simpa using J0)
  | true =>
    refine Ans.pos rfl (Ans.bind (specStrOk_a s hs) ?_)
    rintro _ rfl
    cases c2 : strOkW s with
    | false => simpa using J0
    | true =>
      refine Ans.succ ?_
      unfold spec_RwrStream.j0
      refine Ans.neg (by simp) ?_
      have hl6 := okT_le c
      have hc : spec_l3Copy.f l = some l := by
        unfold spec_l3Copy.f
        rw [Option.bind_some, if_pos (by simp; omega)]
        rfl
      rw [hc]
      refine Ans.bsome (Ans.bind (specStream_a c c2) ?_)
      rintro v rfl
      exact Ans.pure (by simp)
theorem strW_facts : ∀ (xs : List ByteArray) (l : List S34) (o : ByteArray), okT l = true → xs.all linOk = true → okT (strW l xs o).1 = true ∧ (strW l xs o).2.size ≤ o.size + 17 * xs.length
  | [], l, o, c, _ => ⟨c, by simp [strW]⟩
  | x :: r, l, o, c, h => by
    simp only [List.all_cons, Bool.and_eq_true] at h
    obtain ⟨g1, g2, g3⟩ := lineW_ok c h.1
    obtain ⟨q1, q2⟩ := strW_facts r (lineW l x).1 ((o ++ (lineW l x).2) ++ (⟨#[59]⟩ : ByteArray)) g1 h.2
    have h1 : (⟨#[59]⟩ : ByteArray).size = 1 := rfl
    simp only [ByteArray.size_append, h1] at q2
    exact ⟨q1, by unfold strW; simp; omega⟩
theorem rwrStream_facts (l : List S34) (s : ByteArray) : (rwrStreamW l s).1.length ≤ 6 ∧ (rwrStreamW l s).2.size ≤ 2040 := by
  unfold rwrStreamW
  cases c : okT l && strOkW s with
  | false => exact ⟨Nat.zero_le _, Nat.zero_le _⟩
  | true =>
    simp only [Bool.and_eq_true] at c
    have c2 := c.2
    unfold strOkW at c2
    simp only [Bool.and_eq_true, decide_eq_true_eq] at c2
    obtain ⟨q1, q2⟩ := strW_facts (linesB s) l ⟨#[]⟩ c.1 c2.2.1
    have z := linesB_size s
    have h0 : (⟨#[]⟩ : ByteArray).size = 0 := rfl
    simp only [if_true]
    exact ⟨okT_le q1, by omega⟩
theorem stream_a {l : List Int} (hl : Bys l) {s B : Int} (hs : At B s) (hB : B < 300000) : Ans (fun k => spec_l20Stream.f k l s) (fun r => At (B + 60) r.2 ∧ r.1.size ≤ 200) := by
  have h1 : (⟨#[59]⟩ : ByteArray).size = 1 := rfl
  have L : ∀ (m : Nat) (x : ByteArray) (q s B : Int), At B s → B + 4 * (m : Int) < 390000 → x.size ≤ 120 → q ≤ m → m ≤ 9 → Ans (fun k => spec_l20Stream.l0 k x q l s) (fun r => At (B + 4 * m + 6) r.2 ∧ r.1.size ≤ 200) := by
    intro m
    have E : ∀ (x : ByteArray) (s B : Int), At B s → B < 399000 → x.size ≤ 120 → Ans (fun k => (spec_l20Rd_pick.f k l s 3).bind fun bt660 => (if bt660.1 = 0 then ((spec_l20Line.f k l bt660.2).bind fun bt662 => (if (wrap64 ((x.size : Int) + (bt662.1.size : Int))) ≤ 120 then (if x.size + bt662.1.size ≤ 9223372036854775807 then (some (x ++ bt662.1, bt662.2)) else (none)) else (some (x, bt662.2)))) else (some (x, bt660.2)))) (fun r => At (B + 6) r.2 ∧ r.1.size ≤ 200) := by
      intro x s B hs hB hx
      refine Ans.bind (pick_a hl hs (by omega) 3) ?_
      rintro ⟨v, s1⟩ ⟨h1, _⟩
      dsimp only at *
      refine Ans.ite (fun _ => ?_) (fun _ => Ans.pure ⟨at_le h1 (by omega), by dsimp only; omega⟩)
      refine Ans.bind (line_a hl h1 (by omega)) ?_
      rintro ⟨u, s2⟩ ⟨h2, hu⟩
      dsimp only at *
      refine Ans.ite (fun _ => Ans.pos (by omega) (Ans.pure ⟨at_le h2 (by omega), by rw [ByteArray.size_append]; omega⟩)) (fun _ => Ans.pure ⟨at_le h2 (by omega), by dsimp only; omega⟩)
    induction m with
    | zero =>
      intro x q s B hs hB hx hq _
      refine Ans.succ ?_
      unfold spec_l20Stream.l0
      refine Ans.neg (by omega) ((E x s B hs (by omega) hx).mono ?_)
      rintro r ⟨a, b⟩
      exact ⟨at_le a (by omega), b⟩
    | succ m ih =>
      intro x q s B hs hB hx hq hm
      refine Ans.succ ?_
      unfold spec_l20Stream.l0
      refine Ans.ite (fun c => ?_) (fun c => ?_)
      · refine Ans.bind (line_a hl hs (by omega)) ?_
        rintro ⟨u, s1⟩ ⟨g1, hu⟩
        dsimp only at *
        have e : wrap64 (q - 1) = q - 1 := w64 _ (by omega)
        rw [e]
        refine Ans.pos (by omega) (Ans.pos (by rw [ByteArray.size_append]; omega) ?_)
        refine Ans.ite (fun c2 => ?_) (fun c2 => ?_)
        · refine (ih _ _ s1 _ g1 (by omega) (by omega) (by omega) (by omega)).mono ?_
          rintro r ⟨a, b⟩
          exact ⟨at_le a (by push_cast; omega), b⟩
        · refine (ih _ _ s1 _ g1 (by omega) hx (by omega) (by omega)).mono ?_
          rintro r ⟨a, b⟩
          exact ⟨at_le a (by push_cast; omega), b⟩
      · refine (E x s B hs (by omega) hx).mono ?_
        rintro r ⟨a, b⟩
        exact ⟨at_le a (by omega), b⟩
  unfold spec_l20Stream.f
  refine Ans.bind (pick_a hl hs (by omega) 9) ?_
  rintro ⟨v1, s1⟩ ⟨h1', p1⟩
  dsimp only at *
  refine (L 9 ⟨#[]⟩ v1 s1 _ h1' (by omega) (Nat.zero_le _) (by omega) (by omega)).mono ?_
  rintro r ⟨a, b⟩
  exact ⟨at_le a (by omega), b⟩
theorem streamOr_a {l : List Int} (hl : Bys l) {s B : Int} (hs : At B s) (hB : B < 300000) (n : Int) : Ans (fun k => spec_l20StreamOr.f k l s n) (fun r => At (B + 80) r.2 ∧ r.1.size ≤ 400) := by
  have L : ∀ (m : Nat) (x : ByteArray) (s B : Int), At B s → x.size ≤ 400 → 121 ≤ x.size + 5 * m → Ans (fun k => spec_l20StreamOr.l0 k x l s) (fun r => At B r.2 ∧ r.1.size ≤ 400) := by
    intro m
    induction m with
    | zero =>
      intro x s B hs hx hm
      refine Ans.succ ?_
      unfold spec_l20StreamOr.l0
      exact Ans.neg (by omega) (Ans.pure ⟨hs, hx⟩)
    | succ m ih =>
      intro x s B hs hx hm
      refine Ans.succ ?_
      unfold spec_l20StreamOr.l0
      have h5 : (⟨#[108, 105, 115, 116, 59]⟩ : ByteArray).size = 5 := rfl
      refine Ans.ite (fun c => Ans.pos (by omega) (ih _ s B hs (by rw [ByteArray.size_append, h5]; omega) (by rw [ByteArray.size_append, h5]; omega))) (fun c => Ans.pure ⟨hs, hx⟩)
  unfold spec_l20StreamOr.f
  refine Ans.bind (stream_a hl hs (by omega)) ?_
  rintro ⟨u, s1⟩ ⟨h1, hu⟩
  dsimp only at *
  refine Ans.bind (odd_a hl h1 (by omega) n) ?_
  rintro ⟨o, s2⟩ h2
  dsimp only at *
  refine Ans.ite (fun _ => ?_) (fun _ => Ans.pure ⟨at_le h2 (by omega), by dsimp only; omega⟩)
  refine Ans.bind (pick_a hl h2 (by omega) 3) ?_
  rintro ⟨v3, s3⟩ ⟨h3, p3⟩
  dsimp only at *
  refine Ans.ite (fun _ => ?_) (fun _ => Ans.ite (fun _ => ?_) (fun _ => ?_))
  · refine Ans.bind (bent_a hl h3 (by omega) u (by omega)) ?_
    rintro ⟨x, s4⟩ ⟨h4, hx⟩
    exact Ans.pure ⟨at_le h4 (by omega), by dsimp only at *; omega⟩
  · have h18 : (⟨#[97, 98, 99, 100, 101, 102, 103, 104, 105, 106, 32, 107, 108, 109, 110, 111, 112, 59]⟩ : ByteArray).size = 18 := rfl
    exact Ans.pos (by omega) (Ans.pure ⟨at_le h3 (by omega), by rw [ByteArray.size_append, h18]; omega⟩)
  · refine (L 30 u s3 _ h3 (by omega) (by omega)).mono ?_
    rintro r ⟨a, b⟩
    exact ⟨at_le a (by omega), b⟩
theorem drawRwrStream_a {l : List Int} (hl : Bys l) : Ans (fun k => spec_DrawRwrStream.f k l) (fun r => r.1.length ≤ 20 ∧ r.2.size ≤ 400) := by
  unfold spec_DrawRwrStream.f
  obtain ⟨l', e0, hl'⟩ := open_f l hl
  rw [e0]
  refine Ans.bsome (Ans.bind (table_a hl' at0 (by omega) 14) ?_)
  rintro ⟨t, s1⟩ ⟨h1, ht⟩
  dsimp only at *
  refine Ans.bind (streamOr_a hl' h1 (by omega) 9) ?_
  rintro ⟨u, s2⟩ ⟨h2, hu⟩
  exact Ans.pure ⟨ht, hu⟩
end Go.Proofs.YtffmbccgcaghjaaGreatDoor.P
namespace Go.Proofs.YtffmbccgcaghjaaGreatDoor.P
open Go Go.RowKit
set_option linter.unusedVariables false
variable {F : Fence} {n : Nat} {P : Program}
def SeqRuns {α : Type} (F : Fence) (n : Nat) (P : Program) (g : Nat) (lb : Array Value) (encs : α → Array Value) (Kp T : World → World → Prop) (S : List α → Prop) (Nx : List α → α → Prop) (w : World) : Prop :=
  ∀ (l : Nat) (J : List α → World → Prop) (W : World), Below w.heap.size w W → AbidesFrom W.heap.size J → (∀ s A B, J s A → T A B → J s B) →
    (∀ pre x W1, J pre W1 → Nx pre x → YieldAt F (n - 1) P l (encs x) W1 fun e W' => e = .returned (.bool true) ∧ J (pre ++ [x]) W' ∧ Kp W1 W') →
    J [] W → CallsIn F n P g (#[.func (.yield l) #[] #[]] ++ lb) W fun e W' => (∃ v, e = .returned v) ∧ ∃ xs, S xs ∧ J xs W'
theorem wpIn_rangeFunc_runs {α : Type} {g : Operand} {ps : Array Tmp} {assign body : Code} {Q : Exit → Act → World → Prop} {a : Act} {w : World}
    (hro : F.round = none) (h1 : 1 ≤ n) {gf : Nat} {lb : Array Value} (hg : a.eval g = .func (.func gf) #[] lb) (hFg : F.fn gf) (eg : ∀ args w, (callFunc gf args).run P w = .ok (.enter gf args) w)
    {encs : α → Array Value} {Kp T : World → World → Prop} {S : List α → Prop} {Nx : List α → α → Prop} {w0 : World} (hseq : SeqRuns F (n - 1) P gf lb encs Kp T S Nx w0)
    (hKt : ∀ {A B C : World}, Kp A B → Kp B C → Kp A C) (hKb : ∀ (W : World) (l : Nat) (o o' : Obj), w.heap.size ≤ l → W.heap[l]? = some o → o.isCells = false → o.isWalk = false → Kp W (W.putObj l o'))
    (hTk : ∀ A B, T A B → ∀ k, w.heap.size ≤ k → B.heap[k]? = A.heap[k]?)
    (hb0 : Below w0.heap.size w0 w) (hps : ∀ x, (encs x).size = ps.size)
    (I : List α → World → Prop) (hI : OwnFrom w.heap.size I) (hIT : ∀ s A B, I s A → T A B → I s B) (h0 : I [] w) (a₁ : α → Act)
    (hassign : ∀ (l : Nat) (x : α) (W : World) (K : Act → World → Prop), K (a₁ x) W →
      assign.wpIn (F.inRound l) (n - 1 - 1) P (Exit.then K (fun _ _ _ => False)) { tmps := (ps.zip (encs x)).foldl (fun t (p, v) => t.setIfInBounds p v) a.tmps, defers := [] } W)
    (hbody : ∀ (l : Nat) (pre : List α) (x : α) (W : World), I pre W → Nx pre x → body.wpIn (F.inRound l) (n - 1 - 1) P (ownPostK Kp I (fun _ _ _ => False) (pre ++ [x]) W) (a₁ x) W)
    (hdone : ∀ (D : Nat) (xs : List α) (W : World), w.heap.size ≤ D → S xs → I xs W → W.heap[D]? = some (.deferred (some [])) → Q .normal { a with defers := { target := .collected D, args := #[] } :: a.defers } W) :
    (Code.rangeFunc g ps assign body).wpIn F n P Q a w := by
  refine wpIn_rangeFunc fun fn hfn => ?_
  rw [hro]
  -- the loop's record L st, at block w.heap.size + 1; the block for the rounds' deferred calls ahead of it
  obtain ⟨L, hL⟩ : ∃ L : LoopState → Option Code → Loop, L = fun st pe => { state := st, pending := pe, fn, tmps := a.tmps, params := ps, assign, body, defers := w.heap.size } := ⟨_, rfl⟩
  obtain ⟨V, hV⟩ : ∃ V, (w.alloc (.deferred (some []))).alloc (.loop (L .ready none)) = V := ⟨_, rfl⟩
  have vsz : V.heap.size = w.heap.size + 2 := by rw [← hV]; simp
  have vl : V.heap[w.heap.size + 1]? = some (.loop (L .ready none)) := by
    have := World.alloc_heap_new (w.alloc (.deferred (some []))) (.loop (L .ready none))
    rw [World.size_alloc, hV] at this
    exact this
  have vd : V.heap[w.heap.size]? = some (.deferred (some [])) := by
    rw [← hV]; exact (Below.heap_alloc _ _ _ (by simp)).trans (World.alloc_heap_new w _)
  have vi : I [] V := by rw [← hV]; exact hI.alloc _ (hI.alloc _ h0)
  have vb : Below w0.heap.size w0 V := by
    rw [← hV]; exact hb0.trans ((((Below.refl _ w).alloc (Nat.le_refl _) _).alloc (by simp) _).mono hb0.size)
  refine ⟨w.heap.size + 1, [{ target := .collected w.heap.size, args := #[] }], V, { target := .fn (.func gf) lb, args := #[.func (.yield (w.heap.size + 1)) #[] #[]] }, V, gf,
    #[.func (.yield (w.heap.size + 1)) #[] #[]] ++ lb, V, ?_, ?_, ?_, ?_, fun _ => h1, ?_⟩
  · rw [← hV, hL]; exact run_enterLoop_outer _ _ _ _ _
  · simp only [resolve, hg]; simp [go_sem]
  · intro f' hf'; simp [Target.leads] at hf'; subst hf'; exact hFg
  · simp [invoke, go_sem, eg]
  have keep : ∀ {A B : World} {row : Option Nat} {k : Nat} {o : Obj}, A.grownBy B row → (∀ r, row = some r → V.heap.size ≤ r ∧ ∃ o : Obj, A.heap[r]? = some o ∧ o.isWalk = true) → A.heap[k]? = some o → o.isWalk = false → B.heap[k]? = some o :=
    fun hg' hr hk ho => (grownBy_keeps hg' (fun r e => (hr r e).2) hk ho).trans hk
  refine (hseq (w.heap.size + 1) (fun pre W => I pre W ∧ W.heap[w.heap.size + 1]? = some (.loop (L .ready none)) ∧ W.heap[w.heap.size]? = some (.deferred (some []))) V vb ?abide ?turn ?round ⟨vi, vl, vd⟩).mono ?after
  case abide =>
    rintro s A B row ⟨i1, i2, i3⟩ hg' hr
    exact ⟨hI s A B row i1 hg' (fun r e => by obtain ⟨q1, o, q2, q3⟩ := hr r e; exact ⟨by omega, o, q2, Obj.not_cells_of_walk q3⟩), keep hg' hr i2 rfl, keep hg' hr i3 rfl⟩
  case turn =>
    rintro s A B ⟨i1, i2, i3⟩ ht
    exact ⟨hIT s A B i1 ht, (hTk A B ht _ (by omega)).trans i2, (hTk A B ht _ (Nat.le_refl _)).trans i3⟩
  case round =>
    rintro pre x W ⟨i1, i2, i3⟩ hlen
    have lt := (Array.getElem?_eq_some_iff.1 i2).1
    have hy := run_yield (P := P) (args := encs x) i2 (by rw [hL]; exact hps x)
    rw [hL] at hy
    refine ⟨fn, _, assign, body, hy, roundIn_of_wpIn hfn (hassign _ x W _ ⟨_, run_beginRound i2 (by rw [hL]), ?_⟩)⟩
    obtain ⟨R, hR⟩ : ∃ R, W.putObj (w.heap.size + 1) (.loop { L .ready none with state := .busy }) = R := ⟨_, rfl⟩
    have r2 : R.heap[w.heap.size + 1]? = some (.loop { L .ready none with state := .busy }) := by rw [← hR]; exact World.putObj_heap_same lt
    have r3 : R.heap[w.heap.size]? = some (.deferred (some [])) := by rw [← hR]; exact (World.putObj_heap_other (by omega)).trans i3
    have rk : Kp W R := by rw [← hR]; exact hKb _ _ _ _ (by omega) i2 rfl rfl
    have ri : I pre R := by rw [← hR]; exact hI.putObj _ i1 (by omega) i2 rfl
    rw [hR]
    refine wpIn_mono (hbody _ pre x R ri hlen) ?_
    rintro e a3 X hp
    cases e with
    | normal =>
      obtain ⟨k1, k2, k3⟩ := hp
      have x2 := k1.same _ _ r2 rfl
      have x3 := k1.same _ _ r3 rfl
      have hend := run_endRound (P := P) none x2
      rw [hL] at hend
      refine ⟨_, _, hend, rfl, ⟨hI.putObj _ k3 (by omega) x2 rfl, ?_, (World.putObj_heap_other (by omega)).trans x3⟩, hKt (hKt rk k2) (hKb _ _ _ _ (by omega) x2 rfl rfl)⟩
      have := World.putObj_heap_same (w := X) (o := .loop (L .ready none)) (Array.getElem?_eq_some_iff.1 x2).1
      rw [hL] at this ⊢
      exact this
    | ret => exact hp.2.elim
    | exit id => exact hp.2.elim
    | goto t => exact hp.2.elim
    | panic ch => exact hp.elim
    | outgrown => exact hp.elim
  case after =>
    rintro e X ⟨⟨v, rfl⟩, xs, hS, i1, i2, i3⟩
    refine ⟨none, _, by have := run_endLoop (P := P) i2 (by rw [hL]; simp); rw [hL] at this; exact this, hdone _ xs _ (Nat.le_refl _) hS (hI.putObj _ i1 (by omega) i2 rfl) ((World.putObj_heap_other (by omega)).trans i3)⟩
end Go.Proofs.YtffmbccgcaghjaaGreatDoor.P
namespace Go.Proofs.YtffmbccgcaghjaaGreatDoor.P
open Go.Proofs.YtffmbccgcaghjaaGreatDoorUFnExactRwrStream.PrintLast Go.Proofs.YtffmbccgcaghjaaGreatDoorUFnExactRwrStream.PrintMore Go.Proofs.YtffmbccgcaghjaaGreatDoorUFnExactRwrStream.PrintWords Go.RowKit Go.Shelf
set_option linter.unusedVariables false
set_option linter.unusedSimpArgs false
section
attribute [local go_sem] Oper.semAt_some
theorem linesOf0 (s : ByteArray) (w : World) :
    Calls Tryz.prog 71 #[.string s] w fun e w' => e = .returned (.func (.func 101) #[] #[.pointer (some ⟨w.heap.size, 0, none⟩)]) ∧ w' = w.alloc (.cells #[.string s] 9) := by
  go_enter Tryz.func71, Tryz.ntmps71
  go_wp2
  go_ret
  exact ⟨rfl, rfl⟩
theorem cutS_calls (s : ByteArray) (hs : s.size < 4294967281) (w : World) (hE : Env w) :
    Calls Tryz.prog 102 #[.string s, .string (⟨#[59]⟩ : ByteArray)] w fun e w' => e = .returned (.tuple #[.string (cutS s).1, .string (cutS s).2.1, .bool (cutS s).2.2]) ∧ ∃ n, w' = w.drewN n := by
  obtain ⟨m, hm⟩ := hE.max
  refine (Tryz.strings_Cut s _ m w hs hm).mono ?_
  rintro e w' ⟨rfl, n, rfl⟩
  exact ⟨rfl, n, rfl⟩
def KpL (n₀ b : Nat) (W W' : World) : Prop := Below n₀ W W' ∧ W'.heap[b]? = W.heap[b]?
theorem KpL.trans {n₀ b : Nat} {A B C : World} (h : KpL n₀ b A B) (k : KpL n₀ b B C) : KpL n₀ b A C := ⟨h.1.trans k.1, k.2.trans h.2⟩
def TuL (b : Nat) (A B : World) : Prop := ∃ v, B = A.setCell ⟨b, 0, none⟩ v
def leftL (b : Nat) (w : World) : Nat := match w.cell? ⟨b, 0, none⟩ with | some (.string s) => s.size | _ => 0
theorem leftL_of {b : Nat} {w : World} {s : ByteArray} (h : w.cell? ⟨b, 0, none⟩ = some (.string s)) : leftL b w = s.size := by unfold leftL; rw [h]
theorem abide_below {B : Nat} {β : Type} {J : β → World → Prop} (hA : AbidesFrom B J) {s : β} {A A' : World} (h : Below A.heap.size A A') (hj : J s A) : J s A' :=
  hA s A A' none hj (grown_of_below h none) (fun r e => by cases e)
set_option maxHeartbeats 4000000 in
set_option maxRecDepth 100000 in
theorem lines_runs (Bs n₀ : Nat) (s0 : ByteArray) (w0 w : World) (hn : w0.heap.size = n₀) (hw : Below n₀ w0 w) (hB : n₀ ≤ Bs) (hc : w.heap[Bs]? = some (.cells #[.string s0] 9 (0, 0))) (hs : s0.size < 4294967281) (hE : Env w0) :
    SeqRuns Fence.wide 8 Tryz.prog 101 #[.pointer (some ⟨Bs, 0, none⟩)] (fun x : ByteArray => #[.string x]) (KpL n₀ Bs) (TuL Bs) (fun xs => xs = linesB s0) (fun pre x => ∃ r, pre ++ x :: r = linesB s0) w := by
  intro l J W hW hA hT hY h0
  have HW0 := Lib.hid (show Below w0.heap.size w0 W from by rw [hn]; exact hw.trans (hW.mono (by rw [← hn]; exact hw.size)))
  have HE := Lib.hid hE
  have HN := Lib.hid hn
  have HA := Lib.hid hA
  have HT := Lib.hid hT
  have HY := Lib.hid hY
  have HBs := Lib.hid hB
  have hlt : Bs < w.heap.size := (Array.getElem?_eq_some_iff.1 hc).1
  have hbs : W.heap[Bs]? = some (.cells #[.string s0] 9 (0, 0)) := (hW.block _ hlt).trans hc
  have HS := Lib.hid hs
  have H0 := Lib.hid h0
  clear hn hE hA hT hw hc hY hs h0 hW hB
  refine callsIn_of_wp Tryz.func101 rfl trivial ?_ rfl
  simp only [Tryz.ntmps101, List.size_toArray, List.length_cons, List.length_nil, Nat.reduceAdd, Nat.reduceSub, Array.replicate_succ, Array.replicate_zero, List.push_toArray, List.append_toArray, List.nil_append, List.cons_append]
  have HB := Lib.hid hbs
  clear hbs hlt
  gi_wp2
  gi_loopw [] (fun wr => ∃ (pre : List ByteArray) (s : ByteArray), Hid (wr.heap[Bs]? = some (.cells #[.string s] 9 (0, 0))) ∧ Hid (pre ++ linesB s = linesB s0) ∧ Hid (s.size ≤ s0.size) ∧ Hid (J pre wr) ∧ Hid (Below n₀ W wr)) (fun wr => leftL Bs wr)
  case atStart => exact ⟨[], s0, HB, Lib.hid (by simp), Lib.hid (Nat.le_refl _), H0, Lib.hid (Below.refl _ _)⟩
  case round =>
    obtain ⟨pre, s, hb, hp, hz, hj, hw⟩ := hrel
    have hcell := (blk_cell hb.out 0).trans rfl
    have hEw : Env wr := HE.out.below (HW0.out.trans (by rw [HN.out]; exact hw.out))
    have HEW := Lib.hid hEw
    clear hEw
    have HAx : Hid (AbidesFrom wr.heap.size J) := Lib.hid (fun s A B row h hg hr => HA.out s A B row h hg (fun r e => ⟨Nat.le_trans hw.out.size (hr r e).1, (hr r e).2⟩))
    cases hc : (cutS s).2.2 with
    | false =>
      gi_wp2_with (refine ⟨trivial, ?_⟩; gi_at_call 102; refine (callsIn_wide.2 (cutS_calls s (by have := hz.out; have := HS.out; omega) _ HEW.out)).mono ?_; rintro e w' ⟨rfl, nq, rfl⟩)
      refine ⟨fun _ h => (by cases h), ?_⟩
      gi_wp2
      refine bodyPost_ret (results_none rfl _ _ _) rfl ?_
      exact ⟨⟨_, rfl⟩, pre, by rw [← hp.out, (lines_miss hc).1, List.append_nil], abide_below HAx.out (pw_below_drewN (Below.refl _ _) nq) hj.out⟩
    | true =>
      obtain ⟨l1, l2, l3⟩ := lines_hit hc
      have hlen : ∃ r, pre ++ (cutS s).1 :: r = linesB s0 := ⟨_, by rw [← l1]; exact hp.out⟩
      have HL := Lib.hid hlen
      have L1 := Lib.hid l1
      have L3 := Lib.hid l3
      clear hlen l1 l2 l3
      gi_wp2_with (first | (refine ⟨trivial, ?_⟩; gi_at_call 102; refine (callsIn_wide.2 (cutS_calls s (by have := hz.out; have := HS.out; omega) _ HEW.out)).mono ?_; rintro e w' ⟨rfl, nq, rfl⟩; obtain ⟨fn, tmps, assign, body, hy, hR⟩ := HY.out pre (cutS s).1 (wr.drewN nq) (abide_below HAx.out (pw_below_drewN (Below.refl _ _) nq) hj.out) HL.out))
      clear hcell
      refine hR.mono ?_
      rintro e W3 ⟨rfl, hJ3, hk3⟩
      have hb3 : W3.heap[Bs]? = some (.cells #[.string s] 9 (0, 0)) := hk3.2.trans hb.out
      have c3 : W3.cell? ⟨Bs, 0, none⟩ = some (.string s) := (blk_cell hb3 0).trans rfl
      have f3 := blk_frozen hb3 0
      have HB3 := Lib.hid hb3
      have HJ3 := Lib.hid hJ3
      have HK3 := Lib.hid hk3
      clear hb3 hJ3 hk3 hR hy
      gi_wp2
      have hb4 : (W3.setCell ⟨Bs, 0, none⟩ (.string (cutS s).2.1)).heap[Bs]? = some (.cells #[.string (cutS s).2.1] 9 (0, 0)) := blk_set HB3.out 0 _
      go_roundw
      case rel => exact ⟨pre ++ [(cutS s).1], (cutS s).2.1, Lib.hid hb4, Lib.hid (by rw [List.append_assoc, ← hp.out, L1.out]; rfl), Lib.hid (by have := L3.out; have := hz.out; omega), Lib.hid (HT.out _ _ _ HJ3.out ⟨_, rfl⟩), Lib.hid (((hw.out.trans (pw_below_drewN (Below.refl _ _) nq)).trans HK3.out.1).setCell (p := ⟨Bs, 0, none⟩) HBs.out _)⟩
      case measure =>
        rw [leftL_of ((blk_cell hb4 0).trans rfl), leftL_of ((blk_cell hb.out 0).trans rfl)]
        exact L3.out
end
end Go.Proofs.YtffmbccgcaghjaaGreatDoor.P
namespace Go.Proofs
open Go.Shelf
def Tryz.lays169_ren : Go.Shelf.Ren := ⟨fun | 169 => 97 | n => n, fun | 70 => 105 | 9 => 9 | 0 => 0 | 72 => 107 | 37 => 22 | 127 => 116 | 3 => 3 | 5 => 5 | n => n, fun | n => n⟩
theorem Tryz.lays169 : Go.Proofs.Lays.n169 Tryz.prog Tryz.lays169_ren := {
  mixed := by kernel_rfl
  f169 := Tryz.func97.trans (congrArg some (by kernel_rfl))
  t0 := Tryz.underlying0
  a0 := Tryz.isAgg0
  z0 := Tryz.sizeOf0
  v0 := Tryz.zeroValue0
  t3 := Tryz.underlying3
  a3 := Tryz.isAgg3
  z3 := Tryz.sizeOf3
  v3 := Tryz.zeroValue3
  t9 := Tryz.underlying9
  a9 := Tryz.isAgg9
  z9 := Tryz.sizeOf9
  v9 := Tryz.zeroValue9
  t37 := Tryz.underlying22
  a37 := Tryz.isAgg22
  z37 := Tryz.sizeOf22
  v37 := Tryz.zeroValue22
  t70 := Tryz.underlying105
  a70 := Tryz.isAgg105
  z70 := Tryz.sizeOf105
  v70 := Tryz.zeroValue105
  t72 := Tryz.underlying107
  a72 := Tryz.isAgg107
  z72 := Tryz.sizeOf107
  v72 := Tryz.zeroValue107
  t127 := Tryz.underlying116
  a127 := Tryz.isAgg116
  z127 := Tryz.sizeOf116
  v127 := Tryz.zeroValue116 }
theorem Tryz.Builder_Extra_169 : Builder.Extra Tryz.prog Tryz.lays169_ren := {
  sizeBuilder := by kernel_rfl
  liesBuilder := by kernel_rfl
  t5 := Tryz.underlying5
  a5 := Tryz.isAgg5
  z5 := Tryz.sizeOf5
  v5 := Tryz.zeroValue5
  infoByte := by kernel_rfl
  cellsByte := by kernel_rfl
  sizeByte := by kernel_rfl
  neB5 := by decide }
open Go.RowKit in
theorem Tryz.Builder_String_any_k (B b : Nat) (l : List UInt8) (w : World) (h : Lib.IsBuilderF 107 5 B b (Lib.byteCells l) w) (hBw : B ≤ w.heap.size) :
    Calls Tryz.prog 97 #[.pointer (some ⟨b, 0, none⟩)] w fun e w' => e = .returned (.string ⟨l.toArray⟩) ∧ (Lib.IsBuilderF 107 5 B b (Lib.byteCells l) w' ∧ Below B w w' ∧ Lib.OthersKept 5 (some b) w w') := Any.Builder_String_any_k Tryz.lays169 Tryz.Builder_Extra_169 B b l w h hBw
def Tryz.lays138_ren : Go.Shelf.Ren := ⟨fun | 138 => 70 | 195 => 98 | 218 => 99 | 143 => 100 | 219 => 116 | 217 => 126 | 225 => 127 | 224 => 128 | 267 => 129 | 266 => 139 | 314 => 140 | n => n, fun | 9 => 9 | 3 => 3 | 4 => 4 | 5 => 5 | 0 => 0 | 46 => 125 | 146 => 118 | 51 => 117 | n => n, fun | 1 => 1 | n => n⟩
theorem Tryz.lays138 : Go.Proofs.Lays.n138 Tryz.prog Tryz.lays138_ren := {
  mixed := by kernel_rfl
  f138 := Tryz.func70.trans (congrArg some (by kernel_rfl))
  f143 := Tryz.func100.trans (congrArg some (by kernel_rfl))
  f195 := Tryz.func98.trans (congrArg some (by kernel_rfl))
  f217 := Tryz.func126.trans (congrArg some (by kernel_rfl))
  f218 := Tryz.func99.trans (congrArg some (by kernel_rfl))
  f219 := Tryz.func116.trans (congrArg some (by kernel_rfl))
  f224 := Tryz.func128.trans (congrArg some (by kernel_rfl))
  f225 := Tryz.func127.trans (congrArg some (by kernel_rfl))
  f266 := Tryz.func139.trans (congrArg some (by kernel_rfl))
  f267 := Tryz.func129.trans (congrArg some (by kernel_rfl))
  f314 := Tryz.func140.trans (congrArg some (by kernel_rfl))
  t0 := Tryz.underlying0
  a0 := Tryz.isAgg0
  z0 := Tryz.sizeOf0
  v0 := Tryz.zeroValue0
  t3 := Tryz.underlying3
  a3 := Tryz.isAgg3
  z3 := Tryz.sizeOf3
  v3 := Tryz.zeroValue3
  t4 := Tryz.underlying4
  a4 := Tryz.isAgg4
  z4 := Tryz.sizeOf4
  v4 := Tryz.zeroValue4
  t5 := Tryz.underlying5
  a5 := Tryz.isAgg5
  z5 := Tryz.sizeOf5
  v5 := Tryz.zeroValue5
  t9 := Tryz.underlying9
  a9 := Tryz.isAgg9
  z9 := Tryz.sizeOf9
  v9 := Tryz.zeroValue9
  t46 := Tryz.underlying125
  a46 := Tryz.isAgg125
  z46 := Tryz.sizeOf125
  v46 := Tryz.zeroValue125
  t51 := Tryz.underlying117
  a51 := Tryz.isAgg117
  z51 := Tryz.sizeOf117
  v51 := Tryz.zeroValue117
  t146 := Tryz.underlying118
  a146 := Tryz.isAgg118
  z146 := Tryz.sizeOf118
  v146 := Tryz.zeroValue118
  g1 := by kernel_rfl }
open Go.RowKit Go.Lib in
theorem Tryz.strings_Count_one (s : ByteArray) (c : UInt8) (w : World) :
    Calls Tryz.prog 70 #[.string s, .string ⟨#[c]⟩] w fun e w' => e = .returned (.int .i64 (Lib.countByte s.data.toList c)) ∧ w' = w := Any.strings_Count_one Tryz.lays138 s c w
def Tryz.lays148_ren : Go.Shelf.Ren := ⟨fun | 148 => 72 | 222 => 103 | 223 => 104 | 269 => 118 | n => n, fun | 9 => 9 | 3 => 3 | 4 => 4 | 5 => 5 | 146 => 118 | 51 => 117 | 46 => 125 | n => n, fun | n => n⟩
theorem Tryz.lays148 : Go.Proofs.Lays.n148 Tryz.prog Tryz.lays148_ren := {
  mixed := by kernel_rfl
  f148 := Tryz.func72.trans (congrArg some (by kernel_rfl))
  f222 := Tryz.func103.trans (congrArg some (by kernel_rfl))
  f223 := Tryz.func104.trans (congrArg some (by kernel_rfl))
  f269 := Tryz.func118.trans (congrArg some (by kernel_rfl))
  t3 := Tryz.underlying3
  a3 := Tryz.isAgg3
  z3 := Tryz.sizeOf3
  v3 := Tryz.zeroValue3
  t4 := Tryz.underlying4
  a4 := Tryz.isAgg4
  z4 := Tryz.sizeOf4
  v4 := Tryz.zeroValue4
  t5 := Tryz.underlying5
  a5 := Tryz.isAgg5
  z5 := Tryz.sizeOf5
  v5 := Tryz.zeroValue5
  t9 := Tryz.underlying9
  a9 := Tryz.isAgg9
  z9 := Tryz.sizeOf9
  v9 := Tryz.zeroValue9
  t46 := Tryz.underlying125
  a46 := Tryz.isAgg125
  z46 := Tryz.sizeOf125
  v46 := Tryz.zeroValue125
  t51 := Tryz.underlying117
  a51 := Tryz.isAgg117
  z51 := Tryz.sizeOf117
  v51 := Tryz.zeroValue117
  t146 := Tryz.underlying118
  a146 := Tryz.isAgg118
  z146 := Tryz.sizeOf118
  v146 := Tryz.zeroValue118 }
open Go.RowKit Go.Lib in
theorem Tryz.strings_LastIndex_one (s sub : ByteArray) (h1 : sub.size = 1) (hs : s.size < 4611686018427387904) (w : World) :
    Calls Tryz.prog 72 #[.string s, .string sub] w fun e w' => e = .returned (.int .i64 (Lib.lastIndexByte s ((sub[0]'(by omega)).toNat : Int))) ∧ w' = w := Any.strings_LastIndex_one Tryz.lays148 s sub h1 hs w
end Go.Proofs
namespace Go.Proofs.YtffmbccgcaghjaaGreatDoor.P
open Go.Proofs.YtffmbccgcaghjaaGreatDoorUFnExactRwrStream.PrintLast Go.Proofs.YtffmbccgcaghjaaGreatDoorUFnExactRwrStream.PrintMore Go.Proofs.YtffmbccgcaghjaaGreatDoorUFnExactRwrStream.PrintWords Go.RowKit Go.Shelf
set_option linter.unusedVariables false
set_option linter.unusedSimpArgs false
section
attribute [local go_sem] Oper.semAt_some
def impl_StrLines.f (s : ByteArray) : Option (List ByteArray × ByteArray) := if s.size ≤ 4000000000 then some (linesB s, restB s) else none
theorem ownsRow_from {β : Type} (B base : Nat) (e : TypeId) (sz : Nat) (v : β → Value) (n : β → Nat) (xs : β → List Value) : OwnFrom B (fun (s : β) W => W.ownsRow base e sz (v s) (n s) (xs s)) := fun s X Y row hs hg hr => by
  refine hs.kept hg ?_
  rcases hv : (v s).ownBlock with _ | k
  · exact .inl rfl
  · refine .inr fun e => ?_
    obtain ⟨_, o, ho, hc⟩ := hr k e.symm
    obtain ⟨cells, h⟩ := own_typed (.of_owns hs) k hv
    rw [h] at ho
    cases ho
    cases hc
theorem kpl_b {n₀ b : Nat} {w : World} (hn : n₀ ≤ w.heap.size) (hb : b < w.heap.size) (W : World) (l : Nat) (o o' : Obj) (hl : w.heap.size ≤ l) (ho : W.heap[l]? = some o) (hc : o.isCells = false) (hk : o.isWalk = false) : KpL n₀ b W (W.putObj l o') :=
  ⟨belowK_b (w := w) hn W l o o' hl ho hc hk, World.putObj_heap_other (by omega)⟩
theorem ownsRow_moved {w w1 : World} {base : Nat} {e : TypeId} {size n : Nat} {v : Value} {xs : List Value} (h : w.ownsRow base e size v n xs) (hm : ∀ k, v.ownBlock = some k → w1.heap[k]? = w.heap[k]?) : w1.ownsRow base e size v n xs := by
  obtain ⟨h1, h2⟩ := h
  refine ⟨h1, ?_⟩
  rcases h2 with h2 | ⟨g, cap, cur, rfl, hg, hh, r⟩
  · exact .inl h2
  · exact .inr ⟨g, cap, cur, rfl, hg, (hm g (by simp [Value.ownBlock])).trans hh, r⟩
theorem cells_own' {β : Type} (b : Nat) (t : TypeId) (v : β → Value) : Own (fun (s : β) W => Boxed W b t (v s)) := fun s X Y row hs hg hr => by
  refine (hg.block b (Array.getElem?_eq_some_iff.1 hs).1 (fun e => ?_)).trans hs
  obtain ⟨o, ho, hc⟩ := hr b e.symm
  rw [show X.heap[b]? = _ from hs] at ho; cases ho; cases hc
theorem count_calls (s : ByteArray) (w : World) : Calls Tryz.prog 70 #[.string s, .string (⟨#[59]⟩ : ByteArray)] w fun e w' => e = .returned (.int .i64 ((linesB s).length : Int)) ∧ w = w' := by
  rw [linesB_count]
  exact (Tryz.strings_Count_one s 59 w).mono fun _ _ h => ⟨h.1, h.2.symm⟩
theorem last_calls (s : ByteArray) (hs : s.size ≤ 4000000000) (w : World) : Calls Tryz.prog 72 #[.string s, .string (⟨#[59]⟩ : ByteArray)] w fun e w' => e = .returned (.int .i64 (Lib.lastIndexByte s 59)) ∧ w = w' :=
  (Tryz.strings_LastIndex_one s ⟨#[59]⟩ rfl (by omega) w).mono fun _ _ h => ⟨h.1, h.2.symm⟩
set_option maxRecDepth 100000 in
set_option maxHeartbeats 4000000 in
theorem impl_StrLines.calls (a0 : ByteArray) (r1 : List ByteArray) (r2 : ByteArray) (w : World) (h : impl_StrLines.f a0 = some (r1, r2)) (hE : Env w) :
    Calls Tryz.prog 36 #[.string a0] w fun e w' => ∃ v0_ : Value, e = .returned (.tuple #[v0_, .string r2]) ∧ Kd.R Kd.string 9 w' w.heap.size (fun _ => True) v0_ r1 ∧ Below w.heap.size w w' := by
  unfold impl_StrLines.f at h
  by_cases hs : a0.size ≤ 4000000000
  · rw [if_pos hs] at h
    simp only [Option.some.injEq, Prod.mk.injEq] at h
    obtain ⟨rfl, rfl⟩ := h
    have hlen : (linesB a0).length ≤ a0.size := by
      rw [linesB_count]; unfold Lib.countByte
      exact Nat.le_trans List.count_le_length (by rw [len_data]; exact Nat.le_refl _)
    obtain ⟨N, hN⟩ : ∃ N, (linesB a0).length = N := ⟨_, rfl⟩
    have HS := Lib.hid hs
    have HL := Lib.hid hlen
    have HE := Lib.hid hE
    clear hs hlen hE
    obtain ⟨i0, hi, hz0, hz1, hz2⟩ := info_parts info9
    refine (callsIn_wide (n := 9)).1 ?_
    refine callsIn_of_wp_marks Tryz.func36 rfl trivial (wpIn_wide.2 ?_) rfl
    simp only [Tryz.ntmps36, List.size_toArray, List.length_cons, List.length_nil, Nat.reduceAdd, Nat.reduceSub, Array.replicate_succ, Array.replicate_zero, List.push_toArray, List.append_toArray, List.nil_append, List.cons_append]
    go_wp2_with (first
      | (go_at_call 70; refine (count_calls a0 _).mono ?_; rintro e w' ⟨rfl, rfl⟩; rw [hN])
      | (at_make; refine wpList_make_own w rfl _ _ 51 rfl w.heap.size 9 i0 (.string ⟨#[]⟩) 1 Tryz.underlying51 hi hz0 hz1 .i64 .i64 (N : Int) N rfl rfl rfl (by rw [hz2]; have := HS.out; have := HL.out; omega) (by unfold maxLen; have := HS.out; have := HL.out; omega) (Nat.le_refl _) ?_; intro w1 hown hgr)
      | (go_at_call 71; refine (linesOf0 a0 _).mono ?_; rintro e w2 ⟨rfl, rfl⟩))
    have hB1 : Below w.heap.size w w1 := (Below.refl _ w).grown hgr (Nat.le_refl _) (fun k e => by cases e)
    have hs1 := hB1.size
    obtain ⟨W0, hW0⟩ : ∃ W0, (w1.alloc (.cells #[.slice (some ⟨w.heap.size, 0, none⟩) 0 N] 51)).alloc (.cells #[.string a0] 9) = W0 := ⟨_, rfl⟩
    have hb0 : Boxed W0 w1.heap.size 51 (.slice (some ⟨w.heap.size, 0, none⟩) 0 N) := by rw [← hW0]; exact (Boxed.new _ _ _).alloc _
    have hst : W0.heap[w1.heap.size + 1]? = some (.cells #[.string a0] 9 (0, 0)) := by
      rw [← hW0]
      have := heap_alloc_new (w1.alloc (.cells #[.slice (some ⟨w.heap.size, 0, none⟩) 0 N] 51)) (.cells #[.string a0] 9)
      simp only [World.size_alloc] at this
      exact this
    have hB0 : Below w.heap.size w W0 := by rw [← hW0]; exact (hB1.alloc hs1 _).alloc (by simp only [World.size_alloc]; omega) _
    have hr0 : W0.ownsRow w.heap.size 9 1 (.slice (some ⟨w.heap.size, 0, none⟩) 0 N) 0 [] := by rw [← hW0]; exact (hown.alloc _).alloc _
    have hsz : W0.heap.size = w1.heap.size + 2 := by rw [← hW0]; simp
    have hlt1 := (hown.lt w.heap.size rfl).2
    rw [hW0]
    clear hW0 hown hgr hB1
    have HHS := Lib.hid hs1
    refine (wpIn_wide (n := 9)).1 ?_
    refine wpIn_rangeFunc_runs rfl (by omega) (gf := 101) (lb := #[.pointer (some ⟨w1.heap.size + 1, 0, none⟩)]) rfl trivial (enters_of Tryz.func101 (by kernel_rfl) rfl)
      (lines_runs (w1.heap.size + 1) w.heap.size a0 w W0 rfl hB0 (by omega) hst (by have := HS.out; omega) HE.out) KpL.trans (kpl_b (by omega) (by omega))
      (fun A B ⟨v, h⟩ k hk => by rw [h]; exact Below.heap_setCell A _ _ _ (by simp only; omega)) (Below.refl _ _) (fun _ => rfl)
      (fun pre W => Boxed W w1.heap.size 51 (.slice (some ⟨w.heap.size, 0, none⟩) pre.length N) ∧ (W.ownsRow w.heap.size 9 1 (.slice (some ⟨w.heap.size, 0, none⟩) pre.length N) pre.length (pre.map Value.string) ∧ Below w.heap.size W0 W))
      (OwnFrom.and (Own.from (cells_own' _ _ _) _) (OwnFrom.and (ownsRow_from _ _ _ _ _ _ _) (ownFrom_below (by omega) (by omega))))
      (fun s A B ⟨h1, h2, h3⟩ ⟨v, h⟩ => by
        subst h
        exact ⟨(Below.heap_setCell A _ _ _ (by simp only; omega)).trans h1, ownsRow_moved h2 (fun k hk => Below.heap_setCell A _ _ _ (by have e : w.heap.size = k := (by simpa [Value.ownBlock] using hk); simp only; omega)), h3.setCell (p := ⟨w1.heap.size + 1, 0, none⟩) (by simp only; omega) _⟩)
      ⟨hb0, hr0, Below.refl _ _⟩
      (fun x => { tmps := #[.string a0, undef, .slice none 0 0, .string ⟨#[]⟩, .pointer (some ⟨w1.heap.size, 0, none⟩), .string x, .string a0, .int .i64 N, .slice (some ⟨w.heap.size, 0, none⟩) 0 N, .string a0, .func (.func 101) #[] #[.pointer (some ⟨w1.heap.size + 1, 0, none⟩)], .string x, undef, undef, undef, undef, undef, undef, undef, undef, undef, undef], defers := [] })
      ?assign ?body ?done
    case assign =>
      intro l x W K hK
      gi_wp2
      exact hK
    case body =>
      rintro l pre x W ⟨hbx, hrow, hB⟩ hlt
      have hlN : pre.length + 1 ≤ N := by
        obtain ⟨r, hr⟩ := hlt
        rw [← hN, ← hr, List.length_append, List.length_cons]; omega
      have hc := hbx.cell
      have hf := hbx.frozen
      have HB := Lib.hid hB
      have HR := Lib.hid hrow
      have HX := Lib.hid hbx
      have HSZ := Lib.hid hsz
      have HLT := Lib.hid hlt1
      clear hB hrow hbx hlt hsz hs1 hr0 hst hb0 hB0 hlt1
      gi_wp2_with (gi_at_builtin; refine wpListIn_append_fits _ rfl _ _ 51 rfl w.heap.size 9 i0 1 Tryz.underlying51 hi hz1 w.heap.size pre.length N (pre.map Value.string) rfl (HR.out.alloc _) ⟨W.heap.size, 0, none⟩ 1 1 [.string x] rfl rfl (cell_one_new _ _ _) (by simp [Value.oneCell']) hlN ?_; intro w2 hown2 hgr2; obtain ⟨hv1, hv2, hr2, hk2, hb2⟩ := HX.out.appended (by decide) HR.out (by have := HB.out.size; have := HSZ.out; have := HHS.out; omega) HHS.out hown2 hgr2; have HG2 := Lib.hid hgr2; have HV2 := Lib.hid hv2; have HR2 := Lib.hid hr2; have HK2 := Lib.hid hk2; have HB2 := Lib.hid hb2; have hc1 := hv1.cell; have hf1 := hv1.frozen; clear hv1 hv2 hr2 hk2 hb2 hown2 hgr2)
      have hWs := HB.out.size
      have hsz := HSZ.out
      have hlt := HLT.out
      refine ⟨HK2.out, ⟨HB2.out, ?_⟩, ?_, ?_, HB.out.trans HB2.out⟩
      · refine (Below.heap_setCell _ _ _ _ (by simp only; omega)).trans ((HG2.out.block _ (by simp; omega) (by simp [Value.ownBlock]; omega)).trans (Below.heap_alloc W _ _ (by omega)))
      · rw [List.length_append]; exact HV2.out
      · rw [List.length_append, List.map_append]; exact HR2.out
    case done =>
      rintro D xs W hD rfl ⟨hbx, hrow, hB⟩ hK
      rw [hN] at hbx hrow
      have hc := hbx.cell
      have HR := Lib.hid hrow
      have HB := Lib.hid hB
      have HK := Lib.hid hK
      have HD := Lib.hid hD
      have HB0 := Lib.hid hB0
      have HSZ := Lib.hid hsz
      obtain ⟨q1, q2, q3⟩ := restB_last a0
      have HLC := Lib.hid (last_calls a0 HS.out)
      obtain ⟨x, hx⟩ : ∃ x, Lib.lastIndexByte a0 59 = x := ⟨_, rfl⟩
      rw [hx] at q1 q2 q3 HLC
      have Q3 := Lib.hid q3
      clear hbx hrow hB hK hD hB0 hsz hs1 hr0 hst hb0 hlt1 q3 hx
      have z1 : IntKind.i64.wrap (x + 1) = x + 1 := IntWalk.i64_in _ (by have := HS.out; omega)
      go_wp2_with fail
      go_quiet ((go_at_call 72; exact Calls.quiet_of_same ((HLC.out _).mono fun _ _ h => ⟨h.1, h.2.symm⟩)))
      go_wp2
      have hDl := (Array.getElem?_eq_some_iff.1 HK.out).1
      have hbW : Below w.heap.size w ((W.drewN nq).putObj D (.deferred none)) :=
        (HB0.out.trans (pw_below_drewN HB.out nq)).trans (belowK_b (w := w) (Nat.le_refl _) (W.drewN nq) D _ _ (by have := HD.out; have := HSZ.out; have := HHS.out; omega) HK.out rfl rfl)
      refine ⟨by simp, .inl ⟨_, _, rfl, run_takeDeferred (w := W.drewN nq) HK.out, ?_⟩⟩
      refine ⟨_, results_tmp2 rfl _ _ _, ⟨_, by rw [Q3.out]; rfl, ?_, hbW⟩⟩
      have hrow : ((W.drewN nq).putObj D (.deferred none)).ownsRow w.heap.size 9 1 (.slice (some ⟨w.heap.size, 0, none⟩) N N) N ((linesB a0).map Value.string) :=
        ownsRow_moved HR.out (fun k hk => by
          have e : w.heap.size = k := (by simpa [Value.ownBlock] using hk)
          exact World.putObj_heap_other (by have := HD.out; have := HSZ.out; have := HHS.out; omega))
      rw [← hN] at hrow ⊢
      exact Kd.R_of_own (.of_owns hrow) (fun _ _ => trivial)
  · rw [if_neg hs] at h; cases h
end
end Go.Proofs.YtffmbccgcaghjaaGreatDoor.P
namespace Go.Proofs.YtffmbccgcaghjaaGreatDoor.P
open Go.RowKit Go.Shelf
set_option linter.unusedVariables false
set_option linter.unusedSimpArgs false
set_option maxHeartbeats 1000000 in
set_option maxRecDepth 100000 in
theorem copyCheck_used (b : Nat) (w : World) (h0 : w.cell? ⟨b, 0, none⟩ = some (.pointer (some ⟨b, 0, none⟩))) :
    Calls Tryz.prog 115 #[.pointer (some ⟨b, 0, none⟩)] w fun e w' => e = .returned (.tuple #[]) ∧ w = w' := by
  obtain ⟨j, hj, _⟩ := Option.map_eq_some_iff.1 Tryz.Builder_Extra_169.sizeBuilder
  go_enter Tryz.func115, Tryz.ntmps115
  go_wp2
  rw [Lib.run_neq_ptr_same w _ Tryz.underlying105 hj]
  go_wp2
  go_end0
  exact ⟨rfl, rfl⟩
set_option maxHeartbeats 1000000 in
set_option maxRecDepth 100000 in
theorem copyCheck_fresh (b : Nat) (w : World) (h0 : w.cell? ⟨b, 0, none⟩ = some (.pointer none)) (hsh : w.shape? b = some (107, 2)) (hfz : w.frozen? ⟨b, 0, none⟩ = false) :
    Calls Tryz.prog 115 #[.pointer (some ⟨b, 0, none⟩)] w fun e w' => e = .returned (.tuple #[]) ∧ w' = w.setCell ⟨b, 0, none⟩ (.pointer (some ⟨b, 0, none⟩)) := by
  obtain ⟨j, hj, hjs⟩ := Option.map_eq_some_iff.1 Tryz.Builder_Extra_169.sizeBuilder
  go_enter Tryz.func115, Tryz.ntmps115
  go_wp2
  rw [Lib.run_to_unsafe w ⟨b, 0, none⟩ Tryz.underlying105 Tryz.underlying123 hj (by rw [hjs]; decide) hsh (Nat.zero_lt_succ 1)]
  simp only [Result.andThen]
  rw [Oper.upon_value]
  go_wp2
  rw [run_callFunc_extern Tryz.func125 (by kernel_rfl) (by kernel_rfl) (by kernel_rfl) (e := Extern.AbiNoEscape.same) (by kernel_rfl)]
  rw [Lib.run_noEscape]
  simp only [Result.andThen]
  rw [Oper.upon_value]
  go_wp2
  rw [Lib.run_from_unsafe w ⟨b, 0, none⟩ Tryz.underlying123 Tryz.underlying105 hj hsh Tryz.Builder_Extra_169.liesBuilder]
  simp only [Result.andThen]
  rw [Oper.upon_value]
  go_wp2
  go_end0
  exact ⟨rfl, rfl⟩
theorem copyCheck_k (B b : Nat) (bs : List Value) (w : World) (h : Lib.IsBuilderF 107 5 B b bs w) :
    Calls Tryz.prog 115 #[.pointer (some ⟨b, 0, none⟩)] w fun e w' => e = .returned (.tuple #[]) ∧ (Lib.BuilderAtF 107 5 B b (.pointer (some ⟨b, 0, none⟩)) bs w' ∧ Below B w w' ∧ Lib.OthersKept 5 (some b) w w') := by
  rcases h with h | h
  · refine (copyCheck_fresh b w h.cell0 h.shape h.frozen0).mono ?_
    rintro e w' ⟨rfl, rfl⟩
    exact ⟨rfl, h.used _, (Below.refl B w).setCell (p := ⟨b, 0, none⟩) h.1 _, (Lib.OthersKept.refl _ _ w).setCell ⟨b, 0, none⟩ rfl _⟩
  · refine (copyCheck_used b w h.cell0).mono ?_
    rintro e w' ⟨rfl, rfl⟩
    exact ⟨rfl, h, Below.refl B _, Lib.OthersKept.refl _ _ _⟩
set_option maxHeartbeats 2000000 in
set_option maxRecDepth 100000 in
theorem writeString_k (B b : Nat) (bs : List Value) (s : ByteArray) (w : World) (h : Lib.IsBuilderF 107 5 B b bs w) (hlen : bs.length + s.size ≤ 140737488355328) (hBw : B ≤ w.heap.size) :
    Calls Tryz.prog 96 #[.pointer (some ⟨b, 0, none⟩), .string s] w fun e w' => e = .returned (.tuple #[.int .i64 s.size, .nilIface]) ∧ (Lib.BuilderAtF 107 5 B b (.pointer (some ⟨b, 0, none⟩)) (bs ++ Lib.strCells s) w' ∧ Below B w w' ∧ Lib.OthersKept 5 (some b) w w') := by
  obtain ⟨i0, hi, hz0, hz1, hz2⟩ := info_parts Tryz.Builder_Extra_169.infoByte
  go_enter Tryz.func96, Tryz.ntmps96
  go_wp2_with (go_at_call 115; refine (copyCheck_k B b bs _ h).mono ?_)
  rintro e w1 ⟨rfl, h1, hb1, hk1⟩
  obtain ⟨hB, v, hbk, hown, hne⟩ := h1
  have c0 : w1.cell? ⟨b, 0, none⟩ = some (.pointer (some ⟨b, 0, none⟩)) := by rw [Lib.cell_of_heap hbk]; rfl
  have c1 : w1.cell? ⟨b, 1, none⟩ = some v := by rw [Lib.cell_of_heap hbk]; rfl
  go_wp2_with (at_builtin; refine Lib.wpList_append_own_stringF _ rfl _ _ 22 9 rfl B 5 i0 Tryz.underlying22 Tryz.underlying9 hi hz0 hz1 hz2 _ _ _ rfl hown s rfl ?c3 ?c4 ?c5 ?_)
  case c3 => unfold maxLen; omega
  case c4 => omega
  case c5 => have := hb1.size; omega
  intro v' w2 hown' hgrow _
  have hlt : b < w1.heap.size := by
    rcases Nat.lt_or_ge b w1.heap.size with h' | h'
    · exact h'
    · simp [Array.getElem?_eq_none h'] at hbk
  have hb2 : w2.heap[b]? = some (.cells #[.pointer (some ⟨b, 0, none⟩), v] 107 (0, 0)) := by
    rw [hgrow.block b hlt (fun e => hne e.symm)]
    exact hbk
  have d0 : w2.cell? ⟨b, 0, none⟩ = some (.pointer (some ⟨b, 0, none⟩)) := by rw [Lib.cell_of_heap hb2]; rfl
  have d1 : w2.cell? ⟨b, 1, none⟩ = some v := by rw [Lib.cell_of_heap hb2]; rfl
  have f1 : w2.frozen? ⟨b, 1, none⟩ = false := Lib.frozen_of_heap hb2 1
  obtain ⟨ao, n', cap, rfl⟩ : ∃ ao n' cap, v' = .slice ao n' cap := by
    rcases hown'.2 with ⟨hv, _⟩ | ⟨g, cap, cur, fz, hv, _⟩
    · exact ⟨_, _, _, hv⟩
    · exact ⟨_, _, _, hv⟩
  go_wp2
  go_ret2
  refine ⟨rfl, ?_, ?_, (hk1.grown hgrow (Lib.ownsRowF_kind hown)).setCell ⟨b, 1, none⟩ rfl _⟩
  · exact Lib.BuilderAtF.put (T := 107) (e := 5) hB hb2 (bs' := bs ++ Lib.strCells s) (by simpa [Lib.strCells_length] using hown') Tryz.Builder_Extra_169.neB5
  · exact (hb1.grown hgrow (by have := hb1.size; omega) (fun k hk => (hown.lt k hk).1)).setCell (p := ⟨b, 1, none⟩) hB _
end Go.Proofs.YtffmbccgcaghjaaGreatDoor.P
namespace Go.Proofs.YtffmbccgcaghjaaGreatDoor.P
open Go.Proofs.YtffmbccgcaghjaaGreatDoorUFnExactRwrStream.PrintLast Go.Proofs.YtffmbccgcaghjaaGreatDoorUFnExactRwrStream.PrintMore Go.Proofs.YtffmbccgcaghjaaGreatDoorUFnExactRwrStream.PrintWords Go.RowKit Go.Shelf
set_option linter.unusedVariables false
set_option linter.unusedSimpArgs false
section
attribute [local go_sem] Oper.semAt_some
def outStep (q : List S34 × ByteArray) (x : ByteArray) : Option (List S34 × ByteArray) :=
  (impl_MapTab_goesOut.f q.1 x).bind fun r => if r.2.size ≤ 1000000 ∧ q.2.size ≤ 100000000000 then some (r.1, q.2 ++ (r.2 ++ (⟨#[59]⟩ : ByteArray))) else none
def impl_MapTab_streamOut.f (l : List S34) (s : ByteArray) : Option (List S34 × ByteArray) :=
  if s.size ≤ 4000000000 then (impl_MapTab_copied.f l).bind fun l' => (linesB s).foldlM outStep (l', (⟨#[]⟩ : ByteArray)) else none
def txtOf (o : ByteArray) : List Value := Lib.byteCells o.data.toList
theorem txt_size (o : ByteArray) : (txtOf o).length = o.size := by unfold txtOf; rw [Lib.byteCells_length]; exact len_data o
theorem txt_append (o p : ByteArray) : txtOf (o ++ p) = txtOf o ++ Lib.strCells p := by
  unfold txtOf Lib.byteCells Lib.strCells
  rw [ByteArray.data_append, Array.toList_append, List.map_append]
def StaysT (q : TypeId) (W W' : World) : Prop := W.heap.size ≤ W'.heap.size ∧ ∀ (k : Nat) (c : Array Value) (t : TypeId) (f : Nat × Nat), W.heap[k]? = some (.cells c t f) → t ≠ q → W'.heap[k]? = some (.cells c t f)
theorem StaysT.grown {q : TypeId} {X Y : World} {row : Option Nat} (hg : X.grownBy Y row) (hr : ∀ r, row = some r → ∃ o : Obj, X.heap[r]? = some o ∧ o.isCells = false) : StaysT q X Y :=
  ⟨hg.size, fun k c t f h _ => cells_kept0 h hg hr⟩
where
  cells_kept0 {X Y : World} {row : Option Nat} {b : Nat} {c : Array Value} {t : TypeId} {f : Nat × Nat} (h : X.heap[b]? = some (.cells c t f)) (hg : X.grownBy Y row) (hr : ∀ r, row = some r → ∃ o : Obj, X.heap[r]? = some o ∧ o.isCells = false) : Y.heap[b]? = some (.cells c t f) :=
    (hg.block b (Array.getElem?_eq_some_iff.1 h).1 (fun e => by obtain ⟨o, ho, hc⟩ := hr b e.symm; rw [h] at ho; cases ho; cases hc)).trans h
theorem StaysT.trans {q : TypeId} {X Y Z : World} (h : StaysT q X Y) (k : StaysT q Y Z) : StaysT q X Z := ⟨Nat.le_trans h.1 k.1, fun a c t f e ne => k.2 _ _ _ _ (h.2 _ _ _ _ e ne) ne⟩
theorem StaysT.below {q : TypeId} {X Y : World} (h : Below X.heap.size X Y) : StaysT q X Y := ⟨h.size, fun k c t f e _ => (h.block _ (Array.getElem?_eq_some_iff.1 e).1).trans e⟩
theorem StaysT.set {q : TypeId} {X : World} {b : Nat} {u : Value} (h : Boxed X b q u) (v : Value) : StaysT q X (X.setCell ⟨b, 0, none⟩ v) :=
  ⟨by simp, fun k c t f hk ht => (Below.heap_setCell X _ _ _ (fun e => by simp only at e; subst e; rw [show X.heap[k]? = _ from h] at hk; cases hk; exact ht rfl)).trans hk⟩
theorem builder_stays {T e q : TypeId} {B b : Nat} {bs : List Value} {W W' : World} (h : Lib.IsBuilderF T e B b bs W) (hs : StaysT q W W') (hT : T ≠ q) (he : e ≠ q) : Lib.IsBuilderF T e B b bs W' := by
  have at_ : ∀ p, Lib.BuilderAtF T e B b p bs W → Lib.BuilderAtF T e B b p bs W' := by
    rintro p ⟨hB, v, hb, ⟨ho1, ho⟩, hne⟩
    refine ⟨hB, v, hs.2 _ _ _ _ hb hT, ⟨ho1, ?_⟩, hne⟩
    rcases ho with ho | ⟨g, cap, cur, fz, hv, hbg, hg, r⟩
    · exact .inl ho
    · exact .inr ⟨g, cap, cur, fz, hv, hbg, hs.2 _ _ _ _ hg he, r⟩
  exact h.elim (fun h => .inl (at_ _ h)) (fun h => .inr (at_ _ h))
theorem R_stays {α : Type} {d : Kd α} {e q : TypeId} {W W' : World} {base : Nat} {ok : Nat → Prop} {v : Value} {xs : List α} (h : d.R e W base ok v xs) (hs : StaysT q W W') (hq : ∀ t, t ∈ e :: d.E → t ≠ q) : d.R e W' base ok v xs :=
  Kd.R_mono (Kd.R_move (Kd.R_bound h) (fun k hk => by
    obtain ⟨_, _, _, t, ht, cells, hc⟩ := hk
    exact (hs.2 _ _ _ _ hc (hq t ht)).trans hc.symm)) (fun _ hk => hk.1)
theorem R_others {α : Type} {d : Kd α} {e q T : TypeId} {W W' : World} {base b : Nat} {ok : Nat → Prop} {v : Value} {xs : List α} {c : Array Value} (h : d.R e W base ok v xs) (hs : Lib.OthersKept q (some b) W W') (hb : W.heap[b]? = some (.cells c T (0, 0))) (hq : ∀ t, t ∈ e :: d.E → t ≠ q ∧ t ≠ T) : d.R e W' base ok v xs :=
  Kd.R_mono (Kd.R_move (Kd.R_bound h) (fun k hk => by
    obtain ⟨_, _, _, t, ht, cells, hc⟩ := hk
    refine (hs k _ hc (fun e => ?_) (fun c' fz e => ?_)).trans hc.symm
    · injection e with e; subst e; rw [hb] at hc; cases hc; exact (hq _ ht).2 rfl
    · injection e with _ e; exact (hq _ ht).1 e)) (fun _ hk => hk.1)
theorem box_others {q : TypeId} {W W' : World} {b k : Nat} {t : TypeId} {v : Value} (hs : Lib.OthersKept q (some b) W W') (h : Boxed W k t v) (hne : k ≠ b) (ht : t ≠ q) : Boxed W' k t v :=
  hs k _ h (fun e => hne (Option.some.inj e)) (fun c fz e => by injection e with _ e; exact ht e)
theorem keeps_others {q : TypeId} {W W' : World} {b : Nat} {c : Array Value} {T : TypeId} (hs : Lib.OthersKept q (some b) W W') (hb : W.heap[b]? = some (.cells c T (0, 0))) (hsz : W.heap.size ≤ W'.heap.size) : KeepsOthers W W' :=
  ⟨hsz, fun k o hk ho => hs k o hk (fun e => by injection e with e; subst e; rw [hb] at hk; cases hk; cases ho) (fun c fz e => by subst e; cases ho)⟩
theorem fold_next {q q' : List S34 × ByteArray} {pre r : List ByteArray} {x : ByteArray} {xs : List ByteArray} {z : List S34 × ByteArray} (hx : pre ++ x :: r = xs) (h : xs.foldlM outStep q = some z) (h1 : pre.foldlM outStep q = some q') :
    ∃ q2, outStep q' x = some q2 ∧ (pre ++ [x]).foldlM outStep q = some q2 := by
  subst hx
  rw [List.foldlM_append, h1] at h
  have h' : (outStep q' x).bind (fun init => List.foldlM outStep init r) = some z := h
  obtain ⟨q2, h2, _⟩ := Option.bind_eq_some_iff.mp h'
  exact ⟨q2, h2, by rw [List.foldlM_append, h1]; simpa using h2⟩
theorem outStep_some {q q2 : List S34 × ByteArray} {x : ByteArray} (h : outStep q x = some q2) : ∃ y, impl_MapTab_goesOut.f q.1 x = some (q2.1, y) ∧ y.size ≤ 1000000 ∧ q.2.size ≤ 100000000000 ∧ q2.2 = q.2 ++ (y ++ (⟨#[59]⟩ : ByteArray)) := by
  obtain ⟨⟨t, y⟩, h1, h2⟩ := Option.bind_eq_some_iff.mp h
  by_cases hc : y.size ≤ 1000000 ∧ q.2.size ≤ 100000000000
  · rw [if_pos hc] at h2
    cases h2
    exact ⟨y, h1, hc.1, hc.2, rfl⟩
  · rw [if_neg hc] at h2; cases h2
theorem wp_still {P : Program} {c : Code} {Q : Exit → Act → World → Prop} {a : Act} {w : World} (h : c.wp P (fun e a w => e = .normal ∧ Q .normal a w) a w) : c.wp P Q a w :=
  wp_mono h (by rintro e a w ⟨rfl, h⟩; exact h)
def OutI (n₀ bo bb bs b4 : Nat) (l0 : List S34) (W0 : World) (pre : List ByteArray) (W : World) : Prop :=
  ∃ (lt : List S34) (ot : ByteArray) (v u : Value), pre.foldlM outStep (l0, (⟨#[]⟩ : ByteArray)) = some (lt, ot) ∧ Boxed W bo 25 v ∧ Kd.R k34 34 W n₀ (fun _ => True) v lt ∧
    Lib.IsBuilderF 107 5 n₀ bb (txtOf ot) W ∧ Boxed W bs 9 u ∧ Boxed W b4 25 (.slice none 0 0) ∧ Below n₀ W0 W
theorem OutI.stays {n₀ bo bb bs b4 : Nat} {l0 : List S34} {W0 A B : World} {pre : List ByteArray} (h : OutI n₀ bo bb bs b4 l0 W0 pre A) (hs : StaysT 9 A B) (hbs : ∃ u, Boxed B bs 9 u) (hb : Below n₀ W0 B) : OutI n₀ bo bb bs b4 l0 W0 pre B := by
  obtain ⟨lt, ot, v, u, h1, h2, h3, h4, h5, h6, h7⟩ := h
  obtain ⟨u', h5'⟩ := hbs
  exact ⟨lt, ot, v, u', h1, hs.2 _ _ _ _ h2 (by decide), R_stays h3 hs (by decide), builder_stays h4 hs (by decide) (by decide), h5', hs.2 _ _ _ _ h6 (by decide), hb⟩
theorem OutI.own {n₀ bo bb bs b4 B : Nat} {l0 : List S34} {W0 : World} (hn : n₀ ≤ W0.heap.size) (hB : n₀ ≤ B) : OwnFrom B (fun pre W => OutI n₀ bo bb bs b4 l0 W0 pre W) := by
  intro s X Y row hs hg hr
  have hb : Below n₀ W0 Y := by
    obtain ⟨_, _, _, _, _, _, _, _, _, _, h6⟩ := hs
    exact ownFrom_below (β := List ByteArray) hn hB s X Y row h6 hg hr
  refine hs.stays (StaysT.grown hg (fun r e => (hr r e).2)) ?_ hb
  obtain ⟨_, _, _, u, _, _, _, _, h5, _, _⟩ := hs
  exact ⟨u, StaysT.grown.cells_kept0 h5 hg (fun r e => (hr r e).2)⟩
set_option maxRecDepth 100000 in
set_option maxHeartbeats 8000000 in
theorem impl_MapTab_streamOut.calls (A0_0 : Option Addr) (c0_0 : Nat) (l0_0 : List (S34)) (a1 : ByteArray) (r1 : List (S34)) (r2 : ByteArray) (w : World) (hr0_0 : Kd.C k34 w A0_0 l0_0.length l0_0) (hc0_0 : l0_0.length ≤ c0_0) (h : impl_MapTab_streamOut.f l0_0 a1 = some (r1, r2)) (hE : EnvE w) :
    Calls Tryz.prog 69 #[.agg #[.slice A0_0 l0_0.length c0_0], .string a1] w fun e w' => ∃ v0_ : Value, e = .returned (.tuple #[.agg #[v0_], .string r2]) ∧ Kd.R k34 34 w' w.heap.size (fun _ => True) v0_ r1 ∧ Below w.heap.size w w' := by
  unfold impl_MapTab_streamOut.f at h
  by_cases hs : a1.size ≤ 4000000000
  · rw [if_pos hs] at h
    obtain ⟨l1, hcop, h⟩ := Option.bind_eq_some_iff.mp h
    have HS := Lib.hid hs
    have HE := Lib.hid hE
    have HF := Lib.hid h
    have HCOP := Lib.hid hcop
    have HC0 := Lib.hid hc0_0
    have HR0 := Lib.hid hr0_0
    clear hs hE h hcop hc0_0 hr0_0
    refine (callsIn_wide (n := 9)).1 ?_
    refine callsIn_of_wp_marks Tryz.func69 rfl trivial (wpIn_wide.2 ?_) rfl
    simp only [Tryz.ntmps69, List.size_toArray, List.length_cons, List.length_nil, Nat.reduceAdd, Nat.reduceSub, Array.replicate_succ, Array.replicate_zero, List.push_toArray, List.append_toArray, List.nil_append, List.cons_append]
    go_wp2_with (first
      | (go_at_call 77; refine (impl_MapTab_copied.calls A0_0 c0_0 l0_0 l1 _ (Kd.C_below HR0.out (below_alloc (below_alloc (Below.refl _ _) _) _)) HC0.out HCOP.out).mono ?_; rintro e w2 ⟨v1, rfl, hv1, hb2⟩; obtain ⟨A1, c1, rfl⟩ := Kd.R_slice hv1; have HV1 := Lib.hid hv1; have HB2 := Lib.hid hb2; clear hv1 hb2)
      | (go_at_call 71; refine (linesOf0 a1 _).mono ?_; rintro e w3 ⟨rfl, rfl⟩))
    have hb2 := HB2.out
    have hs2 : w.heap.size + 2 ≤ w2.heap.size := by have := hb2.size; simpa using this
    have hbW2 : Below w.heap.size w w2 := (below_alloc (below_alloc (Below.refl _ _) _) _).trans (hb2.mono (by simp; omega))
    have h4 : w2.heap[w.heap.size + 1]? = some (.cells #[.slice none 0 0] 25 (0, 0)) := by
      refine (hb2.block _ (by simp)).trans ?_
      have := heap_alloc_new (w.alloc (.cells #[.slice A0_0 l0_0.length c0_0] 25)) (.cells #[.slice none 0 0] 25)
      simp only [World.size_alloc] at this
      exact this
    obtain ⟨W0, hW0⟩ : ∃ W0, ((w2.alloc (.cells #[.slice A1 l1.length c1] 25)).alloc (.cells #[.pointer none, .slice none 0 0] 107)).alloc (.cells #[.string a1] 9) = W0 := ⟨_, rfl⟩
    have hsz : W0.heap.size = w2.heap.size + 3 := by rw [← hW0]; simp
    have hbo : Boxed W0 w2.heap.size 25 (.slice A1 l1.length c1) := by rw [← hW0]; exact ((Boxed.new _ _ _).alloc _).alloc _
    have hbb : W0.heap[w2.heap.size + 1]? = some (.cells #[.pointer none, .slice none 0 0] 107 (0, 0)) := by
      rw [← hW0]
      have := heap_alloc_new (w2.alloc (.cells #[.slice A1 l1.length c1] 25)) (.cells #[.pointer none, .slice none 0 0] 107)
      simp only [World.size_alloc] at this
      exact blk_alloc this _
    have hst : W0.heap[w2.heap.size + 1 + 1]? = some (.cells #[.string a1] 9 (0, 0)) := by
      rw [← hW0]
      have := heap_alloc_new ((w2.alloc (.cells #[.slice A1 l1.length c1] 25)).alloc (.cells #[.pointer none, .slice none 0 0] 107)) (.cells #[.string a1] 9)
      simp only [World.size_alloc] at this
      exact this
    have h40 : Boxed W0 (w.heap.size + 1) 25 (.slice none 0 0) := by rw [← hW0]; exact blk_alloc (blk_alloc (blk_alloc h4 _) _) _
    have hB0 : Below w.heap.size w W0 := by rw [← hW0]; exact ((hbW2.alloc (by omega) _).alloc (by simp only [World.size_alloc]; omega) _).alloc (by simp only [World.size_alloc]; omega) _
    have hR0 : Kd.R k34 34 W0 w.heap.size (fun _ => True) (.slice A1 l1.length c1) l1 := by
      rw [← hW0]
      exact Kd.R_alloc (Kd.R_alloc (Kd.R_alloc (Kd.R_lower HV1.out (by simp; omega)) _) _) _
    have hBd : Lib.IsBuilderF 107 5 w.heap.size (w2.heap.size + 1) (txtOf (⟨#[]⟩ : ByteArray)) W0 :=
      .inl ⟨by omega, .slice none 0 0, hbb, World.ownsRowF_nil _ _ _ _, by simp [Value.ownBlock]⟩
    rw [hW0]
    have HS2 := Lib.hid hs2
    have HB0 := Lib.hid hB0
    clear hW0 hbb h4 hbW2 HB2 hb2 HV1
    refine (wpIn_wide (n := 9)).1 ?_
    refine wpIn_rangeFunc_runs rfl (by omega) (gf := 101) (lb := #[.pointer (some ⟨w2.heap.size + 1 + 1, 0, none⟩)]) rfl trivial (enters_of Tryz.func101 (by kernel_rfl) rfl)
      (lines_runs (w2.heap.size + 1 + 1) w.heap.size a1 w W0 rfl hB0 (by omega) hst (by have := HS.out; omega) HE.out.e) KpL.trans (kpl_b (by omega) (by omega))
      (fun A B ⟨v, h⟩ k hk => by rw [h]; exact Below.heap_setCell A _ _ _ (by simp only; omega)) (Below.refl _ _) (fun _ => rfl)
      (OutI w.heap.size w2.heap.size (w2.heap.size + 1) (w2.heap.size + 1 + 1) (w.heap.size + 1) l1 W0)
      (OutI.own (by omega) (by omega))
      (fun s A B hi ⟨v, h⟩ => by
        subst h
        obtain ⟨_, _, _, u, _, _, _, _, h5, _, h7⟩ := id hi
        exact hi.stays (StaysT.set h5 v) ⟨v, h5.set v⟩ (h7.setCell (p := ⟨w2.heap.size + 1 + 1, 0, none⟩) (by simp only; omega) _))
      ⟨l1, _, _, _, rfl, hbo, hR0, hBd, hst, h40, Below.refl _ _⟩
      (fun x => { tmps := #[.agg #[.slice A0_0 l0_0.length c0_0], .string a1, .pointer (some ⟨w.heap.size, 0, none⟩), undef, .pointer (some ⟨w.heap.size + 1, 0, none⟩), .string ⟨#[]⟩, .pointer (some ⟨w2.heap.size, 0, none⟩), .pointer (some ⟨w2.heap.size + 1, 0, none⟩), .string x, undef, undef, .agg #[.slice A0_0 l0_0.length c0_0], .agg #[.slice A1 l1.length c1], .string a1, .func (.func 101) #[] #[.pointer (some ⟨w2.heap.size + 1 + 1, 0, none⟩)], .string x, undef, undef, undef, undef, undef, undef, undef, undef, undef, undef, undef, undef], defers := [] })
      ?assign ?body ?done
    case assign =>
      intro l x W K hK
      gi_wp2
      exact hK
    case body =>
      rintro l pre x W ⟨lt, ot, v, u, i1, i2, i3, i4, i5, i6, i7⟩ ⟨rr, hrr⟩
      obtain ⟨q2, g1, g2⟩ := fold_next hrr HF.out i1
      obtain ⟨y, g3, g4, g5, g6⟩ := outStep_some g1
      obtain ⟨A2, c2, hv, hc2, hC2⟩ := Kd.R_reads i3
      subst hv
      have hc := i2.cell
      have I2 := Lib.hid i2
      have I3 := Lib.hid i3
      have I4 := Lib.hid i4
      have I5 := Lib.hid i5
      have I6 := Lib.hid i6
      have I7 := Lib.hid i7
      have G2 := Lib.hid g2
      have G3 := Lib.hid g3
      have G4 := Lib.hid g4
      have G5 := Lib.hid g5
      have G6 := Lib.hid g6
      have HC2 := Lib.hid hc2
      have HCC := Lib.hid hC2
      have HEW := Lib.hid (HE.out.below (HB0.out.trans i7))
      have HSZ := Lib.hid hsz
      have hys : (9223372036854775807 < y.size + 1) = False := eq_false (by omega)
      clear i1 i2 i3 i4 i5 i6 i7 g1 g2 g3 g4 g5 g6 hrr hc2 hC2 hsz hbo hst h40 hB0 hR0 hBd hs2
      gi_wp2_with (first
        | (refine ⟨trivial, ?_⟩; gi_at_call 45; refine (CallsIn.inRound l (callsIn_wide.2 (impl_MapTab_goesOut.calls A2 c2 lt x q2.1 y W HCC.out HC2.out G3.out HEW.out))).mono ?_; rintro e w3 ⟨v3, rfl, hv3, hb3⟩; obtain ⟨A3, c3, rfl⟩ := Kd.R_slice hv3; have HV3 := Lib.hid hv3; have HB3 := Lib.hid hb3; have hbx3 : Boxed w3 w2.heap.size 25 (.slice A2 lt.length c2) := (hb3.block _ I2.out.lt).trans I2.out; have HX3 := Lib.hid hbx3; have hc3 := hbx3.cell; have hf3 := hbx3.frozen; have hl3 := hbx3.lt; clear hv3 hb3 hbx3 hc))
      refine ⟨trivial, ?_⟩
      obtain ⟨W4, hW4⟩ : ∃ W4, (w3.setCell ⟨w2.heap.size, 0, none⟩ (.slice A3 q2.1.length c3)).alloc (.cells #[.slice A3 q2.1.length c3] 25) = W4 := ⟨_, rfl⟩
      have st1 : StaysT 25 w3 W4 := by rw [← hW4]; exact (StaysT.set HX3.out _).trans (StaysT.below (below_alloc (Below.refl _ _) _))
      have st0 : StaysT 25 W W4 := (StaysT.below HB3.out).trans st1
      have bd4 := builder_stays I4.out st0 (by decide) (by decide)
      have r4 := R_stays HV3.out st1 (by decide)
      have bo4 : Boxed W4 w2.heap.size 25 (.slice A3 q2.1.length c3) := by rw [← hW4]; exact (HX3.out.set _).alloc _
      have bs4 : Boxed W4 (w2.heap.size + 1 + 1) 9 u := st0.2 _ _ _ _ I5.out (by decide)
      have hs2 := HS2.out
      have b44 : Boxed W4 (w.heap.size + 1) 25 (.slice none 0 0) := by
        rw [← hW4]
        refine blk_alloc ?_ _
        exact (Below.heap_setCell _ _ _ _ (by simp only; omega)).trans ((HB3.out.block _ I6.out.lt).trans I6.out)
      have hWn : w.heap.size ≤ W.heap.size := Nat.le_trans HB0.out.size I7.out.size
      have be4 : Below w.heap.size W W4 := by
        rw [← hW4]
        exact ((HB3.out.mono hWn).setCell (p := ⟨w2.heap.size, 0, none⟩) (by simp only; omega) _).alloc (by have := HB3.out.size; simp; omega) _
      have ko4 : KeepsOthers W W4 := by
        rw [← hW4]
        exact ((KeepsOthers.of_grownBy (grown_of_below HB3.out none) (fun _ _ e => by cases e)).trans (KeepsOthers.setCell _ _ _)).trans (KeepsOthers.alloc _ _)
      have hbbx : ∃ c, W4.heap[w2.heap.size + 1]? = some (.cells c 107 (0, 0)) := by
        rcases bd4 with ⟨_, _, h, _⟩ | ⟨_, _, h, _⟩ <;> exact ⟨_, h⟩
      rw [hW4]
      clear hW4 hys hc3 hf3 hl3
      refine (CallsIn.inRound l (callsIn_wide.2 (writeString_k w.heap.size (w2.heap.size + 1) (txtOf ot) (y ++ (⟨#[59]⟩ : ByteArray)) W4 bd4 (by rw [txt_size, ByteArray.size_append]; have := G4.out; have := G5.out; have : (⟨#[59]⟩ : ByteArray).size = 1 := rfl; omega) (Nat.le_trans hWn st0.1)))).mono ?_
      rintro e w5 ⟨rfl, hbd5, hb5, hk5⟩
      obtain ⟨cb, hcb⟩ := hbbx
      have fin : KeepsOthers W w5 ∧ (KpL w.heap.size (w2.heap.size + 1 + 1) W w5 ∧ OutI w.heap.size w2.heap.size (w2.heap.size + 1) (w2.heap.size + 1 + 1) (w.heap.size + 1) l1 W0 (pre ++ [x]) w5) := by
        have bs5 := box_others hk5 bs4 (by omega) (by decide)
        refine ⟨ko4.trans (keeps_others hk5 hcb hb5.size), ⟨be4.trans hb5, bs5.trans I5.out.symm⟩, q2.1, q2.2, _, u, G2.out, box_others hk5 bo4 (by omega) (by decide), R_others (Kd.R_lower r4 hWn) hk5 hcb (by decide), .inr ?_, bs5, box_others hk5 b44 (by omega) (by decide), (I7.out.trans be4).trans hb5⟩
        rw [G6.out, txt_append]; exact hbd5
      have FIN := Lib.hid fin
      clear fin hbd5 hb5 hk5 hcb st1 st0 bd4 r4 bo4 bs4 b44 be4 ko4
      gi_wp2
      exact FIN.out
    case done =>
      rintro D xs W hD rfl ⟨lt, ot, v, u, i1, i2, i3, i4, i5, i6, i7⟩ hK
      have hfin := Option.some.inj (i1.symm.trans HF.out)
      simp only [Prod.mk.injEq] at hfin
      obtain ⟨rfl, rfl⟩ := hfin
      obtain ⟨A2, c2, hv, hc2, hC2⟩ := Kd.R_reads i3
      subst hv
      have HSZ := Lib.hid hsz
      have HD := Lib.hid hD
      have I2 := Lib.hid i2
      have I3 := Lib.hid i3
      have I4 := Lib.hid i4
      have I6 := Lib.hid i6
      have I7 := Lib.hid i7
      have HK := Lib.hid hK
      have c2' := i2.cell
      have HC2 := Lib.hid c2'
      clear c2' i1 i2 i3 i4 i5 i6 i7 hc2 hC2 hsz hbo hst h40 hB0 hR0 hBd hs2 hD hK
      go_wp2_with fail
      refine wp_still ?_
      refine start_ (n := 4) (S := fun w' => w'.cell? ⟨w2.heap.size, 0, none⟩ = some (.slice A2 lt.length c2)) (ds := []) #[false, false, false, false] (by kernel_rfl) rfl rfl HC2.out (fun hHeld => ?_)
      refine take_ (i := 0) (N := some 26) (v := ?_) (a' := ?_) #[true, false, false, false] rfl rfl (by kernel_rfl) (fun _ _ _ h => nomatch h.1) (Or.inl ⟨by rfl, ?_⟩) hHeld ?_ ?_
      rotate_left
      · intro w' s0
        go_simp
        with_reducible rfl
      rotate_left
      · simp only [Act.put, List.setIfInBounds_toArray, List.set_cons_zero, List.set_cons_succ, i64_w, i32_w]
        rfl
      refine one_ (i := 1) (N := some 27) #[true, true, false, false] rfl rfl (by kernel_rfl) (by decide) (fun K hK => ?_)
      refine goes_ Tryz.func97 (by kernel_rfl) rfl #[.pointer (some ⟨w2.heap.size + 1, 0, none⟩)] (by rfl) rfl rfl (by (try simp only [List.map_toArray, List.map_cons, List.map_nil]); first | done | rfl) ?_
      have hWn : w.heap.size ≤ W.heap.size := Nat.le_trans HB0.out.size I7.out.size
      have hWd : w.heap.size ≤ W.drew.heap.size := hWn
      have bd : Lib.IsBuilderF 107 5 w.heap.size (w2.heap.size + 1) (Lib.byteCells ot.data.toList) W.drew := I4.out
      have hbbx : ∃ c, W.drew.heap[w2.heap.size + 1]? = some (.cells c 107 (0, 0)) := by
        rcases bd with ⟨_, _, h, _⟩ | ⟨_, _, h, _⟩ <;> exact ⟨_, h⟩
      with_reducible refine (Tryz.Builder_String_any_k w.heap.size (w2.heap.size + 1) ot.data.toList W.drew bd hWd).mono ?_
      rintro e w5 ⟨rfl, _, hb5, hk5⟩
      obtain ⟨cb, hcb⟩ := hbbx
      refine ⟨_, rfl, ?_⟩
      have hs2 := HS2.out
      have bo5 : Boxed w5 w2.heap.size 25 (.slice A2 lt.length c2) := box_others hk5 (show Boxed W.drew _ _ _ from I2.out) (by omega) (by decide)
      have b45 : Boxed w5 (w.heap.size + 1) 25 (.slice none 0 0) := box_others hk5 (show Boxed W.drew _ _ _ from I6.out) (by omega) (by decide)
      have R5 := Lib.hid (R_others (Kd.R_drew I3.out) hk5 hcb (by decide))
      have K5 : w5.heap[D]? = some (.deferred (some [])) := (keeps_others hk5 hcb hb5.size).same D _ HK.out rfl
      have KK5 := Lib.hid K5
      have BB5 := Lib.hid ((HB0.out.trans (below_drew I7.out)).trans hb5)
      have BO5 := Lib.hid bo5
      have B45 := Lib.hid b45
      clear hb5 hk5 hcb bd bo5 b45 K5
      refine hK.out _ _ BO5.out.cell (fun hHeld => ?_)
      clear hK K
      refine norm_ (a' := ?_) ?_ ?_
      rotate_left
      · show Act.put _ (some 27) _ = _
        simp only [Act.put, List.setIfInBounds_toArray, List.set_cons_zero, List.set_cons_succ, i64_w, i32_w]
        rfl
      refine one_ (i := 2) (N := none) #[true, true, true, false] rfl rfl (by kernel_rfl) (by decide) (fun K hK => ?_)
      have q1 := B45.out.cell
      have q2 := B45.out.frozen
      have q3 := B45.out.lt
      refine skip_ (w1 := ?_) (by rfl) rfl ?_ ?_
      rotate_left
      · go_simp
        rfl
      have bo6 : Boxed (w5.setCell ⟨w.heap.size + 1, 0, none⟩ (.slice A2 lt.length c2)) w2.heap.size 25 (.slice A2 lt.length c2) := (Below.heap_setCell _ _ _ _ (by simp only; omega)).trans BO5.out
      refine hK.out _ _ bo6.cell (fun hHeld => ?_)
      clear hK K
      refine pure_ (i := 3) (N := some 5) (v := ?_) (a' := ?_) #[true, true, true, true] rfl rfl (by kernel_rfl) (fun _ _ _ h => nomatch h.1) (Or.inl ⟨by rfl, ?_⟩) ?_ ?_
      rotate_left
      · intro w'
        go_simp
        with_reducible rfl
      rotate_left
      · simp only [Act.put, List.setIfInBounds_toArray, List.set_cons_zero, List.set_cons_succ, i64_w, i32_w]
        rfl
      refine done_ (by kernel_rfl) ⟨rfl, ?_⟩
      go_wp2
      have hs7 := HSZ.out
      have hd7 := HD.out
      have k6 : (w5.setCell ⟨w.heap.size + 1, 0, none⟩ (.slice A2 lt.length c2)).heap[D]? = some (.deferred (some [])) := (Below.heap_setCell _ _ _ _ (by simp only; omega)).trans KK5.out
      have b6 : ((w5.setCell ⟨w.heap.size + 1, 0, none⟩ (.slice A2 lt.length c2)).putObj D (.deferred none)).heap[w.heap.size + 1]? = some (.cells #[.slice A2 lt.length c2] 25 (0, 0)) :=
        (World.putObj_heap_other (by omega)).trans (B45.out.set _)
      have R6 : Kd.R k34 34 ((w5.setCell ⟨w.heap.size + 1, 0, none⟩ (.slice A2 lt.length c2)).putObj D (.deferred none)) w.heap.size (fun _ => True) (.slice A2 lt.length c2) lt :=
        R_stays (R_stays R5.out (StaysT.set B45.out _) (by decide)) (q := 25) ⟨by simp [World.putObj], fun k c t f h _ => (World.putObj_heap_other (fun e => by subst e; rw [k6] at h; cases h)).trans h⟩ (by decide)
      have B6 : Below w.heap.size w ((w5.setCell ⟨w.heap.size + 1, 0, none⟩ (.slice A2 lt.length c2)).putObj D (.deferred none)) :=
        (BB5.out.setCell (p := ⟨w.heap.size + 1, 0, none⟩) (by simp) _).trans (belowK_b (w := w) (Nat.le_refl _) _ D _ _ (by omega) k6 rfl rfl)
      refine ⟨by simp, .inl ⟨_, _, rfl, run_takeDeferred k6, ?_⟩⟩
      exact ⟨_, results_ct rfl _ _ (w.heap.size + 1) 25 #[.slice A2 lt.length c2] (0, 0) _ rfl b6 Tryz.underlying25 rfl (by kernel_rfl), _, rfl, R6, B6⟩
  · rw [if_neg hs] at h; cases h
end
end Go.Proofs.YtffmbccgcaghjaaGreatDoor.P
namespace Go.Proofs.YtffmbccgcaghjaaGreatDoor.P
open Go.Proofs.YtffmbccgcaghjaaGreatDoorUFnExactRwrStream.PrintLast Go.Proofs.YtffmbccgcaghjaaGreatDoorUFnExactRwrStream.PrintMore Go.Proofs.YtffmbccgcaghjaaGreatDoorUFnExactRwrStream.PrintWords Go.RowKit
set_option linter.unusedVariables false
set_option linter.unusedSimpArgs false
section
attribute [local go_sem] max2_int min2_int max_two min_two max_three min_three max_four min_four
def impl_StrOk.l0 : Nat → ByteArray → List ByteArray → Int → Int → Option (Bool)
 | 0, _, _, _, _ => none
 | k + 1, x0, x15, x16, x17 => if x17 < x16 then (if 0 ≤ x17 then (if x17 < (x15.length : Int) then ((impl_LinOk.f (rdOf ByteArray.empty x15 x17)).bind fun t707 => (if t707 = true then (impl_StrOk.l0 k x0 x15 x16 (wrap64 (x17 + 1))) else (some false))) else (none)) else (none)) else (some (decide ((x0.size : Int) ≤ 120)))
def impl_StrOk.f (k : Nat) (a0 : ByteArray) : Option (Bool) := (impl_StrLines.f a0).bind fun bt699 => (if bt699.1.length < 8796093022208 then ((some (bt699.1 ++ [bt699.2] : List ByteArray)).bind fun y703 => (impl_StrOk.l0 k a0 y703 (y703.length : Int) 0)) else (none))
theorem impl_StrOk.mono_l : ∀ k, (∀ y0 y1 y2 y3, LeO (impl_StrOk.l0 k y0 y1 y2 y3) (impl_StrOk.l0 (k + 1) y0 y1 y2 y3))
 | 0 => fun _ _ _ _ r h => by simp [impl_StrOk.l0] at h
 | k + 1 => by
  have ih0 := impl_StrOk.mono_l k
  ·intro y0 y1 y2 y3
   unfold impl_StrOk.l0
   repeat' first | (with_reducible first | exact ih0 _ _ _ _ | exact LeO.refl _ | exact LeO.none _ | refine LeO.ite ?_ ?_ | refine LeO.bind ?_ (fun _ => ?_)) | exact ih0 _ _ _ _ | exact LeO.none _ | refine LeO.ite ?_ ?_ | refine LeO.bind ?_ (fun _ => ?_)
theorem impl_StrOk.mono : ∀ a0 k, LeO (impl_StrOk.f k a0) (impl_StrOk.f (k + 1) a0) := by
 intro a0 k
 have ih0 := impl_StrOk.mono_l k
 unfold impl_StrOk.f
 repeat' first | (with_reducible first | exact ih0 _ _ _ _ | exact LeO.refl _ | exact LeO.none _ | refine LeO.ite ?_ ?_ | refine LeO.bind ?_ (fun _ => ?_)) | exact ih0 _ _ _ _ | exact LeO.none _ | refine LeO.ite ?_ ?_ | refine LeO.bind ?_ (fun _ => ?_)
set_option maxHeartbeats 8000000 in
set_option maxRecDepth 100000 in
theorem impl_StrOk.calls (k : Nat) (a0 : ByteArray) (r : Bool) (w : World) (h : impl_StrOk.f k a0 = some r) (hE : Env w) :
  Calls Tryz.prog 68 #[.string a0] w fun e w' => e = .returned (.bool r) ∧ Below w.heap.size w w' := by
 have HB := am (Below.refl w.heap.size w)
 have H : ((impl_StrLines.f a0).bind fun bt699 => (if bt699.1.length < 8796093022208 then ((some (bt699.1 ++ [bt699.2] : List ByteArray)).bind fun y703 => (impl_StrOk.l0 k a0 y703 (y703.length : Int) 0)) else (none))) = some r := h
 clear h
 obtain ⟨⟨t699, t700⟩, A2, H⟩ := bse H
 try dsimp only at H
 by_cases c3 : t699.length < 8796093022208
 ·rw [if_pos c3] at H
  have LMc3 := am c3
  clear c3
  obtain ⟨y703, hy703⟩ : ∃ y_ : List ByteArray, y_ = (t699 ++ [t700]) := ⟨_, rfl⟩
  replace H : (impl_StrOk.l0 k a0 y703 (y703.length : Int) 0) = some r := by first | (rw [hy703]; with_reducible exact H) | (have H2_ := (Option.bind_some _ _).symm.trans H; rw [hy703]; with_reducible exact H2_) | (have H2_ := (Option.bind_some _ _).symm.trans H; with_reducible exact H2_) | with_reducible exact H | (rw [hy703]; exact H) | exact H
  have Ny703 := am hy703
  clear hy703
  have H' := am H
  clear H
  go_enter Tryz.func68, Tryz.ntmps68
  go_wp2_with (first | ((with_reducible refine gate_callee (f := 36) rfl ?_); refine gL (some 9) Tryz.func36 #[.string a0] ?_; (with_reducible refine (impl_StrLines.calls a0 t699 t700 _ A2.out (Env.below hE (bl HB))).mono ?_); rintro e w4 ⟨v701, rfl, ho0, hb⟩; refine ⟨_, rfl, ?_⟩; have HO702 := am (Kd.R_lower ho0 (below_size (bl HB))); replace HB := hbS HB hb; (try clear hb); (try clear ho0)) | ((with_reducible refine gate_builtin (b := .append) (xs := #[.tmp 12, .tmp 14]) rfl ?_); at_builtin; refine Kd.R_append Kd.string (w0 := w) w.heap.size rfl (.tmp 12) (.tmp 14) 51 9 (.string ⟨#[]⟩) 16 rfl Tryz.underlying51 info9 rfl (by decide) (by omega) v701 t699 t700 [.string t700] (fun _ => True) (fun _ => False) rfl rfl ?aP (fun _ hk => hk.elim) ?aF ?aO ?aB ?aS ?aL ?_; (case aP => exact rfl); (case aB => exact (bl HB)); (case aF => exact (fun _ _ => trivial)); (case aO => exact (rs HO702)); (case aS => exact (below_size (bl HB))); (case aL => have := LMc3.out; omega); intro v704 w5 ho hb hg hat; rw [← Ny703.out] at ho; replace HB := am hb; have HO705 := am (ho); clear HO702; clear ho hb hg hat; obtain ⟨Ao6, co6, eo6⟩ := Kd.R_slice HO705.out; subst eo6))
  go_loopg [17] k (fun kq v17 w' => ∃ (x17_1 : Int), v17 = .int .i64 x17_1 ∧ Aside0 (impl_StrOk.l0 kq a0 y703 (y703.length : Int) x17_1 = some r) ∧ Aside0 (kq ≤ k) ∧ Aside0 (Kd.R Kd.string 9 w' w.heap.size (fun _ => True) (.slice Ao6 y703.length co6) y703) ∧ Aside0 (Below w.heap.size w w'))
  case atStart => exact ⟨(0), rs_, H', ⟨Nat.le_refl _⟩, ⟨by (with_reducible repeat apply ru); exact HO705.out⟩, ⟨m0_⟩⟩
  case round =>
   clear H'
   try clear p2
   try clear c3
   try clear c6
   obtain ⟨x17_1, rfl, HA, HK1, HO_15, HB⟩ := hrel
   cases gk with
   | zero => exact absurd HA.out (by simp [impl_StrOk.l0])
   | succ k1 =>
    have H := HA.out
    clear HA
    simp only [impl_StrOk.l0] at H
    by_cases c7 : x17_1 < (y703.length : Int)
    ·rw [if_pos c7] at H
     have c7b0 : decide (x17_1 < (y703.length : Int)) = true := decide_eq_true c7
     clear c7
     by_cases c8 : 0 ≤ x17_1
     ·rw [if_pos c8] at H
      have c8b0 : decide (0 ≤ x17_1) = true := decide_eq_true c8
      clear c8
      by_cases c9 : x17_1 < (y703.length : Int)
      ·rw [if_pos c9] at H
       have c9b0 : decide (x17_1 < (y703.length : Int)) = true := decide_eq_true c9
       clear c9
       obtain ⟨t707, A10, H⟩ := bse H
       try dsimp only at H
       by_cases c11 : t707 = true
       ·subst c11
        have H1 : (impl_StrOk.l0 k1 a0 y703 (y703.length : Int) (wrap64 (x17_1 + 1))) = some r := by rw [if_pos rfl] at H; exact H
        clear H
        have H := H1
        clear H1
        have H' := am H
        clear H
        have p706 : 0 ≤ (x17_1 : Int) := of_decide_eq_true da_
        have q706 : x17_1 < (y703.length : Int) := of_decide_eq_true da_
        obtain ⟨ad706, e706, hx706_0⟩ := Kd.at_string (Kd.R_reads' HO_15.out).2.2 x17_1 p706 q706
        cases e706
        replace p706 := eq_true p706
        replace q706 := eq_true q706
        go_wp2_with (first | ((with_reducible refine gate_callee (f := 22) rfl ?_); refine gL (some 22) Tryz.func22 #[.string (rdOf ByteArray.empty y703 x17_1)] ?_; (with_reducible refine (impl_LinOk.calls (rdOf ByteArray.empty y703 x17_1) true _ A10.out).mono ?_); rintro e w12 ⟨rfl, hb⟩; refine ⟨_, rfl, ?_⟩; replace HO_15 := am (Kd.R_below (rs HO_15) hb); replace HB := hbS HB hb; (try clear hb)))
        go_roundg k1
        case measure => have := HK1.out; omega
        case rel => exact ⟨(wrap64 (x17_1 + 1)), rs_, H', ⟨by have := HK1.out; omega⟩, ⟨by (with_reducible repeat apply ru); exact HO_15.out⟩, ⟨m0_⟩⟩
       ·replace c11 := Bool.eq_false_iff.mpr c11
        subst c11
        have H1 : (some false) = some r := by rw [if_neg (show ¬ (false = true) by decide)] at H; exact H
        clear H
        have H := H1
        clear H1
        obtain rfl := Option.some.inj H
        have p706 : 0 ≤ (x17_1 : Int) := of_decide_eq_true da_
        have q706 : x17_1 < (y703.length : Int) := of_decide_eq_true da_
        obtain ⟨ad706, e706, hx706_0⟩ := Kd.at_string (Kd.R_reads' HO_15.out).2.2 x17_1 p706 q706
        cases e706
        replace p706 := eq_true p706
        replace q706 := eq_true q706
        go_wp2_with (first | ((with_reducible refine gate_callee (f := 22) rfl ?_); refine gL (some 22) Tryz.func22 #[.string (rdOf ByteArray.empty y703 x17_1)] ?_; (with_reducible refine (impl_LinOk.calls (rdOf ByteArray.empty y703 x17_1) false _ A10.out).mono ?_); rintro e w13 ⟨rfl, hb⟩; refine ⟨_, rfl, ?_⟩; replace HO_15 := am (Kd.R_below (rs HO_15) hb); replace HB := hbS HB hb; (try clear hb)))
        go_ret
        exact ⟨fi_, m0_⟩
      ·rw [if_neg c9] at H
       exact absurd H (by simp)
     ·rw [if_neg c8] at H
      exact absurd H (by simp)
    ·rw [if_neg c7] at H
     have c7b0 : decide (x17_1 < (y703.length : Int)) = false := decide_eq_false c7
     clear c7
     obtain rfl := Option.some.inj H
     go_wp2
     go_ret
     exact ⟨fi_, m0_⟩
 ·rw [if_neg c3] at H
  exact absurd H (by simp)
def impl_RwrStream.f (k : Nat) (l0_0 : List (S34)) (a1 : ByteArray) : Option ((List (S34)) × ByteArray) := (impl_MapOk.f k l0_0).bind fun t710 => (if t710 = true then ((impl_StrOk.f k a1).bind fun t711 => (if t711 = true then ((impl_MapTab_streamOut.f l0_0 a1).bind fun bt712 => (some (bt712.1, bt712.2))) else (some (([] : List (S34)), (⟨#[]⟩ : ByteArray))))) else (some (([] : List (S34)), (⟨#[]⟩ : ByteArray))))
theorem impl_RwrStream.mono : ∀ a0 a1 k, LeO (impl_RwrStream.f k a0 a1) (impl_RwrStream.f (k + 1) a0 a1) := by
 intro a0 a1 k
 unfold impl_RwrStream.f
 repeat' first | (with_reducible first | exact impl_MapOk.mono _ _ | exact impl_StrOk.mono _ _ | exact LeO.refl _ | exact LeO.none _ | refine LeO.ite ?_ ?_ | refine LeO.bind ?_ (fun _ => ?_)) | exact impl_MapOk.mono _ _ | exact impl_StrOk.mono _ _ | exact LeO.none _ | refine LeO.ite ?_ ?_ | refine LeO.bind ?_ (fun _ => ?_)
set_option maxHeartbeats 8000000 in
set_option maxRecDepth 100000 in
theorem impl_RwrStream.calls (k : Nat) (A0_0 : Option Addr) (c0_0 : Nat) (l0_0 : List (S34)) (a1 : ByteArray) (r1 : List (S34)) (r2 : ByteArray) (w : World) (hr0_0 : Kd.C k34 w A0_0 l0_0.length l0_0) (hc0_0 : l0_0.length ≤ c0_0) (h : impl_RwrStream.f k l0_0 a1 = some (r1, r2)) (hE : EnvE w) :
  Calls Tryz.prog 34 #[.agg #[.slice A0_0 l0_0.length c0_0], .string a1] w fun e w' => ∃ v0_ : Value, e = .returned (.tuple #[.agg #[v0_], .string r2]) ∧ Kd.R k34 34 w' w.heap.size (fun _ => True) v0_ r1 ∧ Below w.heap.size w w' := by
 have hu25 := Tryz.underlying25
 have HR0_0 := am hr0_0
 have HC0_0 := am hc0_0
 clear hr0_0 hc0_0
 have HB := am (Below.refl w.heap.size w)
 have H : ((impl_MapOk.f k l0_0).bind fun t710 => (if t710 = true then ((impl_StrOk.f k a1).bind fun t711 => (if t711 = true then ((impl_MapTab_streamOut.f l0_0 a1).bind fun bt712 => (some (bt712.1, bt712.2))) else (some (([] : List (S34)), (⟨#[]⟩ : ByteArray))))) else (some (([] : List (S34)), (⟨#[]⟩ : ByteArray))))) = some (r1, r2) := h
 clear h
 obtain ⟨t710, A3, H⟩ := bse H
 try dsimp only at H
 by_cases c4 : t710 = true
 ·subst c4
  have H1 : ((impl_StrOk.f k a1).bind fun t711 => (if t711 = true then ((impl_MapTab_streamOut.f l0_0 a1).bind fun bt712 => (some (bt712.1, bt712.2))) else (some (([] : List (S34)), (⟨#[]⟩ : ByteArray))))) = some (r1, r2) := by rw [if_pos rfl] at H; exact H
  clear H
  have H := H1
  clear H1
  obtain ⟨t711, A5, H⟩ := bse H
  try dsimp only at H
  by_cases c6 : t711 = true
  ·subst c6
   have H1 : ((impl_MapTab_streamOut.f l0_0 a1).bind fun bt712 => (some (bt712.1, bt712.2))) = some (r1, r2) := by rw [if_pos rfl] at H; exact H
   clear H
   have H := H1
   clear H1
   obtain ⟨⟨t712, t715⟩, A7, H⟩ := bse H
   try dsimp only at H
   simp only [Option.some.injEq, Prod.mk.injEq] at H
   obtain ⟨rfl, rfl⟩ := H
   go_enter Tryz.func34, Tryz.ntmps34
   go_wp2_with (first | ((with_reducible refine gate_dst (N := 2) rfl ?_); refine box_event rfl (N := 2) rfl (cs := #[.slice A0_0 l0_0.length c0_0]) (t := 25) hr_ ?_; intro gb708 hg w8 hbox hb; have BK708 := am hbox; have GW708 := gwE HB hg; have GE708 := gwE HB hg; replace HB := hbS HB hb; clear hb hbox hg) | ((with_reducible refine gate_dst (N := 4) rfl ?_); refine box_event rfl (N := 4) rfl (cs := #[.slice none 0 0]) (t := 25) hr_ ?_; intro gb709 hg w9 hbox hb; have BK709 := am hbox; have GW709 := gwE HB hg; have GE709 := gwE HB hg; replace HB := hbS HB hb; have NB708_709 := neL BK708 hg; have NB709_708 := neG BK708 hg; replace BK708 := bkB BK708 hb; clear hb hbox hg; have := NB708_709.out; have := NB709_708.out; have := bcell BK708 0; have := bfz BK708 0) | ((with_reducible refine gate_callee (f := 20) rfl ?_); refine gL (some 7) Tryz.func20 #[.agg #[.slice A0_0 l0_0.length c0_0]] ?_; (with_reducible refine (impl_MapOk.calls k _ _ l0_0 true _ ?side1 ?side2 A3.out).mono ?_); (case side1 => exact m4_); (case side2 => exact HC0_0.out); rintro e w12 ⟨rfl, hb⟩; refine ⟨_, rfl, ?_⟩; replace BK708 := bkB BK708 hb; replace BK709 := bkB BK709 hb; replace HB := hbS HB hb; (try clear hb)) | (go_at_call 68; (with_reducible refine (impl_StrOk.calls k a1 true _ A5.out (Env.below hE.e (bl HB))).mono ?_); rintro e w13 ⟨rfl, hb⟩; replace BK708 := bkB BK708 hb; replace BK709 := bkB BK709 hb; replace HB := hbS HB hb; (try clear hb); have := bcell BK708 0; have := bfz BK708 0) | ((with_reducible refine gate_callee (f := 69) rfl ?_); refine gL (some 17) Tryz.func69 #[.agg #[.slice A0_0 l0_0.length c0_0], .string a1] ?_; (with_reducible refine (impl_MapTab_streamOut.calls _ _ l0_0 a1 t712 t715 _ ?side1 ?side2 A7.out (EnvE.below hE (bl HB))).mono ?_); (case side1 => exact m4_); (case side2 => exact HC0_0.out); rintro e w15 ⟨v713, rfl, ho0, hb⟩; refine ⟨_, rfl, ?_⟩; have HO714 := am (Kd.R_lower ho0 (below_size (bl HB))); replace BK708 := bkB BK708 hb; replace BK709 := bkB BK709 hb; replace HB := hbS HB hb; (try clear hb); (try clear ho0); obtain ⟨Ao16, co16, eo16⟩ := Kd.R_slice HO714.out; subst eo16; have := bcell BK709 0; have := bfz BK709 0))
   refine bodyPost_ret (results_ct rfl _ _ gb709 25 #[.slice Ao16 t712.length co16] (0, 0) _ rfl (by (with_reducible repeat refine bu ?_); refine blk_put (cs := #[.slice none 0 0]) ?_ 0 _ rfl; (with_reducible repeat refine bu ?_); exact BK709.out) Tryz.underlying25 rfl (by kernel_rfl)) rfl ?_
   exact ⟨_, fi_, by (with_reducible repeat apply ru); exact Kd.R_mono (Kd.R_far (p := ⟨gb709, 0, none⟩) (Kd.R_types HO714.out BK709.out (by decide)) (fun _ hk => hk.2) (.slice Ao16 t712.length co16)) (fun _ hk => trivial), m2_⟩
  ·replace c6 := Bool.eq_false_iff.mpr c6
   subst c6
   have H1 : (some (([] : List (S34)), (⟨#[]⟩ : ByteArray))) = some (r1, r2) := by rw [if_neg (show ¬ (false = true) by decide)] at H; exact H
   clear H
   have H := H1
   clear H1
   simp only [Option.some.injEq, Prod.mk.injEq] at H
   obtain ⟨rfl, rfl⟩ := H
   go_enter Tryz.func34, Tryz.ntmps34
   go_wp2_with (first | ((with_reducible refine gate_dst (N := 2) rfl ?_); refine box_event rfl (N := 2) rfl (cs := #[.slice A0_0 l0_0.length c0_0]) (t := 25) hr_ ?_; intro gb708 hg w18 hbox hb; have BK708 := am hbox; have GW708 := gwE HB hg; have GE708 := gwE HB hg; replace HB := hbS HB hb; clear hb hbox hg) | ((with_reducible refine gate_dst (N := 4) rfl ?_); refine box_event rfl (N := 4) rfl (cs := #[.slice none 0 0]) (t := 25) hr_ ?_; intro gb709 hg w19 hbox hb; have BK709 := am hbox; have GW709 := gwE HB hg; have GE709 := gwE HB hg; replace HB := hbS HB hb; have NB708_709 := neL BK708 hg; have NB709_708 := neG BK708 hg; replace BK708 := bkB BK708 hb; clear hb hbox hg; have := NB708_709.out; have := NB709_708.out; have := bcell BK708 0; have := bfz BK708 0) | ((with_reducible refine gate_callee (f := 20) rfl ?_); refine gL (some 7) Tryz.func20 #[.agg #[.slice A0_0 l0_0.length c0_0]] ?_; (with_reducible refine (impl_MapOk.calls k _ _ l0_0 true _ ?side1 ?side2 A3.out).mono ?_); (case side1 => exact m4_); (case side2 => exact HC0_0.out); rintro e w22 ⟨rfl, hb⟩; refine ⟨_, rfl, ?_⟩; replace BK708 := bkB BK708 hb; replace BK709 := bkB BK709 hb; replace HB := hbS HB hb; (try clear hb)) | (go_at_call 68; (with_reducible refine (impl_StrOk.calls k a1 false _ A5.out (Env.below hE.e (bl HB))).mono ?_); rintro e w23 ⟨rfl, hb⟩; replace BK708 := bkB BK708 hb; replace BK709 := bkB BK709 hb; replace HB := hbS HB hb; (try clear hb); have := bcell BK709 0; have := bfz BK709 0))
   refine bodyPost_ret (results_ct rfl _ _ gb709 25 #[.slice none 0 0] (0, 0) _ rfl (by (with_reducible repeat refine bu ?_); refine blk_put (cs := #[.slice none 0 0]) ?_ 0 _ rfl; (with_reducible repeat refine bu ?_); exact BK709.out) Tryz.underlying25 rfl (by kernel_rfl)) rfl ?_
   exact ⟨_, fi_, by first | exact Kd.R_nil _ _ _ _ _ | exact Kd.N_nil _ _ _ _ _ | exact Kd.V_nil _ _ _ _ _ | exact Kd.Q_nil _ _ _ _ _ | exact Kd.S_nil _ _ _ _ _, m2_⟩
 ·replace c4 := Bool.eq_false_iff.mpr c4
  subst c4
  have H1 : (some (([] : List (S34)), (⟨#[]⟩ : ByteArray))) = some (r1, r2) := by rw [if_neg (show ¬ (false = true) by decide)] at H; exact H
  clear H
  have H := H1
  clear H1
  simp only [Option.some.injEq, Prod.mk.injEq] at H
  obtain ⟨rfl, rfl⟩ := H
  go_enter Tryz.func34, Tryz.ntmps34
  go_wp2_with (first | ((with_reducible refine gate_dst (N := 2) rfl ?_); refine box_event rfl (N := 2) rfl (cs := #[.slice A0_0 l0_0.length c0_0]) (t := 25) hr_ ?_; intro gb708 hg w25 hbox hb; have BK708 := am hbox; have GW708 := gwE HB hg; have GE708 := gwE HB hg; replace HB := hbS HB hb; clear hb hbox hg) | ((with_reducible refine gate_dst (N := 4) rfl ?_); refine box_event rfl (N := 4) rfl (cs := #[.slice none 0 0]) (t := 25) hr_ ?_; intro gb709 hg w26 hbox hb; have BK709 := am hbox; have GW709 := gwE HB hg; have GE709 := gwE HB hg; replace HB := hbS HB hb; have NB708_709 := neL BK708 hg; have NB709_708 := neG BK708 hg; replace BK708 := bkB BK708 hb; clear hb hbox hg; have := NB708_709.out; have := NB709_708.out; have := bcell BK708 0; have := bfz BK708 0) | ((with_reducible refine gate_callee (f := 20) rfl ?_); refine gL (some 7) Tryz.func20 #[.agg #[.slice A0_0 l0_0.length c0_0]] ?_; (with_reducible refine (impl_MapOk.calls k _ _ l0_0 false _ ?side1 ?side2 A3.out).mono ?_); (case side1 => exact m4_); (case side2 => exact HC0_0.out); rintro e w29 ⟨rfl, hb⟩; refine ⟨_, rfl, ?_⟩; replace BK708 := bkB BK708 hb; replace BK709 := bkB BK709 hb; replace HB := hbS HB hb; (try clear hb); have := bcell BK709 0; have := bfz BK709 0))
  refine bodyPost_ret (results_ct rfl _ _ gb709 25 #[.slice none 0 0] (0, 0) _ rfl (by (with_reducible repeat refine bu ?_); refine blk_put (cs := #[.slice none 0 0]) ?_ 0 _ rfl; (with_reducible repeat refine bu ?_); exact BK709.out) Tryz.underlying25 rfl (by kernel_rfl)) rfl ?_
  exact ⟨_, fi_, by first | exact Kd.R_nil _ _ _ _ _ | exact Kd.N_nil _ _ _ _ _ | exact Kd.V_nil _ _ _ _ _ | exact Kd.Q_nil _ _ _ _ _ | exact Kd.S_nil _ _ _ _ _, m2_⟩
end
theorem implStrLines_f {s : ByteArray} (hs : s.size ≤ 4000000000) : impl_StrLines.f s = some (linesB s, restB s) := by
  unfold impl_StrLines.f; rw [if_pos hs]
theorem implStrOk_a (s : ByteArray) (hs : s.size ≤ 1048576) : Ans (fun k => impl_StrOk.f k s) (fun r => r = strOkW s) := by
  unfold impl_StrOk.f
  rw [implStrLines_f (by omega)]
  obtain ⟨z1, z2, z3⟩ := linesB_size s
  refine Ans.bsome (Ans.pos (by dsimp only; omega) (Ans.bsome ?_))
  dsimp only
  have hlen : (linesB s ++ [restB s]).length ≤ 1048577 := by simp; omega
  have hsz : ∀ x ∈ linesB s ++ [restB s], x.size ≤ 1048576 := by
    intro x hx
    rcases List.mem_append.mp hx with h | h
    · have := z2 x h; omega
    · have : x = restB s := by simpa using h
      subst this; omega
  have e0 : strOkW s = ((linesB s ++ [restB s]).all linOk && decide (s.size ≤ 120)) := by
    unfold strOkW
    rw [List.all_append]
    cases decide (s.size ≤ 120) <;> simp
  rw [e0]
  generalize linesB s ++ [restB s] = y at hlen hsz ⊢
  have L : ∀ (m i : Nat), y.length - i = m → i ≤ y.length → Ans (fun k => impl_StrOk.l0 k s y (y.length : Int) (i : Int)) (fun r => r = ((y.drop i).all linOk && decide (s.size ≤ 120))) := by
    intro m
    induction m with
    | zero =>
      intro i hm hi
      refine Ans.succ ?_
      unfold impl_StrOk.l0
      refine Ans.neg (by omega) (Ans.pure ?_)
      rw [List.drop_eq_nil_of_le (by omega)]
      simp
      omega
    | succ m ih =>
      intro i hm hi
      have hlt : i < y.length := by omega
      have hw : wrap64 ((i : Int) + 1) = ((i + 1 : Nat) : Int) := w64 _ (by omega)
      refine Ans.succ ?_
      unfold impl_StrOk.l0
      refine Ans.pos (by omega) (Ans.pos (by omega) (Ans.pos (by omega) ?_))
      rw [rdOf_get hlt, hw]
      have hx := hsz _ (List.getElem_mem hlt)
      have el : impl_LinOk.f y[i] = some (linOk y[i]) := by unfold impl_LinOk.f; rw [if_pos (by omega)]
      rw [el]
      refine Ans.bsome ?_
      have e : y.drop i = y[i] :: y.drop (i + 1) := List.drop_eq_getElem_cons hlt
      rw [e, List.all_cons]
      cases hq : linOk y[i] with
      | true => exact Ans.pos rfl ((ih (i + 1) (by omega) (by omega)).mono (by rintro v rfl; simp))
      | false => exact Ans.neg (by simp) (Ans.pure (by simp))
  exact (L _ 0 rfl (Nat.zero_le _)).mono (by rintro v rfl; simp)
theorem strOkW_parts {s : ByteArray} (h : strOkW s = true) : s.size ≤ 120 ∧ (linesB s).all linOk = true ∧ linOk (restB s) = true := by
  unfold strOkW at h
  simpa only [Bool.and_eq_true, decide_eq_true_eq] using h
theorem fold_strW : ∀ (xs : List ByteArray) (l : List S34) (o : ByteArray), okT l = true → xs.all linOk = true → o.size + 17 * xs.length ≤ 100000000 → xs.foldlM outStep (l, o) = some (strW l xs o)
  | [], l, o, _, _, _ => rfl
  | x :: r, l, o, c, h, hz => by
    simp only [List.all_cons, Bool.and_eq_true] at h
    obtain ⟨g1, g2, g3⟩ := lineW_ok c h.1
    have hx := linOk_size h.1
    simp only [List.length_cons] at hz
    have h1 : (⟨#[59]⟩ : ByteArray).size = 1 := rfl
    have e : outStep (l, o) x = some ((lineW l x).1, (o ++ (lineW l x).2) ++ (⟨#[59]⟩ : ByteArray)) := by
      unfold outStep
      rw [implGoesOut_f c (by omega), Option.bind_some, if_pos (by dsimp only; omega)]
      dsimp only
      rw [show o ++ ((lineW l x).2 ++ (⟨#[59]⟩ : ByteArray)) = (o ++ (lineW l x).2) ++ (⟨#[59]⟩ : ByteArray) from bax (by simp)]
    rw [List.foldlM_cons, e]
    exact fold_strW r _ _ g1 h.2 (by simp only [ByteArray.size_append, h1]; omega)
theorem implStream_f {l : List S34} {s : ByteArray} (c : okT l = true) (cs : strOkW s = true) : impl_MapTab_streamOut.f l s = some (strW l (linesB s) ⟨#[]⟩) := by
  obtain ⟨h120, hall, _⟩ := strOkW_parts cs
  have hl := okT_le c
  have z := linesB_size s
  have e : impl_MapTab_copied.f l = some l := by
    unfold impl_MapTab_copied.f impl_EndPoint_106.f impl_EndPoint_105.f
    rw [if_pos (by omega)]; rfl
  unfold impl_MapTab_streamOut.f
  rw [if_pos (by omega), e, Option.bind_some]
  exact fold_strW _ _ _ c hall (by have : (⟨#[]⟩ : ByteArray).size = 0 := rfl; omega)
theorem implRwrStream_a (l : List S34) (hl : l.length ≤ 2000000) (s : ByteArray) (hs : s.size ≤ 1048576) : Ans (fun k => impl_RwrStream.f k l s) (fun r => r = rwrStreamW l s) := by
  unfold impl_RwrStream.f rwrStreamW
  refine Ans.bind (implMapOk_a l hl) ?_
  rintro _ rfl
  cases c : okT l with
  | false => exact Ans.neg (by simp) (Ans.pure (by simp))
  | true =>
    refine Ans.pos rfl (Ans.bind (implStrOk_a s hs) ?_)
    rintro _ rfl
    cases c2 : strOkW s with
    | false => exact Ans.neg (by simp) (Ans.pure (by simp))
    | true =>
      refine Ans.pos rfl ?_
      rw [implStream_f c c2]
      exact Ans.bsome (Ans.pure (by simp))
def farsL : List S34 → List ByteArray → List ByteArray
  | _, [] => []
  | l, x :: r => (lineW l x).2 :: farsL (lineW l x).1 r
def tabL : List S34 → List ByteArray → List S34
  | l, [] => l
  | l, x :: r => tabL (lineW l x).1 r
def joinS : List ByteArray → ByteArray
  | [] => ⟨#[]⟩
  | y :: r => (y ++ (⟨#[59]⟩ : ByteArray)) ++ joinS r
theorem strW_eq : ∀ (xs : List ByteArray) (l : List S34) (o : ByteArray), strW l xs o = (tabL l xs, o ++ joinS (farsL l xs))
  | [], l, o => by show (l, o) = (l, o ++ (⟨#[]⟩ : ByteArray)); congr 1; exact bax (by simp)
  | x :: r, l, o => by
    show strW (lineW l x).1 r ((o ++ (lineW l x).2) ++ (⟨#[59]⟩ : ByteArray)) = _
    rw [strW_eq r]
    show (_, _) = (_, _)
    congr 1
    exact bax (by simp [joinS, farsL])
theorem strW_nil (l : List S34) (xs : List ByteArray) : strW l xs (⟨#[]⟩ : ByteArray) = (tabL l xs, joinS (farsL l xs)) := by
  rw [strW_eq]
  have e : (⟨#[]⟩ : ByteArray) ++ joinS (farsL l xs) = joinS (farsL l xs) := bax (by simp)
  rw [e]
theorem rwrStream_ok {l : List S34} {s : ByteArray} (c : okT l = true) (cs : strOkW s = true) : rwrStreamW l s = (tabL l (linesB s), joinS (farsL l (linesB s))) := by
  unfold rwrStreamW; rw [c, cs]; simp only [Bool.and_self, if_true]; exact strW_nil _ _
theorem farsL_length : ∀ (xs : List ByteArray) (l : List S34), (farsL l xs).length = xs.length
  | [], _ => rfl
  | x :: r, l => by simp [farsL, farsL_length r]
theorem farsL_append : ∀ (xs ys : List ByteArray) (l : List S34), farsL l (xs ++ ys) = farsL l xs ++ farsL (tabL l xs) ys
  | [], _, _ => rfl
  | x :: r, ys, l => by simp [farsL, tabL, farsL_append r]
theorem tabL_append : ∀ (xs ys : List ByteArray) (l : List S34), tabL l (xs ++ ys) = tabL (tabL l xs) ys
  | [], _, _ => rfl
  | x :: r, ys, l => by simp [tabL, tabL_append r]
theorem joinS_append : ∀ (xs ys : List ByteArray), joinS (xs ++ ys) = joinS xs ++ joinS ys
  | [], ys => bax (by simp [joinS])
  | x :: r, ys => by
    show (x ++ (⟨#[59]⟩ : ByteArray)) ++ joinS (r ++ ys) = ((x ++ (⟨#[59]⟩ : ByteArray)) ++ joinS r) ++ joinS ys
    rw [joinS_append r]; exact bax (by simp)
theorem linOk_no {x : ByteArray} (h : linOk x = true) : ∀ c ∈ x.data.toList, c ≠ 59 := by
  intro c hc e
  unfold linOk bys at h
  simp only [Bool.and_eq_true, List.all_map, List.all_eq_true] at h
  have := h.1 c hc
  subst e
  revert this; decide
theorem lineL_at : ∀ (x y : List UInt8) (w : ByteArray), (∀ c ∈ x, c ≠ 59) → lineL w (x ++ 59 :: y) = (w ++ ⟨x.toArray⟩) :: lineL ⟨#[]⟩ y
  | [], y, w, _ => by
    simp only [List.nil_append, lineL, if_true]; congr 1; exact bax (by simp)
  | c :: x, y, w, h => by
    rw [List.cons_append, lineL, if_neg (h c (by simp)), lineL_at x y _ (fun d hd => h d (by simp [hd]))]
    congr 1; exact bax (by simp)
theorem lines_cons (y t : ByteArray) (h : ∀ c ∈ y.data.toList, c ≠ 59) : linesB ((y ++ (⟨#[59]⟩ : ByteArray)) ++ t) = y :: linesB t ∧ restB ((y ++ (⟨#[59]⟩ : ByteArray)) ++ t) = restB t := by
  have e : ((y ++ (⟨#[59]⟩ : ByteArray)) ++ t).data.toList = y.data.toList ++ 59 :: t.data.toList := by simp
  unfold linesB restB
  rw [e, lineL_at _ _ _ h, restL_at]
  have e2 : (⟨#[]⟩ : ByteArray) ++ ⟨y.data.toList.toArray⟩ = y := bax (by simp)
  rw [e2]
  exact ⟨rfl, rfl⟩
theorem lines_join : ∀ (ys : List ByteArray), (∀ y ∈ ys, ∀ c ∈ y.data.toList, c ≠ 59) → linesB (joinS ys) = ys ∧ restB (joinS ys) = ⟨#[]⟩
  | [], _ => ⟨rfl, rfl⟩
  | y :: r, h => by
    obtain ⟨a, b⟩ := lines_cons y (joinS r) (h y (by simp))
    obtain ⟨a2, b2⟩ := lines_join r (fun z hz => h z (by simp [hz]))
    exact ⟨by show linesB ((y ++ (⟨#[59]⟩ : ByteArray)) ++ joinS r) = _; rw [a, a2], by show restB ((y ++ (⟨#[59]⟩ : ByteArray)) ++ joinS r) = _; rw [b, b2]⟩
theorem lineL_append : ∀ (x y : List UInt8) (w : ByteArray), lineL w (x ++ y) = lineL w x ++ lineL (restL w x) y ∧ restL w (x ++ y) = restL (restL w x) y
  | [], y, w => ⟨rfl, rfl⟩
  | c :: x, y, w => by
    simp only [List.cons_append, lineL, restL]
    by_cases h : c = 59
    · rw [if_pos h, if_pos h, if_pos h, if_pos h]
      obtain ⟨a, b⟩ := lineL_append x y ⟨#[]⟩
      exact ⟨by rw [a]; rfl, b⟩
    · rw [if_neg h, if_neg h, if_neg h, if_neg h]
      exact lineL_append x y _
theorem lines_append {a : ByteArray} (b : ByteArray) (h : restB a = ⟨#[]⟩) : linesB (a ++ b) = linesB a ++ linesB b ∧ restB (a ++ b) = restB b := by
  have e : (a ++ b).data.toList = a.data.toList ++ b.data.toList := by simp
  obtain ⟨x, y⟩ := lineL_append a.data.toList b.data.toList ⟨#[]⟩
  unfold restB at h
  rw [h] at x y
  unfold linesB restB
  rw [e]
  exact ⟨x, y⟩
theorem lines_take (s : ByteArray) (k : Nat) : ∃ t, linesB s = linesB (s.extract 0 k) ++ t := by
  have e : s.data.toList = (s.extract 0 k).data.toList ++ s.data.toList.drop k := by
    rw [Lib.extract_data]; simp
  have h := (lineL_append (s.extract 0 k).data.toList (s.data.toList.drop k) ⟨#[]⟩).1
  rw [← e] at h
  exact ⟨_, h⟩
end Go.Proofs.YtffmbccgcaghjaaGreatDoor.P
