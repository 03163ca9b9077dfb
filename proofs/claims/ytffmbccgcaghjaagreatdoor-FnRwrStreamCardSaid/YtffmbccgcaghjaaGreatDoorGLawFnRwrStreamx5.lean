import Derived.Test.YtffmbccgcaghjaaGreatDoorGLawFnRwrStreamx4
import Derived.Lib.SplitLaws
namespace Go.Proofs.YtffmbccgcaghjaaGreatDoor.P
open Go.Proofs.YtffmbccgcaghjaaGreatDoorUFnRwrStream.PrintLast Go.Proofs.YtffmbccgcaghjaaGreatDoorUFnRwrStream.PrintMore Go.Proofs.YtffmbccgcaghjaaGreatDoorUFnRwrStream.PrintWords Go.RowKit
set_option linter.unusedVariables false
set_option linter.unusedSimpArgs false
section
attribute [local go_sem] max2_int min2_int max_two min_two max_three min_three max_four min_four
def spec_RwrStream.j0 : Nat → ByteArray → Bool → List (S34) → Option ((List (S34)) × ByteArray)
 | 0, _, _, _ => none
 | k + 1, x1, x13, x780000 => if x13 = true then (some (([] : List (S34)), (⟨#[]⟩ : ByteArray))) else ((spec_l3Copy.f x780000).bind fun t783 => ((spec_l3Stream.f k t783 x1).bind fun bt786 => (some (bt786.1, bt786.2))))
def spec_RwrStream.f (k : Nat) (l0_0 : List (S34)) (a1 : ByteArray) : Option ((List (S34)) × ByteArray) := (spec_MapOk.f k l0_0).bind fun t781 => (if t781 = true then ((spec_StrOk.f k a1).bind fun t782 => (spec_RwrStream.j0 k a1 (!t782) l0_0)) else (spec_RwrStream.j0 k a1 true l0_0))
theorem spec_RwrStream.mono_l : ∀ k, (∀ y0 y1 y2, LeO (spec_RwrStream.j0 k y0 y1 y2) (spec_RwrStream.j0 (k + 1) y0 y1 y2))
 | 0 => fun _ _ _ r h => by simp [spec_RwrStream.j0] at h
 | k + 1 => by
  have ih0 := spec_RwrStream.mono_l k
  ·intro y0 y1 y2
   unfold spec_RwrStream.j0
   repeat' first | (with_reducible first | exact ih0 _ _ _ | exact spec_MapOk.mono _ _ | exact spec_StrOk.mono _ _ | exact spec_l3Stream.mono _ _ _ | exact LeO.refl _ | exact LeO.none _ | refine LeO.ite ?_ ?_ | refine LeO.bind ?_ (fun _ => ?_)) | exact ih0 _ _ _ | exact spec_MapOk.mono _ _ | exact spec_StrOk.mono _ _ | exact spec_l3Stream.mono _ _ _ | exact LeO.none _ | refine LeO.ite ?_ ?_ | refine LeO.bind ?_ (fun _ => ?_)
theorem spec_RwrStream.mono : ∀ a0 a1 k, LeO (spec_RwrStream.f k a0 a1) (spec_RwrStream.f (k + 1) a0 a1) := by
 intro a0 a1 k
 have ih0 := spec_RwrStream.mono_l k
 unfold spec_RwrStream.f
 repeat' first | (with_reducible first | exact ih0 _ _ _ | exact spec_MapOk.mono _ _ | exact spec_StrOk.mono _ _ | exact spec_l3Stream.mono _ _ _ | exact LeO.refl _ | exact LeO.none _ | refine LeO.ite ?_ ?_ | refine LeO.bind ?_ (fun _ => ?_)) | exact ih0 _ _ _ | exact spec_MapOk.mono _ _ | exact spec_StrOk.mono _ _ | exact spec_l3Stream.mono _ _ _ | exact LeO.none _ | refine LeO.ite ?_ ?_ | refine LeO.bind ?_ (fun _ => ?_)
set_option maxHeartbeats 8000000 in
set_option maxRecDepth 100000 in
theorem spec_RwrStream.calls (k : Nat) (A0_0 : Option Addr) (c0_0 : Nat) (l0_0 : List (S34)) (a1 : ByteArray) (r1 : List (S34)) (r2 : ByteArray) (w : World) (hr0_0 : Kd.C k34 w A0_0 l0_0.length l0_0) (hc0_0 : l0_0.length ≤ c0_0) (h : spec_RwrStream.f k l0_0 a1 = some (r1, r2)) :
  Calls Tryz.prog 37 #[.agg #[.slice A0_0 l0_0.length c0_0], .string a1] w fun e w' => ∃ v0_ : Value, e = .returned (.tuple #[.agg #[v0_], .string r2]) ∧ Kd.R k34 34 w' w.heap.size (fun _ => True) v0_ r1 ∧ Below w.heap.size w w' := by
 have hu25 := Tryz.underlying25
 have HR0_0 := am hr0_0
 have HC0_0 := am hc0_0
 clear hr0_0 hc0_0
 have HB := am (Below.refl w.heap.size w)
 have H : ((spec_MapOk.f k l0_0).bind fun t781 => (if t781 = true then ((spec_StrOk.f k a1).bind fun t782 => (spec_RwrStream.j0 k a1 (!t782) l0_0)) else (spec_RwrStream.j0 k a1 true l0_0))) = some (r1, r2) := h
 clear h
 have HC3 := am H
 clear H
 go_enter Tryz.func37, Tryz.ntmps37
 go_upto_region 1 with (first | ((with_reducible refine gate_dst (N := 2) rfl ?_); refine box_event rfl (N := 2) rfl (cs := #[.slice A0_0 l0_0.length c0_0]) (t := 25) hr_ ?_; intro gb779 hg w4 hbox hb; have BK779 := am hbox; have GW779 := gwE HB hg; have GE779 := gwE HB hg; replace HB := hbS HB hb; clear hb hbox hg) | ((with_reducible refine gate_dst (N := 4) rfl ?_); refine box_event rfl (N := 4) rfl (cs := #[.slice none 0 0]) (t := 25) hr_ ?_; intro gb780 hg w5 hbox hb; have BK780 := am hbox; have GW780 := gwE HB hg; have GE780 := gwE HB hg; replace HB := hbS HB hb; have NB779_780 := neL BK779 hg; have NB780_779 := neG BK779 hg; replace BK779 := bkB BK779 hb; clear hb hbox hg))
 (try simp only [Act.put, List.setIfInBounds_toArray, List.set_cons_zero, List.set_cons_succ])
 go_cut [13] (fun v13 wc => ∃ (kq : Nat) (x13_2 : Bool), v13 = .bool x13_2 ∧ Aside0 (spec_RwrStream.j0 kq a1 x13_2 l0_0 = some (r1, r2)) ∧ Aside0 (kq ≤ k) ∧ Aside0 (wc.heap[gb779]? = some (.cells #[(.slice A0_0 l0_0.length c0_0)] 25 (0, 0))) ∧ Aside0 (wc.heap[gb780]? = some (.cells #[(.slice none 0 0)] 25 (0, 0))) ∧ Aside0 (Below w.heap.size w wc))
 case first =>
  have H := HC3.out
  clear HC3
  obtain ⟨t781, A6, H⟩ := bse H
  try dsimp only at H
  by_cases c7 : t781 = true
  ·subst c7
   have H1 : ((spec_StrOk.f k a1).bind fun t782 => (spec_RwrStream.j0 k a1 (!t782) l0_0)) = some (r1, r2) := by rw [if_pos rfl] at H; exact H
   clear H
   have H := H1
   clear H1
   obtain ⟨t782, A8, H⟩ := bse H
   try dsimp only at H
   have H' := am H
   clear H
   have := NB779_780.out
   have := NB780_779.out
   have hcz10_0 := bcell BK779 0
   have hfz10_0 := blk_frozen BK779.out 0
   go_wp2_with (first | ((with_reducible refine gate_callee (f := 16) rfl ?_); refine gL (some 7) Tryz.func16 #[.agg #[.slice A0_0 l0_0.length c0_0]] ?_; (with_reducible refine (spec_MapOk.calls k _ _ l0_0 true _ ?side1 ?side2 A6.out).mono ?_); (case side1 => exact m4_); (case side2 => exact HC0_0.out); rintro e w11 ⟨rfl, hb⟩; refine ⟨_, rfl, ?_⟩; replace BK779 := bkB BK779 hb; replace BK780 := bkB BK780 hb; replace HB := hbS HB hb; (try clear hb)) | (go_at_call 33; (with_reducible refine (spec_StrOk.calls k a1 t782 _ A8.out).mono ?_); rintro e w12 ⟨rfl, hb⟩; replace BK779 := bkB BK779 hb; replace BK780 := bkB BK780 hb; replace HB := hbS HB hb; (try clear hb)))
   go_meet
   case rel => exact ⟨_, (!t782), rs_, H', ⟨by first | omega | exact Nat.le_refl _⟩, ⟨bk BK779⟩, ⟨bk BK780⟩, ⟨m2_⟩⟩
  ·replace c7 := Bool.eq_false_iff.mpr c7
   subst c7
   have H1 : (spec_RwrStream.j0 k a1 true l0_0) = some (r1, r2) := by rw [if_neg (show ¬ (false = true) by decide)] at H; exact H
   clear H
   have H := H1
   clear H1
   have H' := am H
   clear H
   have := NB779_780.out
   have := NB780_779.out
   have hcz14_0 := bcell BK779 0
   have hfz14_0 := blk_frozen BK779.out 0
   go_wp2_with (first | ((with_reducible refine gate_callee (f := 16) rfl ?_); refine gL (some 7) Tryz.func16 #[.agg #[.slice A0_0 l0_0.length c0_0]] ?_; (with_reducible refine (spec_MapOk.calls k _ _ l0_0 false _ ?side1 ?side2 A6.out).mono ?_); (case side1 => exact m4_); (case side2 => exact HC0_0.out); rintro e w15 ⟨rfl, hb⟩; refine ⟨_, rfl, ?_⟩; replace BK779 := bkB BK779 hb; replace BK780 := bkB BK780 hb; replace HB := hbS HB hb; (try clear hb)))
   go_meet
   case rel => exact ⟨_, (true), rs_, H', ⟨by first | omega | exact Nat.le_refl _⟩, ⟨bk BK779⟩, ⟨bk BK780⟩, ⟨m2_⟩⟩
 case rest =>
  clear HC3
  try clear c1
  try clear p2
  try clear c3
  try clear c7
  try clear c9
  try clear c13
  try clear hcz10_0
  try clear hcz14_0
  try clear hfz10_0
  try clear hfz14_0
  obtain ⟨kq, x13_2, rfl, HA, HJ2, BK779, BK780, HB⟩ := hcut
  cases kq with
  | zero => exact absurd HA.out (by simp [spec_RwrStream.j0])
  | succ kj2 =>
   have H := HA.out
   clear HA
   simp only [spec_RwrStream.j0] at H
   by_cases c16 : x13_2 = true
   ·subst c16
    have H1 : (some (([] : List (S34)), (⟨#[]⟩ : ByteArray))) = some (r1, r2) := by rw [if_pos rfl] at H; exact H
    clear H
    have H := H1
    clear H1
    simp only [Option.some.injEq, Prod.mk.injEq] at H
    obtain ⟨rfl, rfl⟩ := H
    have := NB780_779.out
    have := NB779_780.out
    have := bcell BK780 0
    have := bfz BK780 0
    go_wp2
    refine bodyPost_ret (results_ct rfl _ _ gb780 25 #[.slice none 0 0] (0, 0) _ rfl (by (with_reducible repeat refine bu ?_); refine blk_put (cs := #[.slice none 0 0]) ?_ 0 _ rfl; (with_reducible repeat refine bu ?_); exact BK780.out) Tryz.underlying25 rfl (by kernel_rfl)) rfl ?_
    exact ⟨_, fi_, by first | exact Kd.R_nil _ _ _ _ _ | exact Kd.N_nil _ _ _ _ _ | exact Kd.V_nil _ _ _ _ _ | exact Kd.Q_nil _ _ _ _ _ | exact Kd.S_nil _ _ _ _ _, m2_⟩
   ·replace c16 := Bool.eq_false_iff.mpr c16
    subst c16
    have H1 : ((spec_l3Copy.f l0_0).bind fun t783 => ((spec_l3Stream.f kj2 t783 a1).bind fun bt786 => (some (bt786.1, bt786.2)))) = some (r1, r2) := by rw [if_neg (show ¬ (false = true) by decide)] at H; exact H
    clear H
    have H := H1
    clear H1
    obtain ⟨t783, A19, H⟩ := bse H
    try dsimp only at H
    obtain ⟨⟨t786, t789⟩, A20, H⟩ := bse H
    try dsimp only at H
    simp only [Option.some.injEq, Prod.mk.injEq] at H
    obtain ⟨rfl, rfl⟩ := H
    have := NB779_780.out
    have := NB780_779.out
    have := bcell BK779 0
    have := bfz BK779 0
    go_wp2_with (first | ((with_reducible refine gate_callee (f := 47) rfl ?_); refine gL (some 16) Tryz.func47 #[.agg #[.slice A0_0 l0_0.length c0_0]] ?_; (with_reducible refine (spec_l3Copy.calls _ _ l0_0 t783 _ ?side1 ?side2 A19.out).mono ?_); (case side1 => exact m4_); (case side2 => exact HC0_0.out); rintro e w23 ⟨v784, rfl, ho0, hb⟩; refine ⟨_, rfl, ?_⟩; have HO785 := am (Kd.R_lower ho0 (below_size (bl HB))); replace BK779 := bkB BK779 hb; replace BK780 := bkB BK780 hb; replace HB := hbS HB hb; (try clear hb); (try clear ho0); obtain ⟨Ao24, co24, eo24⟩ := Kd.R_slice HO785.out; subst eo24) | ((with_reducible refine gate_callee (f := 73) rfl ?_); refine gL (some 18) Tryz.func73 #[.agg #[.slice Ao24 t783.length co24], .string a1] ?_; (with_reducible refine (spec_l3Stream.calls kj2 (fun k_ => some k_ = (.slice Ao24 t783.length co24 : Value).ownBlock) (.slice Ao24 t783.length co24) t783 a1 t786 t789 w _ ?side1 ?side2 A20.out).mono ?_); (case side1 => exact m2_); (case side2 => exact Kd.R_tight rfl HO785.out); rintro e w25 ⟨v787, rfl, ho0, hb, hkp⟩; refine ⟨_, rfl, ?_⟩; replace BK779 := am (blk_kept (bk BK779) hkp (fun hs_ => (fun e_ => (Kd.R_ne HO785.out BK779.out (by decide)) e_) hs_)); replace BK780 := am (blk_kept (bk BK780) hkp (fun hs_ => (fun e_ => (Kd.R_ne HO785.out BK780.out (by decide)) e_) hs_)); have HO788 := am (Kd.R_mono (ok' := fun k_ => True) ho0 (fun k_ hk_ => trivial)); replace HB := am hb; clear HO785; (try clear hb); (try clear hkp); (try clear ho0); obtain ⟨Ao26, co26, eo26⟩ := Kd.R_slice HO788.out; subst eo26; have := bcell BK780 0; have := bfz BK780 0))
    refine bodyPost_ret (results_ct rfl _ _ gb780 25 #[.slice Ao26 t786.length co26] (0, 0) _ rfl (by (with_reducible repeat refine bu ?_); refine blk_put (cs := #[.slice none 0 0]) ?_ 0 _ rfl; (with_reducible repeat refine bu ?_); exact BK780.out) Tryz.underlying25 rfl (by kernel_rfl)) rfl ?_
    exact ⟨_, fi_, by (with_reducible repeat apply ru); exact Kd.R_mono (Kd.R_far (p := ⟨gb780, 0, none⟩) (Kd.R_types HO788.out BK780.out (by decide)) (fun _ hk => hk.2) (.slice Ao26 t786.length co26)) (fun _ hk => trivial), m2_⟩
mutual
def laws_FnRwrStream.j0 : Nat → ByteArray → ByteArray → Bool → List (S34) → List (S34) → Option (Bool)
 | 0, _, _, _, _, _ => none
 | k + 1, x4, x6, x46, x945000, x950000 => if x46 = true then (some false) else ((spec_MapOk.f k x945000).bind fun t956 => (if t956 = true then ((spec_StrOk.f k x4).bind fun t957 => (laws_FnRwrStream.j1 k x4 x6 (!t957) x945000 x950000)) else (laws_FnRwrStream.j1 k x4 x6 true x945000 x950000)))
def laws_FnRwrStream.j1 : Nat → ByteArray → ByteArray → Bool → List (S34) → List (S34) → Option (Bool)
 | 0, _, _, _, _, _ => none
 | k + 1, x4, x6, x54, x945000, x950000 => if x54 = true then (if x6.toList = ([] : List UInt8) then (if (x950000.length : Int) = 0 then ((laws_haOk.f).bind fun t958 => (some t958)) else (some false)) else (some false)) else ((impl_StrLines.f x4).bind fun bt959 => (laws_FnRwrStream.l0 k x6 bt959.1 (⟨#[]⟩ : ByteArray) 0 x950000 x945000))
def laws_FnRwrStream.l0 : Nat → ByteArray → List ByteArray → ByteArray → Int → List (S34) → List (S34) → Option (Bool)
 | 0, _, _, _, _, _, _ => none
 | k + 1, x6, x9, x12, x13, x950000, x964000 => if x13 < (x9.length : Int) then (if 0 ≤ x13 then ((impl_RwrLine.f k x964000 (rdOf ByteArray.empty x9 x13)).bind fun bt965 => (if x12.size + bt965.2.size ≤ 9223372036854775807 then (if (x12 ++ bt965.2).size + 1 ≤ 9223372036854775807 then (laws_FnRwrStream.l0 k x6 x9 ((x12 ++ bt965.2) ++ (⟨#[59]⟩ : ByteArray)) (wrap64 (x13 + 1)) x950000 bt965.1) else (none)) else (none))) else (none)) else (if x12.toList = x6.toList then ((laws_haEnds.f k x964000 x950000).bind fun t970 => (some t970)) else (some false))
end
def laws_FnRwrStream.f (k : Nat) (l0 : List Int) : Option (Bool) := if (l0.length : Int) > 1048576 then (some true) else ((spec_DrawRwrStream.f k l0).bind fun bt940 => ((impl_RwrStream.f k bt940.1 bt940.2).bind fun bt945 => ((spec_RwrStream.f k bt940.1 bt940.2).bind fun bt950 => ((laws_haEnds.f k bt945.1 bt950.1).bind fun t955 => (if t955 = true then (laws_FnRwrStream.j0 k bt940.2 bt945.2 (bt945.2.toList != bt950.2.toList) bt940.1 bt945.1) else (laws_FnRwrStream.j0 k bt940.2 bt945.2 true bt940.1 bt945.1))))))
theorem laws_FnRwrStream.mono_l : ∀ k, (∀ y0 y1 y2 y3 y4, LeO (laws_FnRwrStream.j0 k y0 y1 y2 y3 y4) (laws_FnRwrStream.j0 (k + 1) y0 y1 y2 y3 y4)) ∧ (∀ y0 y1 y2 y3 y4, LeO (laws_FnRwrStream.j1 k y0 y1 y2 y3 y4) (laws_FnRwrStream.j1 (k + 1) y0 y1 y2 y3 y4)) ∧ (∀ y0 y1 y2 y3 y4 y5, LeO (laws_FnRwrStream.l0 k y0 y1 y2 y3 y4 y5) (laws_FnRwrStream.l0 (k + 1) y0 y1 y2 y3 y4 y5))
 | 0 => ⟨fun _ _ _ _ _ r h => by simp [laws_FnRwrStream.j0] at h, fun _ _ _ _ _ r h => by simp [laws_FnRwrStream.j1] at h, fun _ _ _ _ _ _ r h => by simp [laws_FnRwrStream.l0] at h⟩
 | k + 1 => by
  obtain ⟨ih0, ih1, ih2⟩ := laws_FnRwrStream.mono_l k
  refine ⟨?_, ?_, ?_⟩
  ·intro y0 y1 y2 y3 y4
   unfold laws_FnRwrStream.j0
   repeat' first | (with_reducible first | exact ih0 _ _ _ _ _ | exact ih1 _ _ _ _ _ | exact ih2 _ _ _ _ _ _ | exact impl_RwrLine.mono _ _ _ | exact impl_RwrStream.mono _ _ _ | exact laws_haEnds.mono _ _ _ | exact spec_DrawRwrStream.mono _ _ | exact spec_MapOk.mono _ _ | exact spec_RwrStream.mono _ _ _ | exact spec_StrOk.mono _ _ | exact LeO.refl _ | exact LeO.none _ | refine LeO.ite ?_ ?_ | refine LeO.bind ?_ (fun _ => ?_)) | exact ih0 _ _ _ _ _ | exact ih1 _ _ _ _ _ | exact ih2 _ _ _ _ _ _ | exact impl_RwrLine.mono _ _ _ | exact impl_RwrStream.mono _ _ _ | exact laws_haEnds.mono _ _ _ | exact spec_DrawRwrStream.mono _ _ | exact spec_MapOk.mono _ _ | exact spec_RwrStream.mono _ _ _ | exact spec_StrOk.mono _ _ | exact LeO.none _ | refine LeO.ite ?_ ?_ | refine LeO.bind ?_ (fun _ => ?_)
  ·intro y0 y1 y2 y3 y4
   unfold laws_FnRwrStream.j1
   repeat' first | (with_reducible first | exact ih0 _ _ _ _ _ | exact ih1 _ _ _ _ _ | exact ih2 _ _ _ _ _ _ | exact impl_RwrLine.mono _ _ _ | exact impl_RwrStream.mono _ _ _ | exact laws_haEnds.mono _ _ _ | exact spec_DrawRwrStream.mono _ _ | exact spec_MapOk.mono _ _ | exact spec_RwrStream.mono _ _ _ | exact spec_StrOk.mono _ _ | exact LeO.refl _ | exact LeO.none _ | refine LeO.ite ?_ ?_ | refine LeO.bind ?_ (fun _ => ?_)) | exact ih0 _ _ _ _ _ | exact ih1 _ _ _ _ _ | exact ih2 _ _ _ _ _ _ | exact impl_RwrLine.mono _ _ _ | exact impl_RwrStream.mono _ _ _ | exact laws_haEnds.mono _ _ _ | exact spec_DrawRwrStream.mono _ _ | exact spec_MapOk.mono _ _ | exact spec_RwrStream.mono _ _ _ | exact spec_StrOk.mono _ _ | exact LeO.none _ | refine LeO.ite ?_ ?_ | refine LeO.bind ?_ (fun _ => ?_)
  ·intro y0 y1 y2 y3 y4 y5
   unfold laws_FnRwrStream.l0
   repeat' first | (with_reducible first | exact ih0 _ _ _ _ _ | exact ih1 _ _ _ _ _ | exact ih2 _ _ _ _ _ _ | exact impl_RwrLine.mono _ _ _ | exact impl_RwrStream.mono _ _ _ | exact laws_haEnds.mono _ _ _ | exact spec_DrawRwrStream.mono _ _ | exact spec_MapOk.mono _ _ | exact spec_RwrStream.mono _ _ _ | exact spec_StrOk.mono _ _ | exact LeO.refl _ | exact LeO.none _ | refine LeO.ite ?_ ?_ | refine LeO.bind ?_ (fun _ => ?_)) | exact ih0 _ _ _ _ _ | exact ih1 _ _ _ _ _ | exact ih2 _ _ _ _ _ _ | exact impl_RwrLine.mono _ _ _ | exact impl_RwrStream.mono _ _ _ | exact laws_haEnds.mono _ _ _ | exact spec_DrawRwrStream.mono _ _ | exact spec_MapOk.mono _ _ | exact spec_RwrStream.mono _ _ _ | exact spec_StrOk.mono _ _ | exact LeO.none _ | refine LeO.ite ?_ ?_ | refine LeO.bind ?_ (fun _ => ?_)
theorem laws_FnRwrStream.mono : ∀ a0 k, LeO (laws_FnRwrStream.f k a0) (laws_FnRwrStream.f (k + 1) a0) := by
 intro a0 k
 obtain ⟨ih0, ih1, ih2⟩ := laws_FnRwrStream.mono_l k
 unfold laws_FnRwrStream.f
 repeat' first | (with_reducible first | exact ih0 _ _ _ _ _ | exact ih1 _ _ _ _ _ | exact ih2 _ _ _ _ _ _ | exact impl_RwrLine.mono _ _ _ | exact impl_RwrStream.mono _ _ _ | exact laws_haEnds.mono _ _ _ | exact spec_DrawRwrStream.mono _ _ | exact spec_MapOk.mono _ _ | exact spec_RwrStream.mono _ _ _ | exact spec_StrOk.mono _ _ | exact LeO.refl _ | exact LeO.none _ | refine LeO.ite ?_ ?_ | refine LeO.bind ?_ (fun _ => ?_)) | exact ih0 _ _ _ _ _ | exact ih1 _ _ _ _ _ | exact ih2 _ _ _ _ _ _ | exact impl_RwrLine.mono _ _ _ | exact impl_RwrStream.mono _ _ _ | exact laws_haEnds.mono _ _ _ | exact spec_DrawRwrStream.mono _ _ | exact spec_MapOk.mono _ _ | exact spec_RwrStream.mono _ _ _ | exact spec_StrOk.mono _ _ | exact LeO.none _ | refine LeO.ite ?_ ?_ | refine LeO.bind ?_ (fun _ => ?_)
def laws_FnRwrStream.T16 : Bool × List (List Nat × List Nat) := (true, [([], []), ([], []), ([], []), ([1, 2], [1, 2]), ([3], [3]), ([0, 4], [0, 4]), ([5], [5]), ([6], [6]), ([6], [6]), ([], []), ([9, 7, 5, 0, 1, 2, 3, 4, 5, 6, 7, 9], [7, 9]), ([8, 10, 0, 1, 2, 3, 4, 5, 6, 7, 8, 9, 10], [8])])
def laws_FnRwrStream.B16 : List Nat := [0, 0, 0, 6, 14, 31, 63, 127, 127, 0, 767, 2047]
theorem laws_FnRwrStream.tab16 : rtab .any (opsOf Tryz.f11 16) = laws_FnRwrStream.T16 := by kernel_rfl
theorem laws_FnRwrStream.bits16 : waitsOk laws_FnRwrStream.T16.2 laws_FnRwrStream.B16 = true := by kernel_rfl
set_option maxHeartbeats 8000000 in
set_option maxRecDepth 100000 in
theorem laws_FnRwrStream.calls (k : Nat) (A0 : Option Addr) (c0 : Nat) (l0 : List Int) (r : Bool) (w : World) (hr0 : Kd.C (Kd.int .u8) w A0 l0.length l0) (hc0 : l0.length ≤ c0) (h : laws_FnRwrStream.f k l0 = some r) (hrt : Aside0 (r = true)) (hE : EnvE w) :
  Calls Tryz.prog 11 #[.slice A0 l0.length c0] w fun e w' => e = .returned (.bool r) ∧ Below w.heap.size w w' := by
 have hu25 := Tryz.underlying25
 have HR0 := am hr0
 have HC0 := am hc0
 clear hr0 hc0
 have HB := am (Below.refl w.heap.size w)
 have H : (if (l0.length : Int) > 1048576 then (some true) else ((spec_DrawRwrStream.f k l0).bind fun bt940 => ((impl_RwrStream.f k bt940.1 bt940.2).bind fun bt945 => ((spec_RwrStream.f k bt940.1 bt940.2).bind fun bt950 => ((laws_haEnds.f k bt945.1 bt950.1).bind fun t955 => (if t955 = true then (laws_FnRwrStream.j0 k bt940.2 bt945.2 (bt945.2.toList != bt950.2.toList) bt940.1 bt945.1) else (laws_FnRwrStream.j0 k bt940.2 bt945.2 true bt940.1 bt945.1))))))) = some r := h
 clear h
 by_cases c2 : (l0.length : Int) > 1048576
 ·rw [if_pos c2] at H
  have c2b0 : decide (1048576 < (l0.length : Int)) = true := decide_eq_true c2
  have c2b1 : decide (1048576 < l0.length) = true := decide_eq_true (by omega)
  clear c2
  obtain rfl := Option.some.inj H
  go_enter Tryz.func11, Tryz.ntmps11
  go_wp2
  go_ret
  exact ⟨fi_, m0_⟩
 ·rw [if_neg c2] at H
  have c2b0 : decide (1048576 < (l0.length : Int)) = false := decide_eq_false c2
  have c2b1 : decide (1048576 < l0.length) = false := decide_eq_false (by omega)
  clear c2
  obtain ⟨⟨t940, t943⟩, A3, H⟩ := bse H
  try dsimp only at H
  obtain ⟨⟨t945, t948⟩, A4, H⟩ := bse H
  try dsimp only at H
  obtain ⟨⟨t950, t953⟩, A5, H⟩ := bse H
  try dsimp only at H
  have HC6 := am H
  clear H
  go_enter Tryz.func11, Tryz.ntmps11
  go_upto_region 6 with (first | ((with_reducible refine gate_callee (f := 32) rfl ?_); refine gL (some 21) Tryz.func32 #[.slice A0 l0.length c0] ?_; (with_reducible refine (spec_DrawRwrStream.calls k _ _ l0 t940 t943 _ ?side1 ?side2 A3.out).mono ?_); (case side1 => exact m5_); (case side2 => exact HC0.out); rintro e w7 ⟨v941, rfl, ho0, hb⟩; refine ⟨_, rfl, ?_⟩; have HO942 := am (Kd.R_lower ho0 (below_size (bl HB))); replace HB := hbS HB hb; (try clear hb); (try clear ho0)) | ((with_reducible refine gate_dst (N := 3) rfl ?_); refine box_event rfl (N := 3) rfl (cs := #[.slice none 0 0]) (t := 25) hr_ ?_; intro gb944 hg w8 hbox hb; replace HO942 := am (Kd.R_below (rs HO942) hb); have BK944 := am hbox; have GW944 := gwE HB hg; have GE944 := gwE HB hg; replace HB := hbS HB hb; clear hb hbox hg; obtain ⟨Ao9, co9, eo9⟩ := Kd.R_slice HO942.out; subst eo9; have hcz10_0 := bcell BK944 0; have hfz10_0 := blk_frozen BK944.out 0) | ((with_reducible refine gate_callee (f := 34) rfl ?_); refine gL (some 27) Tryz.func34 #[.agg #[.slice Ao9 t940.length co9], .string t943] ?_; (with_reducible refine (impl_RwrStream.calls k _ _ t940 t943 t945 t948 _ ?side1 ?side2 A4.out (EnvE.below hE (bl HB))).mono ?_); (case side1 => refine (Kd.R_reads' (e := 34) (base := w.heap.size) (ok := fun k_ => True) (n := t940.length) (c := co9) ?_).2.2; exact (by (with_reducible repeat apply ru); exact (Kd.R_mono (Kd.R_far (p := ⟨gb944, 0, none⟩) (Kd.R_types HO942.out BK944.out (by decide)) (fun _ hk => hk.2) (.slice Ao9 t940.length co9)) (fun _ h_ => h_.1)))); (case side2 => exact (Kd.R_reads' HO942.out).2.1); rintro e w11 ⟨v946, rfl, ho0, hb⟩; refine ⟨_, rfl, ?_⟩; have HO947 := am (Kd.R_lower (Kd.R_new' ho0 (Kd.R_lt (by (with_reducible repeat apply ru); exact (Kd.R_mono (Kd.R_far (p := ⟨gb944, 0, none⟩) (Kd.R_types HO942.out BK944.out (by decide)) (fun _ hk => hk.2) (.slice Ao9 t940.length co9)) (fun _ h_ => h_.1))))) (below_size (bl HB))); replace HO942 := am (Kd.R_elder' (by (with_reducible repeat apply ru); exact (Kd.R_mono (Kd.R_far (p := ⟨gb944, 0, none⟩) (Kd.R_types HO942.out BK944.out (by decide)) (fun _ hk => hk.2) (.slice Ao9 t940.length co9)) (fun _ h_ => h_.1))) (Kd.R_base ho0) hb); replace BK944 := am (blk_below (g := gb944) (o := .cells #[.slice Ao9 t940.length co9] 25 (0, 0)) (by (with_reducible repeat refine bu ?_); refine blk_put (cs := #[.slice none 0 0]) ?_ 0 _ rfl; (with_reducible repeat refine bu ?_); exact BK944.out) hb); replace HB := hbS HB hb; (try clear hb); (try clear hk); (try clear ho0)) | ((with_reducible refine gate_dst (N := 5) rfl ?_); refine box_event rfl (N := 5) rfl (cs := #[.slice none 0 0]) (t := 25) hr_ ?_; intro gb949 hg w12 hbox hb; replace HO942 := am (Kd.R_below (rs HO942) hb); replace HO947 := am (Kd.R_below (rs HO947) hb); have BK949 := am hbox; have GW949 := gwE HB hg; have GE949 := gwE HB hg; replace HB := hbS HB hb; have NB944_949 := neL BK944 hg; have NB949_944 := neG BK944 hg; replace BK944 := bkB BK944 hb; clear hb hbox hg; obtain ⟨Ao13, co13, eo13⟩ := Kd.R_slice HO947.out; subst eo13; have := NB949_944.out; have := NB944_949.out; have hcz15_0 := bcell BK949 0; have hfz15_0 := blk_frozen BK949.out 0; have hcz16_0 := bcell BK944 0; have hfz16_0 := blk_frozen BK944.out 0) | ((with_reducible refine gate_callee (f := 37) rfl ?_); refine gL (some 33) Tryz.func37 #[.agg #[.slice Ao9 t940.length co9], .string t943] ?_; (with_reducible refine (spec_RwrStream.calls k _ _ t940 t943 t950 t953 _ ?side1 ?side2 A5.out).mono ?_); (case side1 => refine (Kd.R_reads' (e := 34) (base := w.heap.size) (ok := fun k_ => (True ∧ some k_ ≠ (.slice Ao13 t945.length co13 : Value).ownBlock)) (n := t940.length) (c := co9) ?_).2.2; exact (by (with_reducible repeat apply ru); exact (Kd.R_mono (Kd.R_far (p := ⟨gb949, 0, none⟩) (Kd.R_types HO942.out BK949.out (by decide)) (fun _ hk => hk.2) (.slice Ao13 t945.length co13)) (fun _ h_ => h_.1)))); (case side2 => exact (Kd.R_reads' HO942.out).2.1); rintro e w17 ⟨v951, rfl, ho0, hb⟩; refine ⟨_, rfl, ?_⟩; have HO952 := am (Kd.R_lower (Kd.R_new' (Kd.R_new' ho0 (Kd.R_lt (by (with_reducible repeat apply ru); exact (Kd.R_mono (Kd.R_far (p := ⟨gb949, 0, none⟩) (Kd.R_types HO942.out BK949.out (by decide)) (fun _ hk => hk.2) (.slice Ao13 t945.length co13)) (fun _ h_ => h_.1))))) (Kd.R_lt (by (with_reducible repeat apply ru); exact (Kd.R_mono (Kd.R_far (p := ⟨gb949, 0, none⟩) (Kd.R_types HO947.out BK949.out (by decide)) (fun _ hk => hk.2) (.slice Ao13 t945.length co13)) (fun _ h_ => h_.1))))) (below_size (bl HB))); replace HO942 := am (Kd.R_elder' (by (with_reducible repeat apply ru); exact (Kd.R_mono (Kd.R_far (p := ⟨gb949, 0, none⟩) (Kd.R_types HO942.out BK949.out (by decide)) (fun _ hk => hk.2) (.slice Ao13 t945.length co13)) (fun _ h_ => h_.1))) (Kd.R_base ho0) hb); replace HO947 := am (Kd.R_elder' (by (with_reducible repeat apply ru); exact (Kd.R_mono (Kd.R_far (p := ⟨gb949, 0, none⟩) (Kd.R_types HO947.out BK949.out (by decide)) (fun _ hk => hk.2) (.slice Ao13 t945.length co13)) (fun _ h_ => h_.1))) (Kd.R_base ho0) hb); replace BK944 := am (blk_below (g := gb944) (o := .cells #[.slice Ao9 t940.length co9] 25 (0, 0)) (by (with_reducible repeat refine bu ?_); refine blk_far ?_ NB944_949.out _; (with_reducible repeat refine bu ?_); exact BK944.out) hb); replace BK949 := am (blk_below (g := gb949) (o := .cells #[.slice Ao13 t945.length co13] 25 (0, 0)) (by (with_reducible repeat refine bu ?_); refine blk_put (cs := #[.slice none 0 0]) ?_ 0 _ rfl; (with_reducible repeat refine bu ?_); exact BK949.out) hb); replace HB := hbS HB hb; (try clear hb); (try clear hk); (try clear ho0)) | ((with_reducible refine gate_dst (N := 7) rfl ?_); refine box_event rfl (N := 7) rfl (cs := #[.slice none 0 0]) (t := 25) hr_ ?_; intro gb954 hg w18 hbox hb; replace HO942 := am (Kd.R_below (rs HO942) hb); replace HO947 := am (Kd.R_below (rs HO947) hb); replace HO952 := am (Kd.R_below (rs HO952) hb); have BK954 := am hbox; have GW954 := gwE HB hg; have GE954 := gwE HB hg; replace HB := hbS HB hb; have NB944_954 := neL BK944 hg; have NB954_944 := neG BK944 hg; replace BK944 := bkB BK944 hb; have NB949_954 := neL BK949 hg; have NB954_949 := neG BK949 hg; replace BK949 := bkB BK949 hb; clear hb hbox hg; obtain ⟨Ao19, co19, eo19⟩ := Kd.R_slice HO952.out; subst eo19; have := NB954_944.out; have := NB944_954.out; have := NB954_949.out; have := NB949_954.out; have hcz22_0 := bcell BK954 0; have hfz22_0 := blk_frozen BK954.out 0))
  (try simp only [Act.put, List.setIfInBounds_toArray, List.set_cons_zero, List.set_cons_succ])
  go_cut [46] (fun v46 wc => ∃ (kq : Nat) (x46_5 : Bool), v46 = .bool x46_5 ∧ Aside0 (laws_FnRwrStream.j0 kq t943 t948 x46_5 t940 t945 = some r) ∧ Aside0 (kq ≤ k) ∧ Aside0 (Kd.R k34 34 wc w.heap.size (fun k_ => some k_ ≠ ((.slice Ao13 t945.length co13) : Value).ownBlock ∧ some k_ ≠ ((.slice Ao19 t950.length co19) : Value).ownBlock) (.slice Ao9 t940.length co9) t940) ∧ Aside0 (Kd.R k34 34 wc w.heap.size (fun k_ => some k_ ≠ ((.slice Ao9 t940.length co9) : Value).ownBlock ∧ some k_ ≠ ((.slice Ao19 t950.length co19) : Value).ownBlock) (.slice Ao13 t945.length co13) t945) ∧ Aside0 (Kd.R k34 34 wc w.heap.size (fun k_ => some k_ ≠ ((.slice Ao9 t940.length co9) : Value).ownBlock ∧ some k_ ≠ ((.slice Ao13 t945.length co13) : Value).ownBlock) (.slice Ao19 t950.length co19) t950) ∧ Aside0 (wc.heap[gb944]? = some (.cells #[(.slice Ao9 t940.length co9)] 25 (0, 0))) ∧ Aside0 (wc.heap[gb949]? = some (.cells #[(.slice Ao13 t945.length co13)] 25 (0, 0))) ∧ Aside0 (wc.heap[gb954]? = some (.cells #[(.slice Ao19 t950.length co19)] 25 (0, 0))) ∧ Aside0 (Below w.heap.size w wc))
  case first =>
   have H := HC6.out
   clear HC6
   obtain ⟨t955, A23, H⟩ := bse H
   try dsimp only at H
   by_cases c24 : t955 = true
   ·subst c24
    have H1 : (laws_FnRwrStream.j0 k t943 t948 (t948.toList != t953.toList) t940 t945) = some r := by rw [if_pos rfl] at H; exact H
    clear H
    have H := H1
    clear H1
    have H' := am H
    clear H
    have := NB949_944.out
    have := NB944_949.out
    have := NB949_954.out
    have := NB954_949.out
    have hcz27_0 := bcell BK949 0
    have hfz27_0 := blk_frozen BK949.out 0
    have := NB954_944.out
    have := NB944_954.out
    have hcz29_0 := bcell BK954 0
    have hfz29_0 := blk_frozen BK954.out 0
    go_wp2_with (first | ((with_reducible refine gate_callee (f := 15) rfl ?_); refine gL (some 40) Tryz.func15 #[.slice Ao13 t945.length co13, .slice Ao19 t950.length co19] ?_; (with_reducible refine (laws_haEnds.calls k _ _ t945 _ _ t950 true _ ?side1 ?side2 ?side3 ?side4 A23.out).mono ?_); (case side1 => refine (Kd.R_reads' (e := 34) (base := w.heap.size) (ok := fun k_ => ((True ∧ some k_ ≠ (.slice Ao9 t940.length co9 : Value).ownBlock) ∧ some k_ ≠ (.slice Ao19 t950.length co19 : Value).ownBlock)) (n := t945.length) (c := co13) ?_).2.2; exact (by (with_reducible repeat apply ru); exact (Kd.R_mono (Kd.R_far (p := ⟨gb954, 0, none⟩) (Kd.R_types HO947.out BK954.out (by decide)) (fun _ hk => hk.2) (.slice Ao19 t950.length co19)) (fun _ h_ => h_.1)))); (case side2 => exact (Kd.R_reads' HO947.out).2.1); (case side3 => refine (Kd.R_reads' (e := 34) (base := w.heap.size) (ok := fun k_ => ((True ∧ some k_ ≠ (.slice Ao9 t940.length co9 : Value).ownBlock) ∧ some k_ ≠ (.slice Ao13 t945.length co13 : Value).ownBlock)) (n := t950.length) (c := co19) ?_).2.2; exact (by (with_reducible repeat apply ru); exact (Kd.R_mono (Kd.R_far (p := ⟨gb954, 0, none⟩) (Kd.R_types HO952.out BK954.out (by decide)) (fun _ hk => hk.2) (.slice Ao19 t950.length co19)) (fun _ h_ => h_.1)))); (case side4 => exact (Kd.R_reads' HO952.out).2.1); rintro e w' ⟨rfl, ⟨nd, rfl⟩⟩; refine ⟨_, rfl, ?_⟩))
    go_meet
    case rel => exact ⟨_, ((t948.toList != t953.toList)), rs_, H', ⟨by first | omega | exact Nat.le_refl _⟩, ⟨by (with_reducible repeat apply ru); exact Kd.R_mono (Kd.R_far (p := ⟨gb954, 0, none⟩) (Kd.R_types HO942.out BK954.out (by decide)) (fun _ hk => hk.2) (.slice Ao19 t950.length co19)) ok_⟩, ⟨by (with_reducible repeat apply ru); exact Kd.R_mono (Kd.R_far (p := ⟨gb954, 0, none⟩) (Kd.R_types HO947.out BK954.out (by decide)) (fun _ hk => hk.2) (.slice Ao19 t950.length co19)) ok_⟩, ⟨by (with_reducible repeat apply ru); exact Kd.R_mono (Kd.R_far (p := ⟨gb954, 0, none⟩) (Kd.R_types HO952.out BK954.out (by decide)) (fun _ hk => hk.2) (.slice Ao19 t950.length co19)) ok_⟩, bf_ BK944, bf_ BK949, ⟨by (with_reducible repeat refine bu ?_); refine blk_put (cs := #[.slice none 0 0]) ?_ 0 _ rfl; (with_reducible repeat refine bu ?_); exact BK954.out⟩, ⟨m2_⟩⟩
   ·replace c24 := Bool.eq_false_iff.mpr c24
    subst c24
    have H1 : (laws_FnRwrStream.j0 k t943 t948 true t940 t945) = some r := by rw [if_neg (show ¬ (false = true) by decide)] at H; exact H
    clear H
    have H := H1
    clear H1
    have H' := am H
    clear H
    have := NB949_944.out
    have := NB944_949.out
    have := NB949_954.out
    have := NB954_949.out
    have hcz32_0 := bcell BK949 0
    have hfz32_0 := blk_frozen BK949.out 0
    have := NB954_944.out
    have := NB944_954.out
    have hcz34_0 := bcell BK954 0
    have hfz34_0 := blk_frozen BK954.out 0
    go_wp2_with (first | ((with_reducible refine gate_callee (f := 15) rfl ?_); refine gL (some 40) Tryz.func15 #[.slice Ao13 t945.length co13, .slice Ao19 t950.length co19] ?_; (with_reducible refine (laws_haEnds.calls k _ _ t945 _ _ t950 false _ ?side1 ?side2 ?side3 ?side4 A23.out).mono ?_); (case side1 => refine (Kd.R_reads' (e := 34) (base := w.heap.size) (ok := fun k_ => ((True ∧ some k_ ≠ (.slice Ao9 t940.length co9 : Value).ownBlock) ∧ some k_ ≠ (.slice Ao19 t950.length co19 : Value).ownBlock)) (n := t945.length) (c := co13) ?_).2.2; exact (by (with_reducible repeat apply ru); exact (Kd.R_mono (Kd.R_far (p := ⟨gb954, 0, none⟩) (Kd.R_types HO947.out BK954.out (by decide)) (fun _ hk => hk.2) (.slice Ao19 t950.length co19)) (fun _ h_ => h_.1)))); (case side2 => exact (Kd.R_reads' HO947.out).2.1); (case side3 => refine (Kd.R_reads' (e := 34) (base := w.heap.size) (ok := fun k_ => ((True ∧ some k_ ≠ (.slice Ao9 t940.length co9 : Value).ownBlock) ∧ some k_ ≠ (.slice Ao13 t945.length co13 : Value).ownBlock)) (n := t950.length) (c := co19) ?_).2.2; exact (by (with_reducible repeat apply ru); exact (Kd.R_mono (Kd.R_far (p := ⟨gb954, 0, none⟩) (Kd.R_types HO952.out BK954.out (by decide)) (fun _ hk => hk.2) (.slice Ao19 t950.length co19)) (fun _ h_ => h_.1)))); (case side4 => exact (Kd.R_reads' HO952.out).2.1); rintro e w' ⟨rfl, ⟨nd, rfl⟩⟩; refine ⟨_, rfl, ?_⟩))
    go_meet
    case rel => exact ⟨_, (true), rs_, H', ⟨by first | omega | exact Nat.le_refl _⟩, ⟨by (with_reducible repeat apply ru); exact Kd.R_mono (Kd.R_far (p := ⟨gb954, 0, none⟩) (Kd.R_types HO942.out BK954.out (by decide)) (fun _ hk => hk.2) (.slice Ao19 t950.length co19)) ok_⟩, ⟨by (with_reducible repeat apply ru); exact Kd.R_mono (Kd.R_far (p := ⟨gb954, 0, none⟩) (Kd.R_types HO947.out BK954.out (by decide)) (fun _ hk => hk.2) (.slice Ao19 t950.length co19)) ok_⟩, ⟨by (with_reducible repeat apply ru); exact Kd.R_mono (Kd.R_far (p := ⟨gb954, 0, none⟩) (Kd.R_types HO952.out BK954.out (by decide)) (fun _ hk => hk.2) (.slice Ao19 t950.length co19)) ok_⟩, bf_ BK944, bf_ BK949, ⟨by (with_reducible repeat refine bu ?_); refine blk_put (cs := #[.slice none 0 0]) ?_ 0 _ rfl; (with_reducible repeat refine bu ?_); exact BK954.out⟩, ⟨m2_⟩⟩
  case rest =>
   clear HC6
   try clear c1
   try clear c2
   try clear c2b0
   try clear c2b1
   try clear p2
   try clear c3
   try clear c11
   try clear c14
   try clear c15
   try clear c20
   try clear c21
   try clear c24
   try clear c25
   try clear c26
   try clear c28
   try clear c30
   try clear c31
   try clear c32
   try clear c33
   try clear c34
   try clear hcz10_0
   try clear hcz15_0
   try clear hcz16_0
   try clear hcz22_0
   try clear hcz27_0
   try clear hcz29_0
   try clear hcz32_0
   try clear hcz34_0
   try clear hfz10_0
   try clear hfz15_0
   try clear hfz16_0
   try clear hfz22_0
   try clear hfz27_0
   try clear hfz29_0
   try clear hfz32_0
   try clear hfz34_0
   obtain ⟨kq, x46_5, rfl, HA, HJ5, HO_945000, HO_950000, HO_955000, BK944, BK949, BK954, HB⟩ := hcut
   cases kq with
   | zero => exact absurd HA.out (by simp [laws_FnRwrStream.j0])
   | succ kj5 =>
    have H := HA.out
    clear HA
    simp only [laws_FnRwrStream.j0] at H
    by_cases c35 : x46_5 = true
    ·subst c35
     have H1 : (some false) = some r := by rw [if_pos rfl] at H; exact H
     clear H
     have H := H1
     clear H1
     exact absurd ((Option.some.inj H).trans hrt.out) (by decide)
    ·replace c35 := Bool.eq_false_iff.mpr c35
     subst c35
     have H1 : ((spec_MapOk.f kj5 t940).bind fun t956 => (if t956 = true then ((spec_StrOk.f kj5 t943).bind fun t957 => (laws_FnRwrStream.j1 kj5 t943 t948 (!t957) t940 t945)) else (laws_FnRwrStream.j1 kj5 t943 t948 true t940 t945))) = some r := by rw [if_neg (show ¬ (false = true) by decide)] at H; exact H
     clear H
     have H := H1
     clear H1
     have HC36 := am H
     clear H
     go_upto_region 8 with (fail)
     go_cut [54] (fun v54 wc => ∃ (kq : Nat) (x54_35 : Bool), v54 = .bool x54_35 ∧ Aside0 (laws_FnRwrStream.j1 kq t943 t948 x54_35 t940 t945 = some r) ∧ Aside0 (kq ≤ kj5) ∧ Aside0 (Kd.R k34 34 wc w.heap.size (fun k_ => some k_ ≠ ((.slice Ao13 t945.length co13) : Value).ownBlock ∧ some k_ ≠ ((.slice Ao19 t950.length co19) : Value).ownBlock) (.slice Ao9 t940.length co9) t940) ∧ Aside0 (Kd.R k34 34 wc w.heap.size (fun k_ => some k_ ≠ ((.slice Ao9 t940.length co9) : Value).ownBlock ∧ some k_ ≠ ((.slice Ao19 t950.length co19) : Value).ownBlock) (.slice Ao13 t945.length co13) t945) ∧ Aside0 (Kd.R k34 34 wc w.heap.size (fun k_ => some k_ ≠ ((.slice Ao9 t940.length co9) : Value).ownBlock ∧ some k_ ≠ ((.slice Ao13 t945.length co13) : Value).ownBlock) (.slice Ao19 t950.length co19) t950) ∧ Aside0 (wc.heap[gb944]? = some (.cells #[(.slice Ao9 t940.length co9)] 25 (0, 0))) ∧ Aside0 (wc.heap[gb949]? = some (.cells #[(.slice Ao13 t945.length co13)] 25 (0, 0))) ∧ Aside0 (wc.heap[gb954]? = some (.cells #[(.slice Ao19 t950.length co19)] 25 (0, 0))) ∧ Aside0 (Below w.heap.size w wc))
     case first =>
      have H := HC36.out
      clear HC36
      obtain ⟨t956, A37, H⟩ := bse H
      try dsimp only at H
      by_cases c38 : t956 = true
      ·subst c38
       have H1 : ((spec_StrOk.f kj5 t943).bind fun t957 => (laws_FnRwrStream.j1 kj5 t943 t948 (!t957) t940 t945)) = some r := by rw [if_pos rfl] at H; exact H
       clear H
       have H := H1
       clear H1
       obtain ⟨t957, A39, H⟩ := bse H
       try dsimp only at H
       have H' := am H
       clear H
       have := NB944_949.out
       have := NB949_944.out
       have := NB944_954.out
       have := NB954_944.out
       have hcz42_0 := bcell BK944 0
       have hfz42_0 := blk_frozen BK944.out 0
       go_wp2_with (first | ((with_reducible refine gate_callee (f := 16) rfl ?_); refine gL (some 48) Tryz.func16 #[.agg #[.slice Ao9 t940.length co9]] ?_; (with_reducible refine (spec_MapOk.calls kj5 _ _ t940 true _ ?side1 ?side2 A37.out).mono ?_); (case side1 => exact rcx HO_945000); (case side2 => exact (Kd.R_reads' HO_945000.out).2.1); rintro e w43 ⟨rfl, hb⟩; refine ⟨_, rfl, ?_⟩; replace HO_945000 := am (Kd.R_below (rs HO_945000) hb); replace HO_950000 := am (Kd.R_below (rs HO_950000) hb); replace HO_955000 := am (Kd.R_below (rs HO_955000) hb); replace BK944 := bkB BK944 hb; replace BK949 := bkB BK949 hb; replace BK954 := bkB BK954 hb; replace HB := hbS HB hb; (try clear hb)) | (go_at_call 33; (with_reducible refine (spec_StrOk.calls kj5 t943 t957 _ A39.out).mono ?_); rintro e w44 ⟨rfl, hb⟩; replace HO_945000 := am (Kd.R_below (rs HO_945000) hb); replace HO_950000 := am (Kd.R_below (rs HO_950000) hb); replace HO_955000 := am (Kd.R_below (rs HO_955000) hb); replace BK944 := bkB BK944 hb; replace BK949 := bkB BK949 hb; replace BK954 := bkB BK954 hb; replace HB := hbS HB hb; (try clear hb)))
       go_meet
       case rel => exact ⟨_, (!t957), rs_, H', ⟨by have := HJ5.out; first | omega | exact Nat.le_refl _⟩, ⟨by (with_reducible repeat apply ru); exact HO_945000.out⟩, ⟨by (with_reducible repeat apply ru); exact HO_950000.out⟩, ⟨by (with_reducible repeat apply ru); exact HO_955000.out⟩, ⟨bk BK944⟩, ⟨bk BK949⟩, ⟨bk BK954⟩, ⟨m2_⟩⟩
      ·replace c38 := Bool.eq_false_iff.mpr c38
       subst c38
       have H1 : (laws_FnRwrStream.j1 kj5 t943 t948 true t940 t945) = some r := by rw [if_neg (show ¬ (false = true) by decide)] at H; exact H
       clear H
       have H := H1
       clear H1
       have H' := am H
       clear H
       have := NB944_949.out
       have := NB949_944.out
       have := NB944_954.out
       have := NB954_944.out
       have hcz47_0 := bcell BK944 0
       have hfz47_0 := blk_frozen BK944.out 0
       go_wp2_with (first | ((with_reducible refine gate_callee (f := 16) rfl ?_); refine gL (some 48) Tryz.func16 #[.agg #[.slice Ao9 t940.length co9]] ?_; (with_reducible refine (spec_MapOk.calls kj5 _ _ t940 false _ ?side1 ?side2 A37.out).mono ?_); (case side1 => exact rcx HO_945000); (case side2 => exact (Kd.R_reads' HO_945000.out).2.1); rintro e w48 ⟨rfl, hb⟩; refine ⟨_, rfl, ?_⟩; replace HO_945000 := am (Kd.R_below (rs HO_945000) hb); replace HO_950000 := am (Kd.R_below (rs HO_950000) hb); replace HO_955000 := am (Kd.R_below (rs HO_955000) hb); replace BK944 := bkB BK944 hb; replace BK949 := bkB BK949 hb; replace BK954 := bkB BK954 hb; replace HB := hbS HB hb; (try clear hb)))
       go_meet
       case rel => exact ⟨_, (true), rs_, H', ⟨by have := HJ5.out; first | omega | exact Nat.le_refl _⟩, ⟨by (with_reducible repeat apply ru); exact HO_945000.out⟩, ⟨by (with_reducible repeat apply ru); exact HO_950000.out⟩, ⟨by (with_reducible repeat apply ru); exact HO_955000.out⟩, ⟨bk BK944⟩, ⟨bk BK949⟩, ⟨bk BK954⟩, ⟨m2_⟩⟩
     case rest =>
      clear HC36
      try clear c1
      try clear c2
      try clear c2b0
      try clear c2b1
      try clear p2
      try clear c3
      try clear c4
      try clear c11
      try clear c14
      try clear c15
      try clear c16
      try clear c20
      try clear c21
      try clear c24
      try clear c25
      try clear c26
      try clear c28
      try clear c30
      try clear c31
      try clear c32
      try clear c33
      try clear c34
      try clear c35
      try clear c37
      try clear c38
      try clear c40
      try clear c41
      try clear c45
      try clear c46
      try clear hcz10_0
      try clear hcz15_0
      try clear hcz16_0
      try clear hcz22_0
      try clear hcz27_0
      try clear hcz29_0
      try clear hcz32_0
      try clear hcz34_0
      try clear hcz42_0
      try clear hcz47_0
      try clear hfz10_0
      try clear hfz15_0
      try clear hfz16_0
      try clear hfz22_0
      try clear hfz27_0
      try clear hfz29_0
      try clear hfz32_0
      try clear hfz34_0
      try clear hfz42_0
      try clear hfz47_0
      try clear p2
      obtain ⟨kq, x54_35, rfl, HA, HJ35, HO_945000, HO_950000, HO_955000, BK944, BK949, BK954, HB⟩ := hcut
      cases kq with
      | zero => exact absurd HA.out (by simp [laws_FnRwrStream.j1])
      | succ kj35 =>
       have H := HA.out
       clear HA
       simp only [laws_FnRwrStream.j1] at H
       by_cases c49 : x54_35 = true
       ·subst c49
        have H1 : (if t948.toList = ([] : List UInt8) then (if (t945.length : Int) = 0 then ((laws_haOk.f).bind fun t958 => (some t958)) else (some false)) else (some false)) = some r := by rw [if_pos rfl] at H; exact H
        clear H
        have H := H1
        clear H1
        by_cases c50 : t948.toList = ([] : List UInt8)
        ·rw [if_pos c50] at H
         have c50b0 : (t948.toList == ([] : List UInt8)) = true := beq_iff_eq.mpr c50
         have c50b1 : (t948.toList != ([] : List UInt8)) = false := bne_eq_false_iff_eq.mpr c50
         clear c50
         by_cases c51 : (t945.length : Int) = 0
         ·rw [if_pos c51] at H
          have c51b0 : ((t945.length : Int) == 0) = true := beq_iff_eq.mpr c51
          have c51b1 : ((t945.length : Int) != 0) = false := bne_eq_false_iff_eq.mpr c51
          clear c51
          obtain ⟨t958, A52, H⟩ := bse H
          try dsimp only at H
          obtain rfl := Option.some.inj H
          have := NB949_944.out
          have := NB944_949.out
          have := NB949_954.out
          have := NB954_949.out
          have hcz55_0 := bcell BK949 0
          have hfz55_0 := blk_frozen BK949.out 0
          go_wp2_with (first | (go_at_call 18; (with_reducible refine (laws_haOk.calls  t958 _ A52.out).mono ?_); rintro e w56 ⟨rfl, hb⟩; replace HO_945000 := am (Kd.R_below (rs HO_945000) hb); replace HO_950000 := am (Kd.R_below (rs HO_950000) hb); replace HO_955000 := am (Kd.R_below (rs HO_955000) hb); replace BK944 := bkB BK944 hb; replace BK949 := bkB BK949 hb; replace BK954 := bkB BK954 hb; replace HB := hbS HB hb; (try clear hb)))
          go_ret
          exact ⟨fi_, m2_⟩
         ·rw [if_neg c51] at H
          have c51b0 : ((t945.length : Int) == 0) = false := beq_eq_false_iff_ne.mpr c51
          have c51b1 : ((t945.length : Int) != 0) = true := bne_iff_ne.mpr c51
          have c51b2 : ¬ (t945 = []) := fun h_ => c51 (by rw [h_]; rfl)
          exact absurd ((Option.some.inj H).trans hrt.out) (by decide)
        ·rw [if_neg c50] at H
         have c50b0 : (t948.toList == ([] : List UInt8)) = false := beq_eq_false_iff_ne.mpr c50
         have c50b1 : (t948.toList != ([] : List UInt8)) = true := bne_iff_ne.mpr c50
         exact absurd ((Option.some.inj H).trans hrt.out) (by decide)
       ·replace c49 := Bool.eq_false_iff.mpr c49
        subst c49
        have H1 : ((impl_StrLines.f t943).bind fun bt959 => (laws_FnRwrStream.l0 kj35 t948 bt959.1 (⟨#[]⟩ : ByteArray) 0 t945 t940)) = some r := by rw [if_neg (show ¬ (false = true) by decide)] at H; exact H
        clear H
        have H := H1
        clear H1
        obtain ⟨⟨t959, t960⟩, A57, H⟩ := bse H
        try dsimp only at H
        have H' := am H
        clear H
        go_wp2_with (first | ((with_reducible refine gate_callee (f := 36) rfl ?_); refine gL (some 68) Tryz.func36 #[.string t943] ?_; (with_reducible refine (impl_StrLines.calls t943 t959 t960 _ A57.out (Env.below hE.e (bl HB))).mono ?_); rintro e w58 ⟨v961, rfl, ho0, hb⟩; refine ⟨_, rfl, ?_⟩; replace HO_945000 := am (Kd.R_below (rs HO_945000) hb); replace HO_950000 := am (Kd.R_below (rs HO_950000) hb); replace HO_955000 := am (Kd.R_below (rs HO_955000) hb); have HO962 := am (Kd.R_lower ho0 (below_size (bl HB))); replace BK944 := bkB BK944 hb; replace BK949 := bkB BK949 hb; replace BK954 := bkB BK954 hb; replace HB := hbS HB hb; (try clear hb); (try clear ho0); have := NB944_949.out; have := NB949_944.out; have := NB944_954.out; have := NB954_944.out; have hcz61_0 := bcell BK944 0; have hfz61_0 := blk_frozen BK944.out 0) | ((with_reducible refine gate_dst (N := 11) rfl ?_); refine box_event rfl (N := 11) rfl (cs := #[.slice none 0 0]) (t := 25) hr_ ?_; intro gb963 hg w62 hbox hb; replace HO_945000 := am (Kd.R_below (rs HO_945000) hb); replace HO_950000 := am (Kd.R_below (rs HO_950000) hb); replace HO_955000 := am (Kd.R_below (rs HO_955000) hb); replace HO962 := am (Kd.R_below (rs HO962) hb); have BK963 := am hbox; have GW963 := gwE HB hg; have GE963 := gwE HB hg; replace HB := hbS HB hb; have NB944_963 := neL BK944 hg; have NB963_944 := neG BK944 hg; replace BK944 := bkB BK944 hb; have NB949_963 := neL BK949 hg; have NB963_949 := neG BK949 hg; replace BK949 := bkB BK949 hb; have NB954_963 := neL BK954 hg; have NB963_954 := neG BK954 hg; replace BK954 := bkB BK954 hb; clear hb hbox hg; have := NB963_944.out; have := NB944_963.out; have := NB963_949.out; have := NB949_963.out; have := NB963_954.out; have := NB954_963.out; have hcz66_0 := bcell BK963 0; have hfz66_0 := blk_frozen BK963.out 0))
        go_loopg [12, 13] kj35 (fun kq v12 v13 w' => ∃ (x12_3 : ByteArray) (x13_3 : Int) (x964000_3 : List (S34)) (u964000 : Value), v12 = .string x12_3 ∧ v13 = .int .i64 x13_3 ∧ Aside0 (laws_FnRwrStream.l0 kq t948 t959 x12_3 x13_3 t945 x964000_3 = some r) ∧ Aside0 (kq ≤ kj35) ∧ Aside0 (Kd.R Kd.string 9 w' w.heap.size (fun _ => True) v961 t959) ∧ Aside0 (Kd.R k34 34 w' w.heap.size (fun k_ => some k_ ≠ ((.slice Ao13 t945.length co13) : Value).ownBlock ∧ some k_ ≠ ((.slice Ao19 t950.length co19) : Value).ownBlock) (.slice Ao9 t940.length co9) t940) ∧ Aside0 (Kd.R k34 34 w' w.heap.size (fun k_ => some k_ ≠ ((.slice Ao9 t940.length co9) : Value).ownBlock ∧ some k_ ≠ ((.slice Ao19 t950.length co19) : Value).ownBlock ∧ some k_ ≠ (u964000 : Value).ownBlock) (.slice Ao13 t945.length co13) t945) ∧ Aside0 (Kd.R k34 34 w' w.heap.size (fun k_ => some k_ ≠ ((.slice Ao9 t940.length co9) : Value).ownBlock ∧ some k_ ≠ ((.slice Ao13 t945.length co13) : Value).ownBlock ∧ some k_ ≠ (u964000 : Value).ownBlock) (.slice Ao19 t950.length co19) t950) ∧ Aside0 (Kd.R k34 34 w' w.heap.size (fun k_ => some k_ ≠ ((.slice Ao13 t945.length co13) : Value).ownBlock ∧ some k_ ≠ ((.slice Ao19 t950.length co19) : Value).ownBlock) u964000 x964000_3) ∧ Aside0 (w'.heap[gb944]? = some (.cells #[(.slice Ao9 t940.length co9)] 25 (0, 0))) ∧ Aside0 (w'.heap[gb949]? = some (.cells #[(.slice Ao13 t945.length co13)] 25 (0, 0))) ∧ Aside0 (w'.heap[gb954]? = some (.cells #[(.slice Ao19 t950.length co19)] 25 (0, 0))) ∧ Aside0 (w'.heap[gb963]? = some (.cells #[u964000] 25 (0, 0))) ∧ Aside0 (Below w.heap.size w w'))
        case atStart => exact ⟨((⟨#[]⟩ : ByteArray)), (0), (t940), (.slice Ao9 t940.length co9), rs_, rs_, H', ⟨Nat.le_refl _⟩, ⟨by (with_reducible repeat apply ru); exact Kd.R_mono (Kd.R_far (p := ⟨gb963, 0, none⟩) (Kd.R_types HO962.out BK963.out (by decide)) (fun _ hk => hk.2) (.slice Ao9 t940.length co9)) (fun _ hk => trivial)⟩, ⟨by (with_reducible repeat apply ru); exact Kd.R_mono (Kd.R_far (p := ⟨gb963, 0, none⟩) (Kd.R_types HO_945000.out BK963.out (by decide)) (fun _ hk => hk.2) (.slice Ao9 t940.length co9)) ok_⟩, ⟨by (with_reducible repeat apply ru); exact Kd.R_mono (Kd.R_far (p := ⟨gb963, 0, none⟩) (Kd.R_types HO_950000.out BK963.out (by decide)) (fun _ hk => hk.2) (.slice Ao9 t940.length co9)) ok_⟩, ⟨by (with_reducible repeat apply ru); exact Kd.R_mono (Kd.R_far (p := ⟨gb963, 0, none⟩) (Kd.R_types HO_955000.out BK963.out (by decide)) (fun _ hk => hk.2) (.slice Ao9 t940.length co9)) ok_⟩, ⟨by (with_reducible repeat apply ru); exact Kd.R_mono (Kd.R_far (p := ⟨gb963, 0, none⟩) (Kd.R_types HO_945000.out BK963.out (by decide)) (fun _ hk => hk.2) (.slice Ao9 t940.length co9)) ok_⟩, bf_ BK944, bf_ BK949, bf_ BK954, ⟨by (with_reducible repeat refine bu ?_); refine blk_put (cs := #[.slice none 0 0]) ?_ 0 _ rfl; (with_reducible repeat refine bu ?_); exact BK963.out⟩, ⟨m2_⟩⟩
        case round =>
         clear H'
         try clear c1
         try clear c2
         try clear c2b0
         try clear c2b1
         try clear p2
         try clear c3
         try clear c4
         try clear c5
         try clear c6
         try clear c11
         try clear c14
         try clear c15
         try clear c16
         try clear c20
         try clear c21
         try clear c24
         try clear c25
         try clear c26
         try clear c28
         try clear c30
         try clear c31
         try clear c32
         try clear c33
         try clear c34
         try clear c35
         try clear c36
         try clear c37
         try clear c38
         try clear c40
         try clear c41
         try clear c45
         try clear c46
         try clear c49
         try clear c50
         try clear c50b0
         try clear c50b1
         try clear c51
         try clear c51b0
         try clear c51b1
         try clear c51b2
         try clear c53
         try clear c54
         try clear c59
         try clear c60
         try clear c63
         try clear c64
         try clear c65
         try clear hcz10_0
         try clear hcz15_0
         try clear hcz16_0
         try clear hcz22_0
         try clear hcz27_0
         try clear hcz29_0
         try clear hcz32_0
         try clear hcz34_0
         try clear hcz42_0
         try clear hcz47_0
         try clear hcz55_0
         try clear hcz61_0
         try clear hcz66_0
         try clear hfz10_0
         try clear hfz15_0
         try clear hfz16_0
         try clear hfz22_0
         try clear hfz27_0
         try clear hfz29_0
         try clear hfz32_0
         try clear hfz34_0
         try clear hfz42_0
         try clear hfz47_0
         try clear hfz55_0
         try clear hfz61_0
         try clear hfz66_0
         try clear p2
         obtain ⟨x12_3, x13_3, x964000_3, u964000, rfl, rfl, HA, HK3, HO_9, HO_945000, HO_950000, HO_955000, HO_964000, BK944, BK949, BK954, BK963, HB⟩ := hrel
         cases gk with
         | zero => exact absurd HA.out (by simp [laws_FnRwrStream.l0])
         | succ k3 =>
          have H := HA.out
          clear HA
          simp only [laws_FnRwrStream.l0] at H
          by_cases c67 : x13_3 < (t959.length : Int)
          ·rw [if_pos c67] at H
           have c67b0 : decide (x13_3 < (t959.length : Int)) = true := decide_eq_true c67
           clear c67
           by_cases c68 : 0 ≤ x13_3
           ·rw [if_pos c68] at H
            have c68b0 : decide (0 ≤ x13_3) = true := decide_eq_true c68
            clear c68
            obtain ⟨⟨t965, t968⟩, A69, H⟩ := bse H
            try dsimp only at H
            by_cases c70 : x12_3.size + t968.size ≤ 9223372036854775807
            ·rw [if_pos c70] at H
             have c70b0 := eq_true c70
             have c70b1 : decide (x12_3.size + t968.size ≤ 9223372036854775807) = true := decide_eq_true c70
             try have c70b2 : (9223372036854775807 < x12_3.size + t968.size) = False := eq_false (Nat.not_lt.2 c70)
             by_cases c71 : (x12_3 ++ t968).size + 1 ≤ 9223372036854775807
             ·rw [if_pos c71] at H
              have c71b0 := eq_true c71
              have c71b1 : decide ((x12_3 ++ t968).size + 1 ≤ 9223372036854775807) = true := decide_eq_true c71
              try have c71b2 : (9223372036854775807 < (x12_3 ++ t968).size + 1) = False := eq_false (Nat.not_lt.2 c71)
              try have c71b3 : (9223372036854775807 < x12_3.size + t968.size + 1) = False := (by have z_ := c71b2; simp only [ByteArray.size_append] at z_; exact z_)
              have H' := am H
              clear H
              obtain ⟨Ao72, co72, eo72⟩ := Kd.R_slice HO_9.out
              subst eo72
              obtain ⟨Ao73, co73, eo73⟩ := Kd.R_slice HO_964000.out
              subst eo73
              try go_wp2
              replace HO_9 := am (Kd.R_drew HO_9.out)
              replace HO_945000 := am (Kd.R_drew HO_945000.out)
              replace HO_950000 := am (Kd.R_drew HO_950000.out)
              replace HO_955000 := am (Kd.R_drew HO_955000.out)
              replace HO_964000 := am (Kd.R_drew HO_964000.out)
              replace BK944 := am (blk_drew BK944.out)
              replace BK949 := am (blk_drew BK949.out)
              replace BK954 := am (blk_drew BK954.out)
              replace BK963 := am (blk_drew BK963.out)
              replace HB := am (below_drew1 HB.out)
              have p964 : 0 ≤ (x13_3 : Int) := of_decide_eq_true da_
              have q964 : x13_3 < (t959.length : Int) := of_decide_eq_true da_
              obtain ⟨ad964, e964, hx964_0⟩ := Kd.at_string (Kd.R_reads' HO_9.out).2.2 x13_3 p964 q964
              cases e964
              replace p964 := eq_true p964
              replace q964 := eq_true q964
              refine start_ (n := 12) (S := fun w' => w'.cell? ⟨gb963, 0, none⟩ = some (.slice Ao73 x964000_3.length co73) ∧ w'.cell? (ad964.add (x13_3).toNat) = some (.string (rdOf ByteArray.empty t959 x13_3))) (ds := []) #[false, false, false, false, false, false, false, false, false, false, false, false] (by kernel_rfl) rfl rfl ⟨bcell BK963 0, hx964_0⟩ (fun hHeld => ?_); refine with_tabW laws_FnRwrStream.tab16 laws_FnRwrStream.bits16 (fun HT_ HW_ => ?_)
              generalize wr.drew = w74 at HO_9 HO_945000 HO_950000 HO_955000 HO_964000 BK944 BK949 BK954 BK963 HB hx964_0 hHeld ⊢
              refine pu_ 1 (some 80) (bm 12 2) ?_
              refine pu_ 2 (some 81) (bm 12 6) ?_
              refine pu_ 3 (some 82) (bm 12 14) ?_
              refine tk_ 0 (some 79) (bm 12 15) rfl (.inl ⟨rfl, m3_⟩) ?_
              refine tk_ 4 (some 83) (bm 12 31) rfl (.inl ⟨rfl, m3_⟩) ?_
              refine join_ (σ := Value × Nat) 2 #[true, true, true, true, true, true, true, true, true, true, false, false] (fun s_ => [(84, .tuple #[.agg #[s_.1], .string t968]), (14, .pointer (some ⟨s_.2, 0, none⟩)), (78, .tuple #[.agg #[s_.1], .string t968]), (85, .agg #[s_.1]), (86, .string t968)]) (fun s_ w' => (w'.cell? ⟨gb963, 0, none⟩ = some (.slice Ao73 x964000_3.length co73) ∧ w'.cell? (ad964.add (x13_3).toNat) = some (.string (rdOf ByteArray.empty t959 x13_3))) ∧ (Kd.R k34 34 w' w.heap.size (fun k_ => some k_ ≠ (.slice Ao9 t940.length co9 : Value).ownBlock ∧ some k_ ≠ (.slice Ao13 t945.length co13 : Value).ownBlock ∧ some k_ ≠ (.slice Ao19 t950.length co19 : Value).ownBlock ∧ some k_ ≠ (.slice Ao73 x964000_3.length co73 : Value).ownBlock) s_.1 t965) ∧ (Kd.R Kd.string 9 w' w.heap.size (fun _ => True) (.slice (some ad964) t959.length co72) t959) ∧ (Kd.R k34 34 w' w.heap.size (fun k_ => some k_ ≠ (s_.1 : Value).ownBlock ∧ some k_ ≠ (.slice Ao13 t945.length co13 : Value).ownBlock ∧ some k_ ≠ (.slice Ao19 t950.length co19 : Value).ownBlock) (.slice Ao9 t940.length co9) t940) ∧ (Kd.R k34 34 w' w.heap.size (fun k_ => some k_ ≠ (s_.1 : Value).ownBlock ∧ some k_ ≠ (.slice Ao9 t940.length co9 : Value).ownBlock ∧ some k_ ≠ (.slice Ao19 t950.length co19 : Value).ownBlock ∧ some k_ ≠ (.slice Ao73 x964000_3.length co73 : Value).ownBlock) (.slice Ao13 t945.length co13) t945) ∧ (Kd.R k34 34 w' w.heap.size (fun k_ => some k_ ≠ (s_.1 : Value).ownBlock ∧ some k_ ≠ (.slice Ao9 t940.length co9 : Value).ownBlock ∧ some k_ ≠ (.slice Ao13 t945.length co13 : Value).ownBlock ∧ some k_ ≠ (.slice Ao73 x964000_3.length co73 : Value).ownBlock) (.slice Ao19 t950.length co19) t950) ∧ (Kd.R k34 34 w' w.heap.size (fun k_ => some k_ ≠ (s_.1 : Value).ownBlock ∧ some k_ ≠ (.slice Ao13 t945.length co13 : Value).ownBlock ∧ some k_ ≠ (.slice Ao19 t950.length co19 : Value).ownBlock) (.slice Ao73 x964000_3.length co73) x964000_3) ∧ (w'.heap[gb944]? = some (.cells #[.slice Ao9 t940.length co9] 25 (0, 0))) ∧ (w'.heap[gb949]? = some (.cells #[.slice Ao13 t945.length co13] 25 (0, 0))) ∧ (w'.heap[gb954]? = some (.cells #[.slice Ao19 t950.length co19] 25 (0, 0))) ∧ (w'.heap[gb963]? = some (.cells #[.slice Ao73 x964000_3.length co73] 25 (0, 0))) ∧ (w'.heap[s_.2]? = some (.cells #[.slice none 0 0] 25 (0, 0))) ∧ (w.heap.size ≤ s_.2) ∧ (w.heap.size ≤ s_.2) ∧ (gb944 ≠ s_.2) ∧ (s_.2 ≠ gb944) ∧ (gb949 ≠ s_.2) ∧ (s_.2 ≠ gb949) ∧ (gb954 ≠ s_.2) ∧ (s_.2 ≠ gb954) ∧ (gb963 ≠ s_.2) ∧ (s_.2 ≠ gb963) ∧ (Below w.heap.size w w')) ?_ ?_
              rotate_left
              ·intro hCont
               refine two_ (i := 5) (j := 9) (Ni := some 84) (Nj := some 14) #[true, true, true, true, true, true, false, false, false, false, false, false] #[true, true, true, true, true, false, false, false, false, true, false, false] rfl rfl rfl rfl (two_of HT_.out (by kernel_rfl)) (by decide) (by decide) (fun K hK => ?_) (fun K hK => ?_)
               ·skip
                refine gR Tryz.func13 #[.agg #[.slice Ao73 x964000_3.length co73], .string (rdOf ByteArray.empty t959 x13_3)] ?_
                with_reducible refine (impl_RwrLine.calls k3 _ _ x964000_3 (rdOf ByteArray.empty t959 x13_3) t965 t968 _ ?side1 ?side2 A69.out (EnvE.below hE (bl HB))).mono ?_
                (case side1 => exact rcx HO_964000)
                (case side2 => exact (Kd.R_reads' HO_964000.out).2.1)
                rintro e w75 ⟨v966, rfl, ho0, hb⟩
                have HS1_ := bch hb (hHeld.2)
                refine ⟨_, rfl, ?_⟩
                replace HO_9 := am (Kd.R_below (rs HO_9) hb)
                have HO967 := am (Kd.R_lower (Kd.R_new' (Kd.R_new' (Kd.R_new' (Kd.R_new' ho0 (Kd.R_lt (rs HO_945000))) (Kd.R_lt (rs HO_950000))) (Kd.R_lt (rs HO_955000))) (Kd.R_lt (rs HO_964000))) (below_size (bl HB)))
                replace HO_945000 := am (Kd.R_elder' (rs HO_945000) (Kd.R_base ho0) hb)
                replace HO_950000 := am (Kd.R_elder' (rs HO_950000) (Kd.R_base ho0) hb)
                replace HO_955000 := am (Kd.R_elder' (rs HO_955000) (Kd.R_base ho0) hb)
                replace HO_964000 := am (Kd.R_elder' (rs HO_964000) (Kd.R_base ho0) hb)
                replace BK944 := bkB BK944 hb
                replace BK949 := bkB BK949 hb
                replace BK954 := bkB BK954 hb
                replace BK963 := bkB BK963 hb
                replace HB := hbS HB hb
                (try clear hb)
                (try clear hb2)
                (try clear hk)
                (try clear hi)
                (try clear ho0)
                refine hK.out _ _ ⟨bcell BK963 0, HS1_⟩ (fun hHeld => ?_)
                clear hK K
                refine nm_ ?_
                refine pu_ 6 (some 78) (bm 12 127) ?_
                refine pu_ 7 (some 85) (bm 12 255) ?_
                refine pu_ 8 (some 86) (bm 12 511) ?_
                refine on_ 9 (some 14) (bm 12 1023) (fun K hK => ?_)
                refine box_step rfl (N := 14) rfl (cs := #[.slice none 0 0]) (t := 25) hr_ ?_
                intro gb969 hg w76 hbox hb
                have HS1_ := bch hb (hHeld.2)
                replace HO_9 := am (Kd.R_below (rs HO_9) hb)
                replace HO_945000 := am (Kd.R_below (rs HO_945000) hb)
                replace HO_950000 := am (Kd.R_below (rs HO_950000) hb)
                replace HO_955000 := am (Kd.R_below (rs HO_955000) hb)
                replace HO_964000 := am (Kd.R_below (rs HO_964000) hb)
                replace HO967 := am (Kd.R_below (rs HO967) hb)
                have BK969 := am hbox
                have GW969 := gwE HB hg
                have GE969 := gwE HB hg
                replace HB := hbS HB hb
                have NB944_969 := neL BK944 hg
                have NB969_944 := neG BK944 hg
                replace BK944 := bkB BK944 hb
                have NB949_969 := neL BK949 hg
                have NB969_949 := neG BK949 hg
                replace BK949 := bkB BK949 hb
                have NB954_969 := neL BK954 hg
                have NB969_954 := neG BK954 hg
                replace BK954 := bkB BK954 hb
                have NB963_969 := neL BK963 hg
                have NB969_963 := neG BK963 hg
                replace BK963 := bkB BK963 hb
                clear hb hbox hg
                refine hK.out _ _ ⟨bcell BK963 0, HS1_⟩ (fun hHeld => ?_)
                clear hK K
                refine nm_ ?_
                exact norm_ (by simp only [putAll, Act.put, List.setIfInBounds_toArray, List.set_cons_zero, List.set_cons_succ]) (hCont (v966, gb969) _ ⟨hHeld, (by (with_reducible repeat apply ru); exact Kd.R_mono HO967.out ok_), (rs HO_9), (by (with_reducible repeat apply ru); exact Kd.R_mono HO_945000.out ok_), (by (with_reducible repeat apply ru); exact Kd.R_mono HO_950000.out ok_), (by (with_reducible repeat apply ru); exact Kd.R_mono HO_955000.out ok_), (by (with_reducible repeat apply ru); exact Kd.R_mono HO_964000.out ok_), (bk BK944), (bk BK949), (bk BK954), (bk BK963), (bk BK969), GW969.out, GE969.out, NB944_969.out, NB969_944.out, NB949_969.out, NB969_949.out, NB954_969.out, NB969_954.out, NB963_969.out, NB969_963.out, (bl HB)⟩)
               ·skip
                refine box_step rfl (N := 14) rfl (cs := #[.slice none 0 0]) (t := 25) hr_ ?_
                intro gb969 hg w75 hbox hb
                have HS1_ := bch hb (hHeld.2)
                replace HO_9 := am (Kd.R_below (rs HO_9) hb)
                replace HO_945000 := am (Kd.R_below (rs HO_945000) hb)
                replace HO_950000 := am (Kd.R_below (rs HO_950000) hb)
                replace HO_955000 := am (Kd.R_below (rs HO_955000) hb)
                replace HO_964000 := am (Kd.R_below (rs HO_964000) hb)
                have BK969 := am hbox
                have GW969 := gwE HB hg
                have GE969 := gwE HB hg
                replace HB := hbS HB hb
                have NB944_969 := neL BK944 hg
                have NB969_944 := neG BK944 hg
                replace BK944 := bkB BK944 hb
                have NB949_969 := neL BK949 hg
                have NB969_949 := neG BK949 hg
                replace BK949 := bkB BK949 hb
                have NB954_969 := neL BK954 hg
                have NB969_954 := neG BK954 hg
                replace BK954 := bkB BK954 hb
                have NB963_969 := neL BK963 hg
                have NB969_963 := neG BK963 hg
                replace BK963 := bkB BK963 hb
                clear hb hbox hg
                refine hK.out _ _ ⟨bcell BK963 0, HS1_⟩ (fun hHeld => ?_)
                clear hK K
                refine nm_ ?_
                refine on_ 5 (some 84) (bm 12 575) (fun K hK => ?_)
                refine gR Tryz.func13 #[.agg #[.slice Ao73 x964000_3.length co73], .string (rdOf ByteArray.empty t959 x13_3)] ?_
                with_reducible refine (impl_RwrLine.calls k3 _ _ x964000_3 (rdOf ByteArray.empty t959 x13_3) t965 t968 _ ?side1 ?side2 A69.out (EnvE.below hE (bl HB))).mono ?_
                (case side1 => exact rcx HO_964000)
                (case side2 => exact (Kd.R_reads' HO_964000.out).2.1)
                rintro e w76 ⟨v966, rfl, ho0, hb⟩
                have HS1_ := bch hb (hHeld.2)
                refine ⟨_, rfl, ?_⟩
                replace HO_9 := am (Kd.R_below (rs HO_9) hb)
                have HO967 := am (Kd.R_lower (Kd.R_new' (Kd.R_new' (Kd.R_new' (Kd.R_new' ho0 (Kd.R_lt (rs HO_945000))) (Kd.R_lt (rs HO_950000))) (Kd.R_lt (rs HO_955000))) (Kd.R_lt (rs HO_964000))) (below_size (bl HB)))
                replace HO_945000 := am (Kd.R_elder' (rs HO_945000) (Kd.R_base ho0) hb)
                replace HO_950000 := am (Kd.R_elder' (rs HO_950000) (Kd.R_base ho0) hb)
                replace HO_955000 := am (Kd.R_elder' (rs HO_955000) (Kd.R_base ho0) hb)
                replace HO_964000 := am (Kd.R_elder' (rs HO_964000) (Kd.R_base ho0) hb)
                replace BK944 := bkB BK944 hb
                replace BK949 := bkB BK949 hb
                replace BK954 := bkB BK954 hb
                replace BK963 := bkB BK963 hb
                replace BK969 := bkB BK969 hb
                replace HB := hbS HB hb
                (try clear hb)
                (try clear hb2)
                (try clear hk)
                (try clear hi)
                (try clear ho0)
                refine hK.out _ _ ⟨bcell BK963 0, HS1_⟩ (fun hHeld => ?_)
                clear hK K
                refine nm_ ?_
                refine pu_ 6 (some 78) (bm 12 639) ?_
                refine pu_ 7 (some 85) (bm 12 767) ?_
                refine pu_ 8 (some 86) (bm 12 1023) ?_
                exact norm_ (by simp only [putAll, Act.put, List.setIfInBounds_toArray, List.set_cons_zero, List.set_cons_succ]) (hCont (v966, gb969) _ ⟨hHeld, (by (with_reducible repeat apply ru); exact Kd.R_mono HO967.out ok_), (rs HO_9), (by (with_reducible repeat apply ru); exact Kd.R_mono HO_945000.out ok_), (by (with_reducible repeat apply ru); exact Kd.R_mono HO_950000.out ok_), (by (with_reducible repeat apply ru); exact Kd.R_mono HO_955000.out ok_), (by (with_reducible repeat apply ru); exact Kd.R_mono HO_964000.out ok_), (bk BK944), (bk BK949), (bk BK954), (bk BK963), (bk BK969), GW969.out, GE969.out, NB944_969.out, NB969_944.out, NB949_969.out, NB969_949.out, NB954_969.out, NB969_954.out, NB963_969.out, NB969_963.out, (bl HB)⟩)
              rintro ⟨v966, gb969⟩ w77 ⟨hS_, h0_, h1_, h2_, h3_, h4_, h5_, h6_, h7_, h8_, h9_, h10_, h11_, h12_, h13_, h14_, h15_, h16_, h17_, h18_, h19_, h20_, h21_⟩
              have n0_ : Aside0 (Kd.R k34 34 w77 w.heap.size (fun k_ => some k_ ≠ (.slice Ao9 t940.length co9 : Value).ownBlock ∧ some k_ ≠ (.slice Ao13 t945.length co13 : Value).ownBlock ∧ some k_ ≠ (.slice Ao19 t950.length co19 : Value).ownBlock ∧ some k_ ≠ (.slice Ao73 x964000_3.length co73 : Value).ownBlock) v966 t965) := ⟨h0_⟩
              have n1_ : Aside0 (Kd.R Kd.string 9 w77 w.heap.size (fun _ => True) (.slice (some ad964) t959.length co72) t959) := ⟨h1_⟩
              have n2_ : Aside0 (Kd.R k34 34 w77 w.heap.size (fun k_ => some k_ ≠ (v966 : Value).ownBlock ∧ some k_ ≠ (.slice Ao13 t945.length co13 : Value).ownBlock ∧ some k_ ≠ (.slice Ao19 t950.length co19 : Value).ownBlock) (.slice Ao9 t940.length co9) t940) := ⟨h2_⟩
              have n3_ : Aside0 (Kd.R k34 34 w77 w.heap.size (fun k_ => some k_ ≠ (v966 : Value).ownBlock ∧ some k_ ≠ (.slice Ao9 t940.length co9 : Value).ownBlock ∧ some k_ ≠ (.slice Ao19 t950.length co19 : Value).ownBlock ∧ some k_ ≠ (.slice Ao73 x964000_3.length co73 : Value).ownBlock) (.slice Ao13 t945.length co13) t945) := ⟨h3_⟩
              have n4_ : Aside0 (Kd.R k34 34 w77 w.heap.size (fun k_ => some k_ ≠ (v966 : Value).ownBlock ∧ some k_ ≠ (.slice Ao9 t940.length co9 : Value).ownBlock ∧ some k_ ≠ (.slice Ao13 t945.length co13 : Value).ownBlock ∧ some k_ ≠ (.slice Ao73 x964000_3.length co73 : Value).ownBlock) (.slice Ao19 t950.length co19) t950) := ⟨h4_⟩
              have n5_ : Aside0 (Kd.R k34 34 w77 w.heap.size (fun k_ => some k_ ≠ (v966 : Value).ownBlock ∧ some k_ ≠ (.slice Ao13 t945.length co13 : Value).ownBlock ∧ some k_ ≠ (.slice Ao19 t950.length co19 : Value).ownBlock) (.slice Ao73 x964000_3.length co73) x964000_3) := ⟨h5_⟩
              have n6_ : Aside0 (w77.heap[gb944]? = some (.cells #[.slice Ao9 t940.length co9] 25 (0, 0))) := ⟨h6_⟩
              have n7_ : Aside0 (w77.heap[gb949]? = some (.cells #[.slice Ao13 t945.length co13] 25 (0, 0))) := ⟨h7_⟩
              have n8_ : Aside0 (w77.heap[gb954]? = some (.cells #[.slice Ao19 t950.length co19] 25 (0, 0))) := ⟨h8_⟩
              have n9_ : Aside0 (w77.heap[gb963]? = some (.cells #[.slice Ao73 x964000_3.length co73] 25 (0, 0))) := ⟨h9_⟩
              have n10_ : Aside0 (w77.heap[gb969]? = some (.cells #[.slice none 0 0] 25 (0, 0))) := ⟨h10_⟩
              have n11_ : Aside0 (w.heap.size ≤ gb969) := ⟨h11_⟩
              have n12_ : Aside0 (w.heap.size ≤ gb969) := ⟨h12_⟩
              have n13_ : Aside0 (gb944 ≠ gb969) := ⟨h13_⟩
              have n14_ : Aside0 (gb969 ≠ gb944) := ⟨h14_⟩
              have n15_ : Aside0 (gb949 ≠ gb969) := ⟨h15_⟩
              have n16_ : Aside0 (gb969 ≠ gb949) := ⟨h16_⟩
              have n17_ : Aside0 (gb954 ≠ gb969) := ⟨h17_⟩
              have n18_ : Aside0 (gb969 ≠ gb954) := ⟨h18_⟩
              have n19_ : Aside0 (gb963 ≠ gb969) := ⟨h19_⟩
              have n20_ : Aside0 (gb969 ≠ gb963) := ⟨h20_⟩
              have n21_ : Aside0 (Below w.heap.size w w77) := ⟨h21_⟩
              clear HO_9
              clear HO_945000
              clear HO_950000
              clear HO_955000
              clear HO_964000
              clear BK944
              clear BK949
              clear BK954
              clear BK963
              clear HB
              clear h0_ h1_ h2_ h3_ h4_ h5_ h6_ h7_ h8_ h9_ h10_ h11_ h12_ h13_ h14_ h15_ h16_ h17_ h18_ h19_ h20_ h21_
              have HO967 := n0_
              have HO_9 := n1_
              have HO_945000 := n2_
              have HO_950000 := n3_
              have HO_955000 := n4_
              have HO_964000 := n5_
              have BK944 := n6_
              have BK949 := n7_
              have BK954 := n8_
              have BK963 := n9_
              have BK969 := n10_
              have GW969 := n11_
              have GE969 := n12_
              have NB944_969 := n13_
              have NB969_944 := n14_
              have NB949_969 := n15_
              have NB969_949 := n16_
              have NB954_969 := n17_
              have NB969_954 := n18_
              have NB963_969 := n19_
              have NB969_963 := n20_
              have HB := n21_
              clear n0_ n1_ n2_ n3_ n4_ n5_ n6_ n7_ n8_ n9_ n10_ n11_ n12_ n13_ n14_ n15_ n16_ n17_ n18_ n19_ n20_ n21_
              have hHeld : w77.cell? ⟨gb963, 0, none⟩ = some (.slice Ao73 x964000_3.length co73) ∧ w77.cell? (ad964.add (x13_3).toNat) = some (.string (rdOf ByteArray.empty t959 x13_3)) := hS_
              obtain ⟨Ao78, co78, eo78⟩ := Kd.R_slice HO967.out
              (first | subst eo78 | (injection eo78 with f1_ f2_ f3_; have f4_ := f1_.symm; have f5_ := f3_.symm; clear f1_ f2_ f3_; subst f4_; subst f5_))
              refine norm_ (a' := ?_) ?_ ?_
              rotate_left
              ·simp only [putAll, Act.put, List.setIfInBounds_toArray, List.set_cons_zero, List.set_cons_succ]
               rfl
              refine on_ 10 none (bm 12 2047) (fun K hK => ?_)
              have : w77.cell? ⟨gb969, 0, none⟩ = some (.slice none 0 0) := bcell BK969 0
              have := bfz BK969 0
              have := NB944_969.out
              have := NB949_969.out
              have := NB954_969.out
              have := NB963_969.out
              have := NB969_944.out
              have := NB969_949.out
              have := NB969_954.out
              have := NB969_963.out
              refine skip_ (w1 := ?_) (by rfl) rfl ?_ ?_
              rotate_left
              ·go_simp
               rfl
              refine hK.out _ _ ⟨((cell_far (p := ⟨gb969, _, none⟩) NB963_969.out _).trans (hHeld.1)), ((cell_far (p := ⟨gb969, _, none⟩) (by first | exact Kd.own_blk (Kd.R_ne HO_9.out BK969.out (by decide)) | (rw [add_block]; exact Kd.own_blk (Kd.R_ne HO_9.out BK969.out (by decide))) | (show (Addr.add _ _).block ≠ _; rw [add_block]; exact Kd.own_blk (Kd.R_ne HO_9.out BK969.out (by decide))) | (dsimp only; exact Kd.own_blk (Kd.R_ne HO_9.out BK969.out (by decide)))) _).trans (hHeld.2))⟩ (fun hHeld => ?_)
              clear hK K
              refine pu_ 11 (some 15) (bm 12 4095) ?_
              refine done_ (done_of HT_.out (by kernel_rfl)) ?_
              have := NB969_944.out
              have := NB944_969.out
              have := NB969_949.out
              have := NB949_969.out
              have := NB969_954.out
              have := NB954_969.out
              have := NB969_963.out
              have := NB963_969.out
              have := bcell BK969 0
              have := bfz BK969 0
              have := NB963_944.out
              have := NB944_963.out
              have := NB963_949.out
              have := NB949_963.out
              have := NB963_954.out
              have := NB954_963.out
              have := bcell BK963 0
              have := bfz BK963 0
              try go_wp2
              go_roundg k3
              case measure => have := HJ5.out; have := HJ35.out; have := HK3.out; omega
              case rel => exact ⟨((x12_3 ++ t968) ++ (⟨#[59]⟩ : ByteArray)), (wrap64 (x13_3 + 1)), (t965), (.slice Ao78 t965.length co78), rs_, rs_, H', ⟨by have := HJ5.out; have := HJ35.out; have := HK3.out; omega⟩, ⟨by (with_reducible repeat apply ru); exact Kd.R_mono (Kd.R_far (p := ⟨gb963, 0, none⟩) (Kd.R_far (p := ⟨gb969, 0, none⟩) (Kd.R_types (Kd.R_types HO_9.out BK969.out (by decide)) BK963.out (by decide)) (fun _ hk => hk.1.2) (.slice Ao78 t965.length co78)) (fun _ hk => hk.2) (.slice Ao78 t965.length co78)) (fun _ hk => trivial)⟩, ⟨by (with_reducible repeat apply ru); exact Kd.R_mono (Kd.R_far (p := ⟨gb963, 0, none⟩) (Kd.R_far (p := ⟨gb969, 0, none⟩) (Kd.R_types (Kd.R_types HO_945000.out BK969.out (by decide)) BK963.out (by decide)) (fun _ hk => hk.1.2) (.slice Ao78 t965.length co78)) (fun _ hk => hk.2) (.slice Ao78 t965.length co78)) ok_⟩, ⟨by (with_reducible repeat apply ru); exact Kd.R_mono (Kd.R_far (p := ⟨gb963, 0, none⟩) (Kd.R_far (p := ⟨gb969, 0, none⟩) (Kd.R_types (Kd.R_types HO_950000.out BK969.out (by decide)) BK963.out (by decide)) (fun _ hk => hk.1.2) (.slice Ao78 t965.length co78)) (fun _ hk => hk.2) (.slice Ao78 t965.length co78)) ok_⟩, ⟨by (with_reducible repeat apply ru); exact Kd.R_mono (Kd.R_far (p := ⟨gb963, 0, none⟩) (Kd.R_far (p := ⟨gb969, 0, none⟩) (Kd.R_types (Kd.R_types HO_955000.out BK969.out (by decide)) BK963.out (by decide)) (fun _ hk => hk.1.2) (.slice Ao78 t965.length co78)) (fun _ hk => hk.2) (.slice Ao78 t965.length co78)) ok_⟩, ⟨by (with_reducible repeat apply ru); exact Kd.R_mono (Kd.R_far (p := ⟨gb963, 0, none⟩) (Kd.R_far (p := ⟨gb969, 0, none⟩) (Kd.R_types (Kd.R_types HO967.out BK969.out (by decide)) BK963.out (by decide)) (fun _ hk => hk.1.2) (.slice Ao78 t965.length co78)) (fun _ hk => hk.2) (.slice Ao78 t965.length co78)) ok_⟩, bf_ BK944, bf_ BK949, bf_ BK954, ⟨by (with_reducible repeat refine bu ?_); refine blk_put (cs := #[.slice Ao73 x964000_3.length co73]) ?_ 0 _ rfl; (with_reducible repeat refine bu ?_); refine blk_far ?_ NB963_969.out _; (with_reducible repeat refine bu ?_); exact BK963.out⟩, ⟨m2_⟩⟩
             ·rw [if_neg c71] at H
              exact absurd H (by simp)
            ·rw [if_neg c70] at H
             exact absurd H (by simp)
           ·rw [if_neg c68] at H
            exact absurd H (by simp)
          ·rw [if_neg c67] at H
           have c67b0 : decide (x13_3 < (t959.length : Int)) = false := decide_eq_false c67
           clear c67
           by_cases c89 : x12_3.toList = t948.toList
           ·rw [if_pos c89] at H
            have c89b0 : (x12_3.toList == t948.toList) = true := beq_iff_eq.mpr c89
            have c89b1 : (x12_3.toList != t948.toList) = false := bne_eq_false_iff_eq.mpr c89
            clear c89
            obtain ⟨t970, A90, H⟩ := bse H
            try dsimp only at H
            obtain rfl := Option.some.inj H
            obtain ⟨Ao91, co91, eo91⟩ := Kd.R_slice HO_9.out
            subst eo91
            have := NB963_944.out
            have := NB944_963.out
            have := NB963_949.out
            have := NB949_963.out
            have := NB963_954.out
            have := NB954_963.out
            have := bcell BK963 0
            have := bfz BK963 0
            have := NB949_944.out
            have := NB944_949.out
            have := NB949_954.out
            have := NB954_949.out
            have := bcell BK949 0
            have := bfz BK949 0
            obtain ⟨Ao99, co99, eo99⟩ := Kd.R_slice HO_964000.out
            subst eo99
            go_wp2_with (first | (go_at_call 15; (with_reducible refine (laws_haEnds.calls k3 _ _ x964000_3 _ _ t945 t970 _ ?side1 ?side2 ?side3 ?side4 A90.out).mono ?_); (case side1 => exact rcx HO_964000); (case side2 => exact (Kd.R_reads' HO_964000.out).2.1); (case side3 => exact rcx HO_950000); (case side4 => exact (Kd.R_reads' HO_950000.out).2.1); rintro e w' ⟨rfl, ⟨nd, rfl⟩⟩))
            go_ret
            exact ⟨fi_, m2_⟩
           ·rw [if_neg c89] at H
            have c89b0 : (x12_3.toList == t948.toList) = false := beq_eq_false_iff_ne.mpr c89
            have c89b1 : (x12_3.toList != t948.toList) = true := bne_iff_ne.mpr c89
            exact absurd ((Option.some.inj H).trans hrt.out) (by decide)
def laws_FnRwrStream.Pure : Prop := ∀ (l0 : List Int), l0.length ≤ maxLen → l0.length * 1 ≤ 140737488351232 → (∀ x ∈ l0, (Lit.int .u8 x).wf = true) → ∃ k, laws_FnRwrStream.f k l0 = some true
theorem laws_FnRwrStream.walk (P : laws_FnRwrStream.Pure) (a0 : Option Addr) (len0 cap0 : Nat) (z0 : List Int) (w : World) (w0 : (a0 = none ∧ len0 = 0 ∧ cap0 = 0 ∧ z0 = []) ∨ ∃ x, a0 = some x ∧ len0 ≤ cap0 ∧ cap0 ≤ maxLen ∧ z0.length = cap0 ∧ (∀ i, i < z0.length → w.cell? (x.add i) = some (.int .u8 (z0.getD i 0))) ∧ ∀ n ∈ z0, (Lit.int .u8 n).wf = true) (y0 : len0 * 1 ≤ 140737488351232) (hE : EnvE w) :
  Calls Tryz.prog 11 #[.slice a0 len0 cap0] w fun e w' => e = .returned (.bool true) ∧ Below w.heap.size w w' := by
 obtain ⟨l0, rfl, hr0, hm0, hw0, hc0⟩ := ReadsInt.ofRowC w0
 obtain ⟨k, h⟩ := P l0 hm0 y0 hw0
 refine (laws_FnRwrStream.calls k _ _ l0 true w (Kd.C_of_reads (d := (0 : Int)) (h1 := fun _ => rfl) hr0) hc0 h ⟨rfl⟩ hE).mono ?_
 rintro e w' ⟨rfl, hd⟩
 exact ⟨rfl, hd⟩
end
theorem i64_xor_nat (a b : Nat) (ha : a < 2 ^ 62) (hb : b < 2 ^ 62) : Go.bits .xor .i64 (a : Int) (b : Int) = ((a ^^^ b : Nat) : Int) := by
  have hx : a ^^^ b < 2 ^ 62 := Nat.xor_lt_two_pow ha hb
  show IntKind.i64.wrap ((BitVec.ofInt 64 (a : Int) ^^^ BitVec.ofInt 64 (b : Int)).toNat : Int) = _
  have e : ∀ n : Nat, n < 2 ^ 62 → (BitVec.ofInt 64 (n : Int)).toNat = n := by
    intro n hn
    rw [BitVec.ofInt_natCast, BitVec.toNat_ofNat]; exact Nat.mod_eq_of_lt (by omega)
  rw [BitVec.toNat_xor, e a ha, e b hb]
  rw [i64_w]; unfold wrap64; omega
theorem i64_xor_nonneg (a b : Int) (h1 : 0 ≤ a) (h2 : a < 2 ^ 62) (h3 : 0 ≤ b) (h4 : b < 2 ^ 62) : 0 ≤ Go.bits .xor .i64 a b := by
  obtain ⟨A, rfl⟩ := Int.eq_ofNat_of_zero_le h1
  obtain ⟨B, rfl⟩ := Int.eq_ofNat_of_zero_le h3
  rw [i64_xor_nat A B (by omega) (by omega)]
  omega
theorem w64 (n : Int) (h : -9223372036854775808 ≤ n ∧ n ≤ 9223372036854775807) : wrap64 n = n := by unfold wrap64; omega
def Bys (l : List Int) : Prop := ∀ x ∈ l, 0 ≤ x ∧ x ≤ 255
theorem rd_bys {l : List Int} (h : Bys l) (i : Int) : 0 ≤ rd l i ∧ rd l i ≤ 255 := by
  unfold rd
  by_cases hi : i.toNat < l.length
  · have e : l.getD i.toNat 0 = l[i.toNat] := by simp [List.getD, hi]
    rw [e]; exact h _ (List.getElem_mem hi)
  · have e : l.getD i.toNat 0 = 0 := by simp [List.getD, Nat.not_lt.mp hi]
    rw [e]; omega
theorem tmod_in {a n : Int} (ha : 0 ≤ a) (hn : 1 ≤ n) : 0 ≤ Int.tmod a n ∧ Int.tmod a n < n := by
  rw [Int.tmod_eq_emod_of_nonneg ha]
  exact ⟨Int.emod_nonneg _ (by omega), Int.emod_lt_of_pos _ (by omega)⟩
theorem tdiv_in {a n : Int} (ha : 0 ≤ a) (hn : 1 ≤ n) : 0 ≤ Int.tdiv a n ∧ Int.tdiv a n ≤ a := by
  rw [Int.tdiv_eq_ediv_of_nonneg ha]
  exact ⟨Int.ediv_nonneg ha (by omega), Int.ediv_le_self _ ha⟩
theorem pick_f {l : List Int} (hl : Bys l) (s n : Int) (k : Nat) (hs : 0 ≤ s) (hs' : s < 1000000) : ∃ v, spec_l20Rd_pick.f (k + 1) l s n = some (v, s + 1) ∧ 0 ≤ v ∧ (v < n ∨ v = 0) := by
  unfold spec_l20Rd_pick.f spec_l20Rd_pick.j0
  dsimp only
  have e1 : wrap64 (s + 1) = s + 1 := w64 _ (by omega)
  have e2 : wrap64 (s + 1 - 1) = s := by rw [show s + 1 - 1 = s by omega]; exact w64 _ (by omega)
  by_cases c : n < 1
  · exact ⟨0, by simp [c, e1], by omega, .inr rfl⟩
  · rw [if_neg c, e1]
    simp only [e2]
    by_cases c0 : (l.length : Int) = 0
    · exact ⟨0, by simp [c0], by omega, .inr rfl⟩
    · have cb : ¬ (((l.length : Int) == 0) = true) := by simpa using c0
      have cn : ¬ (n = 0) := by omega
      rw [if_neg cb]
      by_cases c1 : s < (l.length : Int)
      · have hb := rd_bys hl s
        have hm := tmod_in hb.1 (show 1 ≤ n by omega)
        refine ⟨_, by rw [if_pos c1, if_pos hs, if_neg cn, w64 (rd l s) (by omega)], hm.1, .inl hm.2⟩
      · have hL : 1 ≤ (l.length : Int) := by omega
        have m1 := tmod_in hs hL
        have f1 : wrap64 (s * 7) = s * 7 := w64 _ (by omega)
        have f2 : wrap64 (s * 7 + 3) = s * 7 + 3 := w64 _ (by omega)
        have m2 := tmod_in (show 0 ≤ s * 7 + 3 by omega) hL
        rw [if_neg c1, if_neg c0, if_pos m1.1, if_pos m1.2]
        simp only [f1, f2]
        rw [if_pos m2.1, if_pos m2.2, if_neg cn]
        have r1 := rd_bys hl (Int.tmod s (l.length : Int))
        have r2 := rd_bys hl (Int.tmod (s * 7 + 3) (l.length : Int))
        have d1 := tdiv_in hs hL
        generalize rd l (Int.tmod s (l.length : Int)) = u1 at *
        generalize rd l (Int.tmod (s * 7 + 3) (l.length : Int)) = u2 at *
        generalize Int.tdiv s (l.length : Int) = u3 at *
        have g1 : wrap64 u1 = u1 := w64 _ (by omega)
        have g2 : wrap64 u2 = u2 := w64 _ (by omega)
        have g3 : wrap64 u3 = u3 := w64 _ (by omega)
        have g4 : wrap64 (u1 * 131) = u1 * 131 := w64 _ (by omega)
        have g5 : wrap64 (u2 * 1117) = u2 * 1117 := w64 _ (by omega)
        have g6 : wrap64 (s * 29) = s * 29 := w64 _ (by omega)
        have g7 : wrap64 (u3 * 53) = u3 * 53 := w64 _ (by omega)
        simp only [g1, g2, g3, g4, g5, g6, g7]
        have g8 : wrap64 (u1 * 131 + u2 * 1117) = u1 * 131 + u2 * 1117 := w64 _ (by omega)
        rw [g8]
        have g9 : wrap64 (u1 * 131 + u2 * 1117 + s * 29) = u1 * 131 + u2 * 1117 + s * 29 := w64 _ (by omega)
        rw [g9]
        have g10 : wrap64 (u1 * 131 + u2 * 1117 + s * 29 + u3 * 53) = u1 * 131 + u2 * 1117 + s * 29 + u3 * 53 := w64 _ (by omega)
        rw [g10]
        have hX0 : 0 ≤ u1 * 131 + u2 * 1117 + s * 29 + u3 * 53 := by omega
        have hX1 : u1 * 131 + u2 * 1117 + s * 29 + u3 * 53 < 1000000000 := by omega
        generalize u1 * 131 + u2 * 1117 + s * 29 + u3 * 53 = X at *
        have d2 := tdiv_in hX0 (show (1:Int) ≤ 64 by omega)
        have g11 : wrap64 (Int.tdiv X 64) = Int.tdiv X 64 := w64 _ (by omega)
        rw [g11]
        have hz := i64_xor_nonneg X (Int.tdiv X 64) hX0 (by omega) d2.1 (by omega)
        have hm := tmod_in hz (show 1 ≤ n by omega)
        exact ⟨_, rfl, hm.1, .inl hm.2⟩
theorem odd_f {l : List Int} (hl : Bys l) (s n : Int) (k : Nat) (hs : 0 ≤ s) (hs' : s < 1000000) : ∃ b s', spec_l20Rd_odd.f (k + 1) l s n = some (b, s') ∧ s ≤ s' ∧ s' ≤ s + 1 := by
  unfold spec_l20Rd_odd.f
  by_cases c : n < 9000
  · obtain ⟨v, h, _⟩ := pick_f hl s n k hs hs'
    exact ⟨_, s + 1, by rw [if_pos c, h]; rfl, by omega, by omega⟩
  · exact ⟨_, _, by rw [if_neg c], by omega, by omega⟩
theorem open_f (l : List Int) (hl : Bys l) : ∃ l', spec_l20Open.f l = some (l', 0) ∧ Bys l' := by
  unfold spec_l20Open.f
  by_cases c : (l.length : Int) > 2000
  · exact ⟨l.take 2000, by rw [if_pos c, if_pos (by omega)], fun x h => hl x (List.mem_of_mem_take h)⟩
  · exact ⟨l, by rw [if_neg c], hl⟩
theorem rd_three (a b c i : Int) (h : 0 ≤ i ∧ (i < 3 ∨ i = 0)) : rd ([a, b, c] : List Int) i = a ∨ rd ([a, b, c] : List Int) i = b ∨ rd ([a, b, c] : List Int) i = c := by
  have : i = 0 ∨ i = 1 ∨ i = 2 := by omega
  rcases this with rfl | rfl | rfl
  · exact .inl rfl
  · exact .inr (.inl rfl)
  · exact .inr (.inr rfl)
theorem rd_two (a b i : Int) (h : 0 ≤ i ∧ (i < 2 ∨ i = 0)) : rd ([a, b] : List Int) i = a ∨ rd ([a, b] : List Int) i = b := by
  have : i = 0 ∨ i = 1 := by omega
  rcases this with rfl | rfl
  · exact .inl rfl
  · exact .inr rfl
def Sm (n : Int) : Prop := -10 ≤ n ∧ n ≤ 1200
end Go.Proofs.YtffmbccgcaghjaaGreatDoor.P
namespace Go.Proofs.YtffmbccgcaghjaaGreatDoor.P
open Go.RowKit Go.Proofs.YtffmbccgcaghjaaGreatDoorUFnRwrStream.PrintWords Go.Proofs.YtffmbccgcaghjaaGreatDoorUFnRwrStream.PrintLast Go.Proofs.YtffmbccgcaghjaaGreatDoorUFnRwrStream.PrintMore
set_option linter.unusedVariables false
set_option linter.unusedSimpArgs false
def Ans {α : Type} (f : Nat → Option α) (P : α → Prop) : Prop := ∃ K v, P v ∧ ∀ k, K ≤ k → f k = some v
namespace Ans
variable {α β : Type} {f g : Nat → Option α} {P Q : α → Prop}
theorem of {v : α} (h : ∀ k, f k = some v) (p : P v) : Ans f P := ⟨0, v, p, fun k _ => h k⟩
theorem pure {v : α} (p : P v) : Ans (fun _ => some v) P := ⟨0, v, p, fun k _ => rfl⟩
theorem mono (h : Ans f P) (hq : ∀ v, P v → Q v) : Ans f Q := by obtain ⟨K, v, p, e⟩ := h; exact ⟨K, v, hq v p, e⟩
theorem succ (h : Ans (fun k => f (k + 1)) P) : Ans f P := by
  obtain ⟨K, v, p, e⟩ := h
  refine ⟨K + 1, v, p, fun k hk => ?_⟩
  obtain ⟨k', rfl⟩ : ∃ k', k = k' + 1 := ⟨k - 1, by omega⟩
  exact e k' (by omega)
theorem bind {a : Nat → Option β} {R : β → Prop} {b : Nat → β → Option α} (h : Ans a R) (hb : ∀ v, R v → Ans (fun k => b k v) P) : Ans (fun k => (a k).bind (b k)) P := by
  obtain ⟨K, v, p, e⟩ := h
  obtain ⟨K', u, q, e'⟩ := hb v p
  exact ⟨max K K', u, q, fun k hk => by show (a k).bind (b k) = some u; rw [e k (by omega)]; exact e' k (by omega)⟩
theorem bsome {v : β} {b : Nat → β → Option α} (h : Ans (fun k => b k v) P) : Ans (fun k => (some v).bind (b k)) P := h
theorem congr (h : Ans g P) (e : ∀ k, f k = g k) : Ans f P := by obtain ⟨K, v, p, e'⟩ := h; exact ⟨K, v, p, fun k hk => (e k).trans (e' k hk)⟩
theorem got (h : Ans f P) : ∃ k v, P v ∧ f k = some v := by obtain ⟨K, v, p, e⟩ := h; exact ⟨K, v, p, e K (Nat.le_refl _)⟩
theorem pos {c : Prop} [Decidable c] (h : c) (ht : Ans f P) : Ans (fun k => if c then f k else g k) P := congr ht (fun k => if_pos h)
theorem neg {c : Prop} [Decidable c] (h : ¬ c) (ht : Ans g P) : Ans (fun k => if c then f k else g k) P := congr ht (fun k => if_neg h)
theorem ite {c : Prop} [Decidable c] (ht : c → Ans f P) (he : ¬ c → Ans g P) : Ans (fun k => if c then f k else g k) P := by
  by_cases h : c
  · exact pos h (ht h)
  · exact neg h (he h)
end Ans
def At (n s : Int) : Prop := 0 ≤ s ∧ s ≤ n
theorem pick_a {l : List Int} (hl : Bys l) {s B : Int} (hs : At B s) (hB : B < 900000) (n : Int) : Ans (fun k => spec_l20Rd_pick.f k l s n) (fun r => At (B + 1) r.2 ∧ 0 ≤ r.1 ∧ (r.1 < n ∨ r.1 = 0)) := by
  obtain ⟨h0, h1⟩ := hs
  refine Ans.succ ?_
  obtain ⟨v, h, p⟩ := pick_f hl s n 0 h0 (by omega)
  refine Ans.of (v := (v, s + 1)) (fun k => ?_) ⟨⟨by omega, by first | omega | (dsimp only; omega)⟩, p⟩
  obtain ⟨v', h', _⟩ := pick_f hl s n k h0 (by omega)
  have e : spec_l20Rd_pick.f (k + 1) l s n = spec_l20Rd_pick.f (0 + 1) l s n := by
    unfold spec_l20Rd_pick.f spec_l20Rd_pick.j0
    rfl
  rw [e, h]
theorem odd_a {l : List Int} (hl : Bys l) {s B : Int} (hs : At B s) (hB : B < 900000) (n : Int) : Ans (fun k => spec_l20Rd_odd.f k l s n) (fun r => At (B + 1) r.2) := by
  unfold spec_l20Rd_odd.f
  refine Ans.ite (fun _ => ?_) (fun _ => Ans.pure ⟨hs.1, by have := hs.2; dsimp only; omega⟩)
  refine Ans.bind (pick_a hl hs hB n) ?_
  rintro ⟨v, s'⟩ ⟨h, _⟩
  exact Ans.pure h
theorem at_le {B B' s : Int} (h : At B s) (hb : B ≤ B') : At B' s := ⟨h.1, by have := h.2; omega⟩
theorem sm_rd {xs : List Int} (h : ∀ x ∈ xs, Sm x) (i : Int) : Sm (rd xs i) := by
  unfold rd
  by_cases hi : i.toNat < xs.length
  · have e : xs.getD i.toNat 0 = xs[i.toNat] := by simp [List.getD, hi]
    rw [e]; exact h _ (List.getElem_mem hi)
  · have e : xs.getD i.toNat 0 = 0 := by simp [List.getD, Nat.not_lt.mp hi]
    rw [e]; unfold Sm; omega
end Go.Proofs.YtffmbccgcaghjaaGreatDoor.P
namespace Go.Proofs.YtffmbccgcaghjaaGreatDoor.P
open Go.Proofs.YtffmbccgcaghjaaGreatDoorUFnRwrStream.PrintLast Go.Proofs.YtffmbccgcaghjaaGreatDoorUFnRwrStream.PrintMore Go.Proofs.YtffmbccgcaghjaaGreatDoorUFnRwrStream.PrintWords Go.RowKit
set_option linter.unusedVariables false
set_option linter.unusedSimpArgs false
theorem bys_of {l : List Int} (hw : ∀ x ∈ l, (Lit.int .u8 x).wf = true) : Bys l := fun x hx => by
  have := hw x hx
  simp [Lit.wf, IntKind.min, IntKind.max, IntKind.signed, IntKind.bits] at this
  omega
theorem l1In_f (n lo hi : Int) : spec_l1In.f n lo hi = some (inB n lo hi) := by
  unfold spec_l1In.f inB
  by_cases h : lo ≤ n <;> simp [h]
theorem haOk_f : laws_haOk.f = some true := by
  unfold laws_haOk.f impl_LinOk.f
  rfl
theorem wi (i : Nat) (h : i ≤ 100000000) : wrap64 ((i : Int) + 1) = ((i + 1 : Nat) : Int) := by rw [w64 _ (by omega)]; push_cast; rfl
theorem specEndInside_f (a p : Int) : spec_EndInside.f a p = some (endIn a p) := by
  unfold spec_EndInside.f endIn
  simp only [l1In_f, Option.bind_some]
  cases inB a 1 9 <;> simp
theorem specEndOutside_f (a p : Int) : spec_EndOutside.f a p = some (endOut a p) := by
  unfold spec_EndOutside.f endOut
  simp only [l1In_f, Option.bind_some]
  cases inB a 100 109 <;> simp
theorem fnd_nil (a b : Int) : fnd [] a b = none := rfl
theorem fnd_cons (x : S34) (r : List S34) (a b : Int) : fnd (x :: r) a b = if x.f0 = a ∧ x.f1 = b then some 0 else (fnd r a b).map (· + 1) := by
  unfold fnd
  rw [List.findIdx?_cons]
  by_cases h : x.f0 = a ∧ x.f1 = b
  · simp [h]
  · rw [if_neg h]
    have : (x.f0 == a && x.f1 == b) = false := by
      rw [Bool.eq_false_iff]
      simpa using h
    simp [this]
theorem fnd_lt {l : List S34} {a b : Int} {i : Nat} (h : fnd l a b = some i) : i < l.length ∧ ∀ hi : i < l.length, l[i].f0 = a ∧ l[i].f1 = b := by
  unfold fnd at h
  rw [List.findIdx?_eq_some_iff_getElem] at h
  obtain ⟨h1, h2, _⟩ := h
  exact ⟨h1, fun _ => by simpa using h2⟩
theorem fnd_app (l r : List S34) (a b : Int) : fnd (l ++ r) a b = (match fnd l a b with | some i => some i | none => (fnd r a b).map (· + l.length)) := by
  unfold fnd
  rw [List.findIdx?_append]
  cases l.findIdx? (fun x => x.f0 == a && x.f1 == b) <;> simp
theorem fnd_mem {l : List S34} {x : S34} (h : x ∈ l) : (fnd l x.f0 x.f1).isSome = true := by
  unfold fnd
  rw [List.findIdx?_isSome]
  exact List.any_eq_true.mpr ⟨x, h, by simp⟩
def sign (o : Option Nat) : Int := match o with | none => -1 | some i => (i : Int)
theorem rd29_drop {l : List S34} {i : Nat} (h : i < l.length) : l.drop i = rd_T34 l (i : Int) :: l.drop (i + 1) := by
  rw [rd29_get h]
  exact List.drop_eq_getElem_cons h
theorem rd29_take {l : List S34} {i : Nat} (h : i < l.length) : l.take (i + 1) = l.take i ++ [rd_T34 l (i : Int)] := by
  rw [rd29_get h]
  exact List.take_succ_eq_append_getElem h
theorem l3Find_a (l : List S34) (hl : l.length ≤ 2000000) (a b : Int) : Ans (fun k => spec_l3Find.f k l a b) (fun r => r = sign (fnd l a b)) := by
  have L : ∀ (m i : Nat), i + m = l.length → fnd (l.take i) a b = none → Ans (fun k => spec_l3Find.l0 k (i : Int) l a b) (fun r => r = sign (fnd l a b)) := by
    intro m
    induction m with
    | zero =>
      intro i hi hn
      refine Ans.succ ?_
      unfold spec_l3Find.l0
      rw [List.take_of_length_le (by omega)] at hn
      exact Ans.neg (by omega) (Ans.pure (by rw [hn]; rfl))
    | succ m ih =>
      intro i hi hn
      refine Ans.succ ?_
      unfold spec_l3Find.l0
      refine Ans.pos (by omega) (Ans.pos (by omega) ?_)
      have ht : fnd (l.take (i + 1)) a b = if (rd_T34 l (i : Int)).f0 = a ∧ (rd_T34 l (i : Int)).f1 = b then some i else none := by
        rw [rd29_take (by omega : i < l.length), fnd_app, hn, fnd_cons]
        have : (l.take i).length = i := by rw [List.length_take]; omega
        dsimp only
        by_cases hc : (rd_T34 l (i : Int)).f0 = a ∧ (rd_T34 l (i : Int)).f1 = b <;> simp [hc, this, fnd_nil]
      refine Ans.ite (fun c => Ans.pure ?_) (fun c => ?_)
      · have c' : (rd_T34 l (i : Int)).f0 = a ∧ (rd_T34 l (i : Int)).f1 = b := by simpa using c
        rw [if_pos c'] at ht
        have := List.take_append_drop (i + 1) l
        rw [← this, fnd_app, ht]
        rfl
      · have c' : ¬ ((rd_T34 l (i : Int)).f0 = a ∧ (rd_T34 l (i : Int)).f1 = b) := by simpa using c
        rw [if_neg c'] at ht
        rw [wi i (by omega)]
        exact ih (i + 1) (by omega) ht
  exact L l.length 0 (by omega) rfl
theorem contains_a (l : List S34) (hl : l.length ≤ 2000000) (a b : Int) : Ans (fun k => impl_EndPoint_53.f k l a b) (fun r => r = (fnd l a b).isSome) := by
  unfold impl_EndPoint_53.f impl_EndPoint_86.f
  have L : ∀ (m i : Nat), i + m = l.length → fnd (l.take i) a b = none → Ans (fun k => impl_EndPoint_86.l0 k l (l.length : Int) (i : Int) a b) (fun r => r = sign (fnd l a b)) := by
    intro m
    induction m with
    | zero =>
      intro i hi hn
      refine Ans.succ ?_
      unfold impl_EndPoint_86.l0
      rw [List.take_of_length_le (by omega)] at hn
      exact Ans.neg (by omega) (Ans.pure (by rw [hn]; rfl))
    | succ m ih =>
      intro i hi hn
      refine Ans.succ ?_
      unfold impl_EndPoint_86.l0
      refine Ans.pos (by omega) (Ans.pos (by omega) (Ans.pos (by omega) ?_))
      have ht : fnd (l.take (i + 1)) a b = if (rd_T34 l (i : Int)).f0 = a ∧ (rd_T34 l (i : Int)).f1 = b then some i else none := by
        rw [rd29_take (by omega : i < l.length), fnd_app, hn, fnd_cons]
        have : (l.take i).length = i := by rw [List.length_take]; omega
        dsimp only
        by_cases hc : (rd_T34 l (i : Int)).f0 = a ∧ (rd_T34 l (i : Int)).f1 = b <;> simp [hc, this, fnd_nil]
      refine Ans.ite (fun c => Ans.pure ?_) (fun c => ?_)
      · have c' : (rd_T34 l (i : Int)).f0 = a ∧ (rd_T34 l (i : Int)).f1 = b := by
          simp only [Bool.and_eq_true, beq_iff_eq] at c
          exact ⟨c.1.symm, c.2.symm⟩
        rw [if_pos c'] at ht
        have := List.take_append_drop (i + 1) l
        rw [← this, fnd_app, ht]
        rfl
      · have c' : ¬ ((rd_T34 l (i : Int)).f0 = a ∧ (rd_T34 l (i : Int)).f1 = b) := by
          rintro ⟨h1, h2⟩
          exact c (by rw [h1, h2]; simp)
        rw [if_neg c'] at ht
        rw [wi i (by omega)]
        exact ih (i + 1) (by omega) ht
  refine Ans.bind (L l.length 0 (by omega) rfl) ?_
  rintro _ rfl
  refine Ans.pure ?_
  cases fnd l a b with
  | none => rfl
  | some i => simp [sign]
def goodFrom (l : List S34) (i : Nat) : Bool := (List.range' i (l.length - i)).all fun j => endIn (rd_T34 l (j : Int)).f0 (rd_T34 l (j : Int)).f1 && !(fnd (l.take j) (rd_T34 l (j : Int)).f0 (rd_T34 l (j : Int)).f1).isSome
def okT (l : List S34) : Bool := decide ((l.length : Int) ≤ 6) && goodFrom l 0
theorem good_end {l : List S34} {i : Nat} (h : l.length ≤ i) : goodFrom l i = true := by
  unfold goodFrom
  rw [Nat.sub_eq_zero_of_le h]
  rfl
theorem good_step {l : List S34} {i : Nat} (h : i < l.length) : goodFrom l i = (endIn (rd_T34 l (i : Int)).f0 (rd_T34 l (i : Int)).f1 && !(fnd (l.take i) (rd_T34 l (i : Int)).f0 (rd_T34 l (i : Int)).f1).isSome && goodFrom l (i + 1)) := by
  unfold goodFrom
  obtain ⟨d, hd⟩ : ∃ d, l.length - i = d + 1 := ⟨l.length - i - 1, by omega⟩
  have hd' : l.length - (i + 1) = d := by omega
  rw [hd, hd', List.range'_succ, List.all_cons]
theorem specMapOk_a (l : List S34) (hl : l.length ≤ 2000000) : Ans (fun k => spec_MapOk.f k l) (fun r => r = okT l) := by
  unfold spec_MapOk.f okT
  refine Ans.ite (fun c => Ans.pure ?_) (fun c => ?_)
  · have : ¬ ((l.length : Int) ≤ 6) := by omega
    simp [this]
  · have e : decide ((l.length : Int) ≤ 6) = true := by simp; omega
    rw [e]
    have L : ∀ (m i : Nat), i + m = l.length → Ans (fun k => spec_MapOk.l0 k (i : Int) l) (fun r => r = goodFrom l i) := by
      intro m
      induction m with
      | zero =>
        intro i hi
        refine Ans.succ ?_
        unfold spec_MapOk.l0
        exact Ans.neg (by omega) (Ans.pure (good_end (by omega)).symm)
      | succ m ih =>
        intro i hi
        refine Ans.succ ?_
        unfold spec_MapOk.l0
        refine Ans.pos (by omega) (Ans.pos (by omega) ?_)
        rw [good_step (by omega : i < l.length)]
        simp only [specEndInside_f, Option.bind_some]
        have e1 : ((i : Int)).toNat = i := by omega
        cases h1 : endIn (rd_T34 l (i : Int)).f0 (rd_T34 l (i : Int)).f1
        · exact Ans.neg (by simp) (Ans.pure (by simp))
        refine Ans.pos rfl (Ans.pos (by omega) ?_)
        rw [e1, wi i (by omega)]
        refine Ans.bind (l3Find_a (l.take i) (by rw [List.length_take]; omega) _ _) ?_
        rintro _ rfl
        cases hf : fnd (l.take i) (rd_T34 l (i : Int)).f0 (rd_T34 l (i : Int)).f1 with
        | none =>
          refine Ans.neg (by simp [sign]) ?_
          simpa using ih (i + 1) (by omega)
        | some j => exact Ans.pos (by simp [sign]) (Ans.pure (by simp))
    simpa using L l.length 0 (by omega)
theorem implMapOk_a (l : List S34) (hl : l.length ≤ 2000000) : Ans (fun k => impl_MapOk.f k l) (fun r => r = okT l) := by
  unfold impl_MapOk.f
  have L : ∀ (m i : Nat), i + m = l.length → Ans (fun k => impl_MapOk.l0 k l (l.length : Int) (i : Int) l) (fun r => r = (decide ((l.length : Int) ≤ 6) && goodFrom l i)) := by
    intro m
    induction m with
    | zero =>
      intro i hi
      refine Ans.succ ?_
      unfold impl_MapOk.l0
      exact Ans.neg (by omega) (Ans.pure (by rw [good_end (by omega)]; simp))
    | succ m ih =>
      intro i hi
      refine Ans.succ ?_
      unfold impl_MapOk.l0
      refine Ans.pos (by omega) (Ans.pos (by omega) (Ans.pos (by omega) ?_))
      rw [good_step (by omega : i < l.length)]
      simp only [EndInside_f, Option.bind_some]
      have e1 : ((i : Int)).toNat = i := by omega
      cases h1 : endIn (rd_T34 l (i : Int)).f0 (rd_T34 l (i : Int)).f1
      · exact Ans.neg (by simp) (Ans.pure (by simp))
      refine Ans.pos rfl (Ans.pos (by omega) ?_)
      rw [e1, wi i (by omega)]
      refine Ans.bind (contains_a (l.take i) (by rw [List.length_take]; omega) _ _) ?_
      rintro _ rfl
      cases hf : fnd (l.take i) (rd_T34 l (i : Int)).f0 (rd_T34 l (i : Int)).f1 with
      | none =>
        refine Ans.neg (by simp) ?_
        simpa using ih (i + 1) (by omega)
      | some j => exact Ans.pos (by simp) (Ans.pure (by simp))
  exact L l.length 0 (by omega)
def putV (l : List S34) (a b : Int) : List S34 × Int := if portV l a b ≠ 0 then (l, portV l a b) else if l.length = 6 then (l, 0) else (l ++ [⟨a, b⟩], 500 + l.length)
def tabPut (l : List S34) (a b : Int) : List S34 × Int := if okT l && endIn a b then putV l a b else ([], 0)
theorem portV_sign (l : List S34) (a b : Int) : portV l a b = if sign (fnd l a b) < 0 then 0 else 500 + sign (fnd l a b) := by
  unfold portV sign
  cases fnd l a b with
  | none => simp
  | some i =>
    have : ¬ ((i : Int) < 0) := by omega
    simp [this]
theorem sign_lt {l : List S34} (hl : l.length ≤ 2000000) (a b : Int) : -1 ≤ sign (fnd l a b) ∧ sign (fnd l a b) < 2000000 := by
  cases h : fnd l a b with
  | none => simp [sign]
  | some i => have := (fnd_lt h).1; simp only [sign]; omega
theorem portV_range {l : List S34} (hl : l.length ≤ 2000000) (a b : Int) : portV l a b = 0 ∨ (500 ≤ portV l a b ∧ portV l a b < 500 + l.length) := by
  unfold portV
  cases h : fnd l a b with
  | none => exact .inl rfl
  | some i => have := (fnd_lt h).1; dsimp only; omega
theorem specMapPort_a (l : List S34) (hl : l.length ≤ 2000000) (a b : Int) : Ans (fun k => spec_MapPort.f k l a b) (fun r => r = portV l a b) := by
  unfold spec_MapPort.f
  refine Ans.bind (l3Find_a l hl a b) ?_
  rintro _ rfl
  have hs := sign_lt hl a b
  rw [portV_sign]
  refine Ans.ite (fun c => Ans.pure (by rw [if_pos c])) (fun c => Ans.pure ?_)
  rw [if_neg c, w64 _ (by omega)]
theorem okT_le {l : List S34} (h : okT l = true) : l.length ≤ 6 := by
  simp only [okT, Bool.and_eq_true, decide_eq_true_eq] at h
  omega
theorem good_all {l : List S34} (h : goodFrom l 0 = true) : ∀ x ∈ l, endIn x.f0 x.f1 = true := by
  intro x hx
  obtain ⟨j, hj, rfl⟩ := List.getElem_of_mem hx
  unfold goodFrom at h
  have := List.all_eq_true.mp h j (by simp [List.mem_range']; omega)
  rw [rd29_get hj] at this
  simp only [Bool.and_eq_true] at this
  exact this.1
theorem okT_all {l : List S34} (h : okT l = true) : ∀ x ∈ l, endIn x.f0 x.f1 = true := by
  simp only [okT, Bool.and_eq_true] at h
  exact good_all h.2
theorem endIn_wf {a b : Int} (h : endIn a b = true) : wfB a = true ∧ wfB b = true := by
  simp only [endIn, inB, Bool.and_eq_true, decide_eq_true_eq] at h
  unfold wfB
  exact ⟨(i64_iff a).mpr (by omega), (i64_iff b).mpr (by omega)⟩
theorem all_wf {l : List S34} (h : ∀ x ∈ l, endIn x.f0 x.f1 = true) : l.all wfE = true := by
  rw [List.all_eq_true]
  intro x hx
  have := endIn_wf (h x hx)
  simp [wfE, this.1, this.2]
theorem implMapPort_f {l : List S34} (hl : l.length ≤ 1000) (h : ∀ x ∈ l, endIn x.f0 x.f1 = true) {a b : Int} (he : endIn a b = true) : impl_MapPort.f l a b = some (portV l a b) := by
  unfold impl_MapPort.f
  have := endIn_wf he
  rw [if_pos ⟨by omega, all_wf h, this.1, this.2⟩]
theorem l3Put_a (l : List S34) (hl : l.length ≤ 2000000) (a b : Int) : Ans (fun k => spec_l3Put.f k l a b) (fun r => r = putV l a b) := by
  unfold spec_l3Put.f
  refine Ans.bind (specMapPort_a l hl a b) ?_
  rintro _ rfl
  have hr := portV_range hl a b
  refine Ans.ite (fun c1 => Ans.pure ?_) (fun c1 => ?_)
  · have v0 : putV l a b = (l, portV l a b) := by unfold putV; rw [if_pos (by omega)]
    rw [v0]
  · have e0 : portV l a b = 0 := by omega
    refine Ans.ite (fun c2 => Ans.pure ?_) (fun c2 => ?_)
    · have v0 : putV l a b = (l, 0) := by unfold putV; rw [if_neg (by simp [e0]), if_pos (by omega)]
      rw [v0]
    · have v0 : putV l a b = (l ++ [⟨a, b⟩], (500 + l.length : Int)) := by unfold putV; rw [if_neg (by simp [e0]), if_neg (by omega)]
      rw [v0]
      refine Ans.bsome (Ans.pos (by simp; omega) (Ans.bsome (Ans.bsome (Ans.pos (by simp; omega) (Ans.bsome (Ans.pure ?_))))))
      have e1 : (([] ++ l ++ [⟨a, b⟩] : List S34).length : Int) = l.length + 1 := by simp
      rw [e1, w64 (500 + ((l.length : Int) + 1)) (by omega), w64 _ (by omega)]
      simp
      omega
theorem implPut_f {l : List S34} (c : okT l = true) {a b : Int} (he : endIn a b = true) : impl_MapTab_put.f l a b = some (putV l a b) := by
  have hl6 := okT_le c
  have hr := portV_range (l := l) (by omega) a b
  unfold impl_MapTab_put.f impl_MapTab_copied.f impl_EndPoint_106.f impl_EndPoint_105.f
  rw [if_pos (by omega), Option.bind_some, Option.bind_some, Option.bind_some, implMapPort_f (by omega) (okT_all c) he, Option.bind_some]
  unfold putV
  by_cases c1 : portV l a b = 0
  · by_cases c2 : (l.length : Int) ≥ 6
    · have c2' : l.length = 6 := by omega
      simp [c1, c2']
    · have c2' : ¬ l.length = 6 := by omega
      have c3 : l.length < 8796093022208 := by omega
      have c4 : ¬ (6 ≤ l.length) := by omega
      have e : wrap64 (500 + (l.length : Int)) = 500 + l.length := w64 _ (by omega)
      simp [c1, c2', c3, c4, e]
      omega
  · simp [c1]
theorem in_a {l : List Int} (hl : Bys l) {s B : Int} (hs : At B s) (hB : B < 800000) : Ans (fun k => spec_l20In.f k l s) (fun r => At (B + 3) r.2.2 ∧ Sm r.1 ∧ Sm r.2.1) := by
  unfold spec_l20In.f
  refine Ans.bind (pick_a hl hs (by omega) 4) ?_
  rintro ⟨v1, s1⟩ ⟨h1, p1⟩
  refine Ans.bind (pick_a hl h1 (by omega) 40) ?_
  rintro ⟨v2, s2⟩ ⟨h2, p2⟩
  dsimp only at *
  simp only [Option.bind_some]
  refine Ans.bind (pick_a hl h2 (by omega) 5) ?_
  rintro ⟨v3, s3⟩ ⟨h3, p3⟩
  dsimp only at *
  refine Ans.pos p3.1 (Ans.pos (by simp; omega) (Ans.pure ⟨at_le h3 (by omega), ?_, sm_rd ?_ _⟩))
  · rw [w64 _ (by omega)]; unfold Sm; omega
  · intro x hx
    have e : wrap64 (1 + v2) = 1 + v2 := w64 _ (by omega)
    rw [e] at hx
    simp at hx
    unfold Sm
    omega
theorem out_a {l : List Int} (hl : Bys l) {s B : Int} (hs : At B s) (hB : B < 800000) : Ans (fun k => spec_l20Out.f k l s) (fun r => At (B + 2) r.2.2 ∧ Sm r.1 ∧ Sm r.2.1) := by
  unfold spec_l20Out.f
  refine Ans.bind (pick_a hl hs (by omega) 3) ?_
  rintro ⟨v1, s1⟩ ⟨h1, p1⟩
  simp only [Option.bind_some]
  dsimp only at *
  refine Ans.bind (pick_a hl h1 (by omega) 4) ?_
  rintro ⟨v3, s3⟩ ⟨h3, p3⟩
  dsimp only at *
  refine Ans.pos p3.1 (Ans.pos (by simp; omega) (Ans.pure ⟨at_le h3 (by omega), ?_, sm_rd ?_ _⟩))
  · rw [w64 _ (by omega)]; unfold Sm; omega
  · intro x hx
    simp at hx
    unfold Sm
    omega
theorem sm_rd29 {xs : List S34} (h : ∀ x ∈ xs, Sm x.f0 ∧ Sm x.f1) (i : Int) : Sm (rd_T34 xs i).f0 ∧ Sm (rd_T34 xs i).f1 := by
  unfold rd_T34
  by_cases hi : i.toNat < xs.length
  · have e : xs.getD i.toNat z34 = xs[i.toNat] := by simp [List.getD, hi]
    rw [e]; exact h _ (List.getElem_mem hi)
  · have e : xs.getD i.toNat z34 = z34 := by simp [List.getD, Nat.not_lt.mp hi]
    rw [e]; unfold Sm z34; exact ⟨by decide, by decide⟩
section
attribute [local go_sem] max2_int min2_int max_two min_two max_three min_three max_four min_four
def laws_haFirst.f (k : Nat) (l0 : List (S34)) (l1 : List (S34)) : Option (Bool) := if (l0.length : Int) ≥ (l1.length : Int) then (if 0 ≤ (l1.length : Int) then (if (l1.length : Int) ≤ (l0.length : Int) then ((laws_haEnds.f k (l0.take ((l1.length : Int) : Int).toNat) l1).bind fun t464 => (some t464)) else (none)) else (none)) else (some false)
theorem laws_haFirst.mono : ∀ a0 a1 k, LeO (laws_haFirst.f k a0 a1) (laws_haFirst.f (k + 1) a0 a1) := by
 intro a0 a1 k
 unfold laws_haFirst.f
 repeat' first | (with_reducible first | exact laws_haEnds.mono _ _ _ | exact LeO.refl _ | exact LeO.none _ | refine LeO.ite ?_ ?_ | refine LeO.bind ?_ (fun _ => ?_)) | exact laws_haEnds.mono _ _ _ | exact LeO.none _ | refine LeO.ite ?_ ?_ | refine LeO.bind ?_ (fun _ => ?_)
set_option maxHeartbeats 8000000 in
set_option maxRecDepth 100000 in
theorem laws_haFirst.calls (k : Nat) (A0 : Option Addr) (c0 : Nat) (l0 : List (S34)) (A1 : Option Addr) (c1 : Nat) (l1 : List (S34)) (r : Bool) (w : World) (hr0 : Kd.C k34 w A0 l0.length l0) (hc0 : l0.length ≤ c0) (hr1 : Kd.C k34 w A1 l1.length l1) (hc1 : l1.length ≤ c1) (h : laws_haFirst.f k l0 l1 = some r) :
  Calls Tryz.prog 21 #[.slice A0 l0.length c0, .slice A1 l1.length c1] w fun e w' => e = .returned (.bool r) ∧ Drawn0 w w' := by
 have HR0 := am hr0
 have HC0 := am hc0
 clear hr0 hc0
 have HR1 := am hr1
 have HC1 := am hc1
 clear hr1 hc1
 have H : (if (l0.length : Int) ≥ (l1.length : Int) then (if 0 ≤ (l1.length : Int) then (if (l1.length : Int) ≤ (l0.length : Int) then ((laws_haEnds.f k (l0.take ((l1.length : Int) : Int).toNat) l1).bind fun t464 => (some t464)) else (none)) else (none)) else (some false)) = some r := h
 clear h
 by_cases c3 : (l0.length : Int) ≥ (l1.length : Int)
 ·rw [if_pos c3] at H
  have c3b0 : decide ((l1.length : Int) ≤ (l0.length : Int)) = true := decide_eq_true c3
  have c3b1 : decide (l1.length ≤ l0.length) = true := decide_eq_true (Int.ofNat_le.mp c3)
  clear c3
  by_cases c4 : 0 ≤ (l1.length : Int)
  ·rw [if_pos c4] at H
   have c4b0 := eq_true c4
   have c4b1 : decide (0 ≤ (l1.length : Int)) = true := decide_eq_true c4
   clear c4
   by_cases c5 : (l1.length : Int) ≤ (l0.length : Int)
   ·rw [if_pos c5] at H
    have c5b0 := eq_true c5
    have c5b1 : decide ((l1.length : Int) ≤ (l0.length : Int)) = true := decide_eq_true c5
    clear c5
    obtain ⟨y460, hy460⟩ : ∃ y_ : List (S34), y_ = (l0.take ((l1.length : Int) : Int).toNat) := ⟨_, rfl⟩
    replace H : ((laws_haEnds.f k y460 l1).bind fun t464 => (some t464)) = some r := by first | (rw [hy460]; with_reducible exact H) | (have H2_ := (Option.bind_some _ _).symm.trans H; rw [hy460]; with_reducible exact H2_) | (have H2_ := (Option.bind_some _ _).symm.trans H; with_reducible exact H2_) | with_reducible exact H | (rw [hy460]; exact H) | exact H
    have Ny460 := am hy460
    clear hy460
    obtain ⟨t464, A6, H⟩ := bse H
    try dsimp only at H
    obtain rfl := Option.some.inj H
    have q7 : ((l1.length : Int) : Int) ≤ ((l0.length : Int) : Int) := of_decide_eq_true da_
    obtain ⟨i07, hi07, _, hsz7, _⟩ := info_parts info34
    have hroom7 : l0.length ≤ c0 := HC0.out
    have hC7 : Kd.C k34 _ A0 l0.length l0 := HR0.out
    have hcut7 := cut_to (P := Tryz.prog) 23 34 .i64 Tryz.underlying23 hi07 A0 l0.length c0 (l1.length : Int) (of_decide_eq_true da_) q7 hroom7
    have hr7 := Kd.C_take (m := ((l1.length : Int) : Int).toNat) hC7 (by omega)
    have hy7 : y460.length = ((l1.length : Int) : Int).toNat := (by rw [Ny460.out, List.length_take]; omega)
    rw [← Ny460.out] at hr7
    rw [← hy7] at hcut7
    have HR463 := am hr7
    have HC463 := am (show y460.length ≤ c0 from by omega)
    clear hr7 hC7 hroom7 hi07 hsz7
    have KY7 := am hy7
    clear hy7
    replace q7 := eq_true q7
    go_enter Tryz.func21, Tryz.ntmps21
    go_wp2_with (first | (go_at_call 15; (with_reducible refine (laws_haEnds.calls k _ _ y460 _ _ l1 t464 _ ?side1 ?side2 ?side3 ?side4 A6.out).mono ?_); (case side1 => exact m12_); (case side2 => exact HC463.out); (case side3 => exact m13_); (case side4 => exact HC1.out); rintro e w' ⟨rfl, ⟨nd, rfl⟩⟩))
    go_ret
    exact ⟨by first | rfl | (simp; done) | (simp [*]; done), by repeat (first | exact Drawn0.refl _ | apply Drawn0.step)⟩
   ·rw [if_neg c5] at H
    exact absurd H (by simp)
  ·rw [if_neg c4] at H
   exact absurd H (by simp)
 ·rw [if_neg c3] at H
  have c3b0 : decide ((l1.length : Int) ≤ (l0.length : Int)) = false := decide_eq_false c3
  have c3b1 : decide (l1.length ≤ l0.length) = false := decide_eq_false (fun h => c3 (Int.ofNat_le.mpr h))
  clear c3
  obtain rfl := Option.some.inj H
  go_enter Tryz.func21, Tryz.ntmps21
  go_wp2
  go_ret
  exact ⟨by first | rfl | (simp; done) | (simp [*]; done), by repeat (first | exact Drawn0.refl _ | apply Drawn0.step)⟩
end
theorem specMapPut_a (l : List S34) (hl : l.length ≤ 2000000) (a b : Int) : Ans (fun k => spec_MapPut.f k l a b) (fun r => r = tabPut l a b) := by
  unfold spec_MapPut.f tabPut
  refine Ans.bind (specMapOk_a l hl) ?_
  rintro _ rfl
  simp only [specEndInside_f, Option.bind_some]
  have J0 : Ans (fun k => spec_MapPut.j0 k true l a b) (fun r => r = ([], 0)) := by
    refine Ans.succ ?_
    unfold spec_MapPut.j0
    exact Ans.pos rfl (Ans.pure rfl)
  refine Ans.ite (fun c => ?_) (fun c => by simpa [c] using J0)
  rw [c]
  cases he : endIn a b
  · simpa using J0
  have hl6 := okT_le c
  refine Ans.succ ?_
  unfold spec_MapPut.j0
  refine Ans.neg (by simp) ?_
  have hc : spec_l3Copy.f l = some l := by
    unfold spec_l3Copy.f
    rw [Option.bind_some, if_pos (by simp; omega)]
    rfl
  rw [hc]
  refine Ans.bsome ?_
  refine Ans.bind (R := fun r => r = putV l a b) ?_ (fun v hv => by subst hv; exact Ans.pure (by simp))
  exact l3Put_a l hl a b
instance decS29 : DecidableEq S34 := fun a b => decidable_of_iff (a.f0 = b.f0 ∧ a.f1 = b.f1) (by cases a; cases b; simp)
theorem haEnds_a (l r : List S34) (hl : l.length ≤ 2000000) : Ans (fun k => laws_haEnds.f k l r) (fun v => v = decide (l = r)) := by
  unfold laws_haEnds.f
  refine Ans.ite (fun c => ?_) (fun c => Ans.pure ?_)
  · have L : ∀ (m i : Nat), i + m = l.length → l.take i = r.take i → Ans (fun k => laws_haEnds.l0 k l r (i : Int)) (fun v => v = decide (l = r)) := by
      intro m
      induction m with
      | zero =>
        intro i hi ht
        refine Ans.succ ?_
        unfold laws_haEnds.l0
        rw [List.take_of_length_le (by omega), List.take_of_length_le (by omega)] at ht
        exact Ans.neg (by omega) (Ans.pure (by simp [ht]))
      | succ m ih =>
        intro i hi ht
        refine Ans.succ ?_
        unfold laws_haEnds.l0
        refine Ans.pos (by omega) (Ans.pos (by omega) (Ans.pos (by omega) ?_))
        rw [wi i (by omega)]
        refine Ans.ite (fun h => Ans.pure ?_) (fun h => ?_)
        · have : ¬ (l = r) := by
            rintro rfl
            simp at h
          simp [this]
        · refine ih (i + 1) (by omega) ?_
          rw [rd29_take (by omega : i < l.length), rd29_take (by omega : i < r.length), ht]
          have : rd_T34 l (i : Int) = rd_T34 r (i : Int) := by
            simp at h
            cases h1 : rd_T34 l (i : Int)
            cases h2 : rd_T34 r (i : Int)
            rw [h1, h2] at h
            simp at h
            simp [h.1, h.2]
          rw [this]
    exact L l.length 0 (by omega) rfl
  · have : ¬ (l = r) := by
      rintro rfl
      exact c rfl
    simp [this]
theorem haFirst_a (l r : List S34) (hl : l.length ≤ 2000000) (h : ∃ t, l = r ++ t) : Ans (fun k => laws_haFirst.f k l r) (fun v => v = true) := by
  obtain ⟨t, rfl⟩ := h
  unfold laws_haFirst.f
  refine Ans.pos (by simp; omega) (Ans.pos (by omega) (Ans.pos (by simp; omega) ?_))
  have e : (((r.length : Int)) : Int).toNat = r.length := by omega
  rw [e, List.take_left]
  refine Ans.bind (haEnds_a r r (by simp at hl; omega)) ?_
  rintro _ rfl
  exact Ans.pure (by simp)
theorem tabPut_len (l : List S34) (a b : Int) : (tabPut l a b).1.length ≤ l.length + 1 := by
  unfold tabPut putV
  split
  · split
    · simp
    · split <;> simp
  · simp
theorem table_a {l : List Int} (hl : Bys l) {s B : Int} (hs : At B s) (hB : B < 500000) (n : Int) : Ans (fun k => spec_l20Table.f k l s n) (fun r => At (B + 200) r.2 ∧ r.1.length ≤ 20) := by
  have L1 : ∀ (m : Nat) (x : List S34) (s B : Int), At B s → x.length + m = 20 → Ans (fun k => spec_l20Table.l1 k l s x) (fun r => At B r.2 ∧ r.1.length ≤ 20) := by
    intro m
    induction m with
    | zero =>
      intro x s B hs hm
      refine Ans.succ ?_
      unfold spec_l20Table.l1
      exact Ans.neg (by omega) (Ans.pure ⟨hs, by dsimp only; omega⟩)
    | succ m ih =>
      intro x s B hs hm
      refine Ans.succ ?_
      unfold spec_l20Table.l1
      refine Ans.ite (fun c => Ans.pos (by omega) (ih _ s B hs (by simp; omega))) (fun c => Ans.pure ⟨hs, by dsimp only; omega⟩)
  have L0 : ∀ (m : Nat) (x : List S34) (x6 s B : Int), At B s → B + 3 * (m : Int) < 600000 → x.length + m ≤ 10 → x6 ≤ m → m ≤ 10 → Ans (fun k => spec_l20Table.l0 k n x6 l s x) (fun r => At (B + 3 * m + 10) r.2 ∧ r.1.length ≤ 20) := by
    intro m
    have J : ∀ (x : List S34) (s B : Int), At B s → B < 700000 → x.length ≤ 10 → Ans (fun k => (spec_l20Rd_odd.f k l s n).bind fun bt566 => (if bt566.1 = true then ((spec_l20Rd_pick.f k l bt566.2 3).bind fun bt568 => (if bt568.1 = 0 then ((spec_l20Out.f k l bt568.2).bind fun bt570 => (if x.length < 8796093022208 then (some ((x ++ [(⟨bt570.1, bt570.2.1⟩ : S34)]), bt570.2.2)) else (none))) else (if bt568.1 = 1 then (if x.length < 8796093022208 then ((some (x ++ [(⟨9, 9⟩ : S34)] : List (S34))).bind fun y576 => (if y576.length < 8796093022208 then (some ((y576 ++ [(⟨9, 9⟩ : S34)]), bt568.2)) else (none))) else (none)) else (spec_l20Table.l1 k l bt568.2 x)))) else (some (x, bt566.2)))) (fun r => At (B + 10) r.2 ∧ r.1.length ≤ 20) := by
      intro x s B hs hB hx
      refine Ans.bind (odd_a hl hs (by omega) n) ?_
      rintro ⟨b, s1⟩ h1
      dsimp only at *
      refine Ans.ite (fun _ => ?_) (fun _ => Ans.pure ⟨at_le h1 (by omega), by dsimp only; omega⟩)
      refine Ans.bind (pick_a hl h1 (by omega) 3) ?_
      rintro ⟨v2, s2⟩ ⟨h2, p2⟩
      dsimp only at *
      refine Ans.ite (fun _ => ?_) (fun _ => Ans.ite (fun _ => ?_) (fun _ => ?_))
      · refine Ans.bind (out_a hl h2 (by omega)) ?_
        rintro ⟨a1, a2, s3⟩ ⟨h3, _⟩
        dsimp only at *
        exact Ans.pos (by omega) (Ans.pure ⟨at_le h3 (by omega), by simp; omega⟩)
      · exact Ans.pos (by omega) (Ans.bsome (Ans.pos (by simp; omega) (Ans.pure ⟨at_le h2 (by omega), by simp; omega⟩)))
      · refine (L1 (20 - x.length) x s2 _ h2 (by omega)).mono ?_
        rintro r ⟨a, b⟩
        exact ⟨at_le a (by omega), b⟩
    induction m with
    | zero =>
      intro x x6 s B hs hB hm hx hq
      refine Ans.succ ?_
      unfold spec_l20Table.l0
      refine Ans.neg (by omega) ((J x s B hs (by omega) (by omega)).mono ?_)
      rintro r ⟨a, b⟩
      exact ⟨at_le a (by omega), b⟩
    | succ m ih =>
      intro x x6 s B hs hB hm hx hq
      refine Ans.succ ?_
      unfold spec_l20Table.l0
      refine Ans.ite (fun c => ?_) (fun c => ?_)
      · refine Ans.bind (in_a hl hs (by omega)) ?_
        rintro ⟨a1, a2, s1⟩ ⟨h1, _⟩
        dsimp only at *
        refine Ans.bind (specMapPut_a x (by omega) a1 a2) ?_
        rintro _ rfl
        have hp := tabPut_len x a1 a2
        have e : wrap64 (x6 - 1) = x6 - 1 := w64 _ (by omega)
        rw [e]
        refine (ih _ _ s1 _ h1 (by omega) (by omega) (by omega) (by omega)).mono ?_
        rintro r ⟨a, b⟩
        exact ⟨at_le a (by push_cast; omega), b⟩
      · refine (J x s B hs (by omega) (by omega)).mono ?_
        rintro r ⟨a, b⟩
        exact ⟨at_le a (by omega), b⟩
  unfold spec_l20Table.f
  refine Ans.bind (pick_a hl hs (by omega) 8) ?_
  rintro ⟨v1, s1⟩ ⟨h1, p1⟩
  dsimp only at *
  refine (L0 10 [] v1 s1 _ h1 (by omega) (by simp) (by omega) (by omega)).mono ?_
  rintro r ⟨a, b⟩
  exact ⟨at_le a (by omega), b⟩
theorem fnd_some {l : List S34} {a b : Int} (h : portV l a b ≠ 0) : ∃ i, fnd l a b = some i ∧ portV l a b = 500 + i := by
  unfold portV at *
  cases hf : fnd l a b with
  | none => rw [hf] at h; simp at h
  | some i => exact ⟨i, rfl, rfl⟩
theorem fnd_none {l : List S34} {a b : Int} (h : portV l a b = 0) : fnd l a b = none := by
  unfold portV at h
  cases hf : fnd l a b with
  | none => rfl
  | some i => rw [hf] at h; simp at h; omega
theorem ok_snoc {l : List S34} {a b : Int} (h : okT l = true) (hl : l.length < 6) (he : endIn a b = true) (hn : fnd l a b = none) : okT (l ++ [⟨a, b⟩]) = true := by
  unfold okT at *
  simp only [Bool.and_eq_true, decide_eq_true_eq] at *
  refine ⟨by simp; omega, ?_⟩
  unfold goodFrom
  rw [List.all_eq_true]
  intro j hj
  simp [List.mem_range'] at hj
  by_cases hjl : j < l.length
  · have h2 := h.2
    unfold goodFrom at h2
    have := List.all_eq_true.mp h2 j (by simp [List.mem_range']; omega)
    have e1 : rd_T34 (l ++ [⟨a, b⟩]) (j : Int) = rd_T34 l (j : Int) := by
      rw [rd29_get (by simp; omega), rd29_get hjl, List.getElem_append_left]
    have e2 : List.take j (l ++ [(⟨a, b⟩ : S34)]) = l.take j := by rw [List.take_append_of_le_length (by omega)]
    rw [e1, e2]
    exact this
  · have hjj : j = l.length := by omega
    subst hjj
    have e1 : rd_T34 (l ++ [⟨a, b⟩]) (l.length : Int) = ⟨a, b⟩ := by
      rw [rd29_get (by simp)]
      simp
    rw [e1, List.take_left]
    simp [he, hn]
theorem put_ok {l : List S34} {a b : Int} (h : okT l = true) (he : endIn a b = true) : okT (putV l a b).1 = true := by
  have := okT_le h
  unfold putV
  by_cases c1 : portV l a b = 0
  · rw [if_neg (by simp [c1])]
    by_cases c2 : l.length = 6
    · rw [if_pos c2]; exact h
    · rw [if_neg c2]; exact ok_snoc h (by omega) he (fnd_none c1)
  · rw [if_pos c1]; exact h
theorem put_len {l : List S34} (h : l.length ≤ 6) (a b : Int) : (putV l a b).1.length = if portV l a b ≠ 0 then l.length else if l.length = 6 then 6 else l.length + 1 := by
  unfold putV
  split
  · rfl
  · split
    · rename_i h6; simp [h6]
    · simp
theorem portV_app {l : List S34} (r : List S34) {a b : Int} (h : portV l a b ≠ 0) : portV (l ++ r) a b = portV l a b := by
  obtain ⟨i, hi, hv⟩ := fnd_some h
  rw [hv]
  unfold portV
  rw [fnd_app, hi]
theorem put_port {l : List S34} {a b c d : Int} (h : portV l c d ≠ 0) : portV (putV l a b).1 c d = portV l c d := by
  unfold putV
  split
  · rfl
  · split
    · rfl
    · exact portV_app _ h
theorem put_self {l : List S34} (h : l.length < 6) (a b : Int) : portV (putV l a b).1 a b ≠ 0 := by
  unfold putV
  split
  · assumption
  · rename_i hn
    rw [if_neg (by omega)]
    unfold portV
    rw [fnd_snoc, fnd_none (by simpa using hn)]
    simp
    omega
theorem put_other {l : List S34} {a b c d : Int} (hne : ¬ (a = c ∧ b = d)) (h : portV l c d = 0) : portV (putV l a b).1 c d = 0 := by
  unfold putV
  split
  · exact h
  · split
    · exact h
    · unfold portV
      rw [fnd_snoc, fnd_none h]
      simp [hne]
end Go.Proofs.YtffmbccgcaghjaaGreatDoor.P
namespace Go.Proofs.YtffmbccgcaghjaaGreatDoor.P
open Go Go.Proofs.YtffmbccgcaghjaaGreatDoorUFnRwrStream.PrintLast Go.Proofs.YtffmbccgcaghjaaGreatDoorUFnRwrStream.PrintMore Go.Proofs.YtffmbccgcaghjaaGreatDoorUFnRwrStream.PrintWords Go.RowKit
set_option linter.unusedVariables false
def wordsB (s : ByteArray) : List ByteArray := Lib.splitB (⟨#[32]⟩ : ByteArray) 0 (Lib.countB s (⟨#[32]⟩ : ByteArray)) s
theorem wordsB_length (s : ByteArray) : (wordsB s).length = Lib.countB s (⟨#[32]⟩ : ByteArray) + 1 := Lib.splitB_all (⟨#[32]⟩ : ByteArray) (by decide) 0 _ s rfl
theorem splitB_size (sep : ByteArray) : ∀ (k : Nat) (s : ByteArray), ∀ x ∈ Lib.splitB sep 0 k s, x.size ≤ s.size
  | 0, s, x, h => by simp [Lib.splitB] at h; subst h; exact Nat.le_refl _
  | k + 1, s, x, h => by
    unfold Lib.splitB at h
    split at h
    · simp at h; subst h; exact Nat.le_refl _
    · rcases List.mem_cons.1 h with rfl | h
      · simp [ByteArray.size_extract]; omega
      · have := splitB_size sep k _ x h
        simp [ByteArray.size_extract] at this
        omega
theorem wordsB_size (s : ByteArray) : ∀ x ∈ wordsB s, x.size ≤ s.size := splitB_size _ _ s
end Go.Proofs.YtffmbccgcaghjaaGreatDoor.P
namespace Go.Proofs.YtffmbccgcaghjaaGreatDoor.P
open Go.Proofs.YtffmbccgcaghjaaGreatDoorUFnRwrStream.PrintLast Go.Proofs.YtffmbccgcaghjaaGreatDoorUFnRwrStream.PrintMore Go.Proofs.YtffmbccgcaghjaaGreatDoorUFnRwrStream.PrintWords Go.RowKit
set_option linter.unusedVariables false
set_option linter.unusedSimpArgs false
theorem ba_ext {a b : ByteArray} (h : a.data.toList = b.data.toList) : a = b := by
  cases a; cases b; simp at h; rw [h]
theorem numB_small {n : Nat} (h : n < 10) : numB n = strOfNums [((48 + n : Nat) : Int)] := by
  apply ba_ext
  unfold numB Lib.itoa
  rw [if_neg (by omega)]
  simp only [Int.toNat_natCast, Lib.decDigits_one h, strOfNums]
  rfl
theorem numB_big {n : Nat} (h : ¬ n < 10) : numB n = numB (n / 10 : Nat) ++ strOfNums [((48 + n % 10 : Nat) : Int)] := by
  apply ba_ext
  unfold numB Lib.itoa
  rw [if_neg (by omega), if_neg (by omega)]
  simp only [Int.toNat_natCast, ByteArray.data_append, Array.toList_append]
  rw [Lib.decDigits, dif_neg h]
  simp only [Int.toNat_natCast, strOfNums]
  rfl
theorem strOfNums_size (l : List Int) : (strOfNums l).size = l.length := by simp [strOfNums, ByteArray.size]
theorem plain_l0 : ∀ (N n : Nat), n < N → n < 1000000 → ∀ x3 : ByteArray, x3.size + N ≤ 1000000000 → Ans (fun k => spec_l1Plain.l0 k n x3) (fun b => b = numB n ++ x3)
  | 0, n, h, _, _, _ => by omega
  | N + 1, n, h, hn, x3, hx => by
    refine Ans.succ ?_
    unfold spec_l1Plain.l0
    by_cases h9 : n < 10
    · refine Ans.neg (by omega) ?_
      have e : (wrap64 (48 + (n : Int))) % 256 = ((48 + n : Nat) : Int) := by unfold wrap64; omega
      rw [e]
      refine Ans.bsome (Ans.pos (by rw [strOfNums_size]; simp; omega) (Ans.pure ?_))
      rw [numB_small h9]
    · refine Ans.pos (by omega) ?_
      have e1 : Int.tmod (n : Int) 10 = ((n % 10 : Nat) : Int) := by rw [Int.tmod_eq_emod_of_nonneg (by omega)]; rfl
      have e2 : Int.tdiv (n : Int) 10 = ((n / 10 : Nat) : Int) := by rw [Int.tdiv_eq_ediv_of_nonneg (by omega)]; rfl
      have e : (wrap64 (48 + Int.tmod (n : Int) 10)) % 256 = ((48 + n % 10 : Nat) : Int) := by rw [e1]; unfold wrap64; omega
      have e3 : wrap64 (Int.tdiv (n : Int) 10) = ((n / 10 : Nat) : Int) := by rw [e2]; unfold wrap64; omega
      rw [e, e3]
      have hs : (strOfNums [((48 + n % 10 : Nat) : Int)]).size = 1 := by rw [strOfNums_size]; rfl
      refine Ans.bsome (Ans.pos (by rw [hs]; omega) ?_)
      refine (plain_l0 N (n / 10) (by omega) (by omega) (strOfNums [((48 + n % 10 : Nat) : Int)] ++ x3) (by rw [ByteArray.size_append, hs]; omega)).mono ?_
      rintro v rfl
      rw [numB_big h9, ByteArray.append_assoc]
theorem plain_a {n : Nat} (hn : n < 1000000) : Ans (fun k => spec_l1Plain.f k n) (fun b => b = numB n) := by
  refine (plain_l0 (n + 1) n (by omega) hn (⟨#[]⟩ : ByteArray) (by simp [ByteArray.size]; omega)).mono ?_
  rintro v rfl
  exact ba_ext (by simp)
theorem len_size (s : ByteArray) : s.data.toList.length = s.size := by rw [Array.length_toList]; rfl
def wlpB : ByteArray → List UInt8 → List ByteArray
  | w, [] => [w]
  | w, c :: r => if c = 32 then w :: wlpB ⟨#[]⟩ r else wlpB (w ++ ⟨#[c]⟩) r
theorem bt_get (s : ByteArray) (i : Nat) (h : i < s.size) : bt s i = ((s.data.toList[i]'(by rw [len_size]; exact h)).toNat : Int) := by
  unfold bt
  simp only [Int.toNat_natCast, dif_pos h]
  rfl
theorem extract_get (s : ByteArray) (i : Nat) (h : i < s.size) : s.extract i (i + 1) = ⟨#[s.data.toList[i]'(by rw [len_size]; exact h)]⟩ := by
  apply ba_ext
  have hl : i < s.data.toList.length := by rw [len_size]; exact h
  rw [Lib.extract_data]
  have e : s.data.toList.drop i = s.data.toList[i] :: s.data.toList.drop (i + 1) := List.drop_eq_getElem_cons hl
  rw [e, show i + 1 - i = 1 by omega]
  rfl
theorem words_l0 (s : ByteArray) (hs : s.size ≤ 1048576) : ∀ (m i : Nat), s.size - i = m → i ≤ s.size → ∀ (x3 : List ByteArray) (x4 : ByteArray), x3.length ≤ i → x4.size ≤ i →
    Ans (fun k => spec_l1Words.l0 k s x3 x4 i) (fun r => r = x3 ++ wlpB x4 (s.data.toList.drop i))
  | 0, i, hm, hi, x3, x4, h3, h4 => by
    refine Ans.succ ?_
    unfold spec_l1Words.l0
    refine Ans.neg (by omega) (Ans.pos (by omega) (Ans.pure ?_))
    rw [List.drop_eq_nil_of_le (by rw [len_size]; omega)]
    rfl
  | m + 1, i, hm, hi, x3, x4, h3, h4 => by
    have hlt : i < s.size := by omega
    have hl : i < s.data.toList.length := by rw [len_size]; exact hlt
    have hw : wrap64 ((i : Int) + 1) = ((i + 1 : Nat) : Int) := by unfold wrap64; omega
    have e : s.data.toList.drop i = s.data.toList[i] :: s.data.toList.drop (i + 1) := List.drop_eq_getElem_cons hl
    refine Ans.succ ?_
    unfold spec_l1Words.l0
    refine Ans.pos (by omega) (Ans.pos (by omega) ?_)
    rw [bt_get s i hlt, hw, e]
    by_cases hc : s.data.toList[i] = 32
    · refine Ans.pos (by rw [hc]; rfl) (Ans.pos (by omega) ?_)
      refine (words_l0 s hs m (i + 1) (by omega) (by omega) (x3 ++ [x4]) (⟨#[]⟩ : ByteArray) (by simp; omega) (Nat.zero_le _)).mono ?_
      rintro v rfl
      rw [wlpB, if_pos hc]
      simp
    · refine Ans.neg (fun h => hc (UInt8.toNat_inj.mp (by have : ((32 : UInt8).toNat : Int) = 32 := rfl; omega))) (Ans.pos (by omega) (Ans.pos (by omega) ?_))
      have ex : s.extract ((i : Int)).toNat ((((i + 1 : Nat) : Int))).toNat = ⟨#[s.data.toList[i]]⟩ := by simp only [Int.toNat_natCast]; exact extract_get s i hlt
      rw [ex]
      have h1 : (⟨#[s.data.toList[i]]⟩ : ByteArray).size = 1 := rfl
      refine Ans.pos (by rw [h1]; omega) ?_
      refine (words_l0 s hs m (i + 1) (by omega) (by omega) x3 (x4 ++ ⟨#[s.data.toList[i]]⟩) (by omega) (by rw [ByteArray.size_append, h1]; omega)).mono ?_
      rintro v rfl
      rw [wlpB, if_neg hc]
theorem wlpB_data : ∀ (l : List UInt8) (w : ByteArray), wlpB w l = match wlpB ⟨#[]⟩ l with
    | [] => []
    | h :: t => (w ++ h) :: t
  | [], w => by simp only [wlpB]; congr 1; exact ba_ext (by simp)
  | c :: r, w => by
    by_cases hc : c = 32
    · subst hc
      simp only [wlpB, if_true]
      congr 1; exact ba_ext (by simp)
    · simp only [wlpB, if_neg hc]
      rw [wlpB_data r (w ++ ⟨#[c]⟩), wlpB_data r (⟨#[]⟩ ++ ⟨#[c]⟩)]
      cases wlpB ⟨#[]⟩ r with
      | nil => rfl
      | cons h t => simp only [List.cons.injEq, and_true]; exact ba_ext (by simp)
theorem wlp_eq : ∀ (l : List UInt8), Lib.splitK [32] 0 (Lib.count l [32]) l = (wlpB ⟨#[]⟩ l).map (·.data.toList)
  | [] => by rw [Lib.count_miss (by simp [Lib.index])]; rfl
  | b :: l => by
    by_cases h : b = 32
    · subst h
      rw [Lib.count_cons_eq, Nat.add_comm]
      have hix : Lib.index (32 :: l) [32] = 0 := by rw [Lib.index]; simp [List.isPrefixOf]
      unfold Lib.splitK
      rw [hix]
      simp only [wlpB, if_true, List.map_cons]
      simp [wlp_eq l]
    · rw [Lib.count_cons_ne b 32 l h]
      have hp : ([32] : List UInt8).isPrefixOf (b :: l) = false := by simp [List.isPrefixOf, Ne.symm h]
      have hix : Lib.index (b :: l) [32] = if Lib.index l [32] == -1 then -1 else Lib.index l [32] + 1 := by rw [Lib.index, hp]; simp
      have ih := wlp_eq l
      simp only [wlpB, if_neg h]
      rw [wlpB_data l (⟨#[]⟩ ++ ⟨#[b]⟩)]
      by_cases hm : Lib.index l [32] = -1
      · rw [Lib.count_miss hm] at ih ⊢
        simp only [Lib.splitK] at ih ⊢
        cases hw : wlpB ⟨#[]⟩ l with
        | nil => rw [hw] at ih; simp at ih
        | cons x t => rw [hw] at ih; simp at ih ⊢; exact ⟨ih.1, ih.2⟩
      · have hge := Lib.index_ge l [32]
        obtain ⟨j, hj⟩ : ∃ j : Nat, Lib.index l [32] = j := ⟨(Lib.index l [32]).toNat, by omega⟩
        have hix' : Lib.index (b :: l) [32] = ((j + 1 : Nat) : Int) := by rw [hix, if_neg (fun e => hm (beq_iff_eq.1 e)), hj]; omega
        rw [Lib.count_hit (by simp) hj, Nat.add_comm] at ih ⊢
        unfold Lib.splitK at ih ⊢
        rw [hix', if_neg (fun h => by have := beq_iff_eq.1 h; omega)]
        rw [hj, if_neg (fun h => by have := beq_iff_eq.1 h; omega)] at ih
        cases hw : wlpB ⟨#[]⟩ l with
        | nil => rw [hw] at ih; simp at ih
        | cons x t => rw [hw] at ih; simp at ih ⊢; exact ⟨ih.1, ih.2⟩
theorem map_inj_data : ∀ {a b : List ByteArray}, a.map (·.data.toList) = b.map (·.data.toList) → a = b
  | [], [], _ => rfl
  | [], _ :: _, h => by simp at h
  | _ :: _, [], h => by simp at h
  | x :: a, y :: b, h => by
    simp only [List.map_cons, List.cons.injEq] at h
    rw [ba_ext h.1, map_inj_data h.2]
theorem wordsB_eq (s : ByteArray) : wordsB s = wlpB ⟨#[]⟩ s.data.toList := by
  apply map_inj_data
  unfold wordsB
  rw [Lib.splitB_data, ← wlp_eq]
  try rfl
theorem words_a (s : ByteArray) (hs : s.size ≤ 1048576) : Ans (fun k => spec_l1Words.f k s) (fun r => r = wordsB s) := by
  refine (words_l0 s hs _ 0 rfl (Nat.zero_le _) [] ⟨#[]⟩ (Nat.le_refl _) (Nat.le_refl _)).mono ?_
  rintro v rfl
  rw [wordsB_eq]; rfl
def joinB (w : ByteArray) (l : List ByteArray) : ByteArray := l.foldl (fun s x => s ++ ((⟨#[32]⟩ : ByteArray) ++ x)) w
def noBlank (b : ByteArray) : Prop := ∀ c ∈ b.data.toList, c ≠ 32
theorem wlpB_noBlank : ∀ (l : List UInt8) (w : ByteArray) (r : List UInt8), (∀ c ∈ l, c ≠ 32) → wlpB w (l ++ r) = wlpB (w ++ ⟨l.toArray⟩) r
  | [], w, r, _ => by simp only [List.nil_append]; congr 1; exact ba_ext (by simp)
  | c :: l, w, r, h => by
    have hc : c ≠ 32 := h c (by simp)
    simp only [List.cons_append, wlpB, if_neg hc]
    rw [wlpB_noBlank l (w ++ ⟨#[c]⟩) r (fun x hx => h x (by simp [hx]))]
    congr 1; exact ba_ext (by simp)
theorem wlpB_join : ∀ (l : List ByteArray) (w u : ByteArray), noBlank w → (∀ x ∈ l, noBlank x) → wlpB u (joinB w l).data.toList = (u ++ w) :: l
  | [], w, u, hw, _ => by
    have := wlpB_noBlank w.data.toList u [] hw
    rw [List.append_nil] at this
    show wlpB u w.data.toList = _
    rw [this]
    rfl
  | x :: l, w, u, hw, hl => by
    have e : ∀ (l : List ByteArray) (w x : ByteArray), (joinB (w ++ ((⟨#[32]⟩ : ByteArray) ++ x)) l).data.toList = w.data.toList ++ 32 :: (joinB x l).data.toList := by
      intro l
      induction l with
      | nil => intro w x; simp [joinB]
      | cons y l ih =>
        intro w x
        have h1 := ih (w ++ ((⟨#[32]⟩ : ByteArray) ++ x)) y
        have h2 := ih x y
        simp only [joinB, List.foldl_cons] at h1 h2 ⊢
        rw [h1, h2]
        simp
    have h0 : joinB w (x :: l) = joinB (w ++ ((⟨#[32]⟩ : ByteArray) ++ x)) l := rfl
    rw [h0, e, wlpB_noBlank w.data.toList u _ hw]
    simp only [wlpB, if_true]
    rw [wlpB_join l x ⟨#[]⟩ (hl x (by simp)) (fun y hy => hl y (by simp [hy]))]
    have e2 : (⟨#[]⟩ : ByteArray) ++ x = x := ba_ext (by simp)
    have e3 : u ++ ⟨w.data.toList.toArray⟩ = u ++ w := ba_ext (by simp)
    rw [e2]
theorem words_join (w : ByteArray) (l : List ByteArray) (hw : noBlank w) (hl : ∀ x ∈ l, noBlank x) : wordsB (joinB w l) = w :: l := by
  have e2 : (⟨#[]⟩ : ByteArray) ++ w = w := ba_ext (by simp)
  rw [wordsB_eq, wlpB_join l w ⟨#[]⟩ hw hl, e2]
theorem wlpB_ne : ∀ (r : List UInt8) (w : ByteArray), wlpB w r ≠ []
  | [], w => by simp [wlpB]
  | c :: r, w => by
    unfold wlpB
    split
    · simp
    · exact wlpB_ne r _
theorem join_wlpB : ∀ (r : List UInt8) (w : ByteArray), (match wlpB w r with | [] => (⟨#[]⟩ : ByteArray) | h :: t => joinB h t).data.toList = w.data.toList ++ r
  | [], w => by simp [wlpB, joinB]
  | c :: r, w => by
    by_cases hc : c = 32
    · subst hc
      simp only [wlpB, if_true]
      have ih := join_wlpB r ⟨#[]⟩
      cases hw : wlpB ⟨#[]⟩ r with
      | nil => exact absurd hw (wlpB_ne r _)
      | cons x t =>
        rw [hw] at ih
        have e : ∀ (t : List ByteArray) (w x : ByteArray), (joinB w (x :: t)).data.toList = w.data.toList ++ 32 :: (joinB x t).data.toList := by
          intro t
          induction t with
          | nil => intro w x; simp [joinB]
          | cons y t ih =>
            intro w x
            have h1 := ih (w ++ ((⟨#[32]⟩ : ByteArray) ++ x)) y
            have h2 := ih x y
            simp only [joinB, List.foldl_cons] at h1 h2 ⊢
            rw [h1, h2]
            simp
        show (joinB w (x :: t)).data.toList = _
        rw [e]
        simp only [List.append_cancel_left_eq, List.cons.injEq, true_and]
        simpa using ih
    · simp only [wlpB, if_neg hc]
      have ih := join_wlpB r (w ++ ⟨#[c]⟩)
      rw [ih]
      simp
theorem join_words (s w : ByteArray) (l : List ByteArray) (h : wordsB s = w :: l) : joinB w l = s := by
  have := join_wlpB s.data.toList ⟨#[]⟩
  rw [← wordsB_eq, h] at this
  exact ba_ext (by simpa using this)
def isDg (c : UInt8) : Prop := 48 ≤ c.toNat ∧ c.toNat ≤ 57
def valF (a : Nat) (l : List UInt8) : Nat := l.foldl (fun a b => a * 10 + (b.toNat - 48)) a
theorem dg_of {d : Nat} (h : d < 10) : isDg (UInt8.ofNat (48 + d)) ∧ (UInt8.ofNat (48 + d)).toNat - 48 = d := by
  have e : (UInt8.ofNat (48 + d)).toNat = 48 + d := by simp; omega
  unfold isDg; rw [e]; omega
theorem numB_data_small {n : Nat} (h : n < 10) : (numB n).data.toList = [UInt8.ofNat (48 + n)] := by
  rw [numB_small h]; rfl
theorem numB_data_big {n : Nat} (h : ¬ n < 10) : (numB n).data.toList = (numB (n / 10 : Nat)).data.toList ++ [UInt8.ofNat (48 + n % 10)] := by
  rw [numB_big h, ByteArray.data_append, Array.toList_append]; rfl
theorem numB_dg : ∀ (N n : Nat), n < N → (∀ c ∈ (numB n).data.toList, isDg c) ∧ valF 0 (numB n).data.toList = n ∧ (numB n).data.toList ≠ []
  | 0, n, h => by omega
  | N + 1, n, h => by
    by_cases h9 : n < 10
    · rw [numB_data_small h9]
      refine ⟨fun c hc => ?_, ?_, by simp⟩
      · simp at hc; subst hc; have := (dg_of h9).1; simpa using this
      · have := (dg_of h9).2; simp only [valF, List.foldl_cons, List.foldl_nil]; omega
    · rw [numB_data_big h9]
      obtain ⟨i1, i2, i3⟩ := numB_dg N (n / 10) (by omega)
      have hd : n % 10 < 10 := by omega
      refine ⟨fun c hc => ?_, ?_, by simp⟩
      · rcases List.mem_append.1 hc with hc | hc
        · exact i1 c hc
        · have e := List.mem_singleton.1 hc; subst e; exact (dg_of hd).1
      · have := (dg_of hd).2
        unfold valF at i2 ⊢
        rw [List.foldl_append, i2]
        simp only [List.foldl_cons, List.foldl_nil]
        omega
theorem numB_inj {a b : Nat} (h : numB a = numB b) : a = b := by
  have h1 := (numB_dg (a + 1) a (by omega)).2.1
  have h2 := (numB_dg (b + 1) b (by omega)).2.1
  rw [h] at h1; omega
theorem numB_size4 {n : Nat} (h : n ≤ 9999) : (numB n).size ≤ 4 ∧ 1 ≤ (numB n).size := by
  have e : (numB n).size = Lib.nDigits n := by
    unfold numB Lib.itoa
    rw [if_neg (by omega)]
    show (Lib.decDigits (n : Int).toNat).toArray.size = _
    rw [List.size_toArray, Lib.decDigits_length]; rfl
  rw [e]
  by_cases a : n < 10
  · rw [Lib.nDigits_small a]; omega
  · rw [Lib.nDigits_big a]
    by_cases b : n / 10 < 10
    · rw [Lib.nDigits_small b]; omega
    · rw [Lib.nDigits_big b]
      by_cases c : n / 10 / 10 < 10
      · rw [Lib.nDigits_small c]; omega
      · rw [Lib.nDigits_big c, Lib.nDigits_small (by omega)]; omega
theorem numB_noBlank (n : Nat) : noBlank (numB n) := by
  intro c hc e
  have := (numB_dg (n + 1) n (by omega)).1 c hc
  subst e
  unfold isDg at this
  simp at this
theorem valF_lt : ∀ (l : List UInt8) (a : Nat), (∀ c ∈ l, isDg c) → valF a l + 1 ≤ (a + 1) * 10 ^ l.length
  | [], a, _ => by simp [valF]
  | c :: l, a, h => by
    have hc := h c (by simp)
    have ih := valF_lt l (a * 10 + (c.toNat - 48)) (fun x hx => h x (by simp [hx]))
    unfold isDg at hc
    have : (a * 10 + (c.toNat - 48) + 1) * 10 ^ l.length ≤ ((a + 1) * 10) * 10 ^ l.length := Nat.mul_le_mul_right _ (by omega)
    simp only [valF, List.foldl_cons, List.length_cons, Nat.pow_succ] at ih ⊢
    rw [Nat.mul_assoc, Nat.mul_comm 10] at this
    omega
theorem parse_dg : ∀ (l : List UInt8) (a : Nat), (∀ c ∈ l, isDg c) → (a + 1) * 10 ^ l.length ≤ 10 ^ 18 → Lib.parseUint10 a l = .ok (valF a l)
  | [], a, _, _ => rfl
  | c :: l, a, h, hb => by
    have hc := h c (by simp)
    unfold isDg at hc
    have hp : 1 ≤ 10 ^ l.length := Nat.one_le_pow _ _ (by decide)
    have h1 : ((a + 1) * 10) * 1 ≤ ((a + 1) * 10) * 10 ^ l.length := Nat.mul_le_mul_left _ hp
    have h2 : (a + 1) * 10 ^ (l.length + 1) = ((a + 1) * 10) * 10 ^ l.length := by rw [Nat.pow_succ, Nat.mul_comm (10 ^ l.length) 10, Nat.mul_assoc]
    simp only [List.length_cons] at hb
    have h3 : (a * 10 + (c.toNat - 48) + 1) * 10 ^ l.length ≤ ((a + 1) * 10) * 10 ^ l.length := Nat.mul_le_mul_right _ (by omega)
    unfold Lib.parseUint10
    rw [if_pos hc, if_neg (by omega), if_neg (by omega), parse_dg l _ (fun x hx => h x (by simp [hx])) (by omega)]
    rfl
theorem atoiO_num {n : Nat} (h : n ≤ 9999) : atoiO (numB n) = some (n : Int) := by
  obtain ⟨h1, h2, h3⟩ := numB_dg (n + 1) n (by omega)
  have hs : (numB n).data.toList.length ≤ 4 := by rw [len_size]; exact (numB_size4 h).1
  have hp := parse_dg (numB n).data.toList 0 h1 (by
    have : 10 ^ (numB n).data.toList.length ≤ 10 ^ 4 := Nat.pow_le_pow_right (by decide) hs
    omega)
  rw [h2] at hp
  have e : Lib.atoiAll (numB n).data.toList = .ok (n : Int) := by
    generalize (numB n).data.toList = l at h1 h3 hp
    match l, h3 with
    | c :: r, _ =>
      have hc := h1 c (by simp)
      unfold isDg at hc
      unfold Lib.atoiAll
      simp only
      rw [if_neg (by omega)]
      unfold Lib.parseMag
      rw [if_neg (by simp), hp]
      simp only
      rw [if_neg (by omega), if_neg (by omega), if_neg (by omega)]
  unfold atoiO
  rw [e]
def NumIs (s : ByteArray) (v : Int) : Prop := (∃ n : Nat, n ≤ 9999 ∧ s = numB n ∧ v = n) ∨ (v = -1 ∧ ∀ n : Nat, n ≤ 9999 → s ≠ numB n)
theorem num_step (V c : Nat) (hV : V ≤ 9999) (h0 : 48 ≤ c) (h1 : c ≤ 57) : wrap64 (wrap64 ((V : Int) * 10) + ((c : Int) - 48) % 256) = ((V * 10 + (c - 48) : Nat) : Int) := by
  have e1 : wrap64 ((V : Int) * 10) = (V : Int) * 10 := w64 _ (by omega)
  have e2 : ((c : Int) - 48) % 256 = (c : Int) - 48 := by omega
  rw [e1, e2, w64 _ (by omega)]
  omega
theorem num_l0 (s : ByteArray) (hs : s.size ≤ 4) : ∀ (m i : Nat), s.size - i = m → i ≤ s.size → (∀ c ∈ s.data.toList.take i, isDg c) →
    Ans (fun k => spec_l1Num.l0 k s (valF 0 (s.data.toList.take i) : Nat) i) (NumIs s)
  | 0, i, hm, hi, hd => by
    have hl : s.data.toList.length ≤ i := by rw [len_size]; omega
    rw [List.take_of_length_le hl] at hd ⊢
    have hv := valF_lt s.data.toList 0 hd
    have hp : 10 ^ s.data.toList.length ≤ 10 ^ 4 := Nat.pow_le_pow_right (by decide) (by rw [len_size]; exact hs)
    refine Ans.succ ?_
    unfold spec_l1Num.l0
    refine Ans.neg (by omega) ?_
    refine Ans.bind (plain_a (n := valF 0 s.data.toList) (by omega)) ?_
    rintro v rfl
    refine Ans.ite (fun h => Ans.pure (.inl ⟨_, by omega, (toList_inj h).symm, rfl⟩)) (fun h => Ans.pure (.inr ⟨rfl, ?_⟩))
    intro n hn e
    refine h ?_
    have := (numB_dg (n + 1) n (by omega)).2.1
    rw [← e] at this
    rw [this, ← e]
  | m + 1, i, hm, hi, hd => by
    have hlt : i < s.size := by omega
    have hl : i < s.data.toList.length := by rw [len_size]; exact hlt
    have hw : wrap64 ((i : Int) + 1) = ((i + 1 : Nat) : Int) := by unfold wrap64; omega
    have hno : ∀ (h : ¬ isDg s.data.toList[i]) (n : Nat), n ≤ 9999 → s ≠ numB n := by
      intro h n hn e
      have := (numB_dg (n + 1) n (by omega)).1 (s.data.toList[i]) (by rw [← e]; exact List.getElem_mem hl)
      exact h this
    refine Ans.succ ?_
    unfold spec_l1Num.l0
    refine Ans.pos (by omega) (Ans.pos (by omega) ?_)
    rw [bt_get s i hlt, hw]
    have hc8 := (s.data.toList[i]).toNat_lt
    refine Ans.ite (fun h => Ans.pure (.inr ⟨rfl, hno (fun q => by unfold isDg at q; omega)⟩)) (fun h1 => ?_)
    refine Ans.ite (fun h => Ans.pure (.inr ⟨rfl, hno (fun q => by unfold isDg at q; omega)⟩)) (fun h2 => ?_)
    have hdi : isDg s.data.toList[i] := by unfold isDg; omega
    have ht : s.data.toList.take (i + 1) = s.data.toList.take i ++ [s.data.toList[i]] := List.take_succ_eq_append_getElem hl
    have hd' : ∀ c ∈ s.data.toList.take (i + 1), isDg c := by
      rw [ht]
      intro c hc
      rcases List.mem_append.1 hc with hc | hc
      · exact hd c hc
      · have e := List.mem_singleton.1 hc; subst e; exact hdi
    have hv := valF_lt _ 0 hd
    have hp : 10 ^ (s.data.toList.take i).length ≤ 10 ^ 4 := Nat.pow_le_pow_right (by decide) (by rw [List.length_take]; omega)
    have e : wrap64 (wrap64 ((valF 0 (s.data.toList.take i) : Nat) * 10) + (((s.data.toList[i]).toNat : Int) - 48) % 256) = (valF 0 (s.data.toList.take (i + 1)) : Nat) := by
      have e1 : valF 0 (s.data.toList.take (i + 1)) = valF 0 (s.data.toList.take i) * 10 + ((s.data.toList[i]).toNat - 48) := by
        rw [ht]; unfold valF; rw [List.foldl_append]; rfl
      rw [e1]
      unfold isDg at hdi
      exact num_step _ _ (by omega) hdi.1 hdi.2
    rw [e]
    exact num_l0 s hs m (i + 1) (by omega) (by omega) hd'
theorem num_a (s : ByteArray) : Ans (fun k => spec_l1Num.f k s) (NumIs s) := by
  unfold spec_l1Num.f
  refine Ans.ite (fun h => ?_) (fun h => ?_)
  · refine Ans.succ ?_
    unfold spec_l1Num.j0
    refine Ans.pos rfl (Ans.pure (.inr ⟨rfl, fun n hn e => ?_⟩))
    have := (numB_size4 hn).2
    rw [← e] at this; omega
  · refine Ans.succ ?_
    unfold spec_l1Num.j0
    refine Ans.ite (fun h4 => Ans.pure (.inr ⟨rfl, fun n hn e => ?_⟩)) (fun h4 => ?_)
    · have := (numB_size4 hn).1
      rw [← e] at this
      have := of_decide_eq_true h4
      omega
    · have h4' : ¬ ((s.size : Int) > 4) := fun q => h4 (decide_eq_true q)
      exact num_l0 s (by omega) _ 0 rfl (Nat.zero_le _) (by simp)
theorem index_at : ∀ (x y : List UInt8), (∀ c ∈ x, c ≠ 32) → Lib.index (x ++ 32 :: y) [32] = x.length
  | [], y, _ => by rw [List.nil_append, Lib.index]; simp [List.isPrefixOf]
  | b :: x, y, h => by
    have hb : b ≠ 32 := h b (by simp)
    have hp : ([32] : List UInt8).isPrefixOf (b :: (x ++ 32 :: y)) = false := by simp [List.isPrefixOf, Ne.symm hb]
    have ih := index_at x y (fun c hc => h c (by simp [hc]))
    rw [List.cons_append, Lib.index, hp, ih]
    simp
theorem cut_at {x y : ByteArray} (h : noBlank x) : cutW ((x ++ (⟨#[32]⟩ : ByteArray)) ++ y) = (x, y) := by
  have e : ((x ++ (⟨#[32]⟩ : ByteArray)) ++ y).data.toList = x.data.toList ++ 32 :: y.data.toList := by simp
  have hi := index_at x.data.toList y.data.toList h
  unfold cutW
  rw [e]
  unfold Lib.cut
  rw [hi, if_pos (by omega)]
  have e1 : (x.data.toList ++ 32 :: y.data.toList).take x.data.toList.length = x.data.toList := List.take_left
  have e2 : (x.data.toList ++ 32 :: y.data.toList).drop (x.data.toList.length + 1) = y.data.toList := by
    have : x.data.toList ++ 32 :: y.data.toList = (x.data.toList ++ [32]) ++ y.data.toList := by simp
    rw [this]
    exact List.drop_left' (by simp)
  simp only [Int.toNat_natCast, List.length_cons, List.length_nil, Nat.zero_add, e1, e2]
theorem readEndW_some {t : ByteArray} {a p : Int} (h : readEndW t = some (a, p)) : endOkB a p = true ∧ t = etext a p := by
  unfold readEndW at h
  simp only [Option.bind_eq_some_iff] at h
  obtain ⟨a', h1, p', h2, h3⟩ := h
  by_cases ht : etext a' p' = t
  · rw [if_pos ht] at h3
    cases h3
    refine ⟨?_, ht.symm⟩
    cases hk : endOkB a p with
    | true => rfl
    | false =>
      unfold etext at ht
      rw [hk] at ht
      rw [← ht, if_neg (by simp)] at h1
      have : atoiO (cutW (⟨#[]⟩ : ByteArray)).1 = none := by decide
      rw [this] at h1; cases h1
  · rw [if_neg ht] at h3; cases h3
theorem readEndW_of {a p : Int} (h : endOkB a p = true) : readEndW (etext a p) = some (a, p) := by
  have hb := endOkB_le h
  obtain ⟨m, rfl⟩ : ∃ m : Nat, a = m := ⟨a.toNat, by omega⟩
  obtain ⟨n, rfl⟩ : ∃ n : Nat, p = n := ⟨p.toNat, by omega⟩
  have e : etext (m : Int) n = (numB m ++ (⟨#[32]⟩ : ByteArray)) ++ numB n := by unfold etext; rw [if_pos h]
  unfold readEndW
  rw [e, cut_at (numB_noBlank m), atoiO_num (by omega), atoiO_num (by omega)]
  simp only [Option.bind_some]
  rw [if_pos e]
theorem etext_join {a p : Int} (h : endOkB a p = true) : etext a p = joinB (numB a) [numB p] := by
  unfold etext joinB; rw [if_pos h]; simp [ByteArray.append_assoc]
theorem etext_words {a p : Int} (h : endOkB a p = true) : wordsB (etext a p) = [numB a, numB p] := by
  have hb := endOkB_le h
  obtain ⟨m, rfl⟩ : ∃ m : Nat, a = m := ⟨a.toNat, by omega⟩
  obtain ⟨n, rfl⟩ : ∃ n : Nat, p = n := ⟨p.toNat, by omega⟩
  rw [etext_join h]
  exact words_join _ _ (numB_noBlank m) (by intro x hx; rw [List.mem_singleton.1 hx]; exact numB_noBlank n)
theorem numE_same {b : ByteArray} {n x : Int} (h : b = numB n) (h0 : 0 ≤ n) (h1 : n ≤ 999) (hx : NumIs b x) : x = n := by
  obtain ⟨k, rfl⟩ : ∃ k : Nat, n = k := ⟨n.toNat, by omega⟩
  rcases hx with ⟨m, hm, e, rfl⟩ | ⟨_, hno⟩
  · have := numB_inj (e.symm.trans h); omega
  · exact absurd h (hno k (by omega))
theorem endW_len {s : ByteArray} (h : (wordsB s).length ≠ 2) : readEndW s = none := by
  cases hr : readEndW s with
  | none => rfl
  | some r =>
    obtain ⟨a, p⟩ := r
    obtain ⟨hk, e⟩ := readEndW_some hr
    rw [e, etext_words hk] at h
    exact absurd rfl h
theorem endW_key {s b1 b2 : ByteArray} (hw : wordsB s = [b1, b2]) {x1 x2 : Int} (h1 : NumIs b1 x1) (h2 : NumIs b2 x2) : readEndW s = if endOkB x1 x2 then some (x1, x2) else none := by
  cases hk : endOkB x1 x2 with
  | true =>
    have hb := endOkB_le hk
    have q1 : b1 = numB x1 := by
      rcases h1 with ⟨m, hm, e, rfl⟩ | ⟨e, _⟩
      · exact e
      · omega
    have q2 : b2 = numB x2 := by
      rcases h2 with ⟨m, hm, e, rfl⟩ | ⟨e, _⟩
      · exact e
      · omega
    have e : s = etext x1 x2 := by rw [etext_join hk, ← q1, ← q2]; exact (join_words s b1 _ hw).symm
    rw [e]
    exact readEndW_of hk
  | false =>
    cases hr : readEndW s with
    | none => simp
    | some r =>
      obtain ⟨a, p⟩ := r
      obtain ⟨hk', e⟩ := readEndW_some hr
      have hb := endOkB_le hk'
      rw [e, etext_words hk'] at hw
      simp only [List.cons.injEq, and_true] at hw
      have g1 := numE_same hw.1.symm (by omega) (by omega) h1
      have g2 := numE_same hw.2.symm (by omega) (by omega) h2
      rw [g1, g2, hk'] at hk
      cases hk
section
attribute [local go_sem] max2_int min2_int max_two min_two max_three min_three max_four min_four
def spec_RwrLine.j0 : Nat → ByteArray → Bool → List (S34) → Option ((List (S34)) × ByteArray)
 | 0, _, _, _ => none
 | k + 1, x1, x13, x447000 => if x13 = true then (some (([] : List (S34)), (⟨#[]⟩ : ByteArray))) else ((spec_l3Copy.f x447000).bind fun t450 => ((spec_l3Line.f k t450 x1).bind fun bt453 => (some (bt453.1, bt453.2))))
def spec_RwrLine.f (k : Nat) (l0_0 : List (S34)) (a1 : ByteArray) : Option ((List (S34)) × ByteArray) := (spec_MapOk.f k l0_0).bind fun t448 => (if t448 = true then ((spec_LinOk.f k a1).bind fun t449 => (spec_RwrLine.j0 k a1 (!t449) l0_0)) else (spec_RwrLine.j0 k a1 true l0_0))
theorem spec_RwrLine.mono_l : ∀ k, (∀ y0 y1 y2, LeO (spec_RwrLine.j0 k y0 y1 y2) (spec_RwrLine.j0 (k + 1) y0 y1 y2))
 | 0 => fun _ _ _ r h => by simp [spec_RwrLine.j0] at h
 | k + 1 => by
  have ih0 := spec_RwrLine.mono_l k
  ·intro y0 y1 y2
   unfold spec_RwrLine.j0
   repeat' first | (with_reducible first | exact ih0 _ _ _ | exact spec_LinOk.mono _ _ | exact spec_MapOk.mono _ _ | exact spec_l3Line.mono _ _ _ | exact LeO.refl _ | exact LeO.none _ | refine LeO.ite ?_ ?_ | refine LeO.bind ?_ (fun _ => ?_)) | exact ih0 _ _ _ | exact spec_LinOk.mono _ _ | exact spec_MapOk.mono _ _ | exact spec_l3Line.mono _ _ _ | exact LeO.none _ | refine LeO.ite ?_ ?_ | refine LeO.bind ?_ (fun _ => ?_)
theorem spec_RwrLine.mono : ∀ a0 a1 k, LeO (spec_RwrLine.f k a0 a1) (spec_RwrLine.f (k + 1) a0 a1) := by
 intro a0 a1 k
 have ih0 := spec_RwrLine.mono_l k
 unfold spec_RwrLine.f
 repeat' first | (with_reducible first | exact ih0 _ _ _ | exact spec_LinOk.mono _ _ | exact spec_MapOk.mono _ _ | exact spec_l3Line.mono _ _ _ | exact LeO.refl _ | exact LeO.none _ | refine LeO.ite ?_ ?_ | refine LeO.bind ?_ (fun _ => ?_)) | exact ih0 _ _ _ | exact spec_LinOk.mono _ _ | exact spec_MapOk.mono _ _ | exact spec_l3Line.mono _ _ _ | exact LeO.none _ | refine LeO.ite ?_ ?_ | refine LeO.bind ?_ (fun _ => ?_)
set_option maxHeartbeats 8000000 in
set_option maxRecDepth 100000 in
theorem spec_RwrLine.calls (k : Nat) (A0_0 : Option Addr) (c0_0 : Nat) (l0_0 : List (S34)) (a1 : ByteArray) (r1 : List (S34)) (r2 : ByteArray) (w : World) (hr0_0 : Kd.C k34 w A0_0 l0_0.length l0_0) (hc0_0 : l0_0.length ≤ c0_0) (h : spec_RwrLine.f k l0_0 a1 = some (r1, r2)) :
  Calls Tryz.prog 14 #[.agg #[.slice A0_0 l0_0.length c0_0], .string a1] w fun e w' => ∃ v0_ : Value, e = .returned (.tuple #[.agg #[v0_], .string r2]) ∧ Kd.R k34 34 w' w.heap.size (fun _ => True) v0_ r1 ∧ Below w.heap.size w w' := by
 have hu25 := Tryz.underlying25
 have HR0_0 := am hr0_0
 have HC0_0 := am hc0_0
 clear hr0_0 hc0_0
 have HB := am (Below.refl w.heap.size w)
 have H : ((spec_MapOk.f k l0_0).bind fun t448 => (if t448 = true then ((spec_LinOk.f k a1).bind fun t449 => (spec_RwrLine.j0 k a1 (!t449) l0_0)) else (spec_RwrLine.j0 k a1 true l0_0))) = some (r1, r2) := h
 clear h
 have HC3 := am H
 clear H
 go_enter Tryz.func14, Tryz.ntmps14
 go_upto_region 1 with (first | ((with_reducible refine gate_dst (N := 2) rfl ?_); refine box_event rfl (N := 2) rfl (cs := #[.slice A0_0 l0_0.length c0_0]) (t := 25) hr_ ?_; intro gb446 hg w4 hbox hb; have BK446 := am hbox; have GW446 := gwE HB hg; have GE446 := gwE HB hg; replace HB := hbS HB hb; clear hb hbox hg) | ((with_reducible refine gate_dst (N := 4) rfl ?_); refine box_event rfl (N := 4) rfl (cs := #[.slice none 0 0]) (t := 25) hr_ ?_; intro gb447 hg w5 hbox hb; have BK447 := am hbox; have GW447 := gwE HB hg; have GE447 := gwE HB hg; replace HB := hbS HB hb; have NB446_447 := neL BK446 hg; have NB447_446 := neG BK446 hg; replace BK446 := bkB BK446 hb; clear hb hbox hg))
 (try simp only [Act.put, List.setIfInBounds_toArray, List.set_cons_zero, List.set_cons_succ])
 go_cut [13] (fun v13 wc => ∃ (kq : Nat) (x13_2 : Bool), v13 = .bool x13_2 ∧ Aside0 (spec_RwrLine.j0 kq a1 x13_2 l0_0 = some (r1, r2)) ∧ Aside0 (kq ≤ k) ∧ Aside0 (wc.heap[gb446]? = some (.cells #[(.slice A0_0 l0_0.length c0_0)] 25 (0, 0))) ∧ Aside0 (wc.heap[gb447]? = some (.cells #[(.slice none 0 0)] 25 (0, 0))) ∧ Aside0 (Below w.heap.size w wc))
 case first =>
  have H := HC3.out
  clear HC3
  obtain ⟨t448, A6, H⟩ := bse H
  try dsimp only at H
  by_cases c7 : t448 = true
  ·subst c7
   have H1 : ((spec_LinOk.f k a1).bind fun t449 => (spec_RwrLine.j0 k a1 (!t449) l0_0)) = some (r1, r2) := by rw [if_pos rfl] at H; exact H
   clear H
   have H := H1
   clear H1
   obtain ⟨t449, A8, H⟩ := bse H
   try dsimp only at H
   have H' := am H
   clear H
   have := NB446_447.out
   have := NB447_446.out
   have hcz10_0 := bcell BK446 0
   have hfz10_0 := blk_frozen BK446.out 0
   go_wp2_with (first | ((with_reducible refine gate_callee (f := 16) rfl ?_); refine gL (some 7) Tryz.func16 #[.agg #[.slice A0_0 l0_0.length c0_0]] ?_; (with_reducible refine (spec_MapOk.calls k _ _ l0_0 true _ ?side1 ?side2 A6.out).mono ?_); (case side1 => exact m4_); (case side2 => exact HC0_0.out); rintro e w11 ⟨rfl, hb⟩; refine ⟨_, rfl, ?_⟩; replace BK446 := bkB BK446 hb; replace BK447 := bkB BK447 hb; replace HB := hbS HB hb; (try clear hb)) | (go_at_call 17; (with_reducible refine (spec_LinOk.calls k a1 t449 _ A8.out).mono ?_); rintro e w' ⟨rfl, ⟨nd, rfl⟩⟩))
   go_meet
   case rel => exact ⟨_, (!t449), rs_, H', ⟨by first | omega | exact Nat.le_refl _⟩, ⟨bk BK446⟩, ⟨bk BK447⟩, ⟨m2_⟩⟩
  ·replace c7 := Bool.eq_false_iff.mpr c7
   subst c7
   have H1 : (spec_RwrLine.j0 k a1 true l0_0) = some (r1, r2) := by rw [if_neg (show ¬ (false = true) by decide)] at H; exact H
   clear H
   have H := H1
   clear H1
   have H' := am H
   clear H
   have := NB446_447.out
   have := NB447_446.out
   have hcz13_0 := bcell BK446 0
   have hfz13_0 := blk_frozen BK446.out 0
   go_wp2_with (first | ((with_reducible refine gate_callee (f := 16) rfl ?_); refine gL (some 7) Tryz.func16 #[.agg #[.slice A0_0 l0_0.length c0_0]] ?_; (with_reducible refine (spec_MapOk.calls k _ _ l0_0 false _ ?side1 ?side2 A6.out).mono ?_); (case side1 => exact m4_); (case side2 => exact HC0_0.out); rintro e w14 ⟨rfl, hb⟩; refine ⟨_, rfl, ?_⟩; replace BK446 := bkB BK446 hb; replace BK447 := bkB BK447 hb; replace HB := hbS HB hb; (try clear hb)))
   go_meet
   case rel => exact ⟨_, (true), rs_, H', ⟨by first | omega | exact Nat.le_refl _⟩, ⟨bk BK446⟩, ⟨bk BK447⟩, ⟨m2_⟩⟩
 case rest =>
  clear HC3
  try clear c1
  try clear p2
  try clear c7
  try clear c9
  try clear c12
  try clear c14
  try clear hcz10_0
  try clear hcz13_0
  try clear hfz10_0
  try clear hfz13_0
  obtain ⟨kq, x13_2, rfl, HA, HJ2, BK446, BK447, HB⟩ := hcut
  cases kq with
  | zero => exact absurd HA.out (by simp [spec_RwrLine.j0])
  | succ kj2 =>
   have H := HA.out
   clear HA
   simp only [spec_RwrLine.j0] at H
   by_cases c15 : x13_2 = true
   ·subst c15
    have H1 : (some (([] : List (S34)), (⟨#[]⟩ : ByteArray))) = some (r1, r2) := by rw [if_pos rfl] at H; exact H
    clear H
    have H := H1
    clear H1
    simp only [Option.some.injEq, Prod.mk.injEq] at H
    obtain ⟨rfl, rfl⟩ := H
    have := NB447_446.out
    have := NB446_447.out
    have := bcell BK447 0
    have := bfz BK447 0
    go_wp2
    refine bodyPost_ret (results_ct rfl _ _ gb447 25 #[.slice none 0 0] (0, 0) _ rfl (by (with_reducible repeat refine bu ?_); refine blk_put (cs := #[.slice none 0 0]) ?_ 0 _ rfl; (with_reducible repeat refine bu ?_); exact BK447.out) Tryz.underlying25 rfl (by kernel_rfl)) rfl ?_
    exact ⟨_, fi_, by first | exact Kd.R_nil _ _ _ _ _ | exact Kd.N_nil _ _ _ _ _ | exact Kd.V_nil _ _ _ _ _ | exact Kd.Q_nil _ _ _ _ _ | exact Kd.S_nil _ _ _ _ _, m2_⟩
   ·replace c15 := Bool.eq_false_iff.mpr c15
    subst c15
    have H1 : ((spec_l3Copy.f l0_0).bind fun t450 => ((spec_l3Line.f kj2 t450 a1).bind fun bt453 => (some (bt453.1, bt453.2)))) = some (r1, r2) := by rw [if_neg (show ¬ (false = true) by decide)] at H; exact H
    clear H
    have H := H1
    clear H1
    obtain ⟨t450, A18, H⟩ := bse H
    try dsimp only at H
    obtain ⟨⟨t453, t456⟩, A19, H⟩ := bse H
    try dsimp only at H
    simp only [Option.some.injEq, Prod.mk.injEq] at H
    obtain ⟨rfl, rfl⟩ := H
    have := NB446_447.out
    have := NB447_446.out
    have := bcell BK446 0
    have := bfz BK446 0
    go_wp2_with (first | ((with_reducible refine gate_callee (f := 47) rfl ?_); refine gL (some 16) Tryz.func47 #[.agg #[.slice A0_0 l0_0.length c0_0]] ?_; (with_reducible refine (spec_l3Copy.calls _ _ l0_0 t450 _ ?side1 ?side2 A18.out).mono ?_); (case side1 => exact m4_); (case side2 => exact HC0_0.out); rintro e w22 ⟨v451, rfl, ho0, hb⟩; refine ⟨_, rfl, ?_⟩; have HO452 := am (Kd.R_lower ho0 (below_size (bl HB))); replace BK446 := bkB BK446 hb; replace BK447 := bkB BK447 hb; replace HB := hbS HB hb; (try clear hb); (try clear ho0); obtain ⟨Ao23, co23, eo23⟩ := Kd.R_slice HO452.out; subst eo23) | ((with_reducible refine gate_callee (f := 46) rfl ?_); refine gL (some 18) Tryz.func46 #[.agg #[.slice Ao23 t450.length co23], .string a1] ?_; (with_reducible refine (spec_l3Line.calls kj2 (fun k_ => some k_ = (.slice Ao23 t450.length co23 : Value).ownBlock) (.slice Ao23 t450.length co23) t450 a1 t453 t456 w _ ?side1 ?side2 A19.out).mono ?_); (case side1 => exact m2_); (case side2 => exact Kd.R_tight rfl HO452.out); rintro e w24 ⟨v454, rfl, ho0, hb, hkp⟩; refine ⟨_, rfl, ?_⟩; replace BK446 := am (blk_kept (bk BK446) hkp (fun hs_ => (fun e_ => (Kd.R_ne HO452.out BK446.out (by decide)) e_) hs_)); replace BK447 := am (blk_kept (bk BK447) hkp (fun hs_ => (fun e_ => (Kd.R_ne HO452.out BK447.out (by decide)) e_) hs_)); have HO455 := am (Kd.R_mono (ok' := fun k_ => True) ho0 (fun k_ hk_ => trivial)); replace HB := am hb; clear HO452; (try clear hb); (try clear hkp); (try clear ho0); obtain ⟨Ao25, co25, eo25⟩ := Kd.R_slice HO455.out; subst eo25; have := bcell BK447 0; have := bfz BK447 0))
    refine bodyPost_ret (results_ct rfl _ _ gb447 25 #[.slice Ao25 t453.length co25] (0, 0) _ rfl (by (with_reducible repeat refine bu ?_); refine blk_put (cs := #[.slice none 0 0]) ?_ 0 _ rfl; (with_reducible repeat refine bu ?_); exact BK447.out) Tryz.underlying25 rfl (by kernel_rfl)) rfl ?_
    exact ⟨_, fi_, by (with_reducible repeat apply ru); exact Kd.R_mono (Kd.R_far (p := ⟨gb447, 0, none⟩) (Kd.R_types HO455.out BK447.out (by decide)) (fun _ hk => hk.2) (.slice Ao25 t453.length co25)) (fun _ hk => trivial), m2_⟩
end
theorem specEndOk_f (a p : Int) : spec_EndOk.f a p = some (endOkB a p) := by
  unfold spec_EndOk.f endOkB
  rw [specEndInside_f, specEndOutside_f, l1In_f]
  unfold endIn endOut
  by_cases h3 : a = 50 <;> cases inB a 1 9 <;> cases inB a 100 109 <;> cases inB p 1 999 <;> simp [h3]
theorem specEndRead_a (s : ByteArray) (hs : s.size ≤ 1048576) : Ans (fun k => spec_EndRead.f k s) (fun r => r = match readEndW s with | some (a, p) => (a, p, true) | none => (0, 0, false)) := by
  unfold spec_EndRead.f
  refine Ans.bind (words_a s hs) ?_
  rintro v rfl
  by_cases h2 : (wordsB s).length = 2
  · obtain ⟨b1, b2, hw⟩ : ∃ b1 b2, wordsB s = [b1, b2] := by
      generalize wordsB s = l at h2
      match l, h2 with
      | [b1, b2], _ => exact ⟨b1, b2, rfl⟩
    rw [hw]
    refine Ans.pos (by simp) (Ans.pos (by simp) ?_)
    refine Ans.bind (num_a _) ?_
    intro x1 h1
    refine Ans.pos (by simp) (Ans.bind (num_a _) ?_)
    intro x2 h2
    rw [specEndOk_f]
    have hk := endW_key hw (x1 := x1) (x2 := x2) h1 h2
    refine Ans.bsome ?_
    cases hb : endOkB x1 x2 with
    | true => rw [hb] at hk; refine Ans.pos rfl (Ans.pure ?_); rw [hk]; rfl
    | false => rw [hb] at hk; refine Ans.neg (by simp) (Ans.pure ?_); rw [hk]; rfl
  · refine Ans.neg (by omega) (Ans.pure ?_)
    rw [endW_len h2]
def saysW (s : ByteArray) : Option (Int × Int) := if Lib.hasPrefix s.data.toList portL = true then (match readEndW (trimW s) with | some (a, p) => if endIn a p then some (a, p) else none | none => none) else none
def saysT (s : ByteArray) : Int × Int × Bool := match saysW s with | some (a, p) => (a, p, true) | none => (0, 0, false)
theorem pre_split (s : ByteArray) : Lib.hasPrefix s.data.toList portL = true ↔ (5 ≤ s.size ∧ (s.extract 0 5).toList = [112, 111, 114, 116, 32]) := by
  have hl : s.data.toList.length = s.size := by rw [Array.length_toList]; rfl
  unfold Lib.hasPrefix portL
  rw [List.isPrefixOf_iff_prefix, List.prefix_iff_eq_take]
  rw [ByteArray.toList_eq, Lib.extract_data]
  simp only [List.drop_zero, List.length_cons, List.length_nil]
  constructor
  · intro h
    have := congrArg List.length h
    simp only [List.length_take, List.length_cons, List.length_nil] at this
    exact ⟨by omega, h.symm⟩
  · rintro ⟨_, h⟩; exact h.symm
theorem trim_extract {s : ByteArray} (h : Lib.hasPrefix s.data.toList portL = true) : s.extract 5 s.size = trimW s := by
  have hl : s.data.toList.length = s.size := by rw [Array.length_toList]; rfl
  apply ba_ext
  unfold trimW Lib.trimPrefix
  rw [if_pos h, Lib.extract_data]
  simp only [portL, List.length_cons, List.length_nil]
  rw [List.take_of_length_le (by rw [List.length_drop]; omega)]
theorem implLinSays_f {s : ByteArray} (hs : s.size ≤ 1048576) : impl_LinSays.f s = some (saysT s) := by
  unfold impl_LinSays.f impl_said.f
  rw [if_pos (by omega), Option.bind_some]
  unfold saysT saysW saidW
  cases hr : readEndW (trimW s) with
  | none => simp
  | some r =>
    obtain ⟨a, p⟩ := r
    simp only
    cases hp : Lib.hasPrefix s.data.toList portL with
    | false => simp
    | true =>
      simp only [if_true]
      rw [EndInside_f, Option.bind_some]
      cases hi : endIn a p <;> simp
theorem specLinSays_a (s : ByteArray) (hs : s.size ≤ 1048576) : Ans (fun k => spec_LinSays.f k s) (fun r => r = saysT s) := by
  unfold spec_LinSays.f
  have J : ∀ (c : Bool), (c = true → Lib.hasPrefix s.data.toList portL = false) → (c = false → Lib.hasPrefix s.data.toList portL = true) → Ans (fun k => spec_LinSays.j0 k s c) (fun r => r = saysT s) := by
    intro c h1 h2
    refine Ans.succ ?_
    unfold spec_LinSays.j0
    cases c with
    | true =>
      refine Ans.pos rfl (Ans.pure ?_)
      unfold saysT saysW
      rw [h1 rfl]; rfl
    | false =>
      have hp := h2 rfl
      have h5 := ((pre_split s).mp hp).1
      refine Ans.neg (by simp) (Ans.pos (by omega) ?_)
      rw [trim_extract hp]
      refine Ans.bind (specEndRead_a (trimW s) (Nat.le_trans (trim_size s) hs)) ?_
      rintro v rfl
      unfold saysT saysW
      rw [if_pos hp]
      cases hr : readEndW (trimW s) with
      | none => exact Ans.neg (by simp) (Ans.pure rfl)
      | some r =>
        obtain ⟨a, p⟩ := r
        simp only
        rw [specEndInside_f]
        cases hi : endIn a p with
        | true => exact Ans.pos (by simp) (Ans.bsome (Ans.pos rfl (Ans.pure (by simp [hi]))))
        | false => exact Ans.pos (by simp) (Ans.bsome (Ans.neg (by simp) (Ans.pure (by simp [hi]))))
  refine Ans.ite (fun h => ?_) (fun h => ?_)
  · refine J true (fun _ => ?_) (fun h => by cases h)
    cases hp : Lib.hasPrefix s.data.toList portL with
    | false => rfl
    | true => have := ((pre_split s).mp hp).1; omega
  · refine Ans.pos (by omega) (Ans.pos (by omega) (J _ (fun hc => ?_) (fun hc => ?_)))
    · cases hp : Lib.hasPrefix s.data.toList portL with
      | false => rfl
      | true => rw [((pre_split s).mp hp).2] at hc; simp at hc
    · exact (pre_split s).mpr ⟨by omega, bne_eq_false_iff_eq.mp hc⟩
def lportW (a p : Int) : ByteArray := if endOkB a p then (⟨#[112, 111, 114, 116, 32]⟩ : ByteArray) ++ etext a p else ⟨#[]⟩
theorem etext_size (a p : Int) : (etext a p).size ≤ 7 := by
  unfold etext
  cases hk : endOkB a p with
  | false => exact Nat.zero_le _
  | true =>
    have hb := endOkB_le hk
    have h1 := numB_size (n := a) (by omega) (by omega)
    have h2 := numB_size (n := p) (by omega) (by omega)
    have h3 : ((⟨#[32]⟩ : ByteArray)).size = 1 := rfl
    simp only [if_true, ByteArray.size_append]
    omega
theorem implLinPort_f (a p : Int) : impl_LinPort.f a p = some (lportW a p) := by
  unfold impl_LinPort.f lportW
  rw [EndOk_f, Option.bind_some]
  have hz := etext_size a p
  cases hk : endOkB a p with
  | false => simp
  | true =>
    simp only [if_true]
    rw [EndText_f, Option.bind_some, if_pos (by omega)]
theorem specEndText_a (a p : Int) : Ans (fun k => spec_EndText.f k a p) (fun r => r = etext a p) := by
  unfold spec_EndText.f etext
  rw [specEndOk_f]
  refine Ans.bsome ?_
  cases hk : endOkB a p with
  | false => exact Ans.neg (by simp) (Ans.pure (by simp))
  | true =>
    have hb := endOkB_le hk
    obtain ⟨m, rfl⟩ : ∃ m : Nat, a = m := ⟨a.toNat, by omega⟩
    obtain ⟨n, rfl⟩ : ∃ n : Nat, p = n := ⟨p.toNat, by omega⟩
    have h1 := numB_size (n := (m : Int)) (by omega) (by omega)
    have h2 := numB_size (n := (n : Int)) (by omega) (by omega)
    have h3 : ((⟨#[32]⟩ : ByteArray)).size = 1 := rfl
    refine Ans.pos rfl (Ans.bind (plain_a (n := m) (by omega)) ?_)
    rintro v rfl
    refine Ans.pos (by omega) (Ans.bind (plain_a (n := n) (by omega)) ?_)
    rintro v rfl
    exact Ans.pos (by rw [ByteArray.size_append]; omega) (Ans.pure (by simp))
theorem specLinPort_a (a p : Int) : Ans (fun k => spec_LinPort.f k a p) (fun r => r = lportW a p) := by
  unfold spec_LinPort.f lportW
  rw [specEndOk_f]
  refine Ans.bsome ?_
  have hz := etext_size a p
  cases hk : endOkB a p with
  | false => exact Ans.neg (by simp) (Ans.pure (by simp))
  | true =>
    refine Ans.pos rfl (Ans.bind (specEndText_a a p) ?_)
    rintro v rfl
    exact Ans.pos (by omega) (Ans.pure (by simp))
def noneB : ByteArray := ⟨#[110, 111, 110, 101]⟩
def lineW (l : List S34) (s : ByteArray) : List S34 × ByteArray := match saysW s with
  | none => (l, s)
  | some (a, p) => if (putV l a p).2 = 0 then ((putV l a p).1, noneB) else ((putV l a p).1, lportW 50 (putV l a p).2)
theorem saysW_in {s : ByteArray} {a p : Int} (h : saysW s = some (a, p)) : endIn a p = true := by
  unfold saysW at h
  cases hp : Lib.hasPrefix s.data.toList portL with
  | false => rw [hp] at h; simp at h
  | true =>
    rw [hp] at h
    simp only [if_true] at h
    cases hr : readEndW (trimW s) with
    | none => rw [hr] at h; cases h
    | some r =>
      obtain ⟨a', p'⟩ := r
      rw [hr] at h
      simp only at h
      cases hi : endIn a' p' with
      | false => rw [hi] at h; simp at h
      | true => rw [hi] at h; simp at h; obtain ⟨rfl, rfl⟩ := h; exact hi
theorem implGoesOut_f {l : List S34} (c : okT l = true) {s : ByteArray} (hs : s.size ≤ 1048576) : impl_MapTab_goesOut.f l s = some (lineW l s) := by
  have hl := okT_le c
  unfold impl_MapTab_goesOut.f
  rw [implLinSays_f hs, Option.bind_some]
  unfold saysT lineW
  cases hr : saysW s with
  | none =>
    simp only
    have e : impl_MapTab_copied.f l = some l := by
      unfold impl_MapTab_copied.f impl_EndPoint_106.f impl_EndPoint_105.f
      rw [if_pos (by omega)]; rfl
    rw [e]
    simp
  | some r =>
    obtain ⟨a, p⟩ := r
    simp only
    rw [implPut_f c (saysW_in hr), Option.bind_some]
    simp only [if_true]
    by_cases h0 : (putV l a p).2 = 0
    · simp [h0, noneB]
    · simp only [h0, if_false]
      rw [implLinPort_f, Option.bind_some]
theorem specLine_a {l : List S34} (hl : l.length ≤ 2000000) {s : ByteArray} (hs : s.size ≤ 1048576) : Ans (fun k => spec_l3Line.f k l s) (fun r => r = lineW l s) := by
  unfold spec_l3Line.f
  refine Ans.bind (specLinSays_a s hs) ?_
  rintro v rfl
  unfold saysT lineW
  cases hr : saysW s with
  | none => exact Ans.neg (by simp) (Ans.pure rfl)
  | some r =>
    obtain ⟨a, p⟩ := r
    simp only
    refine Ans.pos (by simp) (Ans.bind (l3Put_a l hl a p) ?_)
    rintro v rfl
    refine Ans.ite (fun h => Ans.pure ?_) (fun h => ?_)
    · simp [h, noneB]
    · refine Ans.bind (specLinPort_a 50 (putV l a p).2) ?_
      rintro v rfl
      exact Ans.pure (by simp [h])
theorem specLinOk_a (s : ByteArray) : Ans (fun k => spec_LinOk.f k s) (fun r => r = linOk s) := by
  have hb : ∀ b : Int, spec_l2Byte.f b = some (lb b) := by
    intro b
    unfold spec_l2Byte.f lb
    by_cases h1 : 97 ≤ b <;> by_cases h2 : b ≤ 122 <;> by_cases h3 : 48 ≤ b <;> by_cases h4 : b ≤ 57 <;> simp [h1, h2, h3, h4]
  have L : s.size ≤ 16 → ∀ (m i : Nat), s.size - i = m → i ≤ s.size → Ans (fun k => spec_LinOk.l0 k s i) (fun r => r = ((bys s).drop i).all lb) := by
    intro hs m
    induction m with
    | zero =>
      intro i hm hi
      refine Ans.succ ?_
      unfold spec_LinOk.l0
      refine Ans.neg (by omega) (Ans.pure ?_)
      have hl : (bys s).length = s.size := by unfold bys; rw [List.length_map]; exact len_size s
      rw [List.drop_eq_nil_of_le (by omega)]; rfl
    | succ m ih =>
      intro i hm hi
      have hlt : i < s.size := by omega
      have hl : (bys s).length = s.size := by unfold bys; rw [List.length_map]; exact len_size s
      have hw : wrap64 ((i : Int) + 1) = ((i + 1 : Nat) : Int) := w64 _ (by omega)
      have hd : (bys s).drop i = (bys s)[i]'(by omega) :: (bys s).drop (i + 1) := List.drop_eq_getElem_cons (by omega)
      have hbt : bt s i = (bys s)[i]'(by omega) := by rw [bt_get s i hlt]; simp [bys]
      refine Ans.succ ?_
      unfold spec_LinOk.l0
      refine Ans.pos (by omega) (Ans.pos (by omega) ?_)
      rw [hbt, hb, hw]
      refine Ans.bsome ?_
      cases hq : lb ((bys s)[i]'(by omega)) with
      | true => exact Ans.pos rfl ((ih (i + 1) (by omega) (by omega)).mono (by rintro v rfl; rw [hd, List.all_cons, hq, Bool.true_and]))
      | false => exact Ans.neg (by simp) (Ans.pure (by rw [hd, List.all_cons, hq, Bool.false_and]))
  unfold spec_LinOk.f linOk
  refine Ans.ite (fun h => Ans.pure ?_) (fun h => ?_)
  · have : ¬ s.size ≤ 16 := by omega
    simp [this]
  · have hs : s.size ≤ 16 := by omega
    refine (L hs _ 0 rfl (Nat.zero_le _)).mono ?_
    rintro v rfl
    simp [hs]
def rwrLineW (l : List S34) (s : ByteArray) : List S34 × ByteArray := if okT l && linOk s then lineW l s else ([], ⟨#[]⟩)
theorem linOk_size {s : ByteArray} (h : linOk s = true) : s.size ≤ 16 := by
  unfold linOk at h; simp at h; exact h.2
theorem implRwrLine_a (l : List S34) (hl : l.length ≤ 2000000) (s : ByteArray) (hs : s.size ≤ 1048576) : Ans (fun k => impl_RwrLine.f k l s) (fun r => r = rwrLineW l s) := by
  unfold impl_RwrLine.f rwrLineW
  refine Ans.bind (implMapOk_a l hl) ?_
  rintro _ rfl
  cases c : okT l with
  | false => exact Ans.neg (by simp) (Ans.pure (by simp))
  | true =>
    refine Ans.pos rfl ?_
    have e : impl_LinOk.f s = some (linOk s) := by unfold impl_LinOk.f; rw [if_pos (by omega)]
    rw [e]
    refine Ans.bsome ?_
    cases c2 : linOk s with
    | false => exact Ans.neg (by simp) (Ans.pure (by simp))
    | true =>
      rw [implGoesOut_f c hs]
      exact Ans.pos rfl (Ans.bsome (Ans.pure (by simp)))
theorem specRwrLine_a (l : List S34) (hl : l.length ≤ 2000000) (s : ByteArray) (hs : s.size ≤ 1048576) : Ans (fun k => spec_RwrLine.f k l s) (fun r => r = rwrLineW l s) := by
  unfold spec_RwrLine.f rwrLineW
  refine Ans.bind (specMapOk_a l hl) ?_
  rintro _ rfl
  have J0 : Ans (fun k => spec_RwrLine.j0 k s true l) (fun r => r = ([], ⟨#[]⟩)) := by
    refine Ans.succ ?_
    unfold spec_RwrLine.j0
    exact Ans.pos rfl (Ans.pure rfl)
  cases c : okT l with
  | false => exact Ans.neg (by simp) (by simpa using J0)
  | true =>
    refine Ans.pos rfl (Ans.bind (specLinOk_a s) ?_)
    rintro _ rfl
    cases c2 : linOk s with
    | false => simpa using J0
    | true =>
      refine Ans.succ ?_
      unfold spec_RwrLine.j0
      refine Ans.neg (by simp) ?_
      have hl6 := okT_le c
      have hc : spec_l3Copy.f l = some l := by
        unfold spec_l3Copy.f
        rw [Option.bind_some, if_pos (by simp; omega)]
        rfl
      rw [hc]
      refine Ans.bsome (Ans.bind (specLine_a hl hs) ?_)
      rintro v rfl
      exact Ans.pure (by simp)
end Go.Proofs.YtffmbccgcaghjaaGreatDoor.P
