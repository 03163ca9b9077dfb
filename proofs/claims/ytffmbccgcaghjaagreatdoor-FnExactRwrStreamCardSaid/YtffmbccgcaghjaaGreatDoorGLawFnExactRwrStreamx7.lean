import Derived.Test.YtffmbccgcaghjaaGreatDoorGLawFnExactRwrStreamx6
import Derived.Deep.Slices
import Derived.ChangeArms
import Derived.WideShapes
namespace Go.Proofs.YtffmbccgcaghjaaGreatDoor.P
open Go.Proofs.YtffmbccgcaghjaaGreatDoorUFnExactRwrStream.PrintLast Go.Proofs.YtffmbccgcaghjaaGreatDoorUFnExactRwrStream.PrintMore Go.Proofs.YtffmbccgcaghjaaGreatDoorUFnExactRwrStream.PrintWords Go.RowKit
set_option linter.unusedVariables false
set_option linter.unusedSimpArgs false
section
attribute [local go_sem] max2_int min2_int max_two min_two max_three min_three max_four min_four
mutual
def laws_FnExactRwrStream.j0 : Nat → ByteArray → ByteArray → ByteArray → Bool → List (S102) → List (S34) → List (S34) → List (S34) → Option (Bool)
 | 0, _, _, _, _, _, _, _, _ => none
 | k + 1, x1, x7, x10, x47, x791000, x800000, x804000, x809000 => if x47 = true then (some false) else ((laws_toMapTab.f k x791000).bind fun t810 => ((laws_eqMapTab.f k x804000 t810).bind fun t813 => (if t813 = true then ((laws_markMapTab.f k x804000 1).bind fun bt814 => (if bt814.1 < 0 then (laws_FnExactRwrStream.j1 k x1 x7 true x791000 x800000 x809000) else ((laws_eqMapTab.f k x809000 x800000).bind fun t816 => (if t816 = true then (laws_FnExactRwrStream.j1 k x1 x7 (x10.toList != x7.toList) x791000 x800000 x809000) else (laws_FnExactRwrStream.j1 k x1 x7 true x791000 x800000 x809000))))) else (some false))))
def laws_FnExactRwrStream.j1 : Nat → ByteArray → ByteArray → Bool → List (S102) → List (S34) → List (S34) → Option (Bool)
 | 0, _, _, _, _, _, _ => none
 | k + 1, x1, x7, x68, x791000, x800000, x809000 => if x68 = true then (some false) else ((laws_markMapTab.f k x809000 1).bind fun bt817 => ((laws_heldMapTab.f k bt817.2 1).bind fun t819 => (if t819 < 0 then (some false) else (if t819 = bt817.1 then ((laws_toMapTab.f k x791000).bind fun t820 => ((impl_RwrStream.f k t820 x1).bind fun bt823 => ((laws_eqMapTab.f k bt823.1 x800000).bind fun t828 => (if t828 = true then (laws_FnExactRwrStream.j2 k bt817.1 (bt823.2.toList != x7.toList) bt817.2) else (laws_FnExactRwrStream.j2 k bt817.1 true bt817.2))))) else (some false)))))
def laws_FnExactRwrStream.j2 : Nat → Int → Bool → List (S34) → Option (Bool)
 | 0, _, _, _ => none
 | k + 1, x12, x95, x809000 => if x95 = true then (some false) else ((laws_heldMapTab.f k x809000 1).bind fun t829 => (if t829 < 0 then (some false) else (if t829 = x12 then (some true) else (some false))))
end
def laws_FnExactRwrStream.f (k : Nat) (l0_0 : List (S102)) (a1 : ByteArray) : Option (Bool) := if (a1.size : Int) > 1048576 then (some true) else ((laws_szMapTab.f l0_0 1048576).bind fun t791 => (if t791 < 0 then (some true) else ((laws_toMapTab.f k l0_0).bind fun t792 => ((spec_RwrStream.f k t792 a1).bind fun bt795 => ((laws_toMapTab.f k l0_0).bind fun t800 => ((impl_RwrStream.f k t800 a1).bind fun bt804 => ((laws_eqMapTab.f k bt804.1 bt795.1).bind fun t809 => (if t809 = true then (laws_FnExactRwrStream.j0 k a1 bt795.2 bt804.2 (bt804.2.toList != bt795.2.toList) l0_0 bt795.1 t800 bt804.1) else (laws_FnExactRwrStream.j0 k a1 bt795.2 bt804.2 true l0_0 bt795.1 t800 bt804.1)))))))))
theorem laws_FnExactRwrStream.mono_l : ∀ k, (∀ y0 y1 y2 y3 y4 y5 y6 y7, LeO (laws_FnExactRwrStream.j0 k y0 y1 y2 y3 y4 y5 y6 y7) (laws_FnExactRwrStream.j0 (k + 1) y0 y1 y2 y3 y4 y5 y6 y7)) ∧ (∀ y0 y1 y2 y3 y4 y5, LeO (laws_FnExactRwrStream.j1 k y0 y1 y2 y3 y4 y5) (laws_FnExactRwrStream.j1 (k + 1) y0 y1 y2 y3 y4 y5)) ∧ (∀ y0 y1 y2, LeO (laws_FnExactRwrStream.j2 k y0 y1 y2) (laws_FnExactRwrStream.j2 (k + 1) y0 y1 y2))
 | 0 => ⟨fun _ _ _ _ _ _ _ _ r h => by simp [laws_FnExactRwrStream.j0] at h, fun _ _ _ _ _ _ r h => by simp [laws_FnExactRwrStream.j1] at h, fun _ _ _ r h => by simp [laws_FnExactRwrStream.j2] at h⟩
 | k + 1 => by
  obtain ⟨ih0, ih1, ih2⟩ := laws_FnExactRwrStream.mono_l k
  refine ⟨?_, ?_, ?_⟩
  ·intro y0 y1 y2 y3 y4 y5 y6 y7
   unfold laws_FnExactRwrStream.j0
   repeat' first | (with_reducible first | exact ih0 _ _ _ _ _ _ _ _ | exact ih1 _ _ _ _ _ _ | exact ih2 _ _ _ | exact impl_RwrStream.mono _ _ _ | exact laws_eqMapTab.mono _ _ _ | exact laws_heldMapTab.mono _ _ _ | exact laws_markMapTab.mono _ _ _ | exact laws_toMapTab.mono _ _ | exact spec_RwrStream.mono _ _ _ | exact LeO.refl _ | exact LeO.none _ | refine LeO.ite ?_ ?_ | refine LeO.bind ?_ (fun _ => ?_)) | exact ih0 _ _ _ _ _ _ _ _ | exact ih1 _ _ _ _ _ _ | exact ih2 _ _ _ | exact impl_RwrStream.mono _ _ _ | exact laws_eqMapTab.mono _ _ _ | exact laws_heldMapTab.mono _ _ _ | exact laws_markMapTab.mono _ _ _ | exact laws_toMapTab.mono _ _ | exact spec_RwrStream.mono _ _ _ | exact LeO.none _ | refine LeO.ite ?_ ?_ | refine LeO.bind ?_ (fun _ => ?_)
  ·intro y0 y1 y2 y3 y4 y5
   unfold laws_FnExactRwrStream.j1
   repeat' first | (with_reducible first | exact ih0 _ _ _ _ _ _ _ _ | exact ih1 _ _ _ _ _ _ | exact ih2 _ _ _ | exact impl_RwrStream.mono _ _ _ | exact laws_eqMapTab.mono _ _ _ | exact laws_heldMapTab.mono _ _ _ | exact laws_markMapTab.mono _ _ _ | exact laws_toMapTab.mono _ _ | exact spec_RwrStream.mono _ _ _ | exact LeO.refl _ | exact LeO.none _ | refine LeO.ite ?_ ?_ | refine LeO.bind ?_ (fun _ => ?_)) | exact ih0 _ _ _ _ _ _ _ _ | exact ih1 _ _ _ _ _ _ | exact ih2 _ _ _ | exact impl_RwrStream.mono _ _ _ | exact laws_eqMapTab.mono _ _ _ | exact laws_heldMapTab.mono _ _ _ | exact laws_markMapTab.mono _ _ _ | exact laws_toMapTab.mono _ _ | exact spec_RwrStream.mono _ _ _ | exact LeO.none _ | refine LeO.ite ?_ ?_ | refine LeO.bind ?_ (fun _ => ?_)
  ·intro y0 y1 y2
   unfold laws_FnExactRwrStream.j2
   repeat' first | (with_reducible first | exact ih0 _ _ _ _ _ _ _ _ | exact ih1 _ _ _ _ _ _ | exact ih2 _ _ _ | exact impl_RwrStream.mono _ _ _ | exact laws_eqMapTab.mono _ _ _ | exact laws_heldMapTab.mono _ _ _ | exact laws_markMapTab.mono _ _ _ | exact laws_toMapTab.mono _ _ | exact spec_RwrStream.mono _ _ _ | exact LeO.refl _ | exact LeO.none _ | refine LeO.ite ?_ ?_ | refine LeO.bind ?_ (fun _ => ?_)) | exact ih0 _ _ _ _ _ _ _ _ | exact ih1 _ _ _ _ _ _ | exact ih2 _ _ _ | exact impl_RwrStream.mono _ _ _ | exact laws_eqMapTab.mono _ _ _ | exact laws_heldMapTab.mono _ _ _ | exact laws_markMapTab.mono _ _ _ | exact laws_toMapTab.mono _ _ | exact spec_RwrStream.mono _ _ _ | exact LeO.none _ | refine LeO.ite ?_ ?_ | refine LeO.bind ?_ (fun _ => ?_)
theorem laws_FnExactRwrStream.mono : ∀ a0 a1 k, LeO (laws_FnExactRwrStream.f k a0 a1) (laws_FnExactRwrStream.f (k + 1) a0 a1) := by
 intro a0 a1 k
 obtain ⟨ih0, ih1, ih2⟩ := laws_FnExactRwrStream.mono_l k
 unfold laws_FnExactRwrStream.f
 repeat' first | (with_reducible first | exact ih0 _ _ _ _ _ _ _ _ | exact ih1 _ _ _ _ _ _ | exact ih2 _ _ _ | exact impl_RwrStream.mono _ _ _ | exact laws_eqMapTab.mono _ _ _ | exact laws_heldMapTab.mono _ _ _ | exact laws_markMapTab.mono _ _ _ | exact laws_toMapTab.mono _ _ | exact spec_RwrStream.mono _ _ _ | exact LeO.refl _ | exact LeO.none _ | refine LeO.ite ?_ ?_ | refine LeO.bind ?_ (fun _ => ?_)) | exact ih0 _ _ _ _ _ _ _ _ | exact ih1 _ _ _ _ _ _ | exact ih2 _ _ _ | exact impl_RwrStream.mono _ _ _ | exact laws_eqMapTab.mono _ _ _ | exact laws_heldMapTab.mono _ _ _ | exact laws_markMapTab.mono _ _ _ | exact laws_toMapTab.mono _ _ | exact spec_RwrStream.mono _ _ _ | exact LeO.none _ | refine LeO.ite ?_ ?_ | refine LeO.bind ?_ (fun _ => ?_)
set_option maxHeartbeats 8000000 in
set_option maxRecDepth 100000 in
theorem laws_FnExactRwrStream.calls (k : Nat) (A0_0 : Option Addr) (c0_0 : Nat) (l0_0 : List (S102)) (a1 : ByteArray) (r : Bool) (w : World) (hr0_0 : Kd.C k102 w A0_0 l0_0.length l0_0) (hc0_0 : l0_0.length ≤ c0_0) (h : laws_FnExactRwrStream.f k l0_0 a1 = some r) (hrt : Aside0 (r = true)) (hE : EnvE w) :
  Calls Tryz.prog 7 #[.agg #[.slice A0_0 l0_0.length c0_0], .string a1] w fun e w' => e = .returned (.bool r) ∧ Below w.heap.size w w' := by
 have hu42 := Tryz.underlying42
 have hu25 := Tryz.underlying25
 have HR0_0 := am hr0_0
 have HC0_0 := am hc0_0
 clear hr0_0 hc0_0
 have HB := am (Below.refl w.heap.size w)
 have H : (if (a1.size : Int) > 1048576 then (some true) else ((laws_szMapTab.f l0_0 1048576).bind fun t791 => (if t791 < 0 then (some true) else ((laws_toMapTab.f k l0_0).bind fun t792 => ((spec_RwrStream.f k t792 a1).bind fun bt795 => ((laws_toMapTab.f k l0_0).bind fun t800 => ((impl_RwrStream.f k t800 a1).bind fun bt804 => ((laws_eqMapTab.f k bt804.1 bt795.1).bind fun t809 => (if t809 = true then (laws_FnExactRwrStream.j0 k a1 bt795.2 bt804.2 (bt804.2.toList != bt795.2.toList) l0_0 bt795.1 t800 bt804.1) else (laws_FnExactRwrStream.j0 k a1 bt795.2 bt804.2 true l0_0 bt795.1 t800 bt804.1)))))))))) = some r := h
 clear h
 by_cases c3 : (a1.size : Int) > 1048576
 ·rw [if_pos c3] at H
  have c3b0 : decide (1048576 < (a1.size : Int)) = true := decide_eq_true c3
  have c3b1 : decide (1048576 < a1.size) = true := decide_eq_true (by omega)
  clear c3
  obtain rfl := Option.some.inj H
  go_enter Tryz.func7, Tryz.ntmps7
  go_wp2_with (first | ((with_reducible refine gate_dst (N := 2) rfl ?_); refine box_event rfl (N := 2) rfl (cs := #[.slice A0_0 l0_0.length c0_0]) (t := 42) hr_ ?_; intro gb790 hg w4 hbox hb; have BK790 := am hbox; have GW790 := gwE HB hg; have GE790 := gwE HB hg; replace HB := hbS HB hb; clear hb hbox hg))
  go_ret
  exact ⟨fi_, m2_⟩
 ·rw [if_neg c3] at H
  have c3b0 : decide (1048576 < (a1.size : Int)) = false := decide_eq_false c3
  have c3b1 : decide (1048576 < a1.size) = false := decide_eq_false (by omega)
  clear c3
  obtain ⟨t791, A5, H⟩ := bse H
  try dsimp only at H
  by_cases c6 : t791 < 0
  ·rw [if_pos c6] at H
   have c6b0 : decide (t791 < 0) = true := decide_eq_true c6
   clear c6
   obtain rfl := Option.some.inj H
   go_enter Tryz.func7, Tryz.ntmps7
   go_wp2_with (first | ((with_reducible refine gate_dst (N := 2) rfl ?_); refine box_event rfl (N := 2) rfl (cs := #[.slice A0_0 l0_0.length c0_0]) (t := 42) hr_ ?_; intro gb790 hg w7 hbox hb; have BK790 := am hbox; have GW790 := gwE HB hg; have GE790 := gwE HB hg; replace HB := hbS HB hb; clear hb hbox hg; have hcz8_0 := bcell BK790 0; have hfz8_0 := blk_frozen BK790.out 0) | ((with_reducible refine gate_callee (f := 25) rfl ?_); refine gL (some 21) Tryz.func25 #[.agg #[.slice A0_0 l0_0.length c0_0], .int .i64 1048576] ?_; (with_reducible refine (laws_szMapTab.calls _ _ l0_0 1048576 t791 _ ?side1 ?side2 A5.out).mono ?_); (case side1 => exact m4_); (case side2 => exact HC0_0.out); rintro e w9 ⟨rfl, hb⟩; refine ⟨_, rfl, ?_⟩; replace BK790 := bkB BK790 hb; replace HB := hbS HB hb; (try clear hb)))
   go_ret
   exact ⟨fi_, m2_⟩
  ·rw [if_neg c6] at H
   have c6b0 : decide (t791 < 0) = false := decide_eq_false c6
   clear c6
   obtain ⟨t792, A10, H⟩ := bse H
   try dsimp only at H
   obtain ⟨⟨t795, t798⟩, A11, H⟩ := bse H
   try dsimp only at H
   obtain ⟨t800, A12, H⟩ := bse H
   try dsimp only at H
   obtain ⟨⟨t804, t807⟩, A13, H⟩ := bse H
   try dsimp only at H
   have HC14 := am H
   clear H
   go_enter Tryz.func7, Tryz.ntmps7
   go_upto_region 10 with (first | ((with_reducible refine gate_dst (N := 2) rfl ?_); refine box_event rfl (N := 2) rfl (cs := #[.slice A0_0 l0_0.length c0_0]) (t := 42) hr_ ?_; intro gb790 hg w15 hbox hb; have BK790 := am hbox; have GW790 := gwE HB hg; have GE790 := gwE HB hg; replace HB := hbS HB hb; clear hb hbox hg; have hcz16_0 := bcell BK790 0; have hfz16_0 := blk_frozen BK790.out 0) | ((with_reducible refine gate_callee (f := 25) rfl ?_); refine gL (some 21) Tryz.func25 #[.agg #[.slice A0_0 l0_0.length c0_0], .int .i64 1048576] ?_; (with_reducible refine (laws_szMapTab.calls _ _ l0_0 1048576 t791 _ ?side1 ?side2 A5.out).mono ?_); (case side1 => exact m4_); (case side2 => exact HC0_0.out); rintro e w17 ⟨rfl, hb⟩; refine ⟨_, rfl, ?_⟩; replace BK790 := bkB BK790 hb; replace HB := hbS HB hb; (try clear hb); have hcz18_0 := bcell BK790 0; have hfz18_0 := blk_frozen BK790.out 0) | ((with_reducible refine gate_callee (f := 26) rfl ?_); refine gL (some 26) Tryz.func26 #[.agg #[.slice A0_0 l0_0.length c0_0]] ?_; (with_reducible refine (laws_toMapTab.calls k _ _ l0_0 t792 _ ?side1 ?side2 A10.out).mono ?_); (case side1 => exact m4_); (case side2 => exact HC0_0.out); rintro e w19 ⟨v793, rfl, ho0, hb⟩; refine ⟨_, rfl, ?_⟩; have HO794 := am (Kd.R_lower ho0 (below_size (bl HB))); replace BK790 := bkB BK790 hb; replace HB := hbS HB hb; (try clear hb); (try clear ho0); obtain ⟨Ao20, co20, eo20⟩ := Kd.R_slice HO794.out; subst eo20) | ((with_reducible refine gate_callee (f := 37) rfl ?_); refine gL (some 28) Tryz.func37 #[.agg #[.slice Ao20 t792.length co20], .string a1] ?_; (with_reducible refine (spec_RwrStream.calls k _ _ t792 a1 t795 t798 _ ?side1 ?side2 A11.out).mono ?_); (case side1 => exact rcx HO794); (case side2 => exact (Kd.R_reads' HO794.out).2.1); rintro e w21 ⟨v796, rfl, ho0, hb⟩; refine ⟨_, rfl, ?_⟩; have HO797 := am (Kd.R_lower (Kd.R_new' ho0 (Kd.R_lt (rs HO794))) (below_size (bl HB))); replace HO794 := am (Kd.R_elder' (rs HO794) (Kd.R_base ho0) hb); replace BK790 := bkB BK790 hb; replace HB := hbS HB hb; (try clear hb); (try clear ho0)) | ((with_reducible refine gate_dst (N := 6) rfl ?_); refine box_event rfl (N := 6) rfl (cs := #[.slice none 0 0]) (t := 25) hr_ ?_; intro gb799 hg w22 hbox hb; replace HO794 := am (Kd.R_below (rs HO794) hb); replace HO797 := am (Kd.R_below (rs HO797) hb); have BK799 := am hbox; have GW799 := gwE HB hg; have GE799 := gwE HB hg; replace HB := hbS HB hb; have NB790_799 := neL BK790 hg; have NB799_790 := neG BK790 hg; replace BK790 := bkB BK790 hb; clear hb hbox hg; obtain ⟨Ao23, co23, eo23⟩ := Kd.R_slice HO797.out; subst eo23; have := NB799_790.out; have := NB790_799.out; have hcz25_0 := bcell BK799 0; have hfz25_0 := blk_frozen BK799.out 0; have hcz26_0 := bcell BK790 0; have hfz26_0 := blk_frozen BK790.out 0) | ((with_reducible refine gate_callee (f := 26) rfl ?_); refine gL (some 32) Tryz.func26 #[.agg #[.slice A0_0 l0_0.length c0_0]] ?_; (with_reducible refine (laws_toMapTab.calls k _ _ l0_0 t800 _ (Kd.C_below HR0_0.out (bl HB)) HC0_0.out A12.out).mono ?_); rintro e w27 ⟨v801, rfl, ho0, hb⟩; refine ⟨_, rfl, ?_⟩; have HO802 := am (Kd.R_lower (Kd.R_new' (Kd.R_new' ho0 (Kd.R_lt (by (with_reducible repeat apply ru); exact (Kd.R_mono (Kd.R_far (p := ⟨gb799, 0, none⟩) (Kd.R_types HO794.out BK799.out (by decide)) (fun _ hk => hk.2) (.slice Ao23 t795.length co23)) (fun _ h_ => h_.1))))) (Kd.R_lt (by (with_reducible repeat apply ru); exact (Kd.R_mono (Kd.R_far (p := ⟨gb799, 0, none⟩) (Kd.R_types HO797.out BK799.out (by decide)) (fun _ hk => hk.2) (.slice Ao23 t795.length co23)) (fun _ h_ => h_.1))))) (below_size (bl HB))); replace HO794 := am (Kd.R_elder' (by (with_reducible repeat apply ru); exact (Kd.R_mono (Kd.R_far (p := ⟨gb799, 0, none⟩) (Kd.R_types HO794.out BK799.out (by decide)) (fun _ hk => hk.2) (.slice Ao23 t795.length co23)) (fun _ h_ => h_.1))) (Kd.R_base ho0) hb); replace HO797 := am (Kd.R_elder' (by (with_reducible repeat apply ru); exact (Kd.R_mono (Kd.R_far (p := ⟨gb799, 0, none⟩) (Kd.R_types HO797.out BK799.out (by decide)) (fun _ hk => hk.2) (.slice Ao23 t795.length co23)) (fun _ h_ => h_.1))) (Kd.R_base ho0) hb); replace BK790 := am (blk_below (g := gb790) (o := .cells #[.slice A0_0 l0_0.length c0_0] 42 (0, 0)) (by (with_reducible repeat refine bu ?_); refine blk_far ?_ NB790_799.out _; (with_reducible repeat refine bu ?_); exact BK790.out) hb); replace BK799 := am (blk_below (g := gb799) (o := .cells #[.slice Ao23 t795.length co23] 25 (0, 0)) (by (with_reducible repeat refine bu ?_); refine blk_put (cs := #[.slice none 0 0]) ?_ 0 _ rfl; (with_reducible repeat refine bu ?_); exact BK799.out) hb); replace HB := hbS HB hb; (try clear hb); (try clear hk); (try clear ho0)) | ((with_reducible refine gate_dst (N := 8) rfl ?_); refine box_event rfl (N := 8) rfl (cs := #[.slice none 0 0]) (t := 25) hr_ ?_; intro gb803 hg w28 hbox hb; replace HO794 := am (Kd.R_below (rs HO794) hb); replace HO797 := am (Kd.R_below (rs HO797) hb); replace HO802 := am (Kd.R_below (rs HO802) hb); have BK803 := am hbox; have GW803 := gwE HB hg; have GE803 := gwE HB hg; replace HB := hbS HB hb; have NB790_803 := neL BK790 hg; have NB803_790 := neG BK790 hg; replace BK790 := bkB BK790 hb; have NB799_803 := neL BK799 hg; have NB803_799 := neG BK799 hg; replace BK799 := bkB BK799 hb; clear hb hbox hg; obtain ⟨Ao29, co29, eo29⟩ := Kd.R_slice HO802.out; subst eo29; have := NB803_790.out; have := NB790_803.out; have := NB803_799.out; have := NB799_803.out; have hcz32_0 := bcell BK803 0; have hfz32_0 := blk_frozen BK803.out 0) | ((with_reducible refine gate_callee (f := 34) rfl ?_); refine gL (some 36) Tryz.func34 #[.agg #[.slice Ao29 t800.length co29], .string a1] ?_; (with_reducible refine (impl_RwrStream.calls k _ _ t800 a1 t804 t807 _ ?side1 ?side2 A13.out (EnvE.below hE (bl HB))).mono ?_); (case side1 => refine (Kd.R_reads' (e := 34) (base := w.heap.size) (ok := fun k_ => ((True ∧ some k_ ≠ (.slice Ao20 t792.length co20 : Value).ownBlock) ∧ some k_ ≠ (.slice Ao23 t795.length co23 : Value).ownBlock)) (n := t800.length) (c := co29) ?_).2.2; exact (by (with_reducible repeat apply ru); exact (Kd.R_mono (Kd.R_far (p := ⟨gb803, 0, none⟩) (Kd.R_types HO802.out BK803.out (by decide)) (fun _ hk => hk.2) (.slice Ao29 t800.length co29)) (fun _ h_ => h_.1)))); (case side2 => exact (Kd.R_reads' HO802.out).2.1); rintro e w33 ⟨v805, rfl, ho0, hb⟩; refine ⟨_, rfl, ?_⟩; have HO806 := am (Kd.R_lower (Kd.R_new' (Kd.R_new' (Kd.R_new' ho0 (Kd.R_lt (by (with_reducible repeat apply ru); exact (Kd.R_mono (Kd.R_far (p := ⟨gb803, 0, none⟩) (Kd.R_types HO794.out BK803.out (by decide)) (fun _ hk => hk.2) (.slice Ao29 t800.length co29)) (fun _ h_ => h_.1))))) (Kd.R_lt (by (with_reducible repeat apply ru); exact (Kd.R_mono (Kd.R_far (p := ⟨gb803, 0, none⟩) (Kd.R_types HO797.out BK803.out (by decide)) (fun _ hk => hk.2) (.slice Ao29 t800.length co29)) (fun _ h_ => h_.1))))) (Kd.R_lt (by (with_reducible repeat apply ru); exact (Kd.R_mono (Kd.R_far (p := ⟨gb803, 0, none⟩) (Kd.R_types HO802.out BK803.out (by decide)) (fun _ hk => hk.2) (.slice Ao29 t800.length co29)) (fun _ h_ => h_.1))))) (below_size (bl HB))); replace HO794 := am (Kd.R_elder' (by (with_reducible repeat apply ru); exact (Kd.R_mono (Kd.R_far (p := ⟨gb803, 0, none⟩) (Kd.R_types HO794.out BK803.out (by decide)) (fun _ hk => hk.2) (.slice Ao29 t800.length co29)) (fun _ h_ => h_.1))) (Kd.R_base ho0) hb); replace HO797 := am (Kd.R_elder' (by (with_reducible repeat apply ru); exact (Kd.R_mono (Kd.R_far (p := ⟨gb803, 0, none⟩) (Kd.R_types HO797.out BK803.out (by decide)) (fun _ hk => hk.2) (.slice Ao29 t800.length co29)) (fun _ h_ => h_.1))) (Kd.R_base ho0) hb); replace HO802 := am (Kd.R_elder' (by (with_reducible repeat apply ru); exact (Kd.R_mono (Kd.R_far (p := ⟨gb803, 0, none⟩) (Kd.R_types HO802.out BK803.out (by decide)) (fun _ hk => hk.2) (.slice Ao29 t800.length co29)) (fun _ h_ => h_.1))) (Kd.R_base ho0) hb); replace BK790 := am (blk_below (g := gb790) (o := .cells #[.slice A0_0 l0_0.length c0_0] 42 (0, 0)) (by (with_reducible repeat refine bu ?_); refine blk_far ?_ NB790_803.out _; (with_reducible repeat refine bu ?_); exact BK790.out) hb); replace BK799 := am (blk_below (g := gb799) (o := .cells #[.slice Ao23 t795.length co23] 25 (0, 0)) (by (with_reducible repeat refine bu ?_); refine blk_far ?_ NB799_803.out _; (with_reducible repeat refine bu ?_); exact BK799.out) hb); replace BK803 := am (blk_below (g := gb803) (o := .cells #[.slice Ao29 t800.length co29] 25 (0, 0)) (by (with_reducible repeat refine bu ?_); refine blk_put (cs := #[.slice none 0 0]) ?_ 0 _ rfl; (with_reducible repeat refine bu ?_); exact BK803.out) hb); replace HB := hbS HB hb; (try clear hb); (try clear hk); (try clear ho0)) | ((with_reducible refine gate_dst (N := 9) rfl ?_); refine box_event rfl (N := 9) rfl (cs := #[.slice none 0 0]) (t := 25) hr_ ?_; intro gb808 hg w34 hbox hb; replace HO794 := am (Kd.R_below (rs HO794) hb); replace HO797 := am (Kd.R_below (rs HO797) hb); replace HO802 := am (Kd.R_below (rs HO802) hb); replace HO806 := am (Kd.R_below (rs HO806) hb); have BK808 := am hbox; have GW808 := gwE HB hg; have GE808 := gwE HB hg; replace HB := hbS HB hb; have NB790_808 := neL BK790 hg; have NB808_790 := neG BK790 hg; replace BK790 := bkB BK790 hb; have NB799_808 := neL BK799 hg; have NB808_799 := neG BK799 hg; replace BK799 := bkB BK799 hb; have NB803_808 := neL BK803 hg; have NB808_803 := neG BK803 hg; replace BK803 := bkB BK803 hb; clear hb hbox hg; obtain ⟨Ao35, co35, eo35⟩ := Kd.R_slice HO806.out; subst eo35; have := NB808_790.out; have := NB790_808.out; have := NB808_799.out; have := NB799_808.out; have := NB808_803.out; have := NB803_808.out; have hcz39_0 := bcell BK808 0; have hfz39_0 := blk_frozen BK808.out 0))
   (try simp only [Act.put, List.setIfInBounds_toArray, List.set_cons_zero, List.set_cons_succ])
   go_cut [47] (fun v47 wc => ∃ (kq : Nat) (x47_13 : Bool), v47 = .bool x47_13 ∧ Aside0 (laws_FnExactRwrStream.j0 kq a1 t798 t807 x47_13 l0_0 t795 t800 t804 = some r) ∧ Aside0 (kq ≤ k) ∧ Aside0 (Kd.R k34 34 wc w.heap.size (fun k_ => some k_ ≠ ((.slice Ao29 t800.length co29) : Value).ownBlock ∧ some k_ ≠ ((.slice Ao35 t804.length co35) : Value).ownBlock) (.slice Ao23 t795.length co23) t795) ∧ Aside0 (Kd.R k34 34 wc w.heap.size (fun k_ => some k_ ≠ ((.slice Ao23 t795.length co23) : Value).ownBlock ∧ some k_ ≠ ((.slice Ao35 t804.length co35) : Value).ownBlock) (.slice Ao29 t800.length co29) t800) ∧ Aside0 (Kd.R k34 34 wc w.heap.size (fun k_ => some k_ ≠ ((.slice Ao23 t795.length co23) : Value).ownBlock ∧ some k_ ≠ ((.slice Ao29 t800.length co29) : Value).ownBlock) (.slice Ao35 t804.length co35) t804) ∧ Aside0 (wc.heap[gb790]? = some (.cells #[(.slice A0_0 l0_0.length c0_0)] 42 (0, 0))) ∧ Aside0 (wc.heap[gb799]? = some (.cells #[(.slice Ao23 t795.length co23)] 25 (0, 0))) ∧ Aside0 (wc.heap[gb803]? = some (.cells #[(.slice Ao29 t800.length co29)] 25 (0, 0))) ∧ Aside0 (wc.heap[gb808]? = some (.cells #[(.slice Ao35 t804.length co35)] 25 (0, 0))) ∧ Aside0 (Below w.heap.size w wc))
   case first =>
    have H := HC14.out
    clear HC14
    obtain ⟨t809, A40, H⟩ := bse H
    try dsimp only at H
    by_cases c41 : t809 = true
    ·subst c41
     have H1 : (laws_FnExactRwrStream.j0 k a1 t798 t807 (t807.toList != t798.toList) l0_0 t795 t800 t804) = some r := by rw [if_pos rfl] at H; exact H
     clear H
     have H := H1
     clear H1
     have H' := am H
     clear H
     have := NB808_790.out
     have := NB790_808.out
     have := NB808_799.out
     have := NB799_808.out
     have := NB808_803.out
     have := NB803_808.out
     have hcz45_0 := bcell BK808 0
     have hfz45_0 := blk_frozen BK808.out 0
     have := NB799_790.out
     have := NB790_799.out
     have := NB799_803.out
     have := NB803_799.out
     have hcz48_0 := bcell BK799 0
     have hfz48_0 := blk_frozen BK799.out 0
     go_wp2_with (first | ((with_reducible refine gate_callee (f := 27) rfl ?_); refine gL (some 41) Tryz.func27 #[.agg #[.slice Ao35 t804.length co35], .agg #[.slice Ao23 t795.length co23]] ?_; (with_reducible refine (laws_eqMapTab.calls k _ _ t804 _ _ t795 true _ ?side1 ?side2 ?side3 ?side4 A40.out).mono ?_); (case side1 => refine (Kd.R_reads' (e := 34) (base := w.heap.size) (ok := fun k_ => (((True ∧ some k_ ≠ (.slice Ao20 t792.length co20 : Value).ownBlock) ∧ some k_ ≠ (.slice Ao23 t795.length co23 : Value).ownBlock) ∧ some k_ ≠ (.slice Ao29 t800.length co29 : Value).ownBlock)) (n := t804.length) (c := co35) ?_).2.2; exact (by (with_reducible repeat apply ru); exact (Kd.R_mono (Kd.R_far (p := ⟨gb808, 0, none⟩) (Kd.R_types HO806.out BK808.out (by decide)) (fun _ hk => hk.2) (.slice Ao35 t804.length co35)) (fun _ h_ => h_.1)))); (case side2 => exact (Kd.R_reads' HO806.out).2.1); (case side3 => refine (Kd.R_reads' (e := 34) (base := w.heap.size) (ok := fun k_ => (((True ∧ some k_ ≠ (.slice Ao20 t792.length co20 : Value).ownBlock) ∧ some k_ ≠ (.slice Ao29 t800.length co29 : Value).ownBlock) ∧ some k_ ≠ (.slice Ao35 t804.length co35 : Value).ownBlock)) (n := t795.length) (c := co23) ?_).2.2; exact (by (with_reducible repeat apply ru); exact (Kd.R_mono (Kd.R_far (p := ⟨gb808, 0, none⟩) (Kd.R_types HO797.out BK808.out (by decide)) (fun _ hk => hk.2) (.slice Ao35 t804.length co35)) (fun _ h_ => h_.1)))); (case side4 => exact (Kd.R_reads' HO797.out).2.1); rintro e w49 ⟨rfl, hb⟩; refine ⟨_, rfl, ?_⟩; replace HO794 := am (Kd.R_below (by (with_reducible repeat apply ru); exact (Kd.R_mono (Kd.R_far (p := ⟨gb808, 0, none⟩) (Kd.R_types HO794.out BK808.out (by decide)) (fun _ hk => hk.2) (.slice Ao35 t804.length co35)) (fun _ h_ => h_.1))) hb); replace HO797 := am (Kd.R_below (by (with_reducible repeat apply ru); exact (Kd.R_mono (Kd.R_far (p := ⟨gb808, 0, none⟩) (Kd.R_types HO797.out BK808.out (by decide)) (fun _ hk => hk.2) (.slice Ao35 t804.length co35)) (fun _ h_ => h_.1))) hb); replace HO802 := am (Kd.R_below (by (with_reducible repeat apply ru); exact (Kd.R_mono (Kd.R_far (p := ⟨gb808, 0, none⟩) (Kd.R_types HO802.out BK808.out (by decide)) (fun _ hk => hk.2) (.slice Ao35 t804.length co35)) (fun _ h_ => h_.1))) hb); replace HO806 := am (Kd.R_below (by (with_reducible repeat apply ru); exact (Kd.R_mono (Kd.R_far (p := ⟨gb808, 0, none⟩) (Kd.R_types HO806.out BK808.out (by decide)) (fun _ hk => hk.2) (.slice Ao35 t804.length co35)) (fun _ h_ => h_.1))) hb); replace BK790 := am (blk_below (g := gb790) (o := .cells #[.slice A0_0 l0_0.length c0_0] 42 (0, 0)) (by (with_reducible repeat refine bu ?_); refine blk_far ?_ NB790_808.out _; (with_reducible repeat refine bu ?_); exact BK790.out) hb); replace BK799 := am (blk_below (g := gb799) (o := .cells #[.slice Ao23 t795.length co23] 25 (0, 0)) (by (with_reducible repeat refine bu ?_); refine blk_far ?_ NB799_808.out _; (with_reducible repeat refine bu ?_); exact BK799.out) hb); replace BK803 := am (blk_below (g := gb803) (o := .cells #[.slice Ao29 t800.length co29] 25 (0, 0)) (by (with_reducible repeat refine bu ?_); refine blk_far ?_ NB803_808.out _; (with_reducible repeat refine bu ?_); exact BK803.out) hb); replace BK808 := am (blk_below (g := gb808) (o := .cells #[.slice Ao35 t804.length co35] 25 (0, 0)) (by (with_reducible repeat refine bu ?_); refine blk_put (cs := #[.slice none 0 0]) ?_ 0 _ rfl; (with_reducible repeat refine bu ?_); exact BK808.out) hb); replace HB := hbS HB hb; (try clear hb); (try clear hk)))
     go_meet
     case rel => exact ⟨_, ((t807.toList != t798.toList)), rs_, H', ⟨by first | omega | exact Nat.le_refl _⟩, ⟨by (with_reducible repeat apply ru); exact Kd.R_mono HO797.out ok_⟩, ⟨by (with_reducible repeat apply ru); exact Kd.R_mono HO802.out ok_⟩, ⟨by (with_reducible repeat apply ru); exact Kd.R_mono HO806.out ok_⟩, ⟨bk BK790⟩, ⟨bk BK799⟩, ⟨bk BK803⟩, ⟨bk BK808⟩, ⟨m2_⟩⟩
    ·replace c41 := Bool.eq_false_iff.mpr c41
     subst c41
     have H1 : (laws_FnExactRwrStream.j0 k a1 t798 t807 true l0_0 t795 t800 t804) = some r := by rw [if_neg (show ¬ (false = true) by decide)] at H; exact H
     clear H
     have H := H1
     clear H1
     have H' := am H
     clear H
     have := NB808_790.out
     have := NB790_808.out
     have := NB808_799.out
     have := NB799_808.out
     have := NB808_803.out
     have := NB803_808.out
     have hcz53_0 := bcell BK808 0
     have hfz53_0 := blk_frozen BK808.out 0
     have := NB799_790.out
     have := NB790_799.out
     have := NB799_803.out
     have := NB803_799.out
     have hcz56_0 := bcell BK799 0
     have hfz56_0 := blk_frozen BK799.out 0
     go_wp2_with (first | ((with_reducible refine gate_callee (f := 27) rfl ?_); refine gL (some 41) Tryz.func27 #[.agg #[.slice Ao35 t804.length co35], .agg #[.slice Ao23 t795.length co23]] ?_; (with_reducible refine (laws_eqMapTab.calls k _ _ t804 _ _ t795 false _ ?side1 ?side2 ?side3 ?side4 A40.out).mono ?_); (case side1 => refine (Kd.R_reads' (e := 34) (base := w.heap.size) (ok := fun k_ => (((True ∧ some k_ ≠ (.slice Ao20 t792.length co20 : Value).ownBlock) ∧ some k_ ≠ (.slice Ao23 t795.length co23 : Value).ownBlock) ∧ some k_ ≠ (.slice Ao29 t800.length co29 : Value).ownBlock)) (n := t804.length) (c := co35) ?_).2.2; exact (by (with_reducible repeat apply ru); exact (Kd.R_mono (Kd.R_far (p := ⟨gb808, 0, none⟩) (Kd.R_types HO806.out BK808.out (by decide)) (fun _ hk => hk.2) (.slice Ao35 t804.length co35)) (fun _ h_ => h_.1)))); (case side2 => exact (Kd.R_reads' HO806.out).2.1); (case side3 => refine (Kd.R_reads' (e := 34) (base := w.heap.size) (ok := fun k_ => (((True ∧ some k_ ≠ (.slice Ao20 t792.length co20 : Value).ownBlock) ∧ some k_ ≠ (.slice Ao29 t800.length co29 : Value).ownBlock) ∧ some k_ ≠ (.slice Ao35 t804.length co35 : Value).ownBlock)) (n := t795.length) (c := co23) ?_).2.2; exact (by (with_reducible repeat apply ru); exact (Kd.R_mono (Kd.R_far (p := ⟨gb808, 0, none⟩) (Kd.R_types HO797.out BK808.out (by decide)) (fun _ hk => hk.2) (.slice Ao35 t804.length co35)) (fun _ h_ => h_.1)))); (case side4 => exact (Kd.R_reads' HO797.out).2.1); rintro e w57 ⟨rfl, hb⟩; refine ⟨_, rfl, ?_⟩; replace HO794 := am (Kd.R_below (by (with_reducible repeat apply ru); exact (Kd.R_mono (Kd.R_far (p := ⟨gb808, 0, none⟩) (Kd.R_types HO794.out BK808.out (by decide)) (fun _ hk => hk.2) (.slice Ao35 t804.length co35)) (fun _ h_ => h_.1))) hb); replace HO797 := am (Kd.R_below (by (with_reducible repeat apply ru); exact (Kd.R_mono (Kd.R_far (p := ⟨gb808, 0, none⟩) (Kd.R_types HO797.out BK808.out (by decide)) (fun _ hk => hk.2) (.slice Ao35 t804.length co35)) (fun _ h_ => h_.1))) hb); replace HO802 := am (Kd.R_below (by (with_reducible repeat apply ru); exact (Kd.R_mono (Kd.R_far (p := ⟨gb808, 0, none⟩) (Kd.R_types HO802.out BK808.out (by decide)) (fun _ hk => hk.2) (.slice Ao35 t804.length co35)) (fun _ h_ => h_.1))) hb); replace HO806 := am (Kd.R_below (by (with_reducible repeat apply ru); exact (Kd.R_mono (Kd.R_far (p := ⟨gb808, 0, none⟩) (Kd.R_types HO806.out BK808.out (by decide)) (fun _ hk => hk.2) (.slice Ao35 t804.length co35)) (fun _ h_ => h_.1))) hb); replace BK790 := am (blk_below (g := gb790) (o := .cells #[.slice A0_0 l0_0.length c0_0] 42 (0, 0)) (by (with_reducible repeat refine bu ?_); refine blk_far ?_ NB790_808.out _; (with_reducible repeat refine bu ?_); exact BK790.out) hb); replace BK799 := am (blk_below (g := gb799) (o := .cells #[.slice Ao23 t795.length co23] 25 (0, 0)) (by (with_reducible repeat refine bu ?_); refine blk_far ?_ NB799_808.out _; (with_reducible repeat refine bu ?_); exact BK799.out) hb); replace BK803 := am (blk_below (g := gb803) (o := .cells #[.slice Ao29 t800.length co29] 25 (0, 0)) (by (with_reducible repeat refine bu ?_); refine blk_far ?_ NB803_808.out _; (with_reducible repeat refine bu ?_); exact BK803.out) hb); replace BK808 := am (blk_below (g := gb808) (o := .cells #[.slice Ao35 t804.length co35] 25 (0, 0)) (by (with_reducible repeat refine bu ?_); refine blk_put (cs := #[.slice none 0 0]) ?_ 0 _ rfl; (with_reducible repeat refine bu ?_); exact BK808.out) hb); replace HB := hbS HB hb; (try clear hb); (try clear hk)))
     go_meet
     case rel => exact ⟨_, (true), rs_, H', ⟨by first | omega | exact Nat.le_refl _⟩, ⟨by (with_reducible repeat apply ru); exact Kd.R_mono HO797.out ok_⟩, ⟨by (with_reducible repeat apply ru); exact Kd.R_mono HO802.out ok_⟩, ⟨by (with_reducible repeat apply ru); exact Kd.R_mono HO806.out ok_⟩, ⟨bk BK790⟩, ⟨bk BK799⟩, ⟨bk BK803⟩, ⟨bk BK808⟩, ⟨m2_⟩⟩
   case rest =>
    clear HC14
    try clear c2
    try clear p2
    try clear c3
    try clear c3b0
    try clear c3b1
    try clear c4
    try clear c5
    try clear c6
    try clear c6b0
    try clear c7
    try clear c24
    try clear c25
    try clear c26
    try clear c27
    try clear c30
    try clear c31
    try clear c34
    try clear c36
    try clear c37
    try clear c38
    try clear c41
    try clear c42
    try clear c43
    try clear c44
    try clear c46
    try clear c47
    try clear c50
    try clear c51
    try clear c52
    try clear c54
    try clear c55
    try clear hcz16_0
    try clear hcz18_0
    try clear hcz25_0
    try clear hcz26_0
    try clear hcz32_0
    try clear hcz39_0
    try clear hcz45_0
    try clear hcz48_0
    try clear hcz53_0
    try clear hcz56_0
    try clear hcz8_0
    try clear hfz16_0
    try clear hfz18_0
    try clear hfz25_0
    try clear hfz26_0
    try clear hfz32_0
    try clear hfz39_0
    try clear hfz45_0
    try clear hfz48_0
    try clear hfz53_0
    try clear hfz56_0
    try clear hfz8_0
    obtain ⟨kq, x47_13, rfl, HA, HJ13, HO_800000, HO_804000, HO_809000, BK790, BK799, BK803, BK808, HB⟩ := hcut
    cases kq with
    | zero => exact absurd HA.out (by simp [laws_FnExactRwrStream.j0])
    | succ kj13 =>
     have H := HA.out
     clear HA
     simp only [laws_FnExactRwrStream.j0] at H
     by_cases c58 : x47_13 = true
     ·subst c58
      have H1 : (some false) = some r := by rw [if_pos rfl] at H; exact H
      clear H
      have H := H1
      clear H1
      exact absurd ((Option.some.inj H).trans hrt.out) (by decide)
     ·replace c58 := Bool.eq_false_iff.mpr c58
      subst c58
      have H1 : ((laws_toMapTab.f kj13 l0_0).bind fun t810 => ((laws_eqMapTab.f kj13 t800 t810).bind fun t813 => (if t813 = true then ((laws_markMapTab.f kj13 t800 1).bind fun bt814 => (if bt814.1 < 0 then (laws_FnExactRwrStream.j1 kj13 a1 t798 true l0_0 t795 t804) else ((laws_eqMapTab.f kj13 t804 t795).bind fun t816 => (if t816 = true then (laws_FnExactRwrStream.j1 kj13 a1 t798 (t807.toList != t798.toList) l0_0 t795 t804) else (laws_FnExactRwrStream.j1 kj13 a1 t798 true l0_0 t795 t804))))) else (some false)))) = some r := by rw [if_neg (show ¬ (false = true) by decide)] at H; exact H
      clear H
      have H := H1
      clear H1
      obtain ⟨t810, A59, H⟩ := bse H
      try dsimp only at H
      obtain ⟨t813, A60, H⟩ := bse H
      try dsimp only at H
      by_cases c61 : t813 = true
      ·subst c61
       have H1 : ((laws_markMapTab.f kj13 t800 1).bind fun bt814 => (if bt814.1 < 0 then (laws_FnExactRwrStream.j1 kj13 a1 t798 true l0_0 t795 t804) else ((laws_eqMapTab.f kj13 t804 t795).bind fun t816 => (if t816 = true then (laws_FnExactRwrStream.j1 kj13 a1 t798 (t807.toList != t798.toList) l0_0 t795 t804) else (laws_FnExactRwrStream.j1 kj13 a1 t798 true l0_0 t795 t804))))) = some r := by rw [if_pos rfl] at H; exact H
       clear H
       have H := H1
       clear H1
       obtain ⟨⟨t814, t815⟩, A62, H⟩ := bse H
       try dsimp only at H
       have HC63 := am H
       clear H
       try go_wp2
       replace HO_800000 := am (Kd.R_drew HO_800000.out)
       replace HO_804000 := am (Kd.R_drew HO_804000.out)
       replace HO_809000 := am (Kd.R_drew HO_809000.out)
       replace BK790 := am (blk_drew BK790.out)
       replace BK799 := am (blk_drew BK799.out)
       replace BK803 := am (blk_drew BK803.out)
       replace BK808 := am (blk_drew BK808.out)
       replace HB := am (below_drew1 HB.out)
       refine start_ (n := 5) (S := fun w' => w'.cell? ⟨gb803, 0, none⟩ = some (.slice Ao29 t800.length co29) ∧ w'.cell? ⟨gb790, 0, none⟩ = some (.slice A0_0 l0_0.length c0_0)) (ds := []) #[false, false, false, false, false] (by kernel_rfl) rfl rfl ⟨bcell BK803 0, bcell BK790 0⟩ (fun hHeld => ?_)
       generalize wc.drew = w64 at HO_800000 HO_804000 HO_809000 BK790 BK799 BK803 BK808 HB hHeld ⊢
       refine tk_ 0 (some 48) (bm 5 1) rfl (.inl ⟨rfl, m3_⟩) ?_
       refine tk_ 1 (some 49) (bm 5 3) rfl (.inl ⟨rfl, m3_⟩) ?_
       refine one_ (i := 2) (N := some 50) #[true, true, true, false, false] rfl rfl (by kernel_rfl) (by decide) (fun K hK => ?_)
       refine gR Tryz.func26 #[.agg #[.slice A0_0 l0_0.length c0_0]] ?_
       with_reducible refine (laws_toMapTab.calls kj13 _ _ l0_0 t810 _ ?side1 ?side2 A59.out).mono ?_
       (case side1 => exact m4_)
       (case side2 => exact HC0_0.out)
       rintro e w65 ⟨v811, rfl, ho0, hb⟩
       refine ⟨_, rfl, ?_⟩
       have HO812 := am (Kd.R_lower (Kd.R_new' (Kd.R_new' (Kd.R_new' ho0 (Kd.R_lt (rs HO_800000))) (Kd.R_lt (rs HO_804000))) (Kd.R_lt (rs HO_809000))) (below_size (bl HB)))
       replace HO_800000 := am (Kd.R_elder' (rs HO_800000) (Kd.R_base ho0) hb)
       replace HO_804000 := am (Kd.R_elder' (rs HO_804000) (Kd.R_base ho0) hb)
       replace HO_809000 := am (Kd.R_elder' (rs HO_809000) (Kd.R_base ho0) hb)
       replace BK790 := bkB BK790 hb
       replace BK799 := bkB BK799 hb
       replace BK803 := bkB BK803 hb
       replace BK808 := bkB BK808 hb
       replace HB := hbS HB hb
       (try clear hb)
       (try clear hb2)
       (try clear hk)
       (try clear hi)
       (try clear ho0)
       obtain ⟨Ao66, co66, eo66⟩ := Kd.R_slice HO812.out
       (first | subst eo66 | (injection eo66 with f1_ f2_ f3_; have f4_ := f1_.symm; have f5_ := f3_.symm; clear f1_ f2_ f3_; subst f4_; subst f5_))
       refine hK.out _ _ ⟨bcell BK803 0, bcell BK790 0⟩ (fun hHeld => ?_)
       clear hK K
       refine nm_ ?_
       refine one_ (i := 3) (N := some 51) #[true, true, true, true, false] rfl rfl (by kernel_rfl) (by decide) (fun K hK => ?_)
       refine gR Tryz.func27 #[.agg #[.slice Ao29 t800.length co29], .agg #[.slice Ao66 t810.length co66]] ?_
       with_reducible refine (laws_eqMapTab.calls kj13 _ _ t800 _ _ t810 true _ ?side1 ?side2 ?side3 ?side4 A60.out).mono ?_
       (case side1 => exact rcx HO_804000)
       (case side2 => exact (Kd.R_reads' HO_804000.out).2.1)
       (case side3 => exact rcx HO812)
       (case side4 => exact (Kd.R_reads' HO812.out).2.1)
       rintro e w67 ⟨rfl, hb⟩
       refine ⟨_, rfl, ?_⟩
       replace HO_800000 := am (Kd.R_below (rs HO_800000) hb)
       replace HO_804000 := am (Kd.R_below (rs HO_804000) hb)
       replace HO_809000 := am (Kd.R_below (rs HO_809000) hb)
       replace HO812 := am (Kd.R_below (rs HO812) hb)
       replace BK790 := bkB BK790 hb
       replace BK799 := bkB BK799 hb
       replace BK803 := bkB BK803 hb
       replace BK808 := bkB BK808 hb
       replace HB := hbS HB hb
       (try clear hb)
       (try clear hb2)
       (try clear hk)
       (try clear hi)
       refine hK.out _ _ ⟨bcell BK803 0, bcell BK790 0⟩ (fun hHeld => ?_)
       clear hK K
       refine nm_ ?_
       refine pu_ 4 (some 52) (bm 5 31) ?_
       refine done_ (by kernel_rfl) ?_
       have := NB803_790.out
       have := NB790_803.out
       have := NB803_799.out
       have := NB799_803.out
       have := NB803_808.out
       have := NB808_803.out
       have hcz71_0 := bcell BK803 0
       have hfz71_0 := blk_frozen BK803.out 0
       go_upto_region 16 with (first | ((with_reducible refine gate_callee (f := 28) rfl ?_); refine gL (some 55) Tryz.func28 #[.agg #[.slice Ao29 t800.length co29], .int .i64 1] ?_; (with_reducible refine (laws_markMapTab.calls kj13 (fun k_ => some k_ = (.slice Ao29 t800.length co29 : Value).ownBlock) (.slice Ao29 t800.length co29) t800 1 t814 t815 w _ ?side1 ?side2 A62.out).mono ?_); (case side1 => exact m2_); (case side2 => exact Kd.R_tight rfl HO_804000.out); rintro e w72 ⟨rfl, hy0, hb, hkp⟩; refine ⟨_, rfl, ?_⟩; replace HO_800000 := am (Kd.R_mono (ok' := fun k_ => some k_ ≠ (.slice Ao29 t800.length co29 : Value).ownBlock ∧ some k_ ≠ (.slice Ao35 t804.length co35 : Value).ownBlock ∧ some k_ ≠ (.slice Ao66 t810.length co66 : Value).ownBlock) (Kd.R_keptB (HO_800000.out) hkp (fun k_ hk_ hs_ => (hk_.1.1) hs_)) (fun k_ hk_ => ⟨hk_.1.1.1, hk_.1.1.2, hk_.1.2⟩)); replace HO_809000 := am (Kd.R_mono (ok' := fun k_ => some k_ ≠ (.slice Ao23 t795.length co23 : Value).ownBlock ∧ some k_ ≠ (.slice Ao29 t800.length co29 : Value).ownBlock ∧ some k_ ≠ (.slice Ao66 t810.length co66 : Value).ownBlock) (Kd.R_keptB (HO_809000.out) hkp (fun k_ hk_ hs_ => (hk_.1.2) hs_)) (fun k_ hk_ => ⟨hk_.1.1.1, hk_.1.1.2, hk_.1.2⟩)); replace BK790 := am (blk_kept (bk BK790) hkp (fun hs_ => (fun e_ => (Kd.R_ne HO_804000.out BK790.out (by decide)) e_) hs_)); replace BK799 := am (blk_kept (bk BK799) hkp (fun hs_ => (fun e_ => (Kd.R_ne HO_804000.out BK799.out (by decide)) e_) hs_)); replace BK803 := am (blk_kept (bk BK803) hkp (fun hs_ => (fun e_ => (Kd.R_ne HO_804000.out BK803.out (by decide)) e_) hs_)); replace BK808 := am (blk_kept (bk BK808) hkp (fun hs_ => (fun e_ => (Kd.R_ne HO_804000.out BK808.out (by decide)) e_) hs_)); replace HO_804000 := am (Kd.R_reok rfl hy0 (fun k_ e_ => HO_804000.out.1 k_ e_)); replace HO812 := am (Kd.R_mono (ok' := fun k_ => some k_ ≠ (.slice Ao23 t795.length co23 : Value).ownBlock ∧ some k_ ≠ (.slice Ao29 t800.length co29 : Value).ownBlock ∧ some k_ ≠ (.slice Ao35 t804.length co35 : Value).ownBlock) (Kd.R_keptB (HO812.out) hkp (fun k_ hk_ hs_ => (hk_.1.2) hs_)) (fun k_ hk_ => ⟨hk_.1.1.1.2, hk_.1.1.2, hk_.1.2⟩)); replace HB := am hb; (try clear hb); (try clear hkp); (try clear hy0)))
       (try simp only [Act.put, List.setIfInBounds_toArray, List.set_cons_zero, List.set_cons_succ])
       go_cut [68] (fun v68 wc => ∃ (kq : Nat) (x68_62 : Bool), v68 = .bool x68_62 ∧ Aside0 (laws_FnExactRwrStream.j1 kq a1 t798 x68_62 l0_0 t795 t804 = some r) ∧ Aside0 (kq ≤ kj13) ∧ Aside0 (Kd.R k34 34 wc w.heap.size (fun k_ => some k_ ≠ ((.slice Ao29 t800.length co29) : Value).ownBlock ∧ some k_ ≠ ((.slice Ao35 t804.length co35) : Value).ownBlock) (.slice Ao23 t795.length co23) t795) ∧ Aside0 (Kd.R k34 34 wc w.heap.size (fun k_ => some k_ ≠ ((.slice Ao23 t795.length co23) : Value).ownBlock ∧ some k_ ≠ ((.slice Ao35 t804.length co35) : Value).ownBlock) (.slice Ao29 t800.length co29) t815) ∧ Aside0 (Kd.R k34 34 wc w.heap.size (fun k_ => some k_ ≠ ((.slice Ao23 t795.length co23) : Value).ownBlock ∧ some k_ ≠ ((.slice Ao29 t800.length co29) : Value).ownBlock) (.slice Ao35 t804.length co35) t804) ∧ Aside0 (wc.heap[gb790]? = some (.cells #[(.slice A0_0 l0_0.length c0_0)] 42 (0, 0))) ∧ Aside0 (wc.heap[gb799]? = some (.cells #[(.slice Ao23 t795.length co23)] 25 (0, 0))) ∧ Aside0 (wc.heap[gb803]? = some (.cells #[(.slice Ao29 t800.length co29)] 25 (0, 0))) ∧ Aside0 (wc.heap[gb808]? = some (.cells #[(.slice Ao35 t804.length co35)] 25 (0, 0))) ∧ Aside0 (Below w.heap.size w wc))
       case first =>
        have H := HC63.out
        clear HC63
        by_cases c73 : t814 < 0
        ·rw [if_pos c73] at H
         have c73b0 : decide (t814 < 0) = true := decide_eq_true c73
         clear c73
         (first | rw [c73b0] | (simp only [i64_w, i32_w]; rw [c73b0]) | skip)
         have H' := am H
         clear H
         go_wp2
         go_meet
         case rel => exact ⟨_, (true), rs_, H', ⟨by have := HJ13.out; first | omega | exact Nat.le_refl _⟩, ⟨by (with_reducible repeat apply ru); exact Kd.R_mono HO_800000.out ok_⟩, ⟨by (with_reducible repeat apply ru); exact Kd.R_mono HO_804000.out ok_⟩, ⟨by (with_reducible repeat apply ru); exact Kd.R_mono HO_809000.out ok_⟩, ⟨bk BK790⟩, ⟨bk BK799⟩, ⟨bk BK803⟩, ⟨bk BK808⟩, ⟨m2_⟩⟩
        ·rw [if_neg c73] at H
         have c73b0 : decide (t814 < 0) = false := decide_eq_false c73
         clear c73
         (first | rw [c73b0] | (simp only [i64_w, i32_w]; rw [c73b0]) | skip)
         obtain ⟨t816, A74, H⟩ := bse H
         try dsimp only at H
         by_cases c75 : t816 = true
         ·subst c75
          have H1 : (laws_FnExactRwrStream.j1 kj13 a1 t798 (t807.toList != t798.toList) l0_0 t795 t804) = some r := by rw [if_pos rfl] at H; exact H
          clear H
          have H := H1
          clear H1
          have H' := am H
          clear H
          have := NB808_790.out
          have := NB790_808.out
          have := NB808_799.out
          have := NB799_808.out
          have := NB808_803.out
          have := NB803_808.out
          have hcz79_0 := bcell BK808 0
          have hfz79_0 := blk_frozen BK808.out 0
          have := NB799_790.out
          have := NB790_799.out
          have := NB799_803.out
          have := NB803_799.out
          have hcz82_0 := bcell BK799 0
          have hfz82_0 := blk_frozen BK799.out 0
          go_wp2_with (first | (go_at_call 27; (with_reducible refine (laws_eqMapTab.calls kj13 _ _ t804 _ _ t795 true _ ?side1 ?side2 ?side3 ?side4 A74.out).mono ?_); (case side1 => exact rcx HO_809000); (case side2 => exact (Kd.R_reads' HO_809000.out).2.1); (case side3 => exact rcx HO_800000); (case side4 => exact (Kd.R_reads' HO_800000.out).2.1); rintro e w83 ⟨rfl, hb⟩; replace HO_800000 := am (Kd.R_below (rs HO_800000) hb); replace HO_804000 := am (Kd.R_below (rs HO_804000) hb); replace HO_809000 := am (Kd.R_below (rs HO_809000) hb); replace HO812 := am (Kd.R_below (rs HO812) hb); replace BK790 := bkB BK790 hb; replace BK799 := bkB BK799 hb; replace BK803 := bkB BK803 hb; replace BK808 := bkB BK808 hb; replace HB := hbS HB hb; (try clear hb)))
          go_meet
          case rel => exact ⟨_, ((t807.toList != t798.toList)), rs_, H', ⟨by have := HJ13.out; first | omega | exact Nat.le_refl _⟩, ⟨by (with_reducible repeat apply ru); exact Kd.R_mono HO_800000.out ok_⟩, ⟨by (with_reducible repeat apply ru); exact Kd.R_mono HO_804000.out ok_⟩, ⟨by (with_reducible repeat apply ru); exact Kd.R_mono HO_809000.out ok_⟩, ⟨bk BK790⟩, ⟨bk BK799⟩, ⟨bk BK803⟩, ⟨bk BK808⟩, ⟨m2_⟩⟩
         ·replace c75 := Bool.eq_false_iff.mpr c75
          subst c75
          have H1 : (laws_FnExactRwrStream.j1 kj13 a1 t798 true l0_0 t795 t804) = some r := by rw [if_neg (show ¬ (false = true) by decide)] at H; exact H
          clear H
          have H := H1
          clear H1
          have H' := am H
          clear H
          have := NB808_790.out
          have := NB790_808.out
          have := NB808_799.out
          have := NB799_808.out
          have := NB808_803.out
          have := NB803_808.out
          have hcz87_0 := bcell BK808 0
          have hfz87_0 := blk_frozen BK808.out 0
          have := NB799_790.out
          have := NB790_799.out
          have := NB799_803.out
          have := NB803_799.out
          have hcz90_0 := bcell BK799 0
          have hfz90_0 := blk_frozen BK799.out 0
          go_wp2_with (first | (go_at_call 27; (with_reducible refine (laws_eqMapTab.calls kj13 _ _ t804 _ _ t795 false _ ?side1 ?side2 ?side3 ?side4 A74.out).mono ?_); (case side1 => exact rcx HO_809000); (case side2 => exact (Kd.R_reads' HO_809000.out).2.1); (case side3 => exact rcx HO_800000); (case side4 => exact (Kd.R_reads' HO_800000.out).2.1); rintro e w91 ⟨rfl, hb⟩; replace HO_800000 := am (Kd.R_below (rs HO_800000) hb); replace HO_804000 := am (Kd.R_below (rs HO_804000) hb); replace HO_809000 := am (Kd.R_below (rs HO_809000) hb); replace HO812 := am (Kd.R_below (rs HO812) hb); replace BK790 := bkB BK790 hb; replace BK799 := bkB BK799 hb; replace BK803 := bkB BK803 hb; replace BK808 := bkB BK808 hb; replace HB := hbS HB hb; (try clear hb)))
          go_meet
          case rel => exact ⟨_, (true), rs_, H', ⟨by have := HJ13.out; first | omega | exact Nat.le_refl _⟩, ⟨by (with_reducible repeat apply ru); exact Kd.R_mono HO_800000.out ok_⟩, ⟨by (with_reducible repeat apply ru); exact Kd.R_mono HO_804000.out ok_⟩, ⟨by (with_reducible repeat apply ru); exact Kd.R_mono HO_809000.out ok_⟩, ⟨bk BK790⟩, ⟨bk BK799⟩, ⟨bk BK803⟩, ⟨bk BK808⟩, ⟨m2_⟩⟩
       case rest =>
        clear HC63
        try clear c2
        try clear p2
        try clear c3
        try clear c3b0
        try clear c3b1
        try clear c4
        try clear c5
        try clear c6
        try clear c6b0
        try clear c7
        try clear c8
        try clear c24
        try clear c25
        try clear c26
        try clear c27
        try clear c28
        try clear c30
        try clear c31
        try clear c34
        try clear c36
        try clear c37
        try clear c38
        try clear c41
        try clear c42
        try clear c43
        try clear c44
        try clear c46
        try clear c47
        try clear c50
        try clear c51
        try clear c52
        try clear c54
        try clear c55
        try clear c58
        try clear c61
        try clear c68
        try clear c69
        try clear c70
        try clear c73
        try clear c73b0
        try clear c75
        try clear c76
        try clear c77
        try clear c78
        try clear c80
        try clear c81
        try clear c84
        try clear c85
        try clear c86
        try clear c88
        try clear c89
        try clear hcz16_0
        try clear hcz18_0
        try clear hcz25_0
        try clear hcz26_0
        try clear hcz32_0
        try clear hcz39_0
        try clear hcz45_0
        try clear hcz48_0
        try clear hcz53_0
        try clear hcz56_0
        try clear hcz71_0
        try clear hcz79_0
        try clear hcz82_0
        try clear hcz87_0
        try clear hcz8_0
        try clear hcz90_0
        try clear hfz16_0
        try clear hfz18_0
        try clear hfz25_0
        try clear hfz26_0
        try clear hfz32_0
        try clear hfz39_0
        try clear hfz45_0
        try clear hfz48_0
        try clear hfz53_0
        try clear hfz56_0
        try clear hfz71_0
        try clear hfz79_0
        try clear hfz82_0
        try clear hfz87_0
        try clear hfz8_0
        try clear hfz90_0
        try clear p2
        obtain ⟨kq, x68_62, rfl, HA, HJ62, HO_800000, HO_804000, HO_809000, BK790, BK799, BK803, BK808, HB⟩ := hcut
        have hl804000_62 := (Kd.R_reads' HO_804000.out).1
        rw [hl804000_62] at HO_804000
        (try simp only [hl804000_62])
        (try simp only [hl804000_62] at BK790)
        (try simp only [hl804000_62] at BK799)
        (try simp only [hl804000_62] at BK803)
        (try simp only [hl804000_62] at BK808)
        (try simp only [hl804000_62] at HO_800000)
        (try simp only [hl804000_62] at HO_809000)
        cases kq with
        | zero => exact absurd HA.out (by simp [laws_FnExactRwrStream.j1])
        | succ kj62 =>
         have H := HA.out
         clear HA
         simp only [laws_FnExactRwrStream.j1] at H
         by_cases c92 : x68_62 = true
         ·subst c92
          have H1 : (some false) = some r := by rw [if_pos rfl] at H; exact H
          clear H
          have H := H1
          clear H1
          exact absurd ((Option.some.inj H).trans hrt.out) (by decide)
         ·replace c92 := Bool.eq_false_iff.mpr c92
          subst c92
          have H1 : ((laws_markMapTab.f kj62 t804 1).bind fun bt817 => ((laws_heldMapTab.f kj62 bt817.2 1).bind fun t819 => (if t819 < 0 then (some false) else (if t819 = bt817.1 then ((laws_toMapTab.f kj62 l0_0).bind fun t820 => ((impl_RwrStream.f kj62 t820 a1).bind fun bt823 => ((laws_eqMapTab.f kj62 bt823.1 t795).bind fun t828 => (if t828 = true then (laws_FnExactRwrStream.j2 kj62 bt817.1 (bt823.2.toList != t798.toList) bt817.2) else (laws_FnExactRwrStream.j2 kj62 bt817.1 true bt817.2))))) else (some false))))) = some r := by rw [if_neg (show ¬ (false = true) by decide)] at H; exact H
          clear H
          have H := H1
          clear H1
          obtain ⟨⟨t817, t818⟩, A93, H⟩ := bse H
          try dsimp only at H
          obtain ⟨t819, A94, H⟩ := bse H
          try dsimp only at H
          by_cases c95 : t819 < 0
          ·rw [if_pos c95] at H
           have c95b0 : decide (t819 < 0) = true := decide_eq_true c95
           clear c95
           exact absurd ((Option.some.inj H).trans hrt.out) (by decide)
          ·rw [if_neg c95] at H
           have c95b0 : decide (t819 < 0) = false := decide_eq_false c95
           clear c95
           by_cases c96 : t819 = t817
           ·rw [if_pos c96] at H
            have c96b0 : (t819 == t817) = true := beq_iff_eq.mpr c96
            have c96b1 : (t819 != t817) = false := bne_eq_false_iff_eq.mpr c96
            clear c96
            obtain ⟨t820, A97, H⟩ := bse H
            try dsimp only at H
            obtain ⟨⟨t823, t826⟩, A98, H⟩ := bse H
            try dsimp only at H
            have HC99 := am H
            clear H
            have := NB808_790.out
            have := NB790_808.out
            have := NB808_799.out
            have := NB799_808.out
            have := NB808_803.out
            have := NB803_808.out
            have hcz103_0 := bcell BK808 0
            have hfz103_0 := blk_frozen BK808.out 0
            go_upto_region 27 with (first | ((with_reducible refine gate_callee (f := 28) rfl ?_); refine gL (some 71) Tryz.func28 #[.agg #[.slice Ao35 t804.length co35], .int .i64 1] ?_; (with_reducible refine (laws_markMapTab.calls kj62 (fun k_ => some k_ = (.slice Ao35 t804.length co35 : Value).ownBlock) (.slice Ao35 t804.length co35) t804 1 t817 t818 w _ ?side1 ?side2 A93.out).mono ?_); (case side1 => exact m2_); (case side2 => exact Kd.R_tight rfl HO_809000.out); rintro e w104 ⟨rfl, hy0, hb, hkp⟩; refine ⟨_, rfl, ?_⟩; replace HO_800000 := am (Kd.R_mono (ok' := fun k_ => some k_ ≠ (.slice Ao29 t815.length co29 : Value).ownBlock ∧ some k_ ≠ (.slice Ao35 t804.length co35 : Value).ownBlock) (Kd.R_keptB (HO_800000.out) hkp (fun k_ hk_ hs_ => (hk_.2) hs_)) (fun k_ hk_ => ⟨hk_.1.1, hk_.1.2⟩)); replace HO_804000 := am (Kd.R_mono (ok' := fun k_ => some k_ ≠ (.slice Ao23 t795.length co23 : Value).ownBlock ∧ some k_ ≠ (.slice Ao35 t804.length co35 : Value).ownBlock) (Kd.R_keptB (HO_804000.out) hkp (fun k_ hk_ hs_ => (hk_.2) hs_)) (fun k_ hk_ => ⟨hk_.1.1, hk_.1.2⟩)); replace BK790 := am (blk_kept (bk BK790) hkp (fun hs_ => (fun e_ => (Kd.R_ne HO_809000.out BK790.out (by decide)) e_) hs_)); replace BK799 := am (blk_kept (bk BK799) hkp (fun hs_ => (fun e_ => (Kd.R_ne HO_809000.out BK799.out (by decide)) e_) hs_)); replace BK803 := am (blk_kept (bk BK803) hkp (fun hs_ => (fun e_ => (Kd.R_ne HO_809000.out BK803.out (by decide)) e_) hs_)); replace BK808 := am (blk_kept (bk BK808) hkp (fun hs_ => (fun e_ => (Kd.R_ne HO_809000.out BK808.out (by decide)) e_) hs_)); replace HO_809000 := am (Kd.R_reok rfl hy0 (fun k_ e_ => HO_809000.out.1 k_ e_)); replace HB := am hb; (try clear hb); (try clear hkp); (try clear hy0); have hcz105_0 := bcell BK808 0; have hfz105_0 := blk_frozen BK808.out 0) | ((with_reducible refine gate_callee (f := 29) rfl ?_); refine goesL_ (some 74) rfl rfl Tryz.func29 (by kernel_rfl) rfl #[.agg #[.slice Ao35 t818.length co35], .int .i64 1] rfl (by (try simp only [List.map_toArray, List.map_cons, List.map_nil]); first | done | (rw [show t818.length = t804.length from (Kd.R_reads' HO_809000.out).1.symm] <;> rfl) | rfl | (simp only [List.length_drop, List.length_take]; rfl)) ?_; (with_reducible refine (laws_heldMapTab.calls kj62 _ _ t818 1 t819 _ ?side1 ?side2 A94.out).mono ?_); (case side1 => exact rcx HO_809000); (case side2 => rw [show t818.length = t804.length from (Kd.R_reads' HO_809000.out).1.symm]; exact (Kd.R_reads' HO_809000.out).2.1); rintro e w106 ⟨rfl, hb⟩; refine ⟨_, rfl, ?_⟩; replace HO_800000 := am (Kd.R_below (rs HO_800000) hb); replace HO_804000 := am (Kd.R_below (rs HO_804000) hb); replace HO_809000 := am (Kd.R_below (rs HO_809000) hb); replace BK790 := bkB BK790 hb; replace BK799 := bkB BK799 hb; replace BK803 := bkB BK803 hb; replace BK808 := bkB BK808 hb; replace HB := hbS HB hb; (try clear hb); have := NB790_799.out; have := NB799_790.out; have := NB790_803.out; have := NB803_790.out; have hcz109_0 := bcell BK790 0; have hfz109_0 := blk_frozen BK790.out 0) | ((with_reducible refine gate_callee (f := 26) rfl ?_); refine gL (some 82) Tryz.func26 #[.agg #[.slice A0_0 l0_0.length c0_0]] ?_; (with_reducible refine (laws_toMapTab.calls kj62 _ _ l0_0 t820 _ ?side1 ?side2 A97.out).mono ?_); (case side1 => exact m4_); (case side2 => exact HC0_0.out); rintro e w110 ⟨v821, rfl, ho0, hb⟩; refine ⟨_, rfl, ?_⟩; have HO822 := am (Kd.R_lower (Kd.R_new' (Kd.R_new' (Kd.R_new' ho0 (Kd.R_lt (rs HO_800000))) (Kd.R_lt (rs HO_804000))) (Kd.R_lt (rs HO_809000))) (below_size (bl HB))); replace HO_800000 := am (Kd.R_elder' (rs HO_800000) (Kd.R_base ho0) hb); replace HO_804000 := am (Kd.R_elder' (rs HO_804000) (Kd.R_base ho0) hb); replace HO_809000 := am (Kd.R_elder' (rs HO_809000) (Kd.R_base ho0) hb); replace BK790 := bkB BK790 hb; replace BK799 := bkB BK799 hb; replace BK803 := bkB BK803 hb; replace BK808 := bkB BK808 hb; replace HB := hbS HB hb; (try clear hb); (try clear ho0); obtain ⟨Ao111, co111, eo111⟩ := Kd.R_slice HO822.out; subst eo111) | ((with_reducible refine gate_callee (f := 34) rfl ?_); refine gL (some 84) Tryz.func34 #[.agg #[.slice Ao111 t820.length co111], .string a1] ?_; (with_reducible refine (impl_RwrStream.calls kj62 _ _ t820 a1 t823 t826 _ ?side1 ?side2 A98.out (EnvE.below hE (bl HB))).mono ?_); (case side1 => exact rcx HO822); (case side2 => exact (Kd.R_reads' HO822.out).2.1); rintro e w112 ⟨v824, rfl, ho0, hb⟩; refine ⟨_, rfl, ?_⟩; have HO825 := am (Kd.R_lower (Kd.R_new' (Kd.R_new' (Kd.R_new' (Kd.R_new' ho0 (Kd.R_lt (rs HO_800000))) (Kd.R_lt (rs HO_804000))) (Kd.R_lt (rs HO_809000))) (Kd.R_lt (rs HO822))) (below_size (bl HB))); replace HO_800000 := am (Kd.R_elder' (rs HO_800000) (Kd.R_base ho0) hb); replace HO_804000 := am (Kd.R_elder' (rs HO_804000) (Kd.R_base ho0) hb); replace HO_809000 := am (Kd.R_elder' (rs HO_809000) (Kd.R_base ho0) hb); replace HO822 := am (Kd.R_elder' (rs HO822) (Kd.R_base ho0) hb); replace BK790 := bkB BK790 hb; replace BK799 := bkB BK799 hb; replace BK803 := bkB BK803 hb; replace BK808 := bkB BK808 hb; replace HB := hbS HB hb; (try clear hb); (try clear ho0)) | ((with_reducible refine gate_dst (N := 14) rfl ?_); refine box_event rfl (N := 14) rfl (cs := #[.slice none 0 0]) (t := 25) hr_ ?_; intro gb827 hg w113 hbox hb; replace HO_800000 := am (Kd.R_below (rs HO_800000) hb); replace HO_804000 := am (Kd.R_below (rs HO_804000) hb); replace HO_809000 := am (Kd.R_below (rs HO_809000) hb); replace HO822 := am (Kd.R_below (rs HO822) hb); replace HO825 := am (Kd.R_below (rs HO825) hb); have BK827 := am hbox; have GW827 := gwE HB hg; have GE827 := gwE HB hg; replace HB := hbS HB hb; have NB790_827 := neL BK790 hg; have NB827_790 := neG BK790 hg; replace BK790 := bkB BK790 hb; have NB799_827 := neL BK799 hg; have NB827_799 := neG BK799 hg; replace BK799 := bkB BK799 hb; have NB803_827 := neL BK803 hg; have NB827_803 := neG BK803 hg; replace BK803 := bkB BK803 hb; have NB808_827 := neL BK808 hg; have NB827_808 := neG BK808 hg; replace BK808 := bkB BK808 hb; clear hb hbox hg; obtain ⟨Ao114, co114, eo114⟩ := Kd.R_slice HO825.out; subst eo114; have := NB827_790.out; have := NB790_827.out; have := NB827_799.out; have := NB799_827.out; have := NB827_803.out; have := NB803_827.out; have := NB827_808.out; have := NB808_827.out; have hcz119_0 := bcell BK827 0; have hfz119_0 := blk_frozen BK827.out 0))
            (try simp only [Act.put, List.setIfInBounds_toArray, List.set_cons_zero, List.set_cons_succ])
            go_cut [95] (fun v95 wc => ∃ (kq : Nat) (x95_98 : Bool), v95 = .bool x95_98 ∧ Aside0 (laws_FnExactRwrStream.j2 kq t817 x95_98 t818 = some r) ∧ Aside0 (kq ≤ kj62) ∧ Aside0 (Kd.R k34 34 wc w.heap.size (fun k_ => some k_ ≠ ((.slice Ao29 t815.length co29) : Value).ownBlock ∧ some k_ ≠ ((.slice Ao35 t804.length co35) : Value).ownBlock ∧ some k_ ≠ ((.slice Ao114 t823.length co114) : Value).ownBlock) (.slice Ao23 t795.length co23) t795) ∧ Aside0 (Kd.R k34 34 wc w.heap.size (fun k_ => some k_ ≠ ((.slice Ao23 t795.length co23) : Value).ownBlock ∧ some k_ ≠ ((.slice Ao35 t804.length co35) : Value).ownBlock ∧ some k_ ≠ ((.slice Ao114 t823.length co114) : Value).ownBlock) (.slice Ao29 t815.length co29) t815) ∧ Aside0 (Kd.R k34 34 wc w.heap.size (fun k_ => some k_ ≠ ((.slice Ao23 t795.length co23) : Value).ownBlock ∧ some k_ ≠ ((.slice Ao29 t815.length co29) : Value).ownBlock ∧ some k_ ≠ ((.slice Ao114 t823.length co114) : Value).ownBlock) (.slice Ao35 t804.length co35) t818) ∧ Aside0 (Kd.R k34 34 wc w.heap.size (fun k_ => some k_ ≠ ((.slice Ao23 t795.length co23) : Value).ownBlock ∧ some k_ ≠ ((.slice Ao29 t815.length co29) : Value).ownBlock ∧ some k_ ≠ ((.slice Ao35 t804.length co35) : Value).ownBlock) (.slice Ao114 t823.length co114) t823) ∧ Aside0 (wc.heap[gb790]? = some (.cells #[(.slice A0_0 l0_0.length c0_0)] 42 (0, 0))) ∧ Aside0 (wc.heap[gb799]? = some (.cells #[(.slice Ao23 t795.length co23)] 25 (0, 0))) ∧ Aside0 (wc.heap[gb803]? = some (.cells #[(.slice Ao29 t815.length co29)] 25 (0, 0))) ∧ Aside0 (wc.heap[gb808]? = some (.cells #[(.slice Ao35 t804.length co35)] 25 (0, 0))) ∧ Aside0 (wc.heap[gb827]? = some (.cells #[(.slice Ao114 t823.length co114)] 25 (0, 0))) ∧ Aside0 (Below w.heap.size w wc))
            case first =>
             have H := HC99.out
             clear HC99
             obtain ⟨t828, A120, H⟩ := bse H
             try dsimp only at H
             by_cases c121 : t828 = true
             ·subst c121
              have H1 : (laws_FnExactRwrStream.j2 kj62 t817 (t826.toList != t798.toList) t818) = some r := by rw [if_pos rfl] at H; exact H
              clear H
              have H := H1
              clear H1
              have H' := am H
              clear H
              have := NB827_790.out
              have := NB790_827.out
              have := NB827_799.out
              have := NB799_827.out
              have := NB827_803.out
              have := NB803_827.out
              have := NB827_808.out
              have := NB808_827.out
              have hcz126_0 := bcell BK827 0
              have hfz126_0 := blk_frozen BK827.out 0
              have := NB799_790.out
              have := NB790_799.out
              have := NB799_803.out
              have := NB803_799.out
              have := NB799_808.out
              have := NB808_799.out
              have hcz130_0 := bcell BK799 0
              have hfz130_0 := blk_frozen BK799.out 0
              go_wp2_with (first | ((with_reducible refine gate_callee (f := 27) rfl ?_); refine gL (some 89) Tryz.func27 #[.agg #[.slice Ao114 t823.length co114], .agg #[.slice Ao23 t795.length co23]] ?_; (with_reducible refine (laws_eqMapTab.calls kj62 _ _ t823 _ _ t795 true _ ?side1 ?side2 ?side3 ?side4 A120.out).mono ?_); (case side1 => refine (Kd.R_reads' (e := 34) (base := w.heap.size) (ok := fun k_ => ((((True ∧ some k_ ≠ (.slice Ao23 t795.length co23 : Value).ownBlock) ∧ some k_ ≠ (.slice Ao29 t815.length co29 : Value).ownBlock) ∧ some k_ ≠ (.slice Ao35 t804.length co35 : Value).ownBlock) ∧ some k_ ≠ (.slice Ao111 t820.length co111 : Value).ownBlock)) (n := t823.length) (c := co114) ?_).2.2; exact (by (with_reducible repeat apply ru); exact (Kd.R_mono (Kd.R_far (p := ⟨gb827, 0, none⟩) (Kd.R_types HO825.out BK827.out (by decide)) (fun _ hk => hk.2) (.slice Ao114 t823.length co114)) (fun _ h_ => h_.1)))); (case side2 => exact (Kd.R_reads' HO825.out).2.1); (case side3 => refine (Kd.R_reads' (e := 34) (base := w.heap.size) (ok := fun k_ => (((some k_ ≠ (.slice Ao29 t815.length co29 : Value).ownBlock ∧ some k_ ≠ (.slice Ao35 t804.length co35 : Value).ownBlock) ∧ some k_ ≠ (.slice Ao111 t820.length co111 : Value).ownBlock) ∧ some k_ ≠ (.slice Ao114 t823.length co114 : Value).ownBlock)) (n := t795.length) (c := co23) ?_).2.2; exact (by (with_reducible repeat apply ru); exact (Kd.R_mono (Kd.R_far (p := ⟨gb827, 0, none⟩) (Kd.R_types HO_800000.out BK827.out (by decide)) (fun _ hk => hk.2) (.slice Ao114 t823.length co114)) (fun _ h_ => h_.1)))); (case side4 => exact (Kd.R_reads' HO_800000.out).2.1); rintro e w131 ⟨rfl, hb⟩; refine ⟨_, rfl, ?_⟩; replace HO_800000 := am (Kd.R_below (by (with_reducible repeat apply ru); exact (Kd.R_mono (Kd.R_far (p := ⟨gb827, 0, none⟩) (Kd.R_types HO_800000.out BK827.out (by decide)) (fun _ hk => hk.2) (.slice Ao114 t823.length co114)) (fun _ h_ => h_.1))) hb); replace HO_804000 := am (Kd.R_below (by (with_reducible repeat apply ru); exact (Kd.R_mono (Kd.R_far (p := ⟨gb827, 0, none⟩) (Kd.R_types HO_804000.out BK827.out (by decide)) (fun _ hk => hk.2) (.slice Ao114 t823.length co114)) (fun _ h_ => h_.1))) hb); replace HO_809000 := am (Kd.R_below (by (with_reducible repeat apply ru); exact (Kd.R_mono (Kd.R_far (p := ⟨gb827, 0, none⟩) (Kd.R_types HO_809000.out BK827.out (by decide)) (fun _ hk => hk.2) (.slice Ao114 t823.length co114)) (fun _ h_ => h_.1))) hb); replace HO822 := am (Kd.R_below (by (with_reducible repeat apply ru); exact (Kd.R_mono (Kd.R_far (p := ⟨gb827, 0, none⟩) (Kd.R_types HO822.out BK827.out (by decide)) (fun _ hk => hk.2) (.slice Ao114 t823.length co114)) (fun _ h_ => h_.1))) hb); replace HO825 := am (Kd.R_below (by (with_reducible repeat apply ru); exact (Kd.R_mono (Kd.R_far (p := ⟨gb827, 0, none⟩) (Kd.R_types HO825.out BK827.out (by decide)) (fun _ hk => hk.2) (.slice Ao114 t823.length co114)) (fun _ h_ => h_.1))) hb); replace BK790 := am (blk_below (g := gb790) (o := .cells #[.slice A0_0 l0_0.length c0_0] 42 (0, 0)) (by (with_reducible repeat refine bu ?_); refine blk_far ?_ NB790_827.out _; (with_reducible repeat refine bu ?_); exact BK790.out) hb); replace BK799 := am (blk_below (g := gb799) (o := .cells #[.slice Ao23 t795.length co23] 25 (0, 0)) (by (with_reducible repeat refine bu ?_); refine blk_far ?_ NB799_827.out _; (with_reducible repeat refine bu ?_); exact BK799.out) hb); replace BK803 := am (blk_below (g := gb803) (o := .cells #[.slice Ao29 t815.length co29] 25 (0, 0)) (by (with_reducible repeat refine bu ?_); refine blk_far ?_ NB803_827.out _; (with_reducible repeat refine bu ?_); exact BK803.out) hb); replace BK808 := am (blk_below (g := gb808) (o := .cells #[.slice Ao35 t804.length co35] 25 (0, 0)) (by (with_reducible repeat refine bu ?_); refine blk_far ?_ NB808_827.out _; (with_reducible repeat refine bu ?_); exact BK808.out) hb); replace BK827 := am (blk_below (g := gb827) (o := .cells #[.slice Ao114 t823.length co114] 25 (0, 0)) (by (with_reducible repeat refine bu ?_); refine blk_put (cs := #[.slice none 0 0]) ?_ 0 _ rfl; (with_reducible repeat refine bu ?_); exact BK827.out) hb); replace HB := hbS HB hb; (try clear hb); (try clear hk)))
              go_meet
              case rel => exact ⟨_, ((t826.toList != t798.toList)), rs_, H', ⟨by have := HJ13.out; have := HJ62.out; first | omega | exact Nat.le_refl _⟩, ⟨by (try simp only [hl804000_62]); (with_reducible repeat apply ru); exact Kd.R_mono HO_800000.out ok_⟩, ⟨by (try simp only [hl804000_62]); (with_reducible repeat apply ru); exact Kd.R_mono HO_804000.out ok_⟩, ⟨by (try simp only [hl804000_62]); (with_reducible repeat apply ru); exact Kd.R_mono HO_809000.out ok_⟩, ⟨by (try simp only [hl804000_62]); (with_reducible repeat apply ru); exact Kd.R_mono HO825.out ok_⟩, ⟨by (try simp only [hl804000_62]); (with_reducible repeat refine bu ?_); exact BK790.out⟩, ⟨by (try simp only [hl804000_62]); (with_reducible repeat refine bu ?_); exact BK799.out⟩, ⟨by (try simp only [hl804000_62]); (with_reducible repeat refine bu ?_); exact BK803.out⟩, ⟨by (try simp only [hl804000_62]); (with_reducible repeat refine bu ?_); exact BK808.out⟩, ⟨by (try simp only [hl804000_62]); (with_reducible repeat refine bu ?_); exact BK827.out⟩, ⟨m2_⟩⟩
             ·replace c121 := Bool.eq_false_iff.mpr c121
              subst c121
              have H1 : (laws_FnExactRwrStream.j2 kj62 t817 true t818) = some r := by rw [if_neg (show ¬ (false = true) by decide)] at H; exact H
              clear H
              have H := H1
              clear H1
              have H' := am H
              clear H
              have := NB827_790.out
              have := NB790_827.out
              have := NB827_799.out
              have := NB799_827.out
              have := NB827_803.out
              have := NB803_827.out
              have := NB827_808.out
              have := NB808_827.out
              have hcz136_0 := bcell BK827 0
              have hfz136_0 := blk_frozen BK827.out 0
              have := NB799_790.out
              have := NB790_799.out
              have := NB799_803.out
              have := NB803_799.out
              have := NB799_808.out
              have := NB808_799.out
              have hcz140_0 := bcell BK799 0
              have hfz140_0 := blk_frozen BK799.out 0
              go_wp2_with (first | ((with_reducible refine gate_callee (f := 27) rfl ?_); refine gL (some 89) Tryz.func27 #[.agg #[.slice Ao114 t823.length co114], .agg #[.slice Ao23 t795.length co23]] ?_; (with_reducible refine (laws_eqMapTab.calls kj62 _ _ t823 _ _ t795 false _ ?side1 ?side2 ?side3 ?side4 A120.out).mono ?_); (case side1 => refine (Kd.R_reads' (e := 34) (base := w.heap.size) (ok := fun k_ => ((((True ∧ some k_ ≠ (.slice Ao23 t795.length co23 : Value).ownBlock) ∧ some k_ ≠ (.slice Ao29 t815.length co29 : Value).ownBlock) ∧ some k_ ≠ (.slice Ao35 t804.length co35 : Value).ownBlock) ∧ some k_ ≠ (.slice Ao111 t820.length co111 : Value).ownBlock)) (n := t823.length) (c := co114) ?_).2.2; exact (by (with_reducible repeat apply ru); exact (Kd.R_mono (Kd.R_far (p := ⟨gb827, 0, none⟩) (Kd.R_types HO825.out BK827.out (by decide)) (fun _ hk => hk.2) (.slice Ao114 t823.length co114)) (fun _ h_ => h_.1)))); (case side2 => exact (Kd.R_reads' HO825.out).2.1); (case side3 => refine (Kd.R_reads' (e := 34) (base := w.heap.size) (ok := fun k_ => (((some k_ ≠ (.slice Ao29 t815.length co29 : Value).ownBlock ∧ some k_ ≠ (.slice Ao35 t804.length co35 : Value).ownBlock) ∧ some k_ ≠ (.slice Ao111 t820.length co111 : Value).ownBlock) ∧ some k_ ≠ (.slice Ao114 t823.length co114 : Value).ownBlock)) (n := t795.length) (c := co23) ?_).2.2; exact (by (with_reducible repeat apply ru); exact (Kd.R_mono (Kd.R_far (p := ⟨gb827, 0, none⟩) (Kd.R_types HO_800000.out BK827.out (by decide)) (fun _ hk => hk.2) (.slice Ao114 t823.length co114)) (fun _ h_ => h_.1)))); (case side4 => exact (Kd.R_reads' HO_800000.out).2.1); rintro e w141 ⟨rfl, hb⟩; refine ⟨_, rfl, ?_⟩; replace HO_800000 := am (Kd.R_below (by (with_reducible repeat apply ru); exact (Kd.R_mono (Kd.R_far (p := ⟨gb827, 0, none⟩) (Kd.R_types HO_800000.out BK827.out (by decide)) (fun _ hk => hk.2) (.slice Ao114 t823.length co114)) (fun _ h_ => h_.1))) hb); replace HO_804000 := am (Kd.R_below (by (with_reducible repeat apply ru); exact (Kd.R_mono (Kd.R_far (p := ⟨gb827, 0, none⟩) (Kd.R_types HO_804000.out BK827.out (by decide)) (fun _ hk => hk.2) (.slice Ao114 t823.length co114)) (fun _ h_ => h_.1))) hb); replace HO_809000 := am (Kd.R_below (by (with_reducible repeat apply ru); exact (Kd.R_mono (Kd.R_far (p := ⟨gb827, 0, none⟩) (Kd.R_types HO_809000.out BK827.out (by decide)) (fun _ hk => hk.2) (.slice Ao114 t823.length co114)) (fun _ h_ => h_.1))) hb); replace HO822 := am (Kd.R_below (by (with_reducible repeat apply ru); exact (Kd.R_mono (Kd.R_far (p := ⟨gb827, 0, none⟩) (Kd.R_types HO822.out BK827.out (by decide)) (fun _ hk => hk.2) (.slice Ao114 t823.length co114)) (fun _ h_ => h_.1))) hb); replace HO825 := am (Kd.R_below (by (with_reducible repeat apply ru); exact (Kd.R_mono (Kd.R_far (p := ⟨gb827, 0, none⟩) (Kd.R_types HO825.out BK827.out (by decide)) (fun _ hk => hk.2) (.slice Ao114 t823.length co114)) (fun _ h_ => h_.1))) hb); replace BK790 := am (blk_below (g := gb790) (o := .cells #[.slice A0_0 l0_0.length c0_0] 42 (0, 0)) (by (with_reducible repeat refine bu ?_); refine blk_far ?_ NB790_827.out _; (with_reducible repeat refine bu ?_); exact BK790.out) hb); replace BK799 := am (blk_below (g := gb799) (o := .cells #[.slice Ao23 t795.length co23] 25 (0, 0)) (by (with_reducible repeat refine bu ?_); refine blk_far ?_ NB799_827.out _; (with_reducible repeat refine bu ?_); exact BK799.out) hb); replace BK803 := am (blk_below (g := gb803) (o := .cells #[.slice Ao29 t815.length co29] 25 (0, 0)) (by (with_reducible repeat refine bu ?_); refine blk_far ?_ NB803_827.out _; (with_reducible repeat refine bu ?_); exact BK803.out) hb); replace BK808 := am (blk_below (g := gb808) (o := .cells #[.slice Ao35 t804.length co35] 25 (0, 0)) (by (with_reducible repeat refine bu ?_); refine blk_far ?_ NB808_827.out _; (with_reducible repeat refine bu ?_); exact BK808.out) hb); replace BK827 := am (blk_below (g := gb827) (o := .cells #[.slice Ao114 t823.length co114] 25 (0, 0)) (by (with_reducible repeat refine bu ?_); refine blk_put (cs := #[.slice none 0 0]) ?_ 0 _ rfl; (with_reducible repeat refine bu ?_); exact BK827.out) hb); replace HB := hbS HB hb; (try clear hb); (try clear hk)))
              go_meet
              case rel => exact ⟨_, (true), rs_, H', ⟨by have := HJ13.out; have := HJ62.out; first | omega | exact Nat.le_refl _⟩, ⟨by (try simp only [hl804000_62]); (with_reducible repeat apply ru); exact Kd.R_mono HO_800000.out ok_⟩, ⟨by (try simp only [hl804000_62]); (with_reducible repeat apply ru); exact Kd.R_mono HO_804000.out ok_⟩, ⟨by (try simp only [hl804000_62]); (with_reducible repeat apply ru); exact Kd.R_mono HO_809000.out ok_⟩, ⟨by (try simp only [hl804000_62]); (with_reducible repeat apply ru); exact Kd.R_mono HO825.out ok_⟩, ⟨by (try simp only [hl804000_62]); (with_reducible repeat refine bu ?_); exact BK790.out⟩, ⟨by (try simp only [hl804000_62]); (with_reducible repeat refine bu ?_); exact BK799.out⟩, ⟨by (try simp only [hl804000_62]); (with_reducible repeat refine bu ?_); exact BK803.out⟩, ⟨by (try simp only [hl804000_62]); (with_reducible repeat refine bu ?_); exact BK808.out⟩, ⟨by (try simp only [hl804000_62]); (with_reducible repeat refine bu ?_); exact BK827.out⟩, ⟨m2_⟩⟩
            case rest =>
             clear HC99
             try clear c1
             try clear c2
             try clear p2
             try clear c3
             try clear c3b0
             try clear c3b1
             try clear c4
             try clear c5
             try clear c6
             try clear c6b0
             try clear c7
             try clear c8
             try clear c9
             try clear c10
             try clear c11
             try clear c12
             try clear c13
             try clear c24
             try clear c25
             try clear c26
             try clear c27
             try clear c28
             try clear c29
             try clear c30
             try clear c31
             try clear c34
             try clear c36
             try clear c37
             try clear c38
             try clear c41
             try clear c42
             try clear c43
             try clear c44
             try clear c46
             try clear c47
             try clear c50
             try clear c51
             try clear c52
             try clear c54
             try clear c55
             try clear c58
             try clear c61
             try clear c68
             try clear c69
             try clear c70
             try clear c73
             try clear c73b0
             try clear c75
             try clear c76
             try clear c77
             try clear c78
             try clear c80
             try clear c81
             try clear c84
             try clear c85
             try clear c86
             try clear c88
             try clear c89
             try clear c92
             try clear c95
             try clear c95b0
             try clear c96
             try clear c96b0
             try clear c96b1
             try clear c100
             try clear c101
             try clear c102
             try clear c107
             try clear c108
             try clear c115
             try clear c116
             try clear c117
             try clear c118
             try clear c121
             try clear c122
             try clear c123
             try clear c124
             try clear c125
             try clear c127
             try clear c128
             try clear c129
             try clear c132
             try clear c133
             try clear c134
             try clear c135
             try clear c137
             try clear c138
             try clear c139
             try clear hcz103_0
             try clear hcz105_0
             try clear hcz109_0
             try clear hcz119_0
             try clear hcz126_0
             try clear hcz130_0
             try clear hcz136_0
             try clear hcz140_0
             try clear hcz16_0
             try clear hcz18_0
             try clear hcz25_0
             try clear hcz26_0
             try clear hcz32_0
             try clear hcz39_0
             try clear hcz45_0
             try clear hcz48_0
             try clear hcz53_0
             try clear hcz56_0
             try clear hcz71_0
             try clear hcz79_0
             try clear hcz82_0
             try clear hcz87_0
             try clear hcz8_0
             try clear hcz90_0
             try clear hfz103_0
             try clear hfz105_0
             try clear hfz109_0
             try clear hfz119_0
             try clear hfz126_0
             try clear hfz130_0
             try clear hfz136_0
             try clear hfz140_0
             try clear hfz16_0
             try clear hfz18_0
             try clear hfz25_0
             try clear hfz26_0
             try clear hfz32_0
             try clear hfz39_0
             try clear hfz45_0
             try clear hfz48_0
             try clear hfz53_0
             try clear hfz56_0
             try clear hfz71_0
             try clear hfz79_0
             try clear hfz82_0
             try clear hfz87_0
             try clear hfz8_0
             try clear hfz90_0
             try clear p2
             obtain ⟨kq, x95_98, rfl, HA, HJ98, HO_800000, HO_804000, HO_809000, HO_828000, BK790, BK799, BK803, BK808, BK827, HB⟩ := hcut
             have hl809000_98 := (Kd.R_reads' HO_809000.out).1
             rw [hl809000_98] at HO_809000
             (try simp only [hl809000_98])
             (try simp only [hl809000_98] at BK790)
             (try simp only [hl809000_98] at BK799)
             (try simp only [hl809000_98] at BK803)
             (try simp only [hl809000_98] at BK808)
             (try simp only [hl809000_98] at BK827)
             (try simp only [hl809000_98] at HO_800000)
             (try simp only [hl809000_98] at HO_804000)
             (try simp only [hl809000_98] at HO_828000)
             cases kq with
             | zero => exact absurd HA.out (by simp [laws_FnExactRwrStream.j2])
             | succ kj98 =>
              have H := HA.out
              clear HA
              simp only [laws_FnExactRwrStream.j2] at H
              by_cases c142 : x95_98 = true
              ·subst c142
               have H1 : (some false) = some r := by rw [if_pos rfl] at H; exact H
               clear H
               have H := H1
               clear H1
               exact absurd ((Option.some.inj H).trans hrt.out) (by decide)
              ·replace c142 := Bool.eq_false_iff.mpr c142
               subst c142
               have H1 : ((laws_heldMapTab.f kj98 t818 1).bind fun t829 => (if t829 < 0 then (some false) else (if t829 = t817 then (some true) else (some false)))) = some r := by rw [if_neg (show ¬ (false = true) by decide)] at H; exact H
               clear H
               have H := H1
               clear H1
               obtain ⟨t829, A143, H⟩ := bse H
               try dsimp only at H
               by_cases c144 : t829 < 0
               ·rw [if_pos c144] at H
                have c144b0 : decide (t829 < 0) = true := decide_eq_true c144
                clear c144
                exact absurd ((Option.some.inj H).trans hrt.out) (by decide)
               ·rw [if_neg c144] at H
                have c144b0 : decide (t829 < 0) = false := decide_eq_false c144
                clear c144
                by_cases c145 : t829 = t817
                ·rw [if_pos c145] at H
                 have c145b0 : (t829 == t817) = true := beq_iff_eq.mpr c145
                 have c145b1 : (t829 != t817) = false := bne_eq_false_iff_eq.mpr c145
                 clear c145
                 obtain rfl := Option.some.inj H
                 have := NB808_790.out
                 have := NB790_808.out
                 have := NB808_799.out
                 have := NB799_808.out
                 have := NB808_803.out
                 have := NB803_808.out
                 have := NB808_827.out
                 have := NB827_808.out
                 have := bcell BK808 0
                 have := bfz BK808 0
                 go_wp2_with (first | ((with_reducible refine gate_callee (f := 29) rfl ?_); refine gL (some 98) Tryz.func29 #[.agg #[.slice Ao35 t818.length co35], .int .i64 1] ?_; (with_reducible refine (laws_heldMapTab.calls kj98 _ _ t818 1 t829 _ ?side1 ?side2 A143.out).mono ?_); (case side1 => exact rcx HO_809000); (case side2 => exact (Kd.R_reads' HO_809000.out).2.1); rintro e w151 ⟨rfl, hb⟩; refine ⟨_, rfl, ?_⟩; replace HO_800000 := am (Kd.R_below (rs HO_800000) hb); replace HO_804000 := am (Kd.R_below (rs HO_804000) hb); replace HO_809000 := am (Kd.R_below (rs HO_809000) hb); replace HO_828000 := am (Kd.R_below (rs HO_828000) hb); replace BK790 := bkB BK790 hb; replace BK799 := bkB BK799 hb; replace BK803 := bkB BK803 hb; replace BK808 := bkB BK808 hb; replace BK827 := bkB BK827 hb; replace HB := hbS HB hb; (try clear hb)))
                 go_ret
                 exact ⟨fi_, m2_⟩
                ·rw [if_neg c145] at H
                 have c145b0 : (t829 == t817) = false := beq_eq_false_iff_ne.mpr c145
                 have c145b1 : (t829 != t817) = true := bne_iff_ne.mpr c145
                 exact absurd ((Option.some.inj H).trans hrt.out) (by decide)
           ·rw [if_neg c96] at H
            have c96b0 : (t819 == t817) = false := beq_eq_false_iff_ne.mpr c96
            have c96b1 : (t819 != t817) = true := bne_iff_ne.mpr c96
            exact absurd ((Option.some.inj H).trans hrt.out) (by decide)
      ·replace c61 := Bool.eq_false_iff.mpr c61
       subst c61
       have H1 : (some false) = some r := by rw [if_neg (show ¬ (false = true) by decide)] at H; exact H
       clear H
       have H := H1
       clear H1
       exact absurd ((Option.some.inj H).trans hrt.out) (by decide)
end
def laws_FnExactRwrStream.Pure : Prop := ∀ (l : List S102) (s : ByteArray), l.length ≤ maxLen → ∃ k, laws_FnExactRwrStream.f k l s = some true
theorem laws_FnExactRwrStream.pure : laws_FnExactRwrStream.Pure := by
  intro l s hm
  have hm' : l.length ≤ 9223372036854775807 := Nat.le_trans hm (by decide)
  have A : Ans (fun k => laws_FnExactRwrStream.f k l s) (fun r => r = true) := by
    unfold laws_FnExactRwrStream.f laws_szMapTab.f laws_szEndPointS.f
    have e : wrap64 (1048576 - (l.length : Int)) = 1048576 - l.length := w64 _ (by omega)
    rw [e]
    refine Ans.ite (fun _ => Ans.pure rfl) (fun cs => ?_)
    have hs : s.size ≤ 1048576 := by omega
    by_cases c : (1048576 - (l.length : Int)) < 0
    · rw [if_pos c, Option.bind_some, if_pos (by omega)]
      exact Ans.bsome (Ans.pos (by omega) (Ans.pure rfl))
    · rw [if_neg c, Option.bind_some, if_neg c]
      refine Ans.bsome (Ans.neg c ?_)
      have hl : l.length ≤ 1048576 := by omega
      have hL : (l.map convE).length ≤ 2000000 := by rw [List.length_map]; omega
      have hP := (rwrStream_facts (l.map convE) s).1
      refine Ans.bind (toMapTab_a l hl) ?_
      rintro _ rfl
      refine Ans.bind (specRwrStream_a _ hL s hs) ?_
      rintro _ rfl
      refine Ans.bind (toMapTab_a l hl) ?_
      rintro _ rfl
      refine Ans.bind (implRwrStream_a _ hL s hs) ?_
      rintro _ rfl
      refine Ans.bind (eqMapTab_a _ (by omega)) ?_
      rintro _ rfl
      refine Ans.pos rfl ?_
      have n1 : ∀ z : List UInt8, (z != z) = false := by intro z; simp
      rw [n1]
      refine Ans.succ ?_
      unfold laws_FnExactRwrStream.j0
      refine Ans.neg (by simp) ?_
      refine Ans.bind (toMapTab_a l hl) ?_
      rintro _ rfl
      refine Ans.bind (eqMapTab_a _ hL) ?_
      rintro _ rfl
      refine Ans.pos rfl ?_
      refine Ans.bind (markTab_a _ hL) ?_
      rintro _ rfl
      refine Ans.neg (by dsimp only; omega) ?_
      refine Ans.bind (eqMapTab_a _ (by omega)) ?_
      rintro _ rfl
      refine Ans.pos rfl ?_
      rw [n1]
      refine Ans.succ ?_
      unfold laws_FnExactRwrStream.j1
      refine Ans.neg (by simp) ?_
      refine Ans.bind (markTab_a _ (by omega)) ?_
      rintro _ rfl
      dsimp only
      refine Ans.bind (heldTab_a _ (by omega)) ?_
      rintro _ rfl
      refine Ans.neg (by omega) (Ans.pos rfl ?_)
      refine Ans.bind (toMapTab_a l hl) ?_
      rintro _ rfl
      refine Ans.bind (implRwrStream_a _ hL s hs) ?_
      rintro _ rfl
      refine Ans.bind (eqMapTab_a _ (by omega)) ?_
      rintro _ rfl
      refine Ans.pos rfl ?_
      rw [n1]
      refine Ans.succ ?_
      unfold laws_FnExactRwrStream.j2
      refine Ans.neg (by simp) ?_
      refine Ans.bind (heldTab_a _ (by omega)) ?_
      rintro _ rfl
      exact Ans.neg (by omega) (Ans.pos rfl (Ans.pure rfl))
  obtain ⟨k, v, rfl, h⟩ := A.got
  exact ⟨k, h⟩
end Go.Proofs.YtffmbccgcaghjaaGreatDoor.P
namespace Go.Proofs.YtffmbccgcaghjaaGreatDoor.P
open Go.RowKit Go.Proofs.YtffmbccgcaghjaaGreatDoorUFnExactRwrStream.PrintWords Go.Proofs.YtffmbccgcaghjaaGreatDoorUFnExactRwrStream.PrintLast Go.Proofs.YtffmbccgcaghjaaGreatDoorUFnExactRwrStream.PrintMore
set_option linter.unusedVariables false
set_option linter.unusedSimpArgs false
theorem list_of {α : Type} {n : Nat} {Q : Nat → α → Prop} (h : ∀ i, i < n → ∃ y, Q i y) : ∃ l : List α, l.length = n ∧ ∀ (j : Nat) (p : α), l[j]? = some p → Q j p := by
  induction n with
  | zero => exact ⟨[], rfl, fun j p hj => by simp at hj⟩
  | succ n ih =>
    obtain ⟨l, hl, hq⟩ := ih (fun i hi => h i (by omega))
    obtain ⟨y, hy⟩ := h n (by omega)
    refine ⟨l ++ [y], by simp [hl], fun j p hj => ?_⟩
    by_cases hjn : j < n
    · rw [List.getElem?_append_left (by omega)] at hj
      exact hq j p hj
    · rw [List.getElem?_append_right (by omega)] at hj
      have : j - l.length = 0 := by
        rcases Nat.eq_zero_or_pos (j - l.length) with h0 | h0
        · exact h0
        · rw [List.getElem?_eq_none (by simp; omega)] at hj; cases hj
      rw [this] at hj
      simp at hj
      subst hj
      have : j = n := by omega
      subst this
      exact hy
structure Reads {α : Type} (P : Program) (d : Kd α) (good : α → Prop) (e : TypeId) : Prop where
  size : P.cellsOf e = d.sz
  ofTrod : ∀ {H : Type} {enc : TypeId × Value → H} {w : World} {base : Nat} {spare : Nat → Bool} {held : Bool} {n : Nat} {cs : List Value} {x : DataW H × List MemPlace}, DataW.trod enc P w base spare held n e cs = some x → ∃ y, d.K w y cs ∧ good y
section
variable {α : Type} {P : Program} {d : Kd α} {good : α → Prop} {H : Type} {enc : TypeId × Value → H} {w : World} {base : Nat} {spare : Nat → Bool} {held : Bool}
theorem row_of {t e : TypeId} {fuel : Nat} {a : Option Addr} {len cap : Nat} {x : DataW H × List MemPlace} (ht : P.underlying t = some (.slice e)) (R : Reads P d good e) (h : DataW.trod enc P w base spare held fuel t [.slice a len cap] = some x) :
    ∃ l : List α, l.length = len ∧ Kd.C d w a l.length l ∧ l.length ≤ cap ∧ l.length ≤ maxLen ∧ ∀ (j : Nat) (p : α), l[j]? = some p → good p := by
  rcases Deep.open_slice ht h with ⟨hcs, _⟩ | ⟨ad, len', cap', m, n, D, Pl, hcs, hb, hl, hm, hmm, hx, hel⟩
  · simp at hcs
    obtain ⟨rfl, rfl, rfl⟩ := hcs
    exact ⟨[], rfl, Kd.C_nil d w, Nat.le_refl _, by simp, fun j p hj => by simp at hj⟩
  · simp at hcs
    obtain ⟨rfl, rfl, rfl⟩ := hcs
    have hlm : len ≤ m := by rw [hmm]; split <;> omega
    obtain ⟨l, h1, h2⟩ := list_of (n := len) (Q := fun i y => good y ∧ ∃ c, c.length = d.sz ∧ d.K w y c ∧ ∀ q u, c[q]? = some u → w.cell? (ad.add (i * d.sz + q)) = some u) (fun i hi => by
      obtain ⟨cs, hc, htr⟩ := hel i (by omega)
      obtain ⟨y, hy, hg⟩ := R.ofTrod htr
      rw [R.size] at hc
      refine ⟨y, hg, cs, ?_, hy, ?_⟩
      · exact (World.cells?_some hc).2.1
      · intro q u hq
        have hlen := (World.cells?_some hc).2.1
        have hlt : q < d.sz := by rw [← hlen]; exact (List.getElem?_eq_some_iff.1 hq).1
        have hcell := (World.cells?_some hc).2.2 q hlt
        rw [hq] at hcell
        rw [Deep.add_add] at hcell
        exact hcell)
    have hml : (maxLen : Nat) ≤ 9223372036854775807 := by decide
    refine ⟨l, h1, ⟨rfl, by omega, fun _ => ⟨ad, rfl, fun j p hj => (h2 j p hj).2⟩⟩, by omega, by omega, fun j p hj => (h2 j p hj).1⟩
theorem row_any {t e : TypeId} {fuel : Nat} {v : Value} {x : DataW H × List MemPlace} (ht : P.underlying t = some (.slice e)) (R : Reads P d good e) (h : DataW.trod enc P w base spare held fuel t [v] = some x) :
    ∃ (a : Option Addr) (cap : Nat) (l : List α), v = .slice a l.length cap ∧ Kd.C d w a l.length l ∧ l.length ≤ cap ∧ l.length ≤ maxLen ∧ ∀ (j : Nat) (p : α), l[j]? = some p → good p := by
  have hv : ∃ a len cap, v = .slice a len cap := by
    rcases Deep.open_slice ht h with ⟨hcs, _⟩ | ⟨ad, len', cap', m, n, D, Pl, hcs, _⟩
    · exact ⟨none, 0, 0, by simpa using hcs⟩
    · exact ⟨some ad, len', cap', by simpa using hcs⟩
  obtain ⟨a, len, cap, rfl⟩ := hv
  obtain ⟨l, rfl, h1, h2, h3, h4⟩ := row_of ht R h
  exact ⟨a, cap, l, rfl, h1, h2, h3, h4⟩
end
theorem field_at {H : Type} {enc : TypeId × Value → H} {P : Program} {w : World} {base : Nat} {spare : Nat → Bool} {held : Bool} {t : TypeId} {fs : Array Field} {fuel : Nat} {cs : List Value} {x : DataW H × List MemPlace} (ht : P.underlying t = some (.struct fs)) (h : DataW.trod enc P w base spare held fuel t cs = some x) :
    cs.length = P.cellsOf t ∧ ∃ n, ∀ (i : Nat) (f : Field), fs[i]? = some f → ∃ z, DataW.trod enc P w base spare held n f.type ((cs.drop f.offset).take (P.cellsOf f.type)) = some z := by
  obtain ⟨xs, n, _, _, hl, hxs, hf⟩ := DataW.trod_struct ht h
  refine ⟨hl, n, fun i f hi => ?_⟩
  have hlt : i < xs.length := by
    rw [hxs]
    exact (Array.getElem?_eq_some_iff.1 hi).1
  exact ⟨_, (hf i f hi).trans (List.getElem?_eq_getElem hlt)⟩
theorem arr1 {α : Type} {c : Array α} (h : c.size = 1) : ∃ u, c = #[u] := by
  obtain ⟨l⟩ := c
  match l, h with
  | [u], _ => exact ⟨u, rfl⟩
theorem len2 {α : Type} {cs : List α} (h : cs.length = 2) : ∃ u v, cs = [u, v] := by
  match cs, h with
  | [u, v], _ => exact ⟨u, v, rfl⟩
theorem len7 {α : Type} {cs : List α} (h : cs.length = 7) : ∃ u0 u1 u2 u3 u4 u5 u6, cs = [u0, u1, u2, u3, u4, u5, u6] := by
  match cs, h with
  | [u0, u1, u2, u3, u4, u5, u6], _ => exact ⟨u0, u1, u2, u3, u4, u5, u6, rfl⟩
def goodI (n : Int) : Prop := (Lit.int .i64 n).wf = true
theorem take_one {cs : List Value} {i : Nat} {v : Value} (h : (cs.drop i).take 1 = [v]) : cs[i]? = some v := by
  have h1 : ((cs.drop i).take 1)[0]? = some v := by rw [h]; rfl
  rw [List.getElem?_take, if_pos (by omega), List.getElem?_drop] at h1
  simpa using h1
theorem reads_end : Reads Tryz.prog k102 (fun x => goodI x.f0 ∧ goodI x.f1) 102 := by
  refine ⟨by kernel_rfl, @fun H enc w base spare held fuel cs x h => ?_⟩
  obtain ⟨hl, n, hf⟩ := field_at Tryz.underlying102 h
  have c2 : Tryz.prog.cellsOf 102 = 2 := by kernel_rfl
  have c1 : Tryz.prog.cellsOf 3 = 1 := by kernel_rfl
  rw [c2] at hl
  obtain ⟨z0, h0⟩ := hf 0 _ rfl
  obtain ⟨z1, h1⟩ := hf 1 _ rfl
  replace h0 : DataW.trod _ _ _ _ _ _ n 3 ((_ : List Value).drop 0 |>.take (Tryz.prog.cellsOf 3)) = some z0 := h0
  replace h1 : DataW.trod _ _ _ _ _ _ n 3 ((_ : List Value).drop 1 |>.take (Tryz.prog.cellsOf 3)) = some z1 := h1
  rw [c1] at h0 h1
  obtain ⟨a, ha, _, wa⟩ := DataW.trod_int Tryz.underlying3 h0
  obtain ⟨b, hb, _, wb⟩ := DataW.trod_int Tryz.underlying3 h1
  obtain ⟨u, v, rfl⟩ : ∃ u v, cs = [u, v] := len2 hl
  simp at ha hb
  subst ha; subst hb
  exact ⟨⟨a, b⟩, k102_mk _ ⟨a, b⟩, wa, wb⟩
end Go.Proofs.YtffmbccgcaghjaaGreatDoor.P
