import Derived.Test.YtffmbccgcaghjaaGreatDoorGLawFnExactRwrStreamx4
import Derived.Lib.CutLaws
import Derived.Lib.CountLaws
import Derived.Lib.SplitLaws
import Derived.Lib.LastIndexByte
namespace Go.Proofs.YtffmbccgcaghjaaGreatDoor.P
open Go.Proofs.YtffmbccgcaghjaaGreatDoorUFnExactRwrStream.PrintLast Go.Proofs.YtffmbccgcaghjaaGreatDoorUFnExactRwrStream.PrintMore Go.Proofs.YtffmbccgcaghjaaGreatDoorUFnExactRwrStream.PrintWords Go.RowKit
set_option linter.unusedVariables false
set_option linter.unusedSimpArgs false
section
attribute [local go_sem] max2_int min2_int max_two min_two max_three min_three max_four min_four
def spec_l20Line.f (k : Nat) (s0_0 : List Int) (s0_1 : Int) : Option (ByteArray × Int) := (spec_l20Rd_pick.f k s0_0 s0_1 3).bind fun bt234 => (if bt234.1 = 0 then ((spec_l20In.f k s0_0 bt234.2).bind fun bt236 => ((spec_LinPort.f k bt236.1 bt236.2.1).bind fun t239 => (some (t239, bt236.2.2)))) else (if bt234.1 = 1 then ((some (([(⟨#[]⟩ : ByteArray), (⟨#[108, 105, 115, 116]⟩ : ByteArray), (⟨#[117, 115, 101, 114, 32, 97]⟩ : ByteArray), (⟨#[112, 111, 114, 116, 32, 53, 48, 32, 53, 48, 48]⟩ : ByteArray), (⟨#[112, 111, 114, 116, 32, 49, 48, 48, 32, 57]⟩ : ByteArray), (⟨#[112, 111, 114, 116, 32, 48, 49, 32, 50]⟩ : ByteArray), (⟨#[112, 111, 114, 116, 32, 49]⟩ : ByteArray), (⟨#[97, 98, 99, 100, 101, 102, 103, 104, 105, 106, 32, 107, 108, 109, 110, 111]⟩ : ByteArray), (⟨#[112, 111, 114, 116]⟩ : ByteArray), (⟨#[112, 111, 114, 116, 32, 49, 32, 50, 32, 51]⟩ : ByteArray)] : List ByteArray) : List ByteArray)).bind fun y240 => ((spec_l20Rd_pick.f k s0_0 bt234.2 10).bind fun bt243 => (if 0 ≤ bt243.1 then (if bt243.1 < (y240.length : Int) then (some (rdOf ByteArray.empty y240 bt243.1, bt243.2)) else (none)) else (none)))) else ((some (([(⟨#[97]⟩ : ByteArray), (⟨#[98, 98]⟩ : ByteArray), (⟨#[103, 101, 116, 32, 102, 105, 108, 101, 49]⟩ : ByteArray), (⟨#[113, 117, 105, 116]⟩ : ByteArray)] : List ByteArray) : List ByteArray)).bind fun y246 => ((spec_l20Rd_pick.f k s0_0 bt234.2 4).bind fun bt249 => (if 0 ≤ bt249.1 then (if bt249.1 < (y246.length : Int) then (some (rdOf ByteArray.empty y246 bt249.1, bt249.2)) else (none)) else (none))))))
theorem spec_l20Line.mono : ∀ a0 a1 k, LeO (spec_l20Line.f k a0 a1) (spec_l20Line.f (k + 1) a0 a1) := by
 intro a0 a1 k
 unfold spec_l20Line.f
 repeat' first | (with_reducible first | exact spec_LinPort.mono _ _ _ | exact spec_l20In.mono _ _ _ | exact spec_l20Rd_pick.mono _ _ _ _ | exact LeO.refl _ | exact LeO.none _ | refine LeO.ite ?_ ?_ | refine LeO.bind ?_ (fun _ => ?_)) | exact spec_LinPort.mono _ _ _ | exact spec_l20In.mono _ _ _ | exact spec_l20Rd_pick.mono _ _ _ _ | exact LeO.none _ | refine LeO.ite ?_ ?_ | refine LeO.bind ?_ (fun _ => ?_)
set_option maxHeartbeats 8000000 in
set_option maxRecDepth 100000 in
theorem spec_l20Line.calls (k : Nat) (g : Nat) (s0_0 : List Int) (s0_1 : Int) (r1 : ByteArray) (r2 : Int) (w0 w : World) (hI : IsS84 w0 w g s0_0 s0_1) (hB : Below w0.heap.size w0 w) (h : spec_l20Line.f k s0_0 s0_1 = some (r1, r2)) :
  Calls Tryz.prog 42 #[.pointer (some ⟨g, 0, none⟩)] w fun e w' => e = .returned (.string r1) ∧ IsS84 w0 w' g s0_0 r2 ∧ Below w0.heap.size w0 w' ∧ KeepBut w w' g none := by
 have HI0 := am hI
 have HK := am (KeepBut.refl w g none)
 have HL := am hB.size
 clear hI
 have HW0 := am hB.size
 have HB := am hB
 clear hB
 have H : ((spec_l20Rd_pick.f k s0_0 s0_1 3).bind fun bt234 => (if bt234.1 = 0 then ((spec_l20In.f k s0_0 bt234.2).bind fun bt236 => ((spec_LinPort.f k bt236.1 bt236.2.1).bind fun t239 => (some (t239, bt236.2.2)))) else (if bt234.1 = 1 then ((some (([(⟨#[]⟩ : ByteArray), (⟨#[108, 105, 115, 116]⟩ : ByteArray), (⟨#[117, 115, 101, 114, 32, 97]⟩ : ByteArray), (⟨#[112, 111, 114, 116, 32, 53, 48, 32, 53, 48, 48]⟩ : ByteArray), (⟨#[112, 111, 114, 116, 32, 49, 48, 48, 32, 57]⟩ : ByteArray), (⟨#[112, 111, 114, 116, 32, 48, 49, 32, 50]⟩ : ByteArray), (⟨#[112, 111, 114, 116, 32, 49]⟩ : ByteArray), (⟨#[97, 98, 99, 100, 101, 102, 103, 104, 105, 106, 32, 107, 108, 109, 110, 111]⟩ : ByteArray), (⟨#[112, 111, 114, 116]⟩ : ByteArray), (⟨#[112, 111, 114, 116, 32, 49, 32, 50, 32, 51]⟩ : ByteArray)] : List ByteArray) : List ByteArray)).bind fun y240 => ((spec_l20Rd_pick.f k s0_0 bt234.2 10).bind fun bt243 => (if 0 ≤ bt243.1 then (if bt243.1 < (y240.length : Int) then (some (rdOf ByteArray.empty y240 bt243.1, bt243.2)) else (none)) else (none)))) else ((some (([(⟨#[97]⟩ : ByteArray), (⟨#[98, 98]⟩ : ByteArray), (⟨#[103, 101, 116, 32, 102, 105, 108, 101, 49]⟩ : ByteArray), (⟨#[113, 117, 105, 116]⟩ : ByteArray)] : List ByteArray) : List ByteArray)).bind fun y246 => ((spec_l20Rd_pick.f k s0_0 bt234.2 4).bind fun bt249 => (if 0 ≤ bt249.1 then (if bt249.1 < (y246.length : Int) then (some (rdOf ByteArray.empty y246 bt249.1, bt249.2)) else (none)) else (none))))))) = some (r1, r2) := h
 clear h
 obtain ⟨⟨t234, t235⟩, A2, H⟩ := bse H
 try dsimp only at H
 by_cases c3 : t234 = 0
 ·rw [if_pos c3] at H
  have c3b0 : (t234 == 0) = true := beq_iff_eq.mpr c3
  have c3b1 : (t234 != 0) = false := bne_eq_false_iff_eq.mpr c3
  clear c3
  obtain ⟨⟨t236, t237, t238⟩, A4, H⟩ := bse H
  try dsimp only at H
  obtain ⟨t239, A5, H⟩ := bse H
  try dsimp only at H
  simp only [Option.some.injEq, Prod.mk.injEq] at H
  obtain ⟨rfl, rfl⟩ := H
  go_enter Tryz.func42, Tryz.ntmps42
  go_wp2_with (first | ((with_reducible refine gate_callee (f := 63) rfl ?_); refine gL (some 4) Tryz.func63 #[.pointer (some ⟨g, 0, none⟩), .int .i64 3] ?_; (with_reducible refine (spec_l20Rd_pick.calls k g s0_0 s0_1 3 t234 t235 w0 _ ?side1 ?side2 A2.out).mono ?_); (case side1 => exact m25_); (case side2 => exact m23_); rintro e w6 ⟨rfl, hi, hb, hk⟩; refine ⟨_, rfl, ?_⟩; replace HK := am (KeepBut.trans m24_ hk (.inl rfl)); replace HB := am hb; replace HI0 := am hi; (try clear hb); (try clear hk); (try clear hi)) | ((with_reducible refine gate_callee (f := 75) rfl ?_); refine gL (some 8) Tryz.func75 #[.pointer (some ⟨g, 0, none⟩)] ?_; (with_reducible refine (spec_l20In.calls k g s0_0 t235 t236 t237 t238 w0 _ ?side1 ?side2 A4.out).mono ?_); (case side1 => exact m25_); (case side2 => exact m23_); rintro e w7 ⟨rfl, hi, hb, hk⟩; refine ⟨_, rfl, ?_⟩; replace HK := am (KeepBut.trans m24_ hk (.inl rfl)); replace HB := am hb; replace HI0 := am hi; (try clear hb); (try clear hk); (try clear hi)) | ((with_reducible refine gate_callee (f := 64) rfl ?_); refine gL (some 9) Tryz.func64 #[.agg #[.int .i64 t236, .int .i64 t237]] ?_; (with_reducible refine (spec_LinPort.calls k t236 t237 t239 _ A5.out).mono ?_); rintro e w8 ⟨rfl, hb⟩; refine ⟨_, rfl, ?_⟩; replace HK := am (KeepBut.trans m24_ (KeepBut.of_below hb g none) (.inl rfl)); replace HB := am (below_step m23_ hb); replace HI0 := am (IsS84.below m25_ hb); (try clear hb)))
  go_ret
  exact ⟨fi_, m25_, m23_, m24_⟩
 ·rw [if_neg c3] at H
  have c3b0 : (t234 == 0) = false := beq_eq_false_iff_ne.mpr c3
  have c3b1 : (t234 != 0) = true := bne_iff_ne.mpr c3
  by_cases c9 : t234 = 1
  ·rw [if_pos c9] at H
   have c9b0 : (t234 == 1) = true := beq_iff_eq.mpr c9
   have c9b1 : (t234 != 1) = false := bne_eq_false_iff_eq.mpr c9
   clear c9
   obtain ⟨y240, hy240⟩ : ∃ y_ : List ByteArray, y_ = (([(⟨#[]⟩ : ByteArray), (⟨#[108, 105, 115, 116]⟩ : ByteArray), (⟨#[117, 115, 101, 114, 32, 97]⟩ : ByteArray), (⟨#[112, 111, 114, 116, 32, 53, 48, 32, 53, 48, 48]⟩ : ByteArray), (⟨#[112, 111, 114, 116, 32, 49, 48, 48, 32, 57]⟩ : ByteArray), (⟨#[112, 111, 114, 116, 32, 48, 49, 32, 50]⟩ : ByteArray), (⟨#[112, 111, 114, 116, 32, 49]⟩ : ByteArray), (⟨#[97, 98, 99, 100, 101, 102, 103, 104, 105, 106, 32, 107, 108, 109, 110, 111]⟩ : ByteArray), (⟨#[112, 111, 114, 116]⟩ : ByteArray), (⟨#[112, 111, 114, 116, 32, 49, 32, 50, 32, 51]⟩ : ByteArray)] : List ByteArray)) := ⟨_, rfl⟩
   replace H : ((spec_l20Rd_pick.f k s0_0 t235 10).bind fun bt243 => (if 0 ≤ bt243.1 then (if bt243.1 < (y240.length : Int) then (some (rdOf ByteArray.empty y240 bt243.1, bt243.2)) else (none)) else (none))) = some (r1, r2) := by first | (rw [hy240]; with_reducible exact H) | (have H2_ := (Option.bind_some _ _).symm.trans H; rw [hy240]; with_reducible exact H2_) | (have H2_ := (Option.bind_some _ _).symm.trans H; with_reducible exact H2_) | with_reducible exact H | (rw [hy240]; exact H) | exact H
   have Ny240 := am hy240
   clear hy240
   obtain ⟨⟨t243, t244⟩, A10, H⟩ := bse H
   try dsimp only at H
   by_cases c11 : 0 ≤ t243
   ·rw [if_pos c11] at H
    have c11b0 : decide (0 ≤ t243) = true := decide_eq_true c11
    clear c11
    by_cases c12 : t243 < (y240.length : Int)
    ·rw [if_pos c12] at H
     have c12b0 : decide (t243 < (y240.length : Int)) = true := decide_eq_true c12
     clear c12
     simp only [Option.some.injEq, Prod.mk.injEq] at H
     obtain ⟨rfl, rfl⟩ := H
     go_enter Tryz.func42, Tryz.ntmps42
     go_wp2_with (first | ((with_reducible refine gate_callee (f := 63) rfl ?_); refine gL (some 4) Tryz.func63 #[.pointer (some ⟨g, 0, none⟩), .int .i64 3] ?_; (with_reducible refine (spec_l20Rd_pick.calls k g s0_0 s0_1 3 t234 t235 w0 _ ?side1 ?side2 A2.out).mono ?_); (case side1 => exact m25_); (case side2 => exact m23_); rintro e w13 ⟨rfl, hi, hb, hk⟩; refine ⟨_, rfl, ?_⟩; replace HK := am (KeepBut.trans m24_ hk (.inl rfl)); replace HB := am hb; replace HI0 := am hi; (try clear hb); (try clear hk); (try clear hi)) | ((with_reducible refine gate_dst (N := 12) rfl ?_); refine Kd.R_lit Kd.string _ 9 rfl (N := 12) rfl (xs := ([(⟨#[]⟩ : ByteArray), (⟨#[108, 105, 115, 116]⟩ : ByteArray), (⟨#[117, 115, 101, 114, 32, 97]⟩ : ByteArray), (⟨#[112, 111, 114, 116, 32, 53, 48, 32, 53, 48, 48]⟩ : ByteArray), (⟨#[112, 111, 114, 116, 32, 49, 48, 48, 32, 57]⟩ : ByteArray), (⟨#[112, 111, 114, 116, 32, 48, 49, 32, 50]⟩ : ByteArray), (⟨#[112, 111, 114, 116, 32, 49]⟩ : ByteArray), (⟨#[97, 98, 99, 100, 101, 102, 103, 104, 105, 106, 32, 107, 108, 109, 110, 111]⟩ : ByteArray), (⟨#[112, 111, 114, 116]⟩ : ByteArray), (⟨#[112, 111, 114, 116, 32, 49, 32, 50, 32, 51]⟩ : ByteArray)] : List ByteArray)) (inner := [.string (⟨#[]⟩ : ByteArray), .string (⟨#[108, 105, 115, 116]⟩ : ByteArray), .string (⟨#[117, 115, 101, 114, 32, 97]⟩ : ByteArray), .string (⟨#[112, 111, 114, 116, 32, 53, 48, 32, 53, 48, 48]⟩ : ByteArray), .string (⟨#[112, 111, 114, 116, 32, 49, 48, 48, 32, 57]⟩ : ByteArray), .string (⟨#[112, 111, 114, 116, 32, 48, 49, 32, 50]⟩ : ByteArray), .string (⟨#[112, 111, 114, 116, 32, 49]⟩ : ByteArray), .string (⟨#[97, 98, 99, 100, 101, 102, 103, 104, 105, 106, 32, 107, 108, 109, 110, 111]⟩ : ByteArray), .string (⟨#[112, 111, 114, 116]⟩ : ByteArray), .string (⟨#[112, 111, 114, 116, 32, 49, 32, 50, 32, 51]⟩ : ByteArray)]) (ok := fun _ => True) (okp := fun _ => True) hr_ ?hp (fun _ hk => hk) trivial (Below.refl _ _) (Nat.le_refl _) (by simp) ?_; (case hp => exact (Reps.one (show Kd.M Kd.string _ _ _ (⟨#[]⟩ : ByteArray) [.string (⟨#[]⟩ : ByteArray)] from rfl) (Reps.one (show Kd.M Kd.string _ _ _ (⟨#[108, 105, 115, 116]⟩ : ByteArray) [.string (⟨#[108, 105, 115, 116]⟩ : ByteArray)] from rfl) (Reps.one (show Kd.M Kd.string _ _ _ (⟨#[117, 115, 101, 114, 32, 97]⟩ : ByteArray) [.string (⟨#[117, 115, 101, 114, 32, 97]⟩ : ByteArray)] from rfl) (Reps.one (show Kd.M Kd.string _ _ _ (⟨#[112, 111, 114, 116, 32, 53, 48, 32, 53, 48, 48]⟩ : ByteArray) [.string (⟨#[112, 111, 114, 116, 32, 53, 48, 32, 53, 48, 48]⟩ : ByteArray)] from rfl) (Reps.one (show Kd.M Kd.string _ _ _ (⟨#[112, 111, 114, 116, 32, 49, 48, 48, 32, 57]⟩ : ByteArray) [.string (⟨#[112, 111, 114, 116, 32, 49, 48, 48, 32, 57]⟩ : ByteArray)] from rfl) (Reps.one (show Kd.M Kd.string _ _ _ (⟨#[112, 111, 114, 116, 32, 48, 49, 32, 50]⟩ : ByteArray) [.string (⟨#[112, 111, 114, 116, 32, 48, 49, 32, 50]⟩ : ByteArray)] from rfl) (Reps.one (show Kd.M Kd.string _ _ _ (⟨#[112, 111, 114, 116, 32, 49]⟩ : ByteArray) [.string (⟨#[112, 111, 114, 116, 32, 49]⟩ : ByteArray)] from rfl) (Reps.one (show Kd.M Kd.string _ _ _ (⟨#[97, 98, 99, 100, 101, 102, 103, 104, 105, 106, 32, 107, 108, 109, 110, 111]⟩ : ByteArray) [.string (⟨#[97, 98, 99, 100, 101, 102, 103, 104, 105, 106, 32, 107, 108, 109, 110, 111]⟩ : ByteArray)] from rfl) (Reps.one (show Kd.M Kd.string _ _ _ (⟨#[112, 111, 114, 116]⟩ : ByteArray) [.string (⟨#[112, 111, 114, 116]⟩ : ByteArray)] from rfl) (Reps.one (show Kd.M Kd.string _ _ _ (⟨#[112, 111, 114, 116, 32, 49, 32, 50, 32, 51]⟩ : ByteArray) [.string (⟨#[112, 111, 114, 116, 32, 49, 32, 50, 32, 51]⟩ : ByteArray)] from rfl) (Reps.none _ _)))))))))))); intro v241 w14 ho15 hb hg_ hnew_; clear hg_ hnew_; (first | rw [← Ny240.out] at ho15 | (simp only [Int.reduceToNat] at ho15; rw [← Ny240.out] at ho15)); have HO242 := am (Kd.R_lower ho15 (keep_size (w := w) (g := g) (row := none) m24_)); replace HK := am (KeepBut.trans m24_ (KeepBut.of_below hb g none) (.inl rfl)); replace HB := am (below_step m23_ hb); replace HI0 := am (IsS84.below m25_ hb); clear hb ho15) | ((with_reducible refine gate_callee (f := 63) rfl ?_); refine gL (some 14) Tryz.func63 #[.pointer (some ⟨g, 0, none⟩), .int .i64 10] ?_; (with_reducible refine (spec_l20Rd_pick.calls k g s0_0 t235 10 t243 t244 w0 _ ?side1 ?side2 A10.out).mono ?_); (case side1 => exact m25_); (case side2 => exact m23_); rintro e w16 ⟨rfl, hi, hb, hk⟩; refine ⟨_, rfl, ?_⟩; replace HO242 := am (Kd.R_mono (Kd.R_keep (IsS84.apart (show IsS84 w0 _ g s0_0 t235 from m25_) (rs HO242) (by decide)) hk (fun _ h => h.2)) (fun _ h => h.1)); replace HK := am (KeepBut.trans m24_ hk (.inl rfl)); replace HB := am hb; replace HI0 := am hi; (try clear hb); (try clear hk); (try clear hi); obtain ⟨Ao17, co17, eo17⟩ := Kd.R_slice HO242.out; subst eo17; have p245 : 0 ≤ (t243 : Int) := of_decide_eq_true da_; have q245 : t243 < (y240.length : Int) := of_decide_eq_true da_; obtain ⟨ad245, e245, hx245_0⟩ := Kd.at_string (Kd.R_reads' HO242.out).2.2 t243 p245 q245; cases e245; replace p245 := eq_true p245; replace q245 := eq_true q245))
     go_ret
     exact ⟨fi_, m25_, m23_, m24_⟩
    ·rw [if_neg c12] at H
     exact absurd H (by simp)
   ·rw [if_neg c11] at H
    exact absurd H (by simp)
  ·rw [if_neg c9] at H
   have c9b0 : (t234 == 1) = false := beq_eq_false_iff_ne.mpr c9
   have c9b1 : (t234 != 1) = true := bne_iff_ne.mpr c9
   obtain ⟨y246, hy246⟩ : ∃ y_ : List ByteArray, y_ = (([(⟨#[97]⟩ : ByteArray), (⟨#[98, 98]⟩ : ByteArray), (⟨#[103, 101, 116, 32, 102, 105, 108, 101, 49]⟩ : ByteArray), (⟨#[113, 117, 105, 116]⟩ : ByteArray)] : List ByteArray)) := ⟨_, rfl⟩
   replace H : ((spec_l20Rd_pick.f k s0_0 t235 4).bind fun bt249 => (if 0 ≤ bt249.1 then (if bt249.1 < (y246.length : Int) then (some (rdOf ByteArray.empty y246 bt249.1, bt249.2)) else (none)) else (none))) = some (r1, r2) := by first | (rw [hy246]; with_reducible exact H) | (have H2_ := (Option.bind_some _ _).symm.trans H; rw [hy246]; with_reducible exact H2_) | (have H2_ := (Option.bind_some _ _).symm.trans H; with_reducible exact H2_) | with_reducible exact H | (rw [hy246]; exact H) | exact H
   have Ny246 := am hy246
   clear hy246
   obtain ⟨⟨t249, t250⟩, A18, H⟩ := bse H
   try dsimp only at H
   by_cases c19 : 0 ≤ t249
   ·rw [if_pos c19] at H
    have c19b0 : decide (0 ≤ t249) = true := decide_eq_true c19
    clear c19
    by_cases c20 : t249 < (y246.length : Int)
    ·rw [if_pos c20] at H
     have c20b0 : decide (t249 < (y246.length : Int)) = true := decide_eq_true c20
     clear c20
     simp only [Option.some.injEq, Prod.mk.injEq] at H
     obtain ⟨rfl, rfl⟩ := H
     go_enter Tryz.func42, Tryz.ntmps42
     go_wp2_with (first | ((with_reducible refine gate_callee (f := 63) rfl ?_); refine gL (some 4) Tryz.func63 #[.pointer (some ⟨g, 0, none⟩), .int .i64 3] ?_; (with_reducible refine (spec_l20Rd_pick.calls k g s0_0 s0_1 3 t234 t235 w0 _ ?side1 ?side2 A2.out).mono ?_); (case side1 => exact m25_); (case side2 => exact m23_); rintro e w21 ⟨rfl, hi, hb, hk⟩; refine ⟨_, rfl, ?_⟩; replace HK := am (KeepBut.trans m24_ hk (.inl rfl)); replace HB := am hb; replace HI0 := am hi; (try clear hb); (try clear hk); (try clear hi)) | ((with_reducible refine gate_dst (N := 17) rfl ?_); refine Kd.R_lit Kd.string _ 9 rfl (N := 17) rfl (xs := ([(⟨#[97]⟩ : ByteArray), (⟨#[98, 98]⟩ : ByteArray), (⟨#[103, 101, 116, 32, 102, 105, 108, 101, 49]⟩ : ByteArray), (⟨#[113, 117, 105, 116]⟩ : ByteArray)] : List ByteArray)) (inner := [.string (⟨#[97]⟩ : ByteArray), .string (⟨#[98, 98]⟩ : ByteArray), .string (⟨#[103, 101, 116, 32, 102, 105, 108, 101, 49]⟩ : ByteArray), .string (⟨#[113, 117, 105, 116]⟩ : ByteArray)]) (ok := fun _ => True) (okp := fun _ => True) hr_ ?hp (fun _ hk => hk) trivial (Below.refl _ _) (Nat.le_refl _) (by simp) ?_; (case hp => exact (Reps.one (show Kd.M Kd.string _ _ _ (⟨#[97]⟩ : ByteArray) [.string (⟨#[97]⟩ : ByteArray)] from rfl) (Reps.one (show Kd.M Kd.string _ _ _ (⟨#[98, 98]⟩ : ByteArray) [.string (⟨#[98, 98]⟩ : ByteArray)] from rfl) (Reps.one (show Kd.M Kd.string _ _ _ (⟨#[103, 101, 116, 32, 102, 105, 108, 101, 49]⟩ : ByteArray) [.string (⟨#[103, 101, 116, 32, 102, 105, 108, 101, 49]⟩ : ByteArray)] from rfl) (Reps.one (show Kd.M Kd.string _ _ _ (⟨#[113, 117, 105, 116]⟩ : ByteArray) [.string (⟨#[113, 117, 105, 116]⟩ : ByteArray)] from rfl) (Reps.none _ _)))))); intro v247 w22 ho23 hb hg_ hnew_; clear hg_ hnew_; (first | rw [← Ny246.out] at ho23 | (simp only [Int.reduceToNat] at ho23; rw [← Ny246.out] at ho23)); have HO248 := am (Kd.R_lower ho23 (keep_size (w := w) (g := g) (row := none) m24_)); replace HK := am (KeepBut.trans m24_ (KeepBut.of_below hb g none) (.inl rfl)); replace HB := am (below_step m23_ hb); replace HI0 := am (IsS84.below m25_ hb); clear hb ho23) | ((with_reducible refine gate_callee (f := 63) rfl ?_); refine gL (some 19) Tryz.func63 #[.pointer (some ⟨g, 0, none⟩), .int .i64 4] ?_; (with_reducible refine (spec_l20Rd_pick.calls k g s0_0 t235 4 t249 t250 w0 _ ?side1 ?side2 A18.out).mono ?_); (case side1 => exact m25_); (case side2 => exact m23_); rintro e w24 ⟨rfl, hi, hb, hk⟩; refine ⟨_, rfl, ?_⟩; replace HO248 := am (Kd.R_mono (Kd.R_keep (IsS84.apart (show IsS84 w0 _ g s0_0 t235 from m25_) (rs HO248) (by decide)) hk (fun _ h => h.2)) (fun _ h => h.1)); replace HK := am (KeepBut.trans m24_ hk (.inl rfl)); replace HB := am hb; replace HI0 := am hi; (try clear hb); (try clear hk); (try clear hi); obtain ⟨Ao25, co25, eo25⟩ := Kd.R_slice HO248.out; subst eo25; have p251 : 0 ≤ (t249 : Int) := of_decide_eq_true da_; have q251 : t249 < (y246.length : Int) := of_decide_eq_true da_; obtain ⟨ad251, e251, hx251_0⟩ := Kd.at_string (Kd.R_reads' HO248.out).2.2 t249 p251 q251; cases e251; replace p251 := eq_true p251; replace q251 := eq_true q251))
     go_ret
     exact ⟨fi_, m25_, m23_, m24_⟩
    ·rw [if_neg c20] at H
     exact absurd H (by simp)
   ·rw [if_neg c19] at H
    exact absurd H (by simp)
def spec_l20Bent.f (k : Nat) (s0_0 : List Int) (s0_1 : Int) (a1 : ByteArray) : Option (ByteArray × Int) := (spec_l20Rd_pick.f k s0_0 s0_1 (wrap64 ((a1.size : Int) + 1))).bind fun bt252 => ((spec_l20Rd_pick.f k s0_0 bt252.2 256).bind fun bt254 => ((some (([32, 48, 49, 57, 59, 97, 112, bt254.1] : List Int) : List Int)).bind fun y256 => ((spec_l20Rd_pick.f k s0_0 bt254.2 8).bind fun bt259 => (if 0 ≤ bt259.1 then (if bt259.1 < (y256.length : Int) then ((some (([(rd y256 bt259.1) % 256] : List Int) : List Int)).bind fun y262 => ((spec_l20Rd_pick.f k s0_0 bt259.2 3).bind fun bt265 => (if bt265.1 = 0 then (if 0 ≤ bt252.1 then (if bt252.1 ≤ (a1.size : Int) then (if (a1.extract 0 (bt252.1 : Int).toNat).size + (strOfNums y262).size ≤ 9223372036854775807 then (if ((a1.extract 0 (bt252.1 : Int).toNat) ++ (strOfNums y262)).size + (a1.extract (bt252.1 : Int).toNat a1.size).size ≤ 9223372036854775807 then (some (((a1.extract 0 (bt252.1 : Int).toNat) ++ (strOfNums y262)) ++ (a1.extract (bt252.1 : Int).toNat a1.size), bt265.2)) else (none)) else (none)) else (none)) else (none)) else (if bt265.1 = 1 then (if bt252.1 < (a1.size : Int) then (if 0 ≤ bt252.1 then (if bt252.1 ≤ (a1.size : Int) then (if 0 ≤ (wrap64 (bt252.1 + 1)) then (if (wrap64 (bt252.1 + 1)) ≤ (a1.size : Int) then (if (a1.extract 0 (bt252.1 : Int).toNat).size + (a1.extract ((wrap64 (bt252.1 + 1)) : Int).toNat a1.size).size ≤ 9223372036854775807 then (some ((a1.extract 0 (bt252.1 : Int).toNat) ++ (a1.extract ((wrap64 (bt252.1 + 1)) : Int).toNat a1.size), bt265.2)) else (none)) else (none)) else (none)) else (none)) else (none)) else (some (a1, bt265.2))) else (if bt252.1 < (a1.size : Int) then (if 0 ≤ bt252.1 then (if bt252.1 ≤ (a1.size : Int) then (if (a1.extract 0 (bt252.1 : Int).toNat).size + (strOfNums y262).size ≤ 9223372036854775807 then (if 0 ≤ (wrap64 (bt252.1 + 1)) then (if (wrap64 (bt252.1 + 1)) ≤ (a1.size : Int) then (if ((a1.extract 0 (bt252.1 : Int).toNat) ++ (strOfNums y262)).size + (a1.extract ((wrap64 (bt252.1 + 1)) : Int).toNat a1.size).size ≤ 9223372036854775807 then (some (((a1.extract 0 (bt252.1 : Int).toNat) ++ (strOfNums y262)) ++ (a1.extract ((wrap64 (bt252.1 + 1)) : Int).toNat a1.size), bt265.2)) else (none)) else (none)) else (none)) else (none)) else (none)) else (none)) else (some (a1, bt265.2))))))) else (none)) else (none)))))
theorem spec_l20Bent.mono : ∀ a0 a1 a2 k, LeO (spec_l20Bent.f k a0 a1 a2) (spec_l20Bent.f (k + 1) a0 a1 a2) := by
 intro a0 a1 a2 k
 unfold spec_l20Bent.f
 repeat' first | (with_reducible first | exact spec_l20Rd_pick.mono _ _ _ _ | exact LeO.refl _ | exact LeO.none _ | refine LeO.ite ?_ ?_ | refine LeO.bind ?_ (fun _ => ?_)) | exact spec_l20Rd_pick.mono _ _ _ _ | exact LeO.none _ | refine LeO.ite ?_ ?_ | refine LeO.bind ?_ (fun _ => ?_)
set_option maxHeartbeats 8000000 in
set_option maxRecDepth 100000 in
theorem spec_l20Bent.calls (k : Nat) (g : Nat) (s0_0 : List Int) (s0_1 : Int) (a1 : ByteArray) (r1 : ByteArray) (r2 : Int) (w0 w : World) (hI : IsS84 w0 w g s0_0 s0_1) (hB : Below w0.heap.size w0 w) (h : spec_l20Bent.f k s0_0 s0_1 a1 = some (r1, r2)) :
  Calls Tryz.prog 44 #[.pointer (some ⟨g, 0, none⟩), .string a1] w fun e w' => e = .returned (.string r1) ∧ IsS84 w0 w' g s0_0 r2 ∧ Below w0.heap.size w0 w' ∧ KeepBut w w' g none := by
 have HI0 := am hI
 have HK := am (KeepBut.refl w g none)
 have HL := am hB.size
 clear hI
 have HW0 := am hB.size
 have HB := am hB
 clear hB
 have H : ((spec_l20Rd_pick.f k s0_0 s0_1 (wrap64 ((a1.size : Int) + 1))).bind fun bt252 => ((spec_l20Rd_pick.f k s0_0 bt252.2 256).bind fun bt254 => ((some (([32, 48, 49, 57, 59, 97, 112, bt254.1] : List Int) : List Int)).bind fun y256 => ((spec_l20Rd_pick.f k s0_0 bt254.2 8).bind fun bt259 => (if 0 ≤ bt259.1 then (if bt259.1 < (y256.length : Int) then ((some (([(rd y256 bt259.1) % 256] : List Int) : List Int)).bind fun y262 => ((spec_l20Rd_pick.f k s0_0 bt259.2 3).bind fun bt265 => (if bt265.1 = 0 then (if 0 ≤ bt252.1 then (if bt252.1 ≤ (a1.size : Int) then (if (a1.extract 0 (bt252.1 : Int).toNat).size + (strOfNums y262).size ≤ 9223372036854775807 then (if ((a1.extract 0 (bt252.1 : Int).toNat) ++ (strOfNums y262)).size + (a1.extract (bt252.1 : Int).toNat a1.size).size ≤ 9223372036854775807 then (some (((a1.extract 0 (bt252.1 : Int).toNat) ++ (strOfNums y262)) ++ (a1.extract (bt252.1 : Int).toNat a1.size), bt265.2)) else (none)) else (none)) else (none)) else (none)) else (if bt265.1 = 1 then (if bt252.1 < (a1.size : Int) then (if 0 ≤ bt252.1 then (if bt252.1 ≤ (a1.size : Int) then (if 0 ≤ (wrap64 (bt252.1 + 1)) then (if (wrap64 (bt252.1 + 1)) ≤ (a1.size : Int) then (if (a1.extract 0 (bt252.1 : Int).toNat).size + (a1.extract ((wrap64 (bt252.1 + 1)) : Int).toNat a1.size).size ≤ 9223372036854775807 then (some ((a1.extract 0 (bt252.1 : Int).toNat) ++ (a1.extract ((wrap64 (bt252.1 + 1)) : Int).toNat a1.size), bt265.2)) else (none)) else (none)) else (none)) else (none)) else (none)) else (some (a1, bt265.2))) else (if bt252.1 < (a1.size : Int) then (if 0 ≤ bt252.1 then (if bt252.1 ≤ (a1.size : Int) then (if (a1.extract 0 (bt252.1 : Int).toNat).size + (strOfNums y262).size ≤ 9223372036854775807 then (if 0 ≤ (wrap64 (bt252.1 + 1)) then (if (wrap64 (bt252.1 + 1)) ≤ (a1.size : Int) then (if ((a1.extract 0 (bt252.1 : Int).toNat) ++ (strOfNums y262)).size + (a1.extract ((wrap64 (bt252.1 + 1)) : Int).toNat a1.size).size ≤ 9223372036854775807 then (some (((a1.extract 0 (bt252.1 : Int).toNat) ++ (strOfNums y262)) ++ (a1.extract ((wrap64 (bt252.1 + 1)) : Int).toNat a1.size), bt265.2)) else (none)) else (none)) else (none)) else (none)) else (none)) else (none)) else (some (a1, bt265.2))))))) else (none)) else (none)))))) = some (r1, r2) := h
 clear h
 obtain ⟨⟨t252, t253⟩, A3, H⟩ := bse H
 try dsimp only at H
 obtain ⟨⟨t254, t255⟩, A4, H⟩ := bse H
 try dsimp only at H
 obtain ⟨y256, hy256⟩ : ∃ y_ : List Int, y_ = (([32, 48, 49, 57, 59, 97, 112, t254] : List Int)) := ⟨_, rfl⟩
 replace H : ((spec_l20Rd_pick.f k s0_0 t255 8).bind fun bt259 => (if 0 ≤ bt259.1 then (if bt259.1 < (y256.length : Int) then ((some (([(rd y256 bt259.1) % 256] : List Int) : List Int)).bind fun y262 => ((spec_l20Rd_pick.f k s0_0 bt259.2 3).bind fun bt265 => (if bt265.1 = 0 then (if 0 ≤ t252 then (if t252 ≤ (a1.size : Int) then (if (a1.extract 0 (t252 : Int).toNat).size + (strOfNums y262).size ≤ 9223372036854775807 then (if ((a1.extract 0 (t252 : Int).toNat) ++ (strOfNums y262)).size + (a1.extract (t252 : Int).toNat a1.size).size ≤ 9223372036854775807 then (some (((a1.extract 0 (t252 : Int).toNat) ++ (strOfNums y262)) ++ (a1.extract (t252 : Int).toNat a1.size), bt265.2)) else (none)) else (none)) else (none)) else (none)) else (if bt265.1 = 1 then (if t252 < (a1.size : Int) then (if 0 ≤ t252 then (if t252 ≤ (a1.size : Int) then (if 0 ≤ (wrap64 (t252 + 1)) then (if (wrap64 (t252 + 1)) ≤ (a1.size : Int) then (if (a1.extract 0 (t252 : Int).toNat).size + (a1.extract ((wrap64 (t252 + 1)) : Int).toNat a1.size).size ≤ 9223372036854775807 then (some ((a1.extract 0 (t252 : Int).toNat) ++ (a1.extract ((wrap64 (t252 + 1)) : Int).toNat a1.size), bt265.2)) else (none)) else (none)) else (none)) else (none)) else (none)) else (some (a1, bt265.2))) else (if t252 < (a1.size : Int) then (if 0 ≤ t252 then (if t252 ≤ (a1.size : Int) then (if (a1.extract 0 (t252 : Int).toNat).size + (strOfNums y262).size ≤ 9223372036854775807 then (if 0 ≤ (wrap64 (t252 + 1)) then (if (wrap64 (t252 + 1)) ≤ (a1.size : Int) then (if ((a1.extract 0 (t252 : Int).toNat) ++ (strOfNums y262)).size + (a1.extract ((wrap64 (t252 + 1)) : Int).toNat a1.size).size ≤ 9223372036854775807 then (some (((a1.extract 0 (t252 : Int).toNat) ++ (strOfNums y262)) ++ (a1.extract ((wrap64 (t252 + 1)) : Int).toNat a1.size), bt265.2)) else (none)) else (none)) else (none)) else (none)) else (none)) else (none)) else (some (a1, bt265.2))))))) else (none)) else (none))) = some (r1, r2) := by first | (rw [hy256]; with_reducible exact H) | (have H2_ := (Option.bind_some _ _).symm.trans H; rw [hy256]; with_reducible exact H2_) | (have H2_ := (Option.bind_some _ _).symm.trans H; with_reducible exact H2_) | with_reducible exact H | (rw [hy256]; exact H) | exact H
 have Ny256 := am hy256
 clear hy256
 obtain ⟨⟨t259, t260⟩, A5, H⟩ := bse H
 try dsimp only at H
 by_cases c6 : 0 ≤ t259
 ·rw [if_pos c6] at H
  have c6b0 : decide (0 ≤ t259) = true := decide_eq_true c6
  clear c6
  by_cases c7 : t259 < (y256.length : Int)
  ·rw [if_pos c7] at H
   have c7b0 : decide (t259 < (y256.length : Int)) = true := decide_eq_true c7
   clear c7
   obtain ⟨y262, hy262⟩ : ∃ y_ : List Int, y_ = (([(rd y256 t259) % 256] : List Int)) := ⟨_, rfl⟩
   replace H : ((spec_l20Rd_pick.f k s0_0 t260 3).bind fun bt265 => (if bt265.1 = 0 then (if 0 ≤ t252 then (if t252 ≤ (a1.size : Int) then (if (a1.extract 0 (t252 : Int).toNat).size + (strOfNums y262).size ≤ 9223372036854775807 then (if ((a1.extract 0 (t252 : Int).toNat) ++ (strOfNums y262)).size + (a1.extract (t252 : Int).toNat a1.size).size ≤ 9223372036854775807 then (some (((a1.extract 0 (t252 : Int).toNat) ++ (strOfNums y262)) ++ (a1.extract (t252 : Int).toNat a1.size), bt265.2)) else (none)) else (none)) else (none)) else (none)) else (if bt265.1 = 1 then (if t252 < (a1.size : Int) then (if 0 ≤ t252 then (if t252 ≤ (a1.size : Int) then (if 0 ≤ (wrap64 (t252 + 1)) then (if (wrap64 (t252 + 1)) ≤ (a1.size : Int) then (if (a1.extract 0 (t252 : Int).toNat).size + (a1.extract ((wrap64 (t252 + 1)) : Int).toNat a1.size).size ≤ 9223372036854775807 then (some ((a1.extract 0 (t252 : Int).toNat) ++ (a1.extract ((wrap64 (t252 + 1)) : Int).toNat a1.size), bt265.2)) else (none)) else (none)) else (none)) else (none)) else (none)) else (some (a1, bt265.2))) else (if t252 < (a1.size : Int) then (if 0 ≤ t252 then (if t252 ≤ (a1.size : Int) then (if (a1.extract 0 (t252 : Int).toNat).size + (strOfNums y262).size ≤ 9223372036854775807 then (if 0 ≤ (wrap64 (t252 + 1)) then (if (wrap64 (t252 + 1)) ≤ (a1.size : Int) then (if ((a1.extract 0 (t252 : Int).toNat) ++ (strOfNums y262)).size + (a1.extract ((wrap64 (t252 + 1)) : Int).toNat a1.size).size ≤ 9223372036854775807 then (some (((a1.extract 0 (t252 : Int).toNat) ++ (strOfNums y262)) ++ (a1.extract ((wrap64 (t252 + 1)) : Int).toNat a1.size), bt265.2)) else (none)) else (none)) else (none)) else (none)) else (none)) else (none)) else (some (a1, bt265.2)))))) = some (r1, r2) := by first | (rw [hy262]; with_reducible exact H) | (have H2_ := (Option.bind_some _ _).symm.trans H; rw [hy262]; with_reducible exact H2_) | (have H2_ := (Option.bind_some _ _).symm.trans H; with_reducible exact H2_) | with_reducible exact H | (rw [hy262]; exact H) | exact H
   have Ny262 := am hy262
   clear hy262
   obtain ⟨⟨t265, t266⟩, A8, H⟩ := bse H
   try dsimp only at H
   by_cases c9 : t265 = 0
   ·rw [if_pos c9] at H
    have c9b0 : (t265 == 0) = true := beq_iff_eq.mpr c9
    have c9b1 : (t265 != 0) = false := bne_eq_false_iff_eq.mpr c9
    clear c9
    by_cases c10 : 0 ≤ t252
    ·rw [if_pos c10] at H
     have c10b0 := eq_true c10
     have c10b1 : decide (0 ≤ t252) = true := decide_eq_true c10
     clear c10
     by_cases c11 : t252 ≤ (a1.size : Int)
     ·rw [if_pos c11] at H
      have c11b0 := eq_true c11
      have c11b1 : decide (t252 ≤ (a1.size : Int)) = true := decide_eq_true c11
      clear c11
      by_cases c12 : (a1.extract 0 (t252 : Int).toNat).size + (strOfNums y262).size ≤ 9223372036854775807
      ·rw [if_pos c12] at H
       have c12b0 := eq_true c12
       have c12b1 : decide ((a1.extract 0 (t252 : Int).toNat).size + (strOfNums y262).size ≤ 9223372036854775807) = true := decide_eq_true c12
       try have c12b2 : (9223372036854775807 < (a1.extract 0 (t252 : Int).toNat).size + (strOfNums y262).size) = False := eq_false (Nat.not_lt.2 c12)
       have c13b0 := eq_true (of_decide_eq_true da_ : 0 ≤ t252)
       have c14b0 := eq_true (of_decide_eq_true da_ : t252 ≤ (a1.size : Int))
       by_cases c15 : ((a1.extract 0 (t252 : Int).toNat) ++ (strOfNums y262)).size + (a1.extract (t252 : Int).toNat a1.size).size ≤ 9223372036854775807
       ·rw [if_pos c15] at H
        have c15b0 := eq_true c15
        have c15b1 : decide (((a1.extract 0 (t252 : Int).toNat) ++ (strOfNums y262)).size + (a1.extract (t252 : Int).toNat a1.size).size ≤ 9223372036854775807) = true := decide_eq_true c15
        try have c15b2 : (9223372036854775807 < ((a1.extract 0 (t252 : Int).toNat) ++ (strOfNums y262)).size + (a1.extract (t252 : Int).toNat a1.size).size) = False := eq_false (Nat.not_lt.2 c15)
        try have c15b3 : (9223372036854775807 < (a1.extract 0 (t252 : Int).toNat).size + (strOfNums y262).size + (a1.extract (t252 : Int).toNat a1.size).size) = False := (by have z_ := c15b2; simp only [ByteArray.size_append] at z_; exact z_)
        simp only [Option.some.injEq, Prod.mk.injEq] at H
        obtain ⟨rfl, rfl⟩ := H
        go_enter Tryz.func44, Tryz.ntmps44
        iterate 4 ((try go_quiet (fail)); (try go_wp2_with (first | (go_at_call 63; (with_reducible refine (spec_l20Rd_pick.calls k g s0_0 s0_1 (wrap64 ((a1.size : Int) + 1)) t252 t253 w0 _ ?side1 ?side2 A3.out).mono ?_); (case side1 => exact m25_); (case side2 => exact m23_); rintro e w16 ⟨rfl, hi, hb, hk⟩; replace HK := am (KeepBut.trans m24_ hk (.inl rfl)); replace HB := am hb; replace HI0 := am hi; (try clear hb); (try clear hk); (try clear hi)) | (go_at_call 63; (with_reducible refine (spec_l20Rd_pick.calls k g s0_0 t253 256 t254 t255 w0 _ ?side1 ?side2 A4.out).mono ?_); (case side1 => exact m25_); (case side2 => exact m23_); rintro e w17 ⟨rfl, hi, hb, hk⟩; replace HK := am (KeepBut.trans m24_ hk (.inl rfl)); replace HB := am hb; replace HI0 := am hi; (try clear hb); (try clear hk); (try clear hi)) | ((with_reducible refine gate_dst (N := 14) rfl ?_); refine Kd.R_lit (Kd.int .i64) _ 3 rfl (N := 14) rfl (xs := ([32, 48, 49, 57, 59, 97, 112, t254] : List Int)) (inner := [.int .i64 32, .int .i64 48, .int .i64 49, .int .i64 57, .int .i64 59, .int .i64 97, .int .i64 112, .int .i64 t254]) (ok := fun _ => True) (okp := fun _ => True) hr_ ?hp (fun _ hk => hk) trivial (Below.refl _ _) (Nat.le_refl _) (by simp) ?_; (case hp => exact (Reps.one (show Kd.M (Kd.int .i64) _ _ _ 32 [.int .i64 32] from rfl) (Reps.one (show Kd.M (Kd.int .i64) _ _ _ 48 [.int .i64 48] from rfl) (Reps.one (show Kd.M (Kd.int .i64) _ _ _ 49 [.int .i64 49] from rfl) (Reps.one (show Kd.M (Kd.int .i64) _ _ _ 57 [.int .i64 57] from rfl) (Reps.one (show Kd.M (Kd.int .i64) _ _ _ 59 [.int .i64 59] from rfl) (Reps.one (show Kd.M (Kd.int .i64) _ _ _ 97 [.int .i64 97] from rfl) (Reps.one (show Kd.M (Kd.int .i64) _ _ _ 112 [.int .i64 112] from rfl) (Reps.one (show Kd.M (Kd.int .i64) _ _ _ t254 [.int .i64 t254] from rfl) (Reps.none _ _)))))))))); intro v257 w18 ho19 hb hg_ hnew_; clear hg_ hnew_; (first | rw [← Ny256.out] at ho19 | (simp only [Int.reduceToNat] at ho19; rw [← Ny256.out] at ho19)); have HO258 := am (Kd.R_lower ho19 (keep_size (w := w) (g := g) (row := none) m24_)); replace HK := am (KeepBut.trans m24_ (KeepBut.of_below hb g none) (.inl rfl)); replace HB := am (below_step m23_ hb); replace HI0 := am (IsS84.below m25_ hb); clear hb ho19) | (go_at_call 63; (with_reducible refine (spec_l20Rd_pick.calls k g s0_0 t255 8 t259 t260 w0 _ ?side1 ?side2 A5.out).mono ?_); (case side1 => exact m25_); (case side2 => exact m23_); rintro e w20 ⟨rfl, hi, hb, hk⟩; replace HO258 := am (Kd.R_mono (Kd.R_keep (IsS84.apart (show IsS84 w0 _ g s0_0 t255 from m25_) (rs HO258) (by decide)) hk (fun _ h => h.2)) (fun _ h => h.1)); replace HK := am (KeepBut.trans m24_ hk (.inl rfl)); replace HB := am hb; replace HI0 := am hi; (try clear hb); (try clear hk); (try clear hi); obtain ⟨Ao21, co21, eo21⟩ := Kd.R_slice HO258.out; subst eo21; have p261 : 0 ≤ (t259 : Int) := of_decide_eq_true da_; have q261 : t259 < (y256.length : Int) := of_decide_eq_true da_; obtain ⟨ad261, e261, hx261_0⟩ := Kd.at_int (Kd.R_reads' HO258.out).2.2 t259 p261 q261; cases e261; replace p261 := eq_true p261; replace q261 := eq_true q261) | ((with_reducible refine gate_dst (N := 20) rfl ?_); refine Kd.R_lit (Kd.int .u8) _ 5 rfl (N := 20) rfl (xs := ([(rd y256 t259) % 256] : List Int)) (inner := [.int .u8 ((rd y256 t259) % 256)]) (ok := fun _ => True) (okp := fun _ => True) hr_ ?hp (fun _ hk => hk) trivial (Below.refl _ _) (Nat.le_refl _) (by simp) ?_; (case hp => exact (Reps.one (show Kd.M (Kd.int .u8) _ _ _ ((rd y256 t259) % 256) [.int .u8 ((rd y256 t259) % 256)] from rfl) (Reps.none _ _))); intro v263 w22 ho23 hb hg_ hnew_; clear hg_ hnew_; (first | rw [← Ny262.out] at ho23 | (simp only [Int.reduceToNat] at ho23; rw [← Ny262.out] at ho23)); replace HO258 := am (Kd.R_below (rs HO258) hb); have HO264 := am (Kd.R_lower ho23 (keep_size (w := w) (g := g) (row := none) m24_)); replace HK := am (KeepBut.trans m24_ (KeepBut.of_below hb g none) (.inl rfl)); replace HB := am (below_step m23_ hb); replace HI0 := am (IsS84.below m25_ hb); clear hb ho23; have hcv24 := own_string (P := Tryz.prog) Tryz.underlying22 Tryz.underlying5 Tryz.underlying9 (Kd.own_of_R HO264.out)) | (go_at_call 63; (with_reducible refine (spec_l20Rd_pick.calls k g s0_0 t260 3 t265 t266 w0 _ ?side1 ?side2 A8.out).mono ?_); (case side1 => exact m25_); (case side2 => exact m23_); rintro e w25 ⟨rfl, hi, hb, hk⟩; replace HO258 := am (Kd.R_mono (Kd.R_keep (IsS84.apart (show IsS84 w0 _ g s0_0 t260 from m25_) (rs HO258) (by decide)) hk (fun _ h => h.2)) (fun _ h => h.1)); replace HO264 := am (Kd.R_mono (Kd.R_keep (IsS84.apart (show IsS84 w0 _ g s0_0 t260 from m25_) (rs HO264) (by decide)) hk (fun _ h => h.2)) (fun _ h => h.1)); replace HK := am (KeepBut.trans m24_ hk (.inl rfl)); replace HB := am hb; replace HI0 := am hi; (try clear hb); (try clear hk); (try clear hi)))))
        go_ret
        exact ⟨fi_, m25_, m23_, m24_⟩
       ·rw [if_neg c15] at H
        exact absurd H (by simp)
      ·rw [if_neg c12] at H
       exact absurd H (by simp)
     ·rw [if_neg c11] at H
      exact absurd H (by simp)
    ·rw [if_neg c10] at H
     exact absurd H (by simp)
   ·rw [if_neg c9] at H
    have c9b0 : (t265 == 0) = false := beq_eq_false_iff_ne.mpr c9
    have c9b1 : (t265 != 0) = true := bne_iff_ne.mpr c9
    by_cases c26 : t265 = 1
    ·rw [if_pos c26] at H
     have c26b0 : (t265 == 1) = true := beq_iff_eq.mpr c26
     have c26b1 : (t265 != 1) = false := bne_eq_false_iff_eq.mpr c26
     clear c26
     by_cases c27 : t252 < (a1.size : Int)
     ·rw [if_pos c27] at H
      have c27b0 : decide (t252 < (a1.size : Int)) = true := decide_eq_true c27
      clear c27
      by_cases c28 : 0 ≤ t252
      ·rw [if_pos c28] at H
       have c28b0 := eq_true c28
       have c28b1 : decide (0 ≤ t252) = true := decide_eq_true c28
       clear c28
       by_cases c29 : t252 ≤ (a1.size : Int)
       ·rw [if_pos c29] at H
        have c29b0 := eq_true c29
        have c29b1 : decide (t252 ≤ (a1.size : Int)) = true := decide_eq_true c29
        clear c29
        obtain ⟨ji30, hji30⟩ : ∃ j_ : Int, (wrap64 (t252 + 1)) = j_ := ⟨_, rfl⟩
        replace H : (if 0 ≤ (ji30) then (if (ji30) ≤ (a1.size : Int) then (if (a1.extract 0 (t252 : Int).toNat).size + (a1.extract ((ji30) : Int).toNat a1.size).size ≤ 9223372036854775807 then (some ((a1.extract 0 (t252 : Int).toNat) ++ (a1.extract ((ji30) : Int).toNat a1.size), t266)) else (none)) else (none)) else (none)) = some (r1, r2) := by first | (rw [hji30] at H; exact H) | (simp only [hji30] at H ⊢; exact H)
        (try rw [hji30] at A3)
        (try rw [hji30] at A4)
        (try rw [hji30] at A5)
        (try rw [hji30] at A8)
        have hji30w : (IntKind.i64.wrap (t252 + 1)) = ji30 := (i64_w _).trans hji30
        by_cases c31 : 0 ≤ (ji30)
        ·rw [if_pos c31] at H
         have c31b0 := eq_true c31
         have c31b1 : decide (0 ≤ (ji30)) = true := decide_eq_true c31
         clear c31
         by_cases c32 : (ji30) ≤ (a1.size : Int)
         ·rw [if_pos c32] at H
          have c32b0 := eq_true c32
          have c32b1 : decide ((ji30) ≤ (a1.size : Int)) = true := decide_eq_true c32
          clear c32
          by_cases c33 : (a1.extract 0 (t252 : Int).toNat).size + (a1.extract ((ji30) : Int).toNat a1.size).size ≤ 9223372036854775807
          ·rw [if_pos c33] at H
           have c33b0 := eq_true c33
           have c33b1 : decide ((a1.extract 0 (t252 : Int).toNat).size + (a1.extract ((ji30) : Int).toNat a1.size).size ≤ 9223372036854775807) = true := decide_eq_true c33
           try have c33b2 : (9223372036854775807 < (a1.extract 0 (t252 : Int).toNat).size + (a1.extract ((ji30) : Int).toNat a1.size).size) = False := eq_false (Nat.not_lt.2 c33)
           simp only [Option.some.injEq, Prod.mk.injEq] at H
           obtain ⟨rfl, rfl⟩ := H
           go_enter Tryz.func44, Tryz.ntmps44
           iterate 4 ((try go_quiet (fail)); (try go_wp2_with (first | (go_at_call 63; (with_reducible refine (spec_l20Rd_pick.calls k g s0_0 s0_1 (wrap64 ((a1.size : Int) + 1)) t252 t253 w0 _ ?side1 ?side2 A3.out).mono ?_); (case side1 => exact m25_); (case side2 => exact m23_); rintro e w34 ⟨rfl, hi, hb, hk⟩; replace HK := am (KeepBut.trans m24_ hk (.inl rfl)); replace HB := am hb; replace HI0 := am hi; (try clear hb); (try clear hk); (try clear hi)) | (go_at_call 63; (with_reducible refine (spec_l20Rd_pick.calls k g s0_0 t253 256 t254 t255 w0 _ ?side1 ?side2 A4.out).mono ?_); (case side1 => exact m25_); (case side2 => exact m23_); rintro e w35 ⟨rfl, hi, hb, hk⟩; replace HK := am (KeepBut.trans m24_ hk (.inl rfl)); replace HB := am hb; replace HI0 := am hi; (try clear hb); (try clear hk); (try clear hi)) | ((with_reducible refine gate_dst (N := 14) rfl ?_); refine Kd.R_lit (Kd.int .i64) _ 3 rfl (N := 14) rfl (xs := ([32, 48, 49, 57, 59, 97, 112, t254] : List Int)) (inner := [.int .i64 32, .int .i64 48, .int .i64 49, .int .i64 57, .int .i64 59, .int .i64 97, .int .i64 112, .int .i64 t254]) (ok := fun _ => True) (okp := fun _ => True) hr_ ?hp (fun _ hk => hk) trivial (Below.refl _ _) (Nat.le_refl _) (by simp) ?_; (case hp => exact (Reps.one (show Kd.M (Kd.int .i64) _ _ _ 32 [.int .i64 32] from rfl) (Reps.one (show Kd.M (Kd.int .i64) _ _ _ 48 [.int .i64 48] from rfl) (Reps.one (show Kd.M (Kd.int .i64) _ _ _ 49 [.int .i64 49] from rfl) (Reps.one (show Kd.M (Kd.int .i64) _ _ _ 57 [.int .i64 57] from rfl) (Reps.one (show Kd.M (Kd.int .i64) _ _ _ 59 [.int .i64 59] from rfl) (Reps.one (show Kd.M (Kd.int .i64) _ _ _ 97 [.int .i64 97] from rfl) (Reps.one (show Kd.M (Kd.int .i64) _ _ _ 112 [.int .i64 112] from rfl) (Reps.one (show Kd.M (Kd.int .i64) _ _ _ t254 [.int .i64 t254] from rfl) (Reps.none _ _)))))))))); intro v257 w36 ho37 hb hg_ hnew_; clear hg_ hnew_; (first | rw [← Ny256.out] at ho37 | (simp only [Int.reduceToNat] at ho37; rw [← Ny256.out] at ho37)); have HO258 := am (Kd.R_lower ho37 (keep_size (w := w) (g := g) (row := none) m24_)); replace HK := am (KeepBut.trans m24_ (KeepBut.of_below hb g none) (.inl rfl)); replace HB := am (below_step m23_ hb); replace HI0 := am (IsS84.below m25_ hb); clear hb ho37) | (go_at_call 63; (with_reducible refine (spec_l20Rd_pick.calls k g s0_0 t255 8 t259 t260 w0 _ ?side1 ?side2 A5.out).mono ?_); (case side1 => exact m25_); (case side2 => exact m23_); rintro e w38 ⟨rfl, hi, hb, hk⟩; replace HO258 := am (Kd.R_mono (Kd.R_keep (IsS84.apart (show IsS84 w0 _ g s0_0 t255 from m25_) (rs HO258) (by decide)) hk (fun _ h => h.2)) (fun _ h => h.1)); replace HK := am (KeepBut.trans m24_ hk (.inl rfl)); replace HB := am hb; replace HI0 := am hi; (try clear hb); (try clear hk); (try clear hi); obtain ⟨Ao39, co39, eo39⟩ := Kd.R_slice HO258.out; subst eo39; have p261 : 0 ≤ (t259 : Int) := of_decide_eq_true da_; have q261 : t259 < (y256.length : Int) := of_decide_eq_true da_; obtain ⟨ad261, e261, hx261_0⟩ := Kd.at_int (Kd.R_reads' HO258.out).2.2 t259 p261 q261; cases e261; replace p261 := eq_true p261; replace q261 := eq_true q261) | ((with_reducible refine gate_dst (N := 20) rfl ?_); refine Kd.R_lit (Kd.int .u8) _ 5 rfl (N := 20) rfl (xs := ([(rd y256 t259) % 256] : List Int)) (inner := [.int .u8 ((rd y256 t259) % 256)]) (ok := fun _ => True) (okp := fun _ => True) hr_ ?hp (fun _ hk => hk) trivial (Below.refl _ _) (Nat.le_refl _) (by simp) ?_; (case hp => exact (Reps.one (show Kd.M (Kd.int .u8) _ _ _ ((rd y256 t259) % 256) [.int .u8 ((rd y256 t259) % 256)] from rfl) (Reps.none _ _))); intro v263 w40 ho41 hb hg_ hnew_; clear hg_ hnew_; (first | rw [← Ny262.out] at ho41 | (simp only [Int.reduceToNat] at ho41; rw [← Ny262.out] at ho41)); replace HO258 := am (Kd.R_below (rs HO258) hb); have HO264 := am (Kd.R_lower ho41 (keep_size (w := w) (g := g) (row := none) m24_)); replace HK := am (KeepBut.trans m24_ (KeepBut.of_below hb g none) (.inl rfl)); replace HB := am (below_step m23_ hb); replace HI0 := am (IsS84.below m25_ hb); clear hb ho41; have hcv42 := own_string (P := Tryz.prog) Tryz.underlying22 Tryz.underlying5 Tryz.underlying9 (Kd.own_of_R HO264.out)) | (go_at_call 63; (with_reducible refine (spec_l20Rd_pick.calls k g s0_0 t260 3 t265 t266 w0 _ ?side1 ?side2 A8.out).mono ?_); (case side1 => exact m25_); (case side2 => exact m23_); rintro e w43 ⟨rfl, hi, hb, hk⟩; replace HO258 := am (Kd.R_mono (Kd.R_keep (IsS84.apart (show IsS84 w0 _ g s0_0 t260 from m25_) (rs HO258) (by decide)) hk (fun _ h => h.2)) (fun _ h => h.1)); replace HO264 := am (Kd.R_mono (Kd.R_keep (IsS84.apart (show IsS84 w0 _ g s0_0 t260 from m25_) (rs HO264) (by decide)) hk (fun _ h => h.2)) (fun _ h => h.1)); replace HK := am (KeepBut.trans m24_ hk (.inl rfl)); replace HB := am hb; replace HI0 := am hi; (try clear hb); (try clear hk); (try clear hi)))))
           go_ret
           exact ⟨by first | rfl | (simp [errW_none, errW_some] <;> rfl) | (simp only [← hji30]; first | rfl | (simp [errW_none, errW_some] <;> rfl)) | (simp [*, errW_none, errW_some] <;> rfl), m25_, m23_, m24_⟩
          ·rw [if_neg c33] at H
           exact absurd H (by simp)
         ·rw [if_neg c32] at H
          exact absurd H (by simp)
        ·rw [if_neg c31] at H
         exact absurd H (by simp)
       ·rw [if_neg c29] at H
        exact absurd H (by simp)
      ·rw [if_neg c28] at H
       exact absurd H (by simp)
     ·rw [if_neg c27] at H
      have c27b0 : decide (t252 < (a1.size : Int)) = false := decide_eq_false c27
      clear c27
      simp only [Option.some.injEq, Prod.mk.injEq] at H
      obtain ⟨rfl, rfl⟩ := H
      go_enter Tryz.func44, Tryz.ntmps44
      iterate 4 ((try go_quiet (fail)); (try go_wp2_with (first | (go_at_call 63; (with_reducible refine (spec_l20Rd_pick.calls k g s0_0 s0_1 (wrap64 ((a1.size : Int) + 1)) t252 t253 w0 _ ?side1 ?side2 A3.out).mono ?_); (case side1 => exact m25_); (case side2 => exact m23_); rintro e w44 ⟨rfl, hi, hb, hk⟩; replace HK := am (KeepBut.trans m24_ hk (.inl rfl)); replace HB := am hb; replace HI0 := am hi; (try clear hb); (try clear hk); (try clear hi)) | (go_at_call 63; (with_reducible refine (spec_l20Rd_pick.calls k g s0_0 t253 256 t254 t255 w0 _ ?side1 ?side2 A4.out).mono ?_); (case side1 => exact m25_); (case side2 => exact m23_); rintro e w45 ⟨rfl, hi, hb, hk⟩; replace HK := am (KeepBut.trans m24_ hk (.inl rfl)); replace HB := am hb; replace HI0 := am hi; (try clear hb); (try clear hk); (try clear hi)) | ((with_reducible refine gate_dst (N := 14) rfl ?_); refine Kd.R_lit (Kd.int .i64) _ 3 rfl (N := 14) rfl (xs := ([32, 48, 49, 57, 59, 97, 112, t254] : List Int)) (inner := [.int .i64 32, .int .i64 48, .int .i64 49, .int .i64 57, .int .i64 59, .int .i64 97, .int .i64 112, .int .i64 t254]) (ok := fun _ => True) (okp := fun _ => True) hr_ ?hp (fun _ hk => hk) trivial (Below.refl _ _) (Nat.le_refl _) (by simp) ?_; (case hp => exact (Reps.one (show Kd.M (Kd.int .i64) _ _ _ 32 [.int .i64 32] from rfl) (Reps.one (show Kd.M (Kd.int .i64) _ _ _ 48 [.int .i64 48] from rfl) (Reps.one (show Kd.M (Kd.int .i64) _ _ _ 49 [.int .i64 49] from rfl) (Reps.one (show Kd.M (Kd.int .i64) _ _ _ 57 [.int .i64 57] from rfl) (Reps.one (show Kd.M (Kd.int .i64) _ _ _ 59 [.int .i64 59] from rfl) (Reps.one (show Kd.M (Kd.int .i64) _ _ _ 97 [.int .i64 97] from rfl) (Reps.one (show Kd.M (Kd.int .i64) _ _ _ 112 [.int .i64 112] from rfl) (Reps.one (show Kd.M (Kd.int .i64) _ _ _ t254 [.int .i64 t254] from rfl) (Reps.none _ _)))))))))); intro v257 w46 ho47 hb hg_ hnew_; clear hg_ hnew_; (first | rw [← Ny256.out] at ho47 | (simp only [Int.reduceToNat] at ho47; rw [← Ny256.out] at ho47)); have HO258 := am (Kd.R_lower ho47 (keep_size (w := w) (g := g) (row := none) m24_)); replace HK := am (KeepBut.trans m24_ (KeepBut.of_below hb g none) (.inl rfl)); replace HB := am (below_step m23_ hb); replace HI0 := am (IsS84.below m25_ hb); clear hb ho47) | (go_at_call 63; (with_reducible refine (spec_l20Rd_pick.calls k g s0_0 t255 8 t259 t260 w0 _ ?side1 ?side2 A5.out).mono ?_); (case side1 => exact m25_); (case side2 => exact m23_); rintro e w48 ⟨rfl, hi, hb, hk⟩; replace HO258 := am (Kd.R_mono (Kd.R_keep (IsS84.apart (show IsS84 w0 _ g s0_0 t255 from m25_) (rs HO258) (by decide)) hk (fun _ h => h.2)) (fun _ h => h.1)); replace HK := am (KeepBut.trans m24_ hk (.inl rfl)); replace HB := am hb; replace HI0 := am hi; (try clear hb); (try clear hk); (try clear hi); obtain ⟨Ao49, co49, eo49⟩ := Kd.R_slice HO258.out; subst eo49; have p261 : 0 ≤ (t259 : Int) := of_decide_eq_true da_; have q261 : t259 < (y256.length : Int) := of_decide_eq_true da_; obtain ⟨ad261, e261, hx261_0⟩ := Kd.at_int (Kd.R_reads' HO258.out).2.2 t259 p261 q261; cases e261; replace p261 := eq_true p261; replace q261 := eq_true q261) | ((with_reducible refine gate_dst (N := 20) rfl ?_); refine Kd.R_lit (Kd.int .u8) _ 5 rfl (N := 20) rfl (xs := ([(rd y256 t259) % 256] : List Int)) (inner := [.int .u8 ((rd y256 t259) % 256)]) (ok := fun _ => True) (okp := fun _ => True) hr_ ?hp (fun _ hk => hk) trivial (Below.refl _ _) (Nat.le_refl _) (by simp) ?_; (case hp => exact (Reps.one (show Kd.M (Kd.int .u8) _ _ _ ((rd y256 t259) % 256) [.int .u8 ((rd y256 t259) % 256)] from rfl) (Reps.none _ _))); intro v263 w50 ho51 hb hg_ hnew_; clear hg_ hnew_; (first | rw [← Ny262.out] at ho51 | (simp only [Int.reduceToNat] at ho51; rw [← Ny262.out] at ho51)); replace HO258 := am (Kd.R_below (rs HO258) hb); have HO264 := am (Kd.R_lower ho51 (keep_size (w := w) (g := g) (row := none) m24_)); replace HK := am (KeepBut.trans m24_ (KeepBut.of_below hb g none) (.inl rfl)); replace HB := am (below_step m23_ hb); replace HI0 := am (IsS84.below m25_ hb); clear hb ho51; have hcv52 := own_string (P := Tryz.prog) Tryz.underlying22 Tryz.underlying5 Tryz.underlying9 (Kd.own_of_R HO264.out)) | (go_at_call 63; (with_reducible refine (spec_l20Rd_pick.calls k g s0_0 t260 3 t265 t266 w0 _ ?side1 ?side2 A8.out).mono ?_); (case side1 => exact m25_); (case side2 => exact m23_); rintro e w53 ⟨rfl, hi, hb, hk⟩; replace HO258 := am (Kd.R_mono (Kd.R_keep (IsS84.apart (show IsS84 w0 _ g s0_0 t260 from m25_) (rs HO258) (by decide)) hk (fun _ h => h.2)) (fun _ h => h.1)); replace HO264 := am (Kd.R_mono (Kd.R_keep (IsS84.apart (show IsS84 w0 _ g s0_0 t260 from m25_) (rs HO264) (by decide)) hk (fun _ h => h.2)) (fun _ h => h.1)); replace HK := am (KeepBut.trans m24_ hk (.inl rfl)); replace HB := am hb; replace HI0 := am hi; (try clear hb); (try clear hk); (try clear hi)))))
      go_ret
      exact ⟨fi_, m25_, m23_, m24_⟩
    ·rw [if_neg c26] at H
     have c26b0 : (t265 == 1) = false := beq_eq_false_iff_ne.mpr c26
     have c26b1 : (t265 != 1) = true := bne_iff_ne.mpr c26
     by_cases c54 : t252 < (a1.size : Int)
     ·rw [if_pos c54] at H
      have c54b0 : decide (t252 < (a1.size : Int)) = true := decide_eq_true c54
      clear c54
      by_cases c55 : 0 ≤ t252
      ·rw [if_pos c55] at H
       have c55b0 := eq_true c55
       have c55b1 : decide (0 ≤ t252) = true := decide_eq_true c55
       clear c55
       by_cases c56 : t252 ≤ (a1.size : Int)
       ·rw [if_pos c56] at H
        have c56b0 := eq_true c56
        have c56b1 : decide (t252 ≤ (a1.size : Int)) = true := decide_eq_true c56
        clear c56
        by_cases c57 : (a1.extract 0 (t252 : Int).toNat).size + (strOfNums y262).size ≤ 9223372036854775807
        ·rw [if_pos c57] at H
         have c57b0 := eq_true c57
         have c57b1 : decide ((a1.extract 0 (t252 : Int).toNat).size + (strOfNums y262).size ≤ 9223372036854775807) = true := decide_eq_true c57
         try have c57b2 : (9223372036854775807 < (a1.extract 0 (t252 : Int).toNat).size + (strOfNums y262).size) = False := eq_false (Nat.not_lt.2 c57)
         obtain ⟨ji58, hji58⟩ : ∃ j_ : Int, (wrap64 (t252 + 1)) = j_ := ⟨_, rfl⟩
         replace H : (if 0 ≤ (ji58) then (if (ji58) ≤ (a1.size : Int) then (if ((a1.extract 0 (t252 : Int).toNat) ++ (strOfNums y262)).size + (a1.extract ((ji58) : Int).toNat a1.size).size ≤ 9223372036854775807 then (some (((a1.extract 0 (t252 : Int).toNat) ++ (strOfNums y262)) ++ (a1.extract ((ji58) : Int).toNat a1.size), t266)) else (none)) else (none)) else (none)) = some (r1, r2) := by first | (rw [hji58] at H; exact H) | (simp only [hji58] at H ⊢; exact H)
         (try rw [hji58] at A3)
         (try rw [hji58] at A4)
         (try rw [hji58] at A5)
         (try rw [hji58] at A8)
         have hji58w : (IntKind.i64.wrap (t252 + 1)) = ji58 := (i64_w _).trans hji58
         by_cases c59 : 0 ≤ (ji58)
         ·rw [if_pos c59] at H
          have c59b0 := eq_true c59
          have c59b1 : decide (0 ≤ (ji58)) = true := decide_eq_true c59
          clear c59
          by_cases c60 : (ji58) ≤ (a1.size : Int)
          ·rw [if_pos c60] at H
           have c60b0 := eq_true c60
           have c60b1 : decide ((ji58) ≤ (a1.size : Int)) = true := decide_eq_true c60
           clear c60
           by_cases c61 : ((a1.extract 0 (t252 : Int).toNat) ++ (strOfNums y262)).size + (a1.extract ((ji58) : Int).toNat a1.size).size ≤ 9223372036854775807
           ·rw [if_pos c61] at H
            have c61b0 := eq_true c61
            have c61b1 : decide (((a1.extract 0 (t252 : Int).toNat) ++ (strOfNums y262)).size + (a1.extract ((ji58) : Int).toNat a1.size).size ≤ 9223372036854775807) = true := decide_eq_true c61
            try have c61b2 : (9223372036854775807 < ((a1.extract 0 (t252 : Int).toNat) ++ (strOfNums y262)).size + (a1.extract ((ji58) : Int).toNat a1.size).size) = False := eq_false (Nat.not_lt.2 c61)
            try have c61b3 : (9223372036854775807 < (a1.extract 0 (t252 : Int).toNat).size + (strOfNums y262).size + (a1.extract ((ji58) : Int).toNat a1.size).size) = False := (by have z_ := c61b2; simp only [ByteArray.size_append] at z_; exact z_)
            simp only [Option.some.injEq, Prod.mk.injEq] at H
            obtain ⟨rfl, rfl⟩ := H
            go_enter Tryz.func44, Tryz.ntmps44
            iterate 4 ((try go_quiet (fail)); (try go_wp2_with (first | (go_at_call 63; (with_reducible refine (spec_l20Rd_pick.calls k g s0_0 s0_1 (wrap64 ((a1.size : Int) + 1)) t252 t253 w0 _ ?side1 ?side2 A3.out).mono ?_); (case side1 => exact m25_); (case side2 => exact m23_); rintro e w62 ⟨rfl, hi, hb, hk⟩; replace HK := am (KeepBut.trans m24_ hk (.inl rfl)); replace HB := am hb; replace HI0 := am hi; (try clear hb); (try clear hk); (try clear hi)) | (go_at_call 63; (with_reducible refine (spec_l20Rd_pick.calls k g s0_0 t253 256 t254 t255 w0 _ ?side1 ?side2 A4.out).mono ?_); (case side1 => exact m25_); (case side2 => exact m23_); rintro e w63 ⟨rfl, hi, hb, hk⟩; replace HK := am (KeepBut.trans m24_ hk (.inl rfl)); replace HB := am hb; replace HI0 := am hi; (try clear hb); (try clear hk); (try clear hi)) | ((with_reducible refine gate_dst (N := 14) rfl ?_); refine Kd.R_lit (Kd.int .i64) _ 3 rfl (N := 14) rfl (xs := ([32, 48, 49, 57, 59, 97, 112, t254] : List Int)) (inner := [.int .i64 32, .int .i64 48, .int .i64 49, .int .i64 57, .int .i64 59, .int .i64 97, .int .i64 112, .int .i64 t254]) (ok := fun _ => True) (okp := fun _ => True) hr_ ?hp (fun _ hk => hk) trivial (Below.refl _ _) (Nat.le_refl _) (by simp) ?_; (case hp => exact (Reps.one (show Kd.M (Kd.int .i64) _ _ _ 32 [.int .i64 32] from rfl) (Reps.one (show Kd.M (Kd.int .i64) _ _ _ 48 [.int .i64 48] from rfl) (Reps.one (show Kd.M (Kd.int .i64) _ _ _ 49 [.int .i64 49] from rfl) (Reps.one (show Kd.M (Kd.int .i64) _ _ _ 57 [.int .i64 57] from rfl) (Reps.one (show Kd.M (Kd.int .i64) _ _ _ 59 [.int .i64 59] from rfl) (Reps.one (show Kd.M (Kd.int .i64) _ _ _ 97 [.int .i64 97] from rfl) (Reps.one (show Kd.M (Kd.int .i64) _ _ _ 112 [.int .i64 112] from rfl) (Reps.one (show Kd.M (Kd.int .i64) _ _ _ t254 [.int .i64 t254] from rfl) (Reps.none _ _)))))))))); intro v257 w64 ho65 hb hg_ hnew_; clear hg_ hnew_; (first | rw [← Ny256.out] at ho65 | (simp only [Int.reduceToNat] at ho65; rw [← Ny256.out] at ho65)); have HO258 := am (Kd.R_lower ho65 (keep_size (w := w) (g := g) (row := none) m24_)); replace HK := am (KeepBut.trans m24_ (KeepBut.of_below hb g none) (.inl rfl)); replace HB := am (below_step m23_ hb); replace HI0 := am (IsS84.below m25_ hb); clear hb ho65) | (go_at_call 63; (with_reducible refine (spec_l20Rd_pick.calls k g s0_0 t255 8 t259 t260 w0 _ ?side1 ?side2 A5.out).mono ?_); (case side1 => exact m25_); (case side2 => exact m23_); rintro e w66 ⟨rfl, hi, hb, hk⟩; replace HO258 := am (Kd.R_mono (Kd.R_keep (IsS84.apart (show IsS84 w0 _ g s0_0 t255 from m25_) (rs HO258) (by decide)) hk (fun _ h => h.2)) (fun _ h => h.1)); replace HK := am (KeepBut.trans m24_ hk (.inl rfl)); replace HB := am hb; replace HI0 := am hi; (try clear hb); (try clear hk); (try clear hi); obtain ⟨Ao67, co67, eo67⟩ := Kd.R_slice HO258.out; subst eo67; have p261 : 0 ≤ (t259 : Int) := of_decide_eq_true da_; have q261 : t259 < (y256.length : Int) := of_decide_eq_true da_; obtain ⟨ad261, e261, hx261_0⟩ := Kd.at_int (Kd.R_reads' HO258.out).2.2 t259 p261 q261; cases e261; replace p261 := eq_true p261; replace q261 := eq_true q261) | ((with_reducible refine gate_dst (N := 20) rfl ?_); refine Kd.R_lit (Kd.int .u8) _ 5 rfl (N := 20) rfl (xs := ([(rd y256 t259) % 256] : List Int)) (inner := [.int .u8 ((rd y256 t259) % 256)]) (ok := fun _ => True) (okp := fun _ => True) hr_ ?hp (fun _ hk => hk) trivial (Below.refl _ _) (Nat.le_refl _) (by simp) ?_; (case hp => exact (Reps.one (show Kd.M (Kd.int .u8) _ _ _ ((rd y256 t259) % 256) [.int .u8 ((rd y256 t259) % 256)] from rfl) (Reps.none _ _))); intro v263 w68 ho69 hb hg_ hnew_; clear hg_ hnew_; (first | rw [← Ny262.out] at ho69 | (simp only [Int.reduceToNat] at ho69; rw [← Ny262.out] at ho69)); replace HO258 := am (Kd.R_below (rs HO258) hb); have HO264 := am (Kd.R_lower ho69 (keep_size (w := w) (g := g) (row := none) m24_)); replace HK := am (KeepBut.trans m24_ (KeepBut.of_below hb g none) (.inl rfl)); replace HB := am (below_step m23_ hb); replace HI0 := am (IsS84.below m25_ hb); clear hb ho69; have hcv70 := own_string (P := Tryz.prog) Tryz.underlying22 Tryz.underlying5 Tryz.underlying9 (Kd.own_of_R HO264.out)) | (go_at_call 63; (with_reducible refine (spec_l20Rd_pick.calls k g s0_0 t260 3 t265 t266 w0 _ ?side1 ?side2 A8.out).mono ?_); (case side1 => exact m25_); (case side2 => exact m23_); rintro e w71 ⟨rfl, hi, hb, hk⟩; replace HO258 := am (Kd.R_mono (Kd.R_keep (IsS84.apart (show IsS84 w0 _ g s0_0 t260 from m25_) (rs HO258) (by decide)) hk (fun _ h => h.2)) (fun _ h => h.1)); replace HO264 := am (Kd.R_mono (Kd.R_keep (IsS84.apart (show IsS84 w0 _ g s0_0 t260 from m25_) (rs HO264) (by decide)) hk (fun _ h => h.2)) (fun _ h => h.1)); replace HK := am (KeepBut.trans m24_ hk (.inl rfl)); replace HB := am hb; replace HI0 := am hi; (try clear hb); (try clear hk); (try clear hi)))))
            go_ret
            exact ⟨by first | rfl | (simp [errW_none, errW_some] <;> rfl) | (simp only [← hji58]; first | rfl | (simp [errW_none, errW_some] <;> rfl)) | (simp [*, errW_none, errW_some] <;> rfl), m25_, m23_, m24_⟩
           ·rw [if_neg c61] at H
            exact absurd H (by simp)
          ·rw [if_neg c60] at H
           exact absurd H (by simp)
         ·rw [if_neg c59] at H
          exact absurd H (by simp)
        ·rw [if_neg c57] at H
         exact absurd H (by simp)
       ·rw [if_neg c56] at H
        exact absurd H (by simp)
      ·rw [if_neg c55] at H
       exact absurd H (by simp)
     ·rw [if_neg c54] at H
      have c54b0 : decide (t252 < (a1.size : Int)) = false := decide_eq_false c54
      clear c54
      simp only [Option.some.injEq, Prod.mk.injEq] at H
      obtain ⟨rfl, rfl⟩ := H
      go_enter Tryz.func44, Tryz.ntmps44
      iterate 4 ((try go_quiet (fail)); (try go_wp2_with (first | (go_at_call 63; (with_reducible refine (spec_l20Rd_pick.calls k g s0_0 s0_1 (wrap64 ((a1.size : Int) + 1)) t252 t253 w0 _ ?side1 ?side2 A3.out).mono ?_); (case side1 => exact m25_); (case side2 => exact m23_); rintro e w72 ⟨rfl, hi, hb, hk⟩; replace HK := am (KeepBut.trans m24_ hk (.inl rfl)); replace HB := am hb; replace HI0 := am hi; (try clear hb); (try clear hk); (try clear hi)) | (go_at_call 63; (with_reducible refine (spec_l20Rd_pick.calls k g s0_0 t253 256 t254 t255 w0 _ ?side1 ?side2 A4.out).mono ?_); (case side1 => exact m25_); (case side2 => exact m23_); rintro e w73 ⟨rfl, hi, hb, hk⟩; replace HK := am (KeepBut.trans m24_ hk (.inl rfl)); replace HB := am hb; replace HI0 := am hi; (try clear hb); (try clear hk); (try clear hi)) | ((with_reducible refine gate_dst (N := 14) rfl ?_); refine Kd.R_lit (Kd.int .i64) _ 3 rfl (N := 14) rfl (xs := ([32, 48, 49, 57, 59, 97, 112, t254] : List Int)) (inner := [.int .i64 32, .int .i64 48, .int .i64 49, .int .i64 57, .int .i64 59, .int .i64 97, .int .i64 112, .int .i64 t254]) (ok := fun _ => True) (okp := fun _ => True) hr_ ?hp (fun _ hk => hk) trivial (Below.refl _ _) (Nat.le_refl _) (by simp) ?_; (case hp => exact (Reps.one (show Kd.M (Kd.int .i64) _ _ _ 32 [.int .i64 32] from rfl) (Reps.one (show Kd.M (Kd.int .i64) _ _ _ 48 [.int .i64 48] from rfl) (Reps.one (show Kd.M (Kd.int .i64) _ _ _ 49 [.int .i64 49] from rfl) (Reps.one (show Kd.M (Kd.int .i64) _ _ _ 57 [.int .i64 57] from rfl) (Reps.one (show Kd.M (Kd.int .i64) _ _ _ 59 [.int .i64 59] from rfl) (Reps.one (show Kd.M (Kd.int .i64) _ _ _ 97 [.int .i64 97] from rfl) (Reps.one (show Kd.M (Kd.int .i64) _ _ _ 112 [.int .i64 112] from rfl) (Reps.one (show Kd.M (Kd.int .i64) _ _ _ t254 [.int .i64 t254] from rfl) (Reps.none _ _)))))))))); intro v257 w74 ho75 hb hg_ hnew_; clear hg_ hnew_; (first | rw [← Ny256.out] at ho75 | (simp only [Int.reduceToNat] at ho75; rw [← Ny256.out] at ho75)); have HO258 := am (Kd.R_lower ho75 (keep_size (w := w) (g := g) (row := none) m24_)); replace HK := am (KeepBut.trans m24_ (KeepBut.of_below hb g none) (.inl rfl)); replace HB := am (below_step m23_ hb); replace HI0 := am (IsS84.below m25_ hb); clear hb ho75) | (go_at_call 63; (with_reducible refine (spec_l20Rd_pick.calls k g s0_0 t255 8 t259 t260 w0 _ ?side1 ?side2 A5.out).mono ?_); (case side1 => exact m25_); (case side2 => exact m23_); rintro e w76 ⟨rfl, hi, hb, hk⟩; replace HO258 := am (Kd.R_mono (Kd.R_keep (IsS84.apart (show IsS84 w0 _ g s0_0 t255 from m25_) (rs HO258) (by decide)) hk (fun _ h => h.2)) (fun _ h => h.1)); replace HK := am (KeepBut.trans m24_ hk (.inl rfl)); replace HB := am hb; replace HI0 := am hi; (try clear hb); (try clear hk); (try clear hi); obtain ⟨Ao77, co77, eo77⟩ := Kd.R_slice HO258.out; subst eo77; have p261 : 0 ≤ (t259 : Int) := of_decide_eq_true da_; have q261 : t259 < (y256.length : Int) := of_decide_eq_true da_; obtain ⟨ad261, e261, hx261_0⟩ := Kd.at_int (Kd.R_reads' HO258.out).2.2 t259 p261 q261; cases e261; replace p261 := eq_true p261; replace q261 := eq_true q261) | ((with_reducible refine gate_dst (N := 20) rfl ?_); refine Kd.R_lit (Kd.int .u8) _ 5 rfl (N := 20) rfl (xs := ([(rd y256 t259) % 256] : List Int)) (inner := [.int .u8 ((rd y256 t259) % 256)]) (ok := fun _ => True) (okp := fun _ => True) hr_ ?hp (fun _ hk => hk) trivial (Below.refl _ _) (Nat.le_refl _) (by simp) ?_; (case hp => exact (Reps.one (show Kd.M (Kd.int .u8) _ _ _ ((rd y256 t259) % 256) [.int .u8 ((rd y256 t259) % 256)] from rfl) (Reps.none _ _))); intro v263 w78 ho79 hb hg_ hnew_; clear hg_ hnew_; (first | rw [← Ny262.out] at ho79 | (simp only [Int.reduceToNat] at ho79; rw [← Ny262.out] at ho79)); replace HO258 := am (Kd.R_below (rs HO258) hb); have HO264 := am (Kd.R_lower ho79 (keep_size (w := w) (g := g) (row := none) m24_)); replace HK := am (KeepBut.trans m24_ (KeepBut.of_below hb g none) (.inl rfl)); replace HB := am (below_step m23_ hb); replace HI0 := am (IsS84.below m25_ hb); clear hb ho79; have hcv80 := own_string (P := Tryz.prog) Tryz.underlying22 Tryz.underlying5 Tryz.underlying9 (Kd.own_of_R HO264.out)) | (go_at_call 63; (with_reducible refine (spec_l20Rd_pick.calls k g s0_0 t260 3 t265 t266 w0 _ ?side1 ?side2 A8.out).mono ?_); (case side1 => exact m25_); (case side2 => exact m23_); rintro e w81 ⟨rfl, hi, hb, hk⟩; replace HO258 := am (Kd.R_mono (Kd.R_keep (IsS84.apart (show IsS84 w0 _ g s0_0 t260 from m25_) (rs HO258) (by decide)) hk (fun _ h => h.2)) (fun _ h => h.1)); replace HO264 := am (Kd.R_mono (Kd.R_keep (IsS84.apart (show IsS84 w0 _ g s0_0 t260 from m25_) (rs HO264) (by decide)) hk (fun _ h => h.2)) (fun _ h => h.1)); replace HK := am (KeepBut.trans m24_ hk (.inl rfl)); replace HB := am hb; replace HI0 := am hi; (try clear hb); (try clear hk); (try clear hi)))))
      go_ret
      exact ⟨fi_, m25_, m23_, m24_⟩
  ·rw [if_neg c7] at H
   exact absurd H (by simp)
 ·rw [if_neg c6] at H
  exact absurd H (by simp)
def spec_DrawRwrLine.f (k : Nat) (l0 : List Int) : Option ((List (S34)) × ByteArray) := (spec_l20Open.f l0).bind fun bt268 => ((spec_l20Table.f k bt268.1 bt268.2 12).bind fun bt271 => ((spec_l20Line.f k bt268.1 bt271.2).bind fun bt276 => ((spec_l20Rd_odd.f k bt268.1 bt276.2 9).bind fun bt278 => (if bt278.1 = true then ((spec_l20Bent.f k bt268.1 bt278.2 bt276.1).bind fun bt280 => (some (bt271.1, bt280.1))) else (some (bt271.1, bt276.1))))))
theorem spec_DrawRwrLine.mono : ∀ a0 k, LeO (spec_DrawRwrLine.f k a0) (spec_DrawRwrLine.f (k + 1) a0) := by
 intro a0 k
 unfold spec_DrawRwrLine.f
 repeat' first | (with_reducible first | exact spec_l20Bent.mono _ _ _ _ | exact spec_l20Line.mono _ _ _ | exact spec_l20Rd_odd.mono _ _ _ _ | exact spec_l20Table.mono _ _ _ _ | exact LeO.refl _ | exact LeO.none _ | refine LeO.ite ?_ ?_ | refine LeO.bind ?_ (fun _ => ?_)) | exact spec_l20Bent.mono _ _ _ _ | exact spec_l20Line.mono _ _ _ | exact spec_l20Rd_odd.mono _ _ _ _ | exact spec_l20Table.mono _ _ _ _ | exact LeO.none _ | refine LeO.ite ?_ ?_ | refine LeO.bind ?_ (fun _ => ?_)
set_option maxHeartbeats 8000000 in
set_option maxRecDepth 100000 in
theorem spec_DrawRwrLine.calls (k : Nat) (A0 : Option Addr) (c0 : Nat) (l0 : List Int) (r1 : List (S34)) (r2 : ByteArray) (w : World) (hr0 : Kd.C (Kd.int .u8) w A0 l0.length l0) (hc0 : l0.length ≤ c0) (h : spec_DrawRwrLine.f k l0 = some (r1, r2)) :
  Calls Tryz.prog 12 #[.slice A0 l0.length c0] w fun e w' => ∃ v0_ : Value, e = .returned (.tuple #[.agg #[v0_], .string r2]) ∧ Kd.R k34 34 w' w.heap.size (fun _ => True) v0_ r1 ∧ Below w.heap.size w w' := by
 have hu25 := Tryz.underlying25
 have HR0 := am hr0
 have HC0 := am hc0
 clear hr0 hc0
 have HB := am (Below.refl w.heap.size w)
 have H : ((spec_l20Open.f l0).bind fun bt268 => ((spec_l20Table.f k bt268.1 bt268.2 12).bind fun bt271 => ((spec_l20Line.f k bt268.1 bt271.2).bind fun bt276 => ((spec_l20Rd_odd.f k bt268.1 bt276.2 9).bind fun bt278 => (if bt278.1 = true then ((spec_l20Bent.f k bt268.1 bt278.2 bt276.1).bind fun bt280 => (some (bt271.1, bt280.1))) else (some (bt271.1, bt276.1))))))) = some (r1, r2) := h
 clear h
 obtain ⟨⟨t268, t269⟩, A2, H⟩ := bse H
 try dsimp only at H
 obtain ⟨⟨t271, t274⟩, A3, H⟩ := bse H
 try dsimp only at H
 obtain ⟨⟨t276, t277⟩, A4, H⟩ := bse H
 try dsimp only at H
 obtain ⟨⟨t278, t279⟩, A5, H⟩ := bse H
 try dsimp only at H
 by_cases c6 : t278 = true
 ·subst c6
  have H1 : ((spec_l20Bent.f k t268 t279 t276).bind fun bt280 => (some (t271, bt280.1))) = some (r1, r2) := by rw [if_pos rfl] at H; exact H
  clear H
  have H := H1
  clear H1
  obtain ⟨⟨t280, t281⟩, A7, H⟩ := bse H
  try dsimp only at H
  simp only [Option.some.injEq, Prod.mk.injEq] at H
  obtain ⟨rfl, rfl⟩ := H
  go_enter Tryz.func12, Tryz.ntmps12
  go_wp2_with (first | ((with_reducible refine gate_dst (N := 2) rfl ?_); refine box_event rfl (N := 2) rfl (cs := #[.slice none 0 0]) (t := 25) hr_ ?_; intro gb267 hg w8 hbox hb; have BK267 := am hbox; have GW267 := gwE HB hg; have GE267 := gwE HB hg; replace HB := hbS HB hb; clear hb hbox hg) | ((with_reducible refine gate_callee (f := 40) rfl ?_); refine gL (some 8) Tryz.func40 #[.slice A0 l0.length c0] ?_; (with_reducible refine (spec_l20Open.calls _ _ l0 t268 t269 w _ ?side1 ?side2 ?side3 A2.out).mono ?_); (case side1 => exact m2_); (case side2 => exact HR0.out); (case side3 => exact HC0.out); rintro e w9 ⟨g270, rfl, hi, hb, hb2⟩; refine ⟨_, rfl, ?_⟩; replace HB := am hb; have HI270 := am hi; have NB270_267 := am (IsS84.ne_blk hi (blk_below (g := gb267) (o := .cells #[.slice none 0 0] 25 (0, 0)) (bk BK267) hb2) (by decide)); have NB267_270 := am (Ne.symm (IsS84.ne_blk hi (blk_below (g := gb267) (o := .cells #[.slice none 0 0] 25 (0, 0)) (bk BK267) hb2) (by decide))); replace BK267 := am (blk_below (g := gb267) (o := .cells #[.slice none 0 0] 25 (0, 0)) (bk BK267) hb2); (try clear hb); (try clear hb2); (try clear hi)) | ((with_reducible refine gate_callee (f := 41) rfl ?_); refine gL (some 10) Tryz.func41 #[.pointer (some ⟨g270, 0, none⟩), .int .i64 12] ?_; (with_reducible refine (spec_l20Table.calls k g270 t268 t269 12 t271 t274 w _ ?side1 ?side2 A3.out).mono ?_); (case side1 => exact m6_); (case side2 => exact m7_); rintro e w10 ⟨v272, rfl, ho0, hi, hb, hk⟩; refine ⟨_, rfl, ?_⟩; replace BK267 := am (KeepBut.blk hk (g' := gb267) (o := .cells #[.slice none 0 0] 25 (0, 0)) (bk BK267) NB267_270.out (by simp)); have HO273 := am (Kd.R_lower ho0 (below_size m7_)); replace HB := am hb; replace HI270 := am hi; (try clear hb); (try clear hk); (try clear hi); (try clear ho0)) | ((with_reducible refine gate_dst (N := 5) rfl ?_); refine box_event rfl (N := 5) rfl (cs := #[.slice none 0 0]) (t := 25) hr_ ?_; intro gb275 hg w11 hbox hb; replace HO273 := am (Kd.R_below (rs HO273) hb); have BK275 := am hbox; have GW275 := am ((by rw [hg]; exact (below_size m7_) : w.heap.size ≤ gb275)); have GE275 := am ((by rw [hg]; exact (below_size m7_) : w.heap.size ≤ gb275)); replace HB := am (below_step m7_ hb); have NB267_275 := neL BK267 hg; have NB275_267 := neG BK267 hg; replace BK267 := bkB BK267 hb; have NB270_275 := am ((by rw [hg]; exact Nat.ne_of_lt (IsS84.lt (show IsS84 w _ g270 t268 t274 from m6_)) : g270 ≠ gb275)); have NB275_270 := am ((by rw [hg]; exact Nat.ne_of_gt (IsS84.lt (show IsS84 w _ g270 t268 t274 from m6_)) : gb275 ≠ g270)); replace HI270 := am (IsS84.below m6_ hb); clear hb hbox hg; obtain ⟨Ao12, co12, eo12⟩ := Kd.R_slice HO273.out; subst eo12; have := NB275_267.out; have := NB267_275.out; have := NB275_270.out; have := NB270_275.out; have := bcell BK275 0; have := bfz BK275 0) | ((with_reducible refine gate_callee (f := 42) rfl ?_); refine gL (some 12) Tryz.func42 #[.pointer (some ⟨g270, 0, none⟩)] ?_; (with_reducible refine (spec_l20Line.calls k g270 t268 t274 t276 t277 w _ ?side1 ?side2 A4.out).mono ?_); (case side1 => exact m6_); (case side2 => exact m7_); rintro e w16 ⟨rfl, hi, hb, hk⟩; refine ⟨_, rfl, ?_⟩; replace BK267 := am (KeepBut.blk hk (g' := gb267) (o := .cells #[.slice none 0 0] 25 (0, 0)) (by (with_reducible repeat refine bu ?_); refine blk_far ?_ NB267_275.out _; (with_reducible repeat refine bu ?_); exact BK267.out) NB267_270.out (by simp)); replace HO273 := am (Kd.R_mono (Kd.R_keep (IsS84.apart (show IsS84 w _ g270 t268 t274 from m6_) (by (with_reducible repeat apply ru); exact (Kd.R_mono (Kd.R_far (p := ⟨gb275, 0, none⟩) (Kd.R_types HO273.out BK275.out (by decide)) (fun _ hk => hk.2) (.slice Ao12 t271.length co12)) (fun _ h_ => h_.1))) (by decide)) hk (fun _ h => h.2)) (fun _ h => h.1)); replace BK275 := am (KeepBut.blk hk (g' := gb275) (o := .cells #[.slice Ao12 t271.length co12] 25 (0, 0)) (by (with_reducible repeat refine bu ?_); refine blk_put (cs := #[.slice none 0 0]) ?_ 0 _ rfl; (with_reducible repeat refine bu ?_); exact BK275.out) NB275_270.out (by simp)); replace HB := am hb; replace HI270 := am hi; (try clear hb); (try clear hk); (try clear hi)) | ((with_reducible refine gate_callee (f := 43) rfl ?_); refine gL (some 14) Tryz.func43 #[.pointer (some ⟨g270, 0, none⟩), .int .i64 9] ?_; (with_reducible refine (spec_l20Rd_odd.calls k g270 t268 t277 9 true t279 w _ ?side1 ?side2 A5.out).mono ?_); (case side1 => exact m6_); (case side2 => exact m7_); rintro e w17 ⟨rfl, hi, hb, hk⟩; refine ⟨_, rfl, ?_⟩; replace BK267 := am (KeepBut.blk hk (g' := gb267) (o := .cells #[.slice none 0 0] 25 (0, 0)) (bk BK267) NB267_270.out (by simp)); replace HO273 := am (Kd.R_mono (Kd.R_keep (IsS84.apart (show IsS84 w _ g270 t268 t277 from m6_) (rs HO273) (by decide)) hk (fun _ h => h.2)) (fun _ h => h.1)); replace BK275 := am (KeepBut.blk hk (g' := gb275) (o := .cells #[.slice Ao12 t271.length co12] 25 (0, 0)) (bk BK275) NB275_270.out (by simp)); replace HB := am hb; replace HI270 := am hi; (try clear hb); (try clear hk); (try clear hi)) | ((with_reducible refine gate_callee (f := 44) rfl ?_); refine gL (some 17) Tryz.func44 #[.pointer (some ⟨g270, 0, none⟩), .string t276] ?_; (with_reducible refine (spec_l20Bent.calls k g270 t268 t279 t276 t280 t281 w _ ?side1 ?side2 A7.out).mono ?_); (case side1 => exact m6_); (case side2 => exact m7_); rintro e w18 ⟨rfl, hi, hb, hk⟩; refine ⟨_, rfl, ?_⟩; replace BK267 := am (KeepBut.blk hk (g' := gb267) (o := .cells #[.slice none 0 0] 25 (0, 0)) (bk BK267) NB267_270.out (by simp)); replace HO273 := am (Kd.R_mono (Kd.R_keep (IsS84.apart (show IsS84 w _ g270 t268 t279 from m6_) (rs HO273) (by decide)) hk (fun _ h => h.2)) (fun _ h => h.1)); replace BK275 := am (KeepBut.blk hk (g' := gb275) (o := .cells #[.slice Ao12 t271.length co12] 25 (0, 0)) (bk BK275) NB275_270.out (by simp)); replace HB := am hb; replace HI270 := am hi; (try clear hb); (try clear hk); (try clear hi); have := bcell BK275 0; have := bfz BK275 0; have := NB267_270.out; have := NB270_267.out; have := bcell BK267 0; have := bfz BK267 0))
  refine bodyPost_ret (results_ct rfl _ _ gb267 25 #[.slice Ao12 t271.length co12] (0, 0) _ rfl (by (with_reducible repeat refine bu ?_); refine blk_put (cs := #[.slice none 0 0]) ?_ 0 _ rfl; (with_reducible repeat refine bu ?_); exact BK267.out) Tryz.underlying25 rfl (by kernel_rfl)) rfl ?_
  exact ⟨_, fi_, by (with_reducible repeat apply ru); exact Kd.R_mono (Kd.R_far (p := ⟨gb267, 0, none⟩) (Kd.R_types HO273.out BK267.out (by decide)) (fun _ hk => hk.2) (.slice Ao12 t271.length co12)) (fun _ hk => trivial), m7_⟩
 ·replace c6 := Bool.eq_false_iff.mpr c6
  subst c6
  have H1 : (some (t271, t276)) = some (r1, r2) := by rw [if_neg (show ¬ (false = true) by decide)] at H; exact H
  clear H
  have H := H1
  clear H1
  simp only [Option.some.injEq, Prod.mk.injEq] at H
  obtain ⟨rfl, rfl⟩ := H
  go_enter Tryz.func12, Tryz.ntmps12
  go_wp2_with (first | ((with_reducible refine gate_dst (N := 2) rfl ?_); refine box_event rfl (N := 2) rfl (cs := #[.slice none 0 0]) (t := 25) hr_ ?_; intro gb267 hg w22 hbox hb; have BK267 := am hbox; have GW267 := gwE HB hg; have GE267 := gwE HB hg; replace HB := hbS HB hb; clear hb hbox hg) | ((with_reducible refine gate_callee (f := 40) rfl ?_); refine gL (some 8) Tryz.func40 #[.slice A0 l0.length c0] ?_; (with_reducible refine (spec_l20Open.calls _ _ l0 t268 t269 w _ ?side1 ?side2 ?side3 A2.out).mono ?_); (case side1 => exact m2_); (case side2 => exact HR0.out); (case side3 => exact HC0.out); rintro e w23 ⟨g270, rfl, hi, hb, hb2⟩; refine ⟨_, rfl, ?_⟩; replace HB := am hb; have HI270 := am hi; have NB270_267 := am (IsS84.ne_blk hi (blk_below (g := gb267) (o := .cells #[.slice none 0 0] 25 (0, 0)) (bk BK267) hb2) (by decide)); have NB267_270 := am (Ne.symm (IsS84.ne_blk hi (blk_below (g := gb267) (o := .cells #[.slice none 0 0] 25 (0, 0)) (bk BK267) hb2) (by decide))); replace BK267 := am (blk_below (g := gb267) (o := .cells #[.slice none 0 0] 25 (0, 0)) (bk BK267) hb2); (try clear hb); (try clear hb2); (try clear hi)) | ((with_reducible refine gate_callee (f := 41) rfl ?_); refine gL (some 10) Tryz.func41 #[.pointer (some ⟨g270, 0, none⟩), .int .i64 12] ?_; (with_reducible refine (spec_l20Table.calls k g270 t268 t269 12 t271 t274 w _ ?side1 ?side2 A3.out).mono ?_); (case side1 => exact m6_); (case side2 => exact m7_); rintro e w24 ⟨v272, rfl, ho0, hi, hb, hk⟩; refine ⟨_, rfl, ?_⟩; replace BK267 := am (KeepBut.blk hk (g' := gb267) (o := .cells #[.slice none 0 0] 25 (0, 0)) (bk BK267) NB267_270.out (by simp)); have HO273 := am (Kd.R_lower ho0 (below_size m7_)); replace HB := am hb; replace HI270 := am hi; (try clear hb); (try clear hk); (try clear hi); (try clear ho0)) | ((with_reducible refine gate_dst (N := 5) rfl ?_); refine box_event rfl (N := 5) rfl (cs := #[.slice none 0 0]) (t := 25) hr_ ?_; intro gb275 hg w25 hbox hb; replace HO273 := am (Kd.R_below (rs HO273) hb); have BK275 := am hbox; have GW275 := am ((by rw [hg]; exact (below_size m7_) : w.heap.size ≤ gb275)); have GE275 := am ((by rw [hg]; exact (below_size m7_) : w.heap.size ≤ gb275)); replace HB := am (below_step m7_ hb); have NB267_275 := neL BK267 hg; have NB275_267 := neG BK267 hg; replace BK267 := bkB BK267 hb; have NB270_275 := am ((by rw [hg]; exact Nat.ne_of_lt (IsS84.lt (show IsS84 w _ g270 t268 t274 from m6_)) : g270 ≠ gb275)); have NB275_270 := am ((by rw [hg]; exact Nat.ne_of_gt (IsS84.lt (show IsS84 w _ g270 t268 t274 from m6_)) : gb275 ≠ g270)); replace HI270 := am (IsS84.below m6_ hb); clear hb hbox hg; obtain ⟨Ao26, co26, eo26⟩ := Kd.R_slice HO273.out; subst eo26; have := NB275_267.out; have := NB267_275.out; have := NB275_270.out; have := NB270_275.out; have := bcell BK275 0; have := bfz BK275 0) | ((with_reducible refine gate_callee (f := 42) rfl ?_); refine gL (some 12) Tryz.func42 #[.pointer (some ⟨g270, 0, none⟩)] ?_; (with_reducible refine (spec_l20Line.calls k g270 t268 t274 t276 t277 w _ ?side1 ?side2 A4.out).mono ?_); (case side1 => exact m6_); (case side2 => exact m7_); rintro e w30 ⟨rfl, hi, hb, hk⟩; refine ⟨_, rfl, ?_⟩; replace BK267 := am (KeepBut.blk hk (g' := gb267) (o := .cells #[.slice none 0 0] 25 (0, 0)) (by (with_reducible repeat refine bu ?_); refine blk_far ?_ NB267_275.out _; (with_reducible repeat refine bu ?_); exact BK267.out) NB267_270.out (by simp)); replace HO273 := am (Kd.R_mono (Kd.R_keep (IsS84.apart (show IsS84 w _ g270 t268 t274 from m6_) (by (with_reducible repeat apply ru); exact (Kd.R_mono (Kd.R_far (p := ⟨gb275, 0, none⟩) (Kd.R_types HO273.out BK275.out (by decide)) (fun _ hk => hk.2) (.slice Ao26 t271.length co26)) (fun _ h_ => h_.1))) (by decide)) hk (fun _ h => h.2)) (fun _ h => h.1)); replace BK275 := am (KeepBut.blk hk (g' := gb275) (o := .cells #[.slice Ao26 t271.length co26] 25 (0, 0)) (by (with_reducible repeat refine bu ?_); refine blk_put (cs := #[.slice none 0 0]) ?_ 0 _ rfl; (with_reducible repeat refine bu ?_); exact BK275.out) NB275_270.out (by simp)); replace HB := am hb; replace HI270 := am hi; (try clear hb); (try clear hk); (try clear hi)) | ((with_reducible refine gate_callee (f := 43) rfl ?_); refine gL (some 14) Tryz.func43 #[.pointer (some ⟨g270, 0, none⟩), .int .i64 9] ?_; (with_reducible refine (spec_l20Rd_odd.calls k g270 t268 t277 9 false t279 w _ ?side1 ?side2 A5.out).mono ?_); (case side1 => exact m6_); (case side2 => exact m7_); rintro e w31 ⟨rfl, hi, hb, hk⟩; refine ⟨_, rfl, ?_⟩; replace BK267 := am (KeepBut.blk hk (g' := gb267) (o := .cells #[.slice none 0 0] 25 (0, 0)) (bk BK267) NB267_270.out (by simp)); replace HO273 := am (Kd.R_mono (Kd.R_keep (IsS84.apart (show IsS84 w _ g270 t268 t277 from m6_) (rs HO273) (by decide)) hk (fun _ h => h.2)) (fun _ h => h.1)); replace BK275 := am (KeepBut.blk hk (g' := gb275) (o := .cells #[.slice Ao26 t271.length co26] 25 (0, 0)) (bk BK275) NB275_270.out (by simp)); replace HB := am hb; replace HI270 := am hi; (try clear hb); (try clear hk); (try clear hi); have := bcell BK275 0; have := bfz BK275 0; have := NB267_270.out; have := NB270_267.out; have := bcell BK267 0; have := bfz BK267 0))
  refine bodyPost_ret (results_ct rfl _ _ gb267 25 #[.slice Ao26 t271.length co26] (0, 0) _ rfl (by (with_reducible repeat refine bu ?_); refine blk_put (cs := #[.slice none 0 0]) ?_ 0 _ rfl; (with_reducible repeat refine bu ?_); exact BK267.out) Tryz.underlying25 rfl (by kernel_rfl)) rfl ?_
  exact ⟨_, fi_, by (with_reducible repeat apply ru); exact Kd.R_mono (Kd.R_far (p := ⟨gb267, 0, none⟩) (Kd.R_types HO273.out BK267.out (by decide)) (fun _ hk => hk.2) (.slice Ao26 t271.length co26)) (fun _ hk => trivial), m7_⟩
end
theorem bent_tail (b y : ByteArray) (ys : y.size = 1) (k' : Nat) (hk : k' ≤ b.size) (hb : b.size ≤ 100000) (v4 s4 B : Int) (h5 : At B s4) :
    Ans (fun (_ : Nat) => (if v4 = 0 then (if 0 ≤ (k' : Int) then (if (k' : Int) ≤ (b.size : Int) then (if (b.extract 0 ((k' : Int)).toNat).size + y.size ≤ 9223372036854775807 then (if ((b.extract 0 ((k' : Int)).toNat) ++ y).size + (b.extract ((k' : Int)).toNat b.size).size ≤ 9223372036854775807 then (some (((b.extract 0 ((k' : Int)).toNat) ++ y) ++ (b.extract ((k' : Int)).toNat b.size), s4)) else (none)) else (none)) else (none)) else (none)) else (if v4 = 1 then (if (k' : Int) < (b.size : Int) then (if 0 ≤ (k' : Int) then (if (k' : Int) ≤ (b.size : Int) then (if 0 ≤ (wrap64 ((k' : Int) + 1)) then (if (wrap64 ((k' : Int) + 1)) ≤ (b.size : Int) then (if (b.extract 0 ((k' : Int)).toNat).size + (b.extract ((wrap64 ((k' : Int) + 1)) : Int).toNat b.size).size ≤ 9223372036854775807 then (some ((b.extract 0 ((k' : Int)).toNat) ++ (b.extract ((wrap64 ((k' : Int) + 1)) : Int).toNat b.size), s4)) else (none)) else (none)) else (none)) else (none)) else (none)) else (some (b, s4))) else (if (k' : Int) < (b.size : Int) then (if 0 ≤ (k' : Int) then (if (k' : Int) ≤ (b.size : Int) then (if (b.extract 0 ((k' : Int)).toNat).size + y.size ≤ 9223372036854775807 then (if 0 ≤ (wrap64 ((k' : Int) + 1)) then (if (wrap64 ((k' : Int) + 1)) ≤ (b.size : Int) then (if ((b.extract 0 ((k' : Int)).toNat) ++ y).size + (b.extract ((wrap64 ((k' : Int) + 1)) : Int).toNat b.size).size ≤ 9223372036854775807 then (some (((b.extract 0 ((k' : Int)).toNat) ++ y) ++ (b.extract ((wrap64 ((k' : Int) + 1)) : Int).toNat b.size), s4)) else (none)) else (none)) else (none)) else (none)) else (none)) else (none)) else (some (b, s4)))))) (fun r => At B r.2 ∧ r.1.size ≤ b.size + 1) := by
  have z1 : (b.extract 0 ((k' : Int)).toNat).size = k' := by rw [ByteArray.size_extract]; simp only [Int.toNat_natCast]; omega
  have z2 : (b.extract ((k' : Int)).toNat b.size).size = b.size - k' := by rw [ByteArray.size_extract]; simp only [Int.toNat_natCast]; omega
  have ek : wrap64 ((k' : Int) + 1) = ((k' + 1 : Nat) : Int) := w64 _ (by omega)
  have z3 : (b.extract (((k' + 1 : Nat) : Int)).toNat b.size).size = b.size - (k' + 1) := by rw [ByteArray.size_extract]; simp only [Int.toNat_natCast]; omega
  rw [ek]
  refine Ans.ite (fun c => ?_) (fun c => ?_)
  · refine Ans.pos (by omega) (Ans.pos (by omega) (Ans.pos (by rw [z1, ys]; omega) (Ans.pos (by rw [ByteArray.size_append, z1, z2, ys]; omega) (Ans.pure ⟨h5, ?_⟩))))
    simp only [ByteArray.size_append, z1, z2, ys]; omega
  · refine Ans.ite (fun c1 => ?_) (fun c1 => ?_)
    · refine Ans.ite (fun c2 => ?_) (fun c2 => Ans.pure ⟨h5, by dsimp only; omega⟩)
      refine Ans.pos (by omega) (Ans.pos (by omega) (Ans.pos (by omega) (Ans.pos (by omega) (Ans.pos (by rw [z1, z3]; omega) (Ans.pure ⟨h5, ?_⟩)))))
      simp only [ByteArray.size_append, z1, z3]; omega
    · refine Ans.ite (fun c2 => ?_) (fun c2 => Ans.pure ⟨h5, by dsimp only; omega⟩)
      refine Ans.pos (by omega) (Ans.pos (by omega) (Ans.pos (by rw [z1, ys]; omega) (Ans.pos (by omega) (Ans.pos (by omega) (Ans.pos (by rw [ByteArray.size_append, z1, z3, ys]; omega) (Ans.pure ⟨h5, ?_⟩))))))
      simp only [ByteArray.size_append, z1, z3, ys]; omega
theorem bent_a {l : List Int} (hl : Bys l) {s B : Int} (hs : At B s) (hB : B < 400000) (b : ByteArray) (hb : b.size ≤ 100000) :
    Ans (fun k => spec_l20Bent.f k l s b) (fun r => At (B + 4) r.2 ∧ r.1.size ≤ b.size + 1) := by
  unfold spec_l20Bent.f
  have ew : wrap64 ((b.size : Int) + 1) = (b.size : Int) + 1 := w64 _ (by omega)
  rw [ew]
  refine Ans.bind (pick_a hl hs (by omega) _) ?_
  rintro ⟨k, s1⟩ ⟨h1, p1⟩
  refine Ans.bind (pick_a hl h1 (by omega) 256) ?_
  rintro ⟨v2, s2⟩ ⟨h2, p2⟩
  dsimp only at *
  simp only [Option.bind_some]
  refine Ans.bind (pick_a hl h2 (by omega) 8) ?_
  rintro ⟨v3, s3⟩ ⟨h3, p3⟩
  dsimp only at *
  refine Ans.pos p3.1 (Ans.pos (by simp; omega) ?_)
  refine Ans.bind (pick_a hl h3 (by omega) 3) ?_
  rintro ⟨v4, s4⟩ ⟨h4, p4⟩
  dsimp only at *
  have hk0 : 0 ≤ k ∧ k ≤ (b.size : Int) := by clear p2 p3 p4 h1 h2 h3 h4; omega
  have h5 : At (B + 4) s4 := at_le h4 (by omega)
  clear p1 p2 p3 p4 h1 h2 h3 h4 hs hl ew
  obtain ⟨k', rfl⟩ : ∃ k' : Nat, k = k' := ⟨k.toNat, by omega⟩
  generalize hy : strOfNums [rd [32, 48, 49, 57, 59, 97, 112, v2] v3 % 256] = y
  have ys : y.size = 1 := by rw [← hy, strOfNums_size]; rfl
  clear hy
  exact bent_tail b y ys k' (by omega) hb v4 s4 _ h5
theorem at0 : At 0 0 := ⟨by omega, by omega⟩
theorem lportW_size (a p : Int) : (lportW a p).size ≤ 12 := by
  have hz := etext_size a p
  have h5 : ((⟨#[112, 111, 114, 116, 32]⟩ : ByteArray)).size = 5 := rfl
  unfold lportW
  split
  · rw [ByteArray.size_append]; omega
  · exact Nat.zero_le _
theorem rdOf_size {l : List ByteArray} {m : Nat} (h : ∀ x ∈ l, x.size ≤ m) (i : Int) : (rdOf ByteArray.empty l i).size ≤ m := by
  unfold rdOf
  by_cases hi : i.toNat < l.length
  · have e : l.getD i.toNat ByteArray.empty = l[i.toNat] := by simp [List.getD, hi]
    rw [e]; exact h _ (List.getElem_mem hi)
  · have e : l.getD i.toNat ByteArray.empty = ByteArray.empty := by simp [List.getD, Nat.not_lt.mp hi]
    rw [e]; exact Nat.zero_le _
theorem line_a {l : List Int} (hl : Bys l) {s B : Int} (hs : At B s) (hB : B < 400000) :
    Ans (fun k => spec_l20Line.f k l s) (fun r => At (B + 4) r.2 ∧ r.1.size ≤ 20) := by
  unfold spec_l20Line.f
  refine Ans.bind (pick_a hl hs (by omega) 3) ?_
  rintro ⟨v1, s1⟩ ⟨h1, p1⟩
  dsimp only at *
  refine Ans.ite (fun _ => ?_) (fun _ => Ans.ite (fun _ => ?_) (fun _ => ?_))
  · refine Ans.bind (in_a hl h1 (by omega)) ?_
    rintro ⟨a, p, s2⟩ ⟨h2, _⟩
    dsimp only at *
    refine Ans.bind (specLinPort_a a p) ?_
    rintro _ rfl
    have := lportW_size a p
    exact Ans.pure ⟨at_le h2 (by omega), by dsimp only; omega⟩
  · refine Ans.bsome ?_
    refine Ans.bind (pick_a hl h1 (by omega) 10) ?_
    rintro ⟨v3, s3⟩ ⟨h3, p3⟩
    dsimp only at *
    refine Ans.pos p3.1 (Ans.pos (by simp; omega) (Ans.pure ⟨at_le h3 (by omega), ?_⟩))
    exact rdOf_size (by decide) _
  · refine Ans.bsome ?_
    refine Ans.bind (pick_a hl h1 (by omega) 4) ?_
    rintro ⟨v3, s3⟩ ⟨h3, p3⟩
    dsimp only at *
    refine Ans.pos p3.1 (Ans.pos (by simp; omega) (Ans.pure ⟨at_le h3 (by omega), ?_⟩))
    exact rdOf_size (by decide) _
theorem drawRwrLine_a {l : List Int} (hl : Bys l) : Ans (fun k => spec_DrawRwrLine.f k l) (fun r => r.1.length ≤ 20 ∧ r.2.size ≤ 30) := by
  unfold spec_DrawRwrLine.f
  obtain ⟨l', e0, hl'⟩ := open_f l hl
  rw [e0]
  refine Ans.bsome ?_
  refine Ans.bind (table_a hl' at0 (by omega) 12) ?_
  rintro ⟨t, s1⟩ ⟨h1, ht⟩
  dsimp only at *
  refine Ans.bind (line_a hl' h1 (by omega)) ?_
  rintro ⟨u, s2⟩ ⟨h2, hu⟩
  dsimp only at *
  refine Ans.bind (odd_a hl' h2 (by omega) 9) ?_
  rintro ⟨o, s3⟩ h3
  dsimp only at *
  refine Ans.ite (fun _ => ?_) (fun _ => Ans.pure ⟨ht, by dsimp only; omega⟩)
  refine Ans.bind (bent_a hl' h3 (by omega) u (by omega)) ?_
  rintro ⟨x, s4⟩ ⟨_, hx⟩
  exact Ans.pure ⟨ht, by dsimp only at *; omega⟩
theorem trim_port (t : ByteArray) : trimW ((⟨#[112, 111, 114, 116, 32]⟩ : ByteArray) ++ t) = t := by
  apply ba_ext
  unfold trimW Lib.trimPrefix
  have e : ((⟨#[112, 111, 114, 116, 32]⟩ : ByteArray) ++ t).data.toList = portL ++ t.data.toList := by
    rw [ByteArray.data_append, Array.toList_append]; rfl
  rw [e]
  have hp : Lib.hasPrefix (portL ++ t.data.toList) portL = true := by
    unfold Lib.hasPrefix; rw [List.isPrefixOf_iff_prefix]; exact List.prefix_append _ _
  rw [if_pos hp, List.drop_left]
theorem pre_port (t : ByteArray) : Lib.hasPrefix ((⟨#[112, 111, 114, 116, 32]⟩ : ByteArray) ++ t).data.toList portL = true := by
  have e : ((⟨#[112, 111, 114, 116, 32]⟩ : ByteArray) ++ t).data.toList = portL ++ t.data.toList := by
    rw [ByteArray.data_append, Array.toList_append]; rfl
  rw [e]
  unfold Lib.hasPrefix; rw [List.isPrefixOf_iff_prefix]; exact List.prefix_append _ _
theorem endIn_ok {a p : Int} (h : endIn a p = true) : endOkB a p = true := by
  unfold endIn at h; unfold endOkB; simp only [Bool.and_eq_true] at h
  rw [h.1, h.2]; rfl
theorem says_lport {a p : Int} (h : endOkB a p = true) : saysW (lportW a p) = if endIn a p then some (a, p) else none := by
  unfold saysW lportW
  rw [if_pos h, if_pos (pre_port _), trim_port, readEndW_of h]
theorem says_port {q : Int} (h : 1 ≤ q ∧ q ≤ 999) : saysW (lportW 50 q) = none := by
  have e : endOkB 50 q = true := by unfold endOkB inB; simp [h.1, h.2]
  rw [says_lport e]
  have : endIn 50 q = false := by unfold endIn inB; simp
  rw [this]; rfl
theorem says_none : saysW noneB = none := by
  unfold saysW
  rw [if_neg (by decide)]
theorem lport_linOk (a p : Int) : linOk (lportW a p) = true := by
  have hz := lportW_size a p
  unfold linOk
  simp only [Bool.and_eq_true, decide_eq_true_eq]
  refine ⟨?_, by omega⟩
  unfold bys
  rw [List.all_map, List.all_eq_true]
  intro c hc
  show lb (c.toNat : Int) = true
  unfold lportW at hc
  by_cases hk : endOkB a p = true
  · have hb := endOkB_le hk
    obtain ⟨m, rfl⟩ : ∃ m : Nat, a = m := ⟨a.toNat, by omega⟩
    obtain ⟨n, rfl⟩ : ∃ n : Nat, p = n := ⟨p.toNat, by omega⟩
    rw [if_pos hk] at hc
    unfold etext at hc
    rw [if_pos hk] at hc
    simp only [ByteArray.data_append, Array.toList_append, List.mem_append] at hc
    have dg : ∀ (k : Nat), c ∈ (numB (k : Int)).data.toList → lb (c.toNat : Int) = true := by
      intro k h
      have := (numB_dg (k + 1) k (by omega)).1 c h
      unfold isDg at this
      unfold lb
      have h1 : (48 : Int) ≤ (c.toNat : Int) := by omega
      have h2 : (c.toNat : Int) ≤ 57 := by omega
      simp [h1, h2]
    rcases hc with hc | (hc | hc) | hc
    · have : c = 112 ∨ c = 111 ∨ c = 114 ∨ c = 116 ∨ c = 32 := by simpa using hc
      rcases this with rfl | rfl | rfl | rfl | rfl <;> decide
    · exact dg m hc
    · have : c = 32 := by simpa using hc
      subst this; decide
    · exact dg n hc
  · rw [if_neg hk] at hc
    simp at hc
theorem says_is {s : ByteArray} {a p : Int} (h : saysW s = some (a, p)) : endIn a p = true ∧ s = lportW a p := by
  refine ⟨saysW_in h, ?_⟩
  unfold saysW at h
  cases hp : Lib.hasPrefix s.data.toList portL with
  | false => rw [hp] at h; simp at h
  | true =>
    rw [hp] at h
    simp only [if_true] at h
    cases hr : readEndW (trimW s) with
    | none => rw [hr] at h; cases h
    | some r =>
      obtain ⟨a', p'⟩ := r
      rw [hr] at h
      simp only at h
      obtain ⟨hk, ht⟩ := readEndW_some hr
      cases hi : endIn a' p' with
      | false => rw [hi] at h; simp at h
      | true =>
        rw [hi] at h; simp at h; obtain ⟨rfl, rfl⟩ := h
        unfold lportW
        rw [if_pos hk, ← ht]
        have h5 := (pre_split s).mp hp
        rw [← trim_extract hp]
        apply ba_ext
        rw [ByteArray.data_append, Array.toList_append, Lib.extract_data]
        have hl : s.data.toList.length = s.size := by rw [Array.length_toList]; rfl
        rw [List.take_of_length_le (by rw [List.length_drop]; omega)]
        have h4 := h5.2
        rw [ByteArray.toList_eq, Lib.extract_data] at h4
        simp only [List.drop_zero] at h4
        have e : s.data.toList = s.data.toList.take 5 ++ s.data.toList.drop 5 := (List.take_append_drop 5 _).symm
        rw [e]
        simp only [h4, List.drop_append, List.drop_drop]
        simp
theorem put_facts {l : List S34} {a p : Int} (c : okT l = true) (he : endIn a p = true) :
    okT (putV l a p).1 = true ∧ (∃ t, (putV l a p).1 = l ++ t) ∧ (putV l a p).2 = portV (putV l a p).1 a p ∧
      ((putV l a p).2 = 0 → (putV l a p).1.length = 6) ∧ ((putV l a p).2 ≠ 0 → ∃ i : Nat, i < 6 ∧ (putV l a p).2 = 500 + (i : Int)) := by
  have hl := okT_le c
  refine ⟨put_ok c he, ?_, ?_, ?_, ?_⟩
  · unfold putV
    split
    · exact ⟨[], by simp⟩
    · split
      · exact ⟨[], by simp⟩
      · exact ⟨_, rfl⟩
  · unfold putV
    split
    · rfl
    · rename_i h0
      have h0' : portV l a p = 0 := by simpa using h0
      split
      · exact h0'.symm
      · have hn := fnd_none h0'
        dsimp only
        unfold portV
        rw [fnd_snoc, hn]
        simp
  · unfold putV
    split
    · rename_i h0; intro h; exact absurd h h0
    · split
      · rename_i h6; intro _; exact h6
      · intro h; dsimp only at h; omega
  · unfold putV
    split
    · rename_i h0
      intro _
      have hr := portV_range (l := l) (by omega) a p
      rcases hr with hr | hr
      · exact absurd hr h0
      · refine ⟨(portV l a p - 500).toNat, by omega, ?_⟩
        dsimp only; omega
    · split
      · intro h; exact absurd rfl h
      · intro _; exact ⟨l.length, by omega, rfl⟩
end Go.Proofs.YtffmbccgcaghjaaGreatDoor.P
namespace Go.Proofs.YtffmbccgcaghjaaGreatDoor.P
open Go Go.RowKit
set_option linter.unusedVariables false
set_option linter.unusedSimpArgs false
theorem bax {a b : ByteArray} (h : a.data.toList = b.data.toList) : a = b := by
  cases a; cases b; simp at h; rw [h]
theorem len_data (s : ByteArray) : s.data.toList.length = s.size := by rw [Array.length_toList]; rfl
def lineL : ByteArray → List UInt8 → List ByteArray
  | _, [] => []
  | w, c :: r => if c = 59 then w :: lineL ⟨#[]⟩ r else lineL (w ++ ⟨#[c]⟩) r
def restL : ByteArray → List UInt8 → ByteArray
  | w, [] => w
  | w, c :: r => if c = 59 then restL ⟨#[]⟩ r else restL (w ++ ⟨#[c]⟩) r
def linesB (s : ByteArray) : List ByteArray := lineL ⟨#[]⟩ s.data.toList
def restB (s : ByteArray) : ByteArray := restL ⟨#[]⟩ s.data.toList
def cutS (s : ByteArray) : ByteArray × ByteArray × Bool := (⟨(Lib.cut s.data.toList [59]).1.toArray⟩, ⟨(Lib.cut s.data.toList [59]).2.1.toArray⟩, (Lib.cut s.data.toList [59]).2.2)
theorem line_index : ∀ (l : List UInt8) (w : ByteArray), (Lib.index l [59] = -1 → lineL w l = [] ∧ restL w l = w ++ ⟨l.toArray⟩) ∧
    (∀ i : Nat, Lib.index l [59] = i → lineL w l = (w ++ ⟨(l.take i).toArray⟩) :: lineL ⟨#[]⟩ (l.drop (i + 1)) ∧ restL w l = restL ⟨#[]⟩ (l.drop (i + 1)) ∧ i < l.length)
  | [], w => ⟨fun _ => ⟨rfl, bax (by simp [restL])⟩, fun i h => by simp [Lib.index] at h⟩
  | b :: l, w => by
    by_cases hb : b = 59
    · subst hb
      have hix : Lib.index (59 :: l) [59] = 0 := by rw [Lib.index]; simp [List.isPrefixOf]
      refine ⟨fun h => by omega, fun i h => ?_⟩
      have hi : i = 0 := by omega
      subst hi
      refine ⟨?_, ?_, by simp⟩
      · simp only [lineL, if_true, List.take_zero, Nat.zero_add, List.drop_succ_cons, List.drop_zero]
        congr 1; exact bax (by simp)
      · simp [restL]
    · have hp : ([59] : List UInt8).isPrefixOf (b :: l) = false := by simp [List.isPrefixOf, Ne.symm hb]
      have hix : Lib.index (b :: l) [59] = if Lib.index l [59] == -1 then -1 else Lib.index l [59] + 1 := by rw [Lib.index, hp]; simp
      obtain ⟨i1, i2⟩ := line_index l (w ++ ⟨#[b]⟩)
      have hge := Lib.index_ge l [59]
      refine ⟨fun h => ?_, fun i h => ?_⟩
      · have hm : Lib.index l [59] = -1 := by
          rw [hix] at h
          by_cases hm : Lib.index l [59] = -1
          · exact hm
          · rw [if_neg (fun e => hm (beq_iff_eq.1 e))] at h; omega
        obtain ⟨a1, a2⟩ := i1 hm
        simp only [lineL, restL, if_neg hb]
        exact ⟨a1, by rw [a2]; exact bax (by simp)⟩
      · have hm : Lib.index l [59] ≠ -1 := fun hm => by rw [hix, if_pos (beq_iff_eq.2 hm)] at h; omega
        rw [hix, if_neg (fun e => hm (beq_iff_eq.1 e))] at h
        obtain ⟨j, hj⟩ : ∃ j : Nat, Lib.index l [59] = j := ⟨(Lib.index l [59]).toNat, by omega⟩
        have hi : i = j + 1 := by omega
        subst hi
        obtain ⟨a1, a2, a3⟩ := i2 j hj
        simp only [lineL, restL, if_neg hb, List.take_succ_cons, List.drop_succ_cons]
        refine ⟨?_, a2, by simp; omega⟩
        rw [a1]; congr 1; exact bax (by simp)
theorem lines_hit {s : ByteArray} (h : (cutS s).2.2 = true) : linesB s = (cutS s).1 :: linesB (cutS s).2.1 ∧ restB s = restB (cutS s).2.1 ∧ (cutS s).2.1.size < s.size := by
  have hge := Lib.index_ge s.data.toList [59]
  have hc : 0 ≤ Lib.index s.data.toList [59] := by
    unfold cutS Lib.cut at h
    by_cases hc : 0 ≤ Lib.index s.data.toList [59]
    · exact hc
    · rw [if_neg hc] at h; cases h
  obtain ⟨i, hi⟩ : ∃ i : Nat, Lib.index s.data.toList [59] = i := ⟨(Lib.index s.data.toList [59]).toNat, by omega⟩
  obtain ⟨a1, a2, a3⟩ := (line_index s.data.toList ⟨#[]⟩).2 i hi
  have e : Lib.cut s.data.toList [59] = (s.data.toList.take i, s.data.toList.drop (i + 1), true) := by
    unfold Lib.cut; rw [hi, if_pos (by omega)]; simp
  unfold cutS linesB restB
  rw [e]
  refine ⟨?_, a2, ?_⟩
  · rw [a1]
    have e1 : (⟨#[]⟩ : ByteArray) ++ ⟨(s.data.toList.take i).toArray⟩ = ⟨(s.data.toList.take i).toArray⟩ := bax (by simp)
    rw [e1]
  · have := len_data s
    show (s.data.toList.drop (i + 1)).toArray.size < s.size
    rw [List.size_toArray, List.length_drop]
    omega
theorem lines_miss {s : ByteArray} (h : (cutS s).2.2 = false) : linesB s = [] ∧ restB s = s := by
  have hge := Lib.index_ge s.data.toList [59]
  have hc : Lib.index s.data.toList [59] = -1 := by
    unfold cutS Lib.cut at h
    by_cases hc : 0 ≤ Lib.index s.data.toList [59]
    · rw [if_pos hc] at h; cases h
    · omega
  obtain ⟨a1, a2⟩ := (line_index s.data.toList ⟨#[]⟩).1 hc
  exact ⟨a1, by unfold restB; rw [a2]; exact bax (by simp)⟩
theorem lineL_count : ∀ (l : List UInt8) (w : ByteArray), (lineL w l).length = l.count 59
  | [], _ => rfl
  | c :: l, w => by
    unfold lineL
    by_cases h : c = 59
    · subst h; simp [lineL_count l]
    · rw [if_neg h, lineL_count l, List.count_cons_of_ne (by simpa using h)]
theorem linesB_count (s : ByteArray) : (linesB s).length = Lib.countByte s.data.toList 59 := lineL_count _ _
theorem restL_no : ∀ (l : List UInt8) (w : ByteArray), (∀ c ∈ l, c ≠ 59) → restL w l = w ++ ⟨l.toArray⟩
  | [], w, _ => bax (by simp [restL])
  | c :: l, w, h => by
    unfold restL
    rw [if_neg (h c (by simp)), restL_no l _ (fun x hx => h x (by simp [hx]))]
    exact bax (by simp)
theorem restL_at : ∀ (x y : List UInt8) (w : ByteArray), restL w (x ++ 59 :: y) = restL ⟨#[]⟩ y
  | [], y, w => by simp [restL]
  | c :: x, y, w => by
    rw [List.cons_append, restL]
    by_cases h : c = 59
    · rw [if_pos h]; exact restL_at x y _
    · rw [if_neg h]; exact restL_at x y _
theorem byte_get (s : ByteArray) (j : Nat) (h : j < s.size) : s.data[j]! = s.data.toList[j]'(by rw [len_data]; exact h) := by
  have : j < s.data.size := h
  rw [getElem!_pos s.data j this]
  simp
theorem restB_last (s : ByteArray) : -1 ≤ Lib.lastIndexByte s 59 ∧ Lib.lastIndexByte s 59 < s.size ∧ restB s = s.extract (Lib.lastIndexByte s 59 + 1).toNat s.size := by
  have hl := len_data s
  rcases Lib.lastIdx_spec s 59 s.size with ⟨e, hno⟩ | ⟨i, hi, e, hc, hno⟩
  · have e' : Lib.lastIndexByte s 59 = -1 := e
    rw [e']
    refine ⟨by omega, by omega, ?_⟩
    unfold restB
    rw [restL_no _ _ (fun c hc => by
      obtain ⟨j, hj, rfl⟩ := List.getElem_of_mem hc
      intro e2
      have := hno j (by omega)
      rw [byte_get s j (by omega), e2] at this
      exact this rfl)]
    apply bax
    rw [Lib.extract_data]
    simp
    rw [List.take_of_length_le (by simp)]
  · have e' : Lib.lastIndexByte s 59 = i := e
    rw [e']
    refine ⟨by omega, by omega, ?_⟩
    have hli : i < s.data.toList.length := by omega
    have hsp : s.data.toList = s.data.toList.take i ++ 59 :: s.data.toList.drop (i + 1) := by
      have h59 : s.data.toList[i] = 59 := by
        rw [byte_get s i hi] at hc
        exact UInt8.toNat_inj.mp (by have : ((59 : UInt8).toNat : Int) = 59 := rfl; omega)
      have hd : s.data.toList.drop i = s.data.toList[i] :: s.data.toList.drop (i + 1) := List.drop_eq_getElem_cons hli
      rw [h59] at hd
      rw [← hd, List.take_append_drop]
    unfold restB
    rw [hsp, restL_at, restL_no _ _ (fun c hc => by
      obtain ⟨j, hj, rfl⟩ := List.getElem_of_mem hc
      intro e2
      simp only [List.length_drop] at hj
      have h1 := hno (i + 1 + j) (by omega) (by omega)
      rw [byte_get s (i + 1 + j) (by omega)] at h1
      rw [List.getElem_drop] at e2
      rw [e2] at h1
      exact h1 rfl)]
    apply bax
    rw [Lib.extract_data]
    have e3 : ((i : Int) + 1).toNat = i + 1 := by omega
    rw [e3]
    simp
    rw [List.take_of_length_le (by simp)]
end Go.Proofs.YtffmbccgcaghjaaGreatDoor.P
namespace Go.Proofs.YtffmbccgcaghjaaGreatDoor.P
open Go.Proofs.YtffmbccgcaghjaaGreatDoorUFnExactRwrStream.PrintLast Go.Proofs.YtffmbccgcaghjaaGreatDoorUFnExactRwrStream.PrintMore Go.Proofs.YtffmbccgcaghjaaGreatDoorUFnExactRwrStream.PrintWords Go.RowKit
set_option linter.unusedVariables false
set_option linter.unusedSimpArgs false
section
attribute [local go_sem] max2_int min2_int max_two min_two max_three min_three max_four min_four
def spec_StrLines.l0 : Nat → ByteArray → List ByteArray → Int → Int → Option (List ByteArray × ByteArray)
 | 0, _, _, _, _ => none
 | k + 1, x0, x4, x5, x6 => if x6 < (x0.size : Int) then (if 0 ≤ x6 then (if (bt x0 x6) = 59 then (if 0 ≤ x5 then (if x5 ≤ x6 then (if x6 ≤ (x0.size : Int) then (if x4.length < 8796093022208 then (spec_StrLines.l0 k x0 (x4 ++ [x0.extract (x5 : Int).toNat (x6 : Int).toNat]) (wrap64 (x6 + 1)) (wrap64 (x6 + 1))) else (none)) else (none)) else (none)) else (none)) else (spec_StrLines.l0 k x0 x4 x5 (wrap64 (x6 + 1)))) else (none)) else (if 0 ≤ x5 then (if x5 ≤ (x0.size : Int) then (some (x4, x0.extract (x5 : Int).toNat x0.size)) else (none)) else (none))
def spec_StrLines.f (k : Nat) (a0 : ByteArray) : Option (List ByteArray × ByteArray) := spec_StrLines.l0 k a0 (([] : List ByteArray)) 0 0
theorem spec_StrLines.mono_l : ∀ k, (∀ y0 y1 y2 y3, LeO (spec_StrLines.l0 k y0 y1 y2 y3) (spec_StrLines.l0 (k + 1) y0 y1 y2 y3))
 | 0 => fun _ _ _ _ r h => by simp [spec_StrLines.l0] at h
 | k + 1 => by
  have ih0 := spec_StrLines.mono_l k
  ·intro y0 y1 y2 y3
   unfold spec_StrLines.l0
   repeat' first | (with_reducible first | exact ih0 _ _ _ _ | exact LeO.refl _ | exact LeO.none _ | refine LeO.ite ?_ ?_ | refine LeO.bind ?_ (fun _ => ?_)) | exact ih0 _ _ _ _ | exact LeO.none _ | refine LeO.ite ?_ ?_ | refine LeO.bind ?_ (fun _ => ?_)
theorem spec_StrLines.mono : ∀ a0 k, LeO (spec_StrLines.f k a0) (spec_StrLines.f (k + 1) a0) := by
 intro a0 k
 have ih0 := spec_StrLines.mono_l k
 unfold spec_StrLines.f
 repeat' first | (with_reducible first | exact ih0 _ _ _ _ | exact LeO.refl _ | exact LeO.none _ | refine LeO.ite ?_ ?_ | refine LeO.bind ?_ (fun _ => ?_)) | exact ih0 _ _ _ _ | exact LeO.none _ | refine LeO.ite ?_ ?_ | refine LeO.bind ?_ (fun _ => ?_)
set_option maxHeartbeats 8000000 in
set_option maxRecDepth 100000 in
theorem spec_StrLines.calls (k : Nat) (a0 : ByteArray) (r1 : List ByteArray) (r2 : ByteArray) (w : World) (h : spec_StrLines.f k a0 = some (r1, r2)) :
  Calls Tryz.prog 39 #[.string a0] w fun e w' => ∃ v0_ : Value, e = .returned (.tuple #[v0_, .string r2]) ∧ Kd.R Kd.string 9 w' w.heap.size (fun _ => True) v0_ r1 ∧ Below w.heap.size w w' := by
 have HB := am (Below.refl w.heap.size w)
 have H : (spec_StrLines.l0 k a0 (([] : List ByteArray)) 0 0) = some (r1, r2) := h
 clear h
 obtain ⟨y682, hy682⟩ : ∃ y_ : List ByteArray, y_ = (([] : List ByteArray)) := ⟨_, rfl⟩
 replace H : (spec_StrLines.l0 k a0 y682 0 0) = some (r1, r2) := by first | (rw [hy682]; with_reducible exact H) | (have H2_ := (Option.bind_some _ _).symm.trans H; rw [hy682]; with_reducible exact H2_) | (have H2_ := (Option.bind_some _ _).symm.trans H; with_reducible exact H2_) | with_reducible exact H | (rw [hy682]; exact H) | exact H
 have Ny682 := am hy682
 clear hy682
 have H' := am H
 clear H
 go_enter Tryz.func39, Tryz.ntmps39
 iterate 4 ((try go_quiet (fail)); (try go_wp2_with (first | ((with_reducible refine gate_dst (N := 7) rfl ?_); refine Kd.R_lit Kd.string _ 9 rfl (N := 7) rfl (xs := ([] : List ByteArray)) (inner := []) (ok := fun _ => True) (okp := fun _ => True) hr_ ?hp (fun _ hk => hk) trivial (Below.refl _ _) (Nat.le_refl _) (by simp) ?_; (case hp => exact (Reps.none _ _)); intro v683 w2 ho3 hb hg_ hnew_; clear hg_ hnew_; (first | rw [← Ny682.out] at ho3 | (simp only [Int.reduceToNat] at ho3; rw [← Ny682.out] at ho3)); have HO684 := am (Kd.R_lower ho3 (below_size (bl HB))); replace HB := hbS HB hb; clear hb ho3))))
 go_loopg [4, 5, 6] k (fun kq v4 v5 v6 w' => ∃ (x4_1 : List ByteArray) (x5_1 : Int) (x6_1 : Int), v5 = .int .i64 x5_1 ∧ v6 = .int .i64 x6_1 ∧ Aside0 (spec_StrLines.l0 kq a0 x4_1 x5_1 x6_1 = some (r1, r2)) ∧ Aside0 (kq ≤ k) ∧ Aside0 (Kd.R Kd.string 9 w' w.heap.size (fun _ => True) v4 x4_1) ∧ Aside0 (Below w.heap.size w w'))
 case atStart => exact ⟨(y682), (0), (0), rs_, rs_, H', ⟨Nat.le_refl _⟩, ⟨by (with_reducible repeat apply ru); exact HO684.out⟩, ⟨m0_⟩⟩
 case round =>
  clear H'
  try clear p2
  try clear c3
  obtain ⟨x4_1, x5_1, x6_1, rfl, rfl, HA, HK1, HO_4, HB⟩ := hrel
  cases gk with
  | zero => exact absurd HA.out (by simp [spec_StrLines.l0])
  | succ k1 =>
   have H := HA.out
   clear HA
   simp only [spec_StrLines.l0] at H
   by_cases c4 : x6_1 < (a0.size : Int)
   ·rw [if_pos c4] at H
    have c4b0 : decide (x6_1 < (a0.size : Int)) = true := decide_eq_true c4
    clear c4
    by_cases c5 : 0 ≤ x6_1
    ·rw [if_pos c5] at H
     have c5b0 : decide (0 ≤ x6_1) = true := decide_eq_true c5
     clear c5
     by_cases c7 : (bt a0 x6_1) = 59
     ·rw [if_pos c7] at H
      have c7b0 : ((bt a0 x6_1) == 59) = true := beq_iff_eq.mpr c7
      have c7b1 : ((bt a0 x6_1) != 59) = false := bne_eq_false_iff_eq.mpr c7
      clear c7
      by_cases c8 : 0 ≤ x5_1
      ·rw [if_pos c8] at H
       have c8b0 := eq_true c8
       have c8b1 : decide (0 ≤ x5_1) = true := decide_eq_true c8
       clear c8
       by_cases c9 : x5_1 ≤ x6_1
       ·rw [if_pos c9] at H
        have c9b0 := eq_true c9
        have c9b1 : decide (x5_1 ≤ x6_1) = true := decide_eq_true c9
        clear c9
        by_cases c10 : x6_1 ≤ (a0.size : Int)
        ·rw [if_pos c10] at H
         have c10b0 := eq_true c10
         have c10b1 : decide (x6_1 ≤ (a0.size : Int)) = true := decide_eq_true c10
         clear c10
         by_cases c11 : x4_1.length < 8796093022208
         ·rw [if_pos c11] at H
          have LMc11 := am c11
          clear c11
          obtain ⟨y685, hy685⟩ : ∃ y_ : List ByteArray, y_ = (x4_1 ++ [a0.extract (x5_1 : Int).toNat (x6_1 : Int).toNat]) := ⟨_, rfl⟩
          replace H : (spec_StrLines.l0 k1 a0 y685 (wrap64 (x6_1 + 1)) (wrap64 (x6_1 + 1))) = some (r1, r2) := by first | (rw [hy685]; with_reducible exact H) | (have H2_ := (Option.bind_some _ _).symm.trans H; rw [hy685]; with_reducible exact H2_) | (have H2_ := (Option.bind_some _ _).symm.trans H; with_reducible exact H2_) | with_reducible exact H | (rw [hy685]; exact H) | exact H
          have Ny685 := am hy685
          clear hy685
          have H' := am H
          clear H
          have p6 : 0 ≤ (x6_1 : Int) := of_decide_eq_true da_
          have q6 : x6_1 < (a0.size : Int) := of_decide_eq_true da_
          have hx6 := bt_at a0 x6_1
          replace p6 := eq_true p6
          replace q6 := eq_true q6
          iterate 4 ((try go_quiet (fail)); (try go_wp2_with (first | ((with_reducible refine gate_builtin (b := .append) (xs := #[.tmp 18, .tmp 23]) rfl ?_); at_builtin; refine Kd.R_append Kd.string (w0 := w) w.heap.size rfl (.tmp 18) (.tmp 23) 51 9 (.string ⟨#[]⟩) 16 rfl Tryz.underlying51 info9 rfl (by decide) (by omega) u4 x4_1 (a0.extract (x5_1 : Int).toNat (x6_1 : Int).toNat) [.string (a0.extract (x5_1 : Int).toNat (x6_1 : Int).toNat)] (fun _ => True) (fun _ => False) rfl rfl ?aP (fun _ hk => hk.elim) ?aF ?aO ?aB ?aS ?aL ?_; (case aP => exact rfl); (case aB => exact (bl HB)); (case aF => exact (fun _ _ => trivial)); (case aO => exact (rs HO_4)); (case aS => exact (below_size (bl HB))); (case aL => have := LMc11.out; omega); intro v686 w12 ho hb hg hat; rw [← Ny685.out] at ho; replace HB := am hb; have HO687 := am (ho); clear HO_4; clear ho hb hg hat))))
          go_roundg k1
          case measure => have := HK1.out; omega
          case rel => exact ⟨(y685), (wrap64 (x6_1 + 1)), (wrap64 (x6_1 + 1)), rs_, rs_, H', ⟨by have := HK1.out; omega⟩, ⟨by (with_reducible repeat apply ru); exact HO687.out⟩, ⟨m0_⟩⟩
         ·rw [if_neg c11] at H
          exact absurd H (by simp)
        ·rw [if_neg c10] at H
         exact absurd H (by simp)
       ·rw [if_neg c9] at H
        exact absurd H (by simp)
      ·rw [if_neg c8] at H
       exact absurd H (by simp)
     ·rw [if_neg c7] at H
      have c7b0 : ((bt a0 x6_1) == 59) = false := beq_eq_false_iff_ne.mpr c7
      have c7b1 : ((bt a0 x6_1) != 59) = true := bne_iff_ne.mpr c7
      have H' := am H
      clear H
      have p6 : 0 ≤ (x6_1 : Int) := of_decide_eq_true da_
      have q6 : x6_1 < (a0.size : Int) := of_decide_eq_true da_
      have hx6 := bt_at a0 x6_1
      replace p6 := eq_true p6
      replace q6 := eq_true q6
      go_wp2
      repeat (go_quiet (fail); try go_wp2)
      go_roundg k1
      case measure => have := HK1.out; omega
      case rel => exact ⟨(x4_1), (x5_1), (wrap64 (x6_1 + 1)), rs_, rs_, H', ⟨by have := HK1.out; omega⟩, ⟨by (with_reducible repeat apply ru); exact HO_4.out⟩, ⟨m0_⟩⟩
    ·rw [if_neg c5] at H
     exact absurd H (by simp)
   ·rw [if_neg c4] at H
    have c4b0 : decide (x6_1 < (a0.size : Int)) = false := decide_eq_false c4
    clear c4
    by_cases c13 : 0 ≤ x5_1
    ·rw [if_pos c13] at H
     have c13b0 := eq_true c13
     have c13b1 : decide (0 ≤ x5_1) = true := decide_eq_true c13
     clear c13
     by_cases c14 : x5_1 ≤ (a0.size : Int)
     ·rw [if_pos c14] at H
      have c14b0 := eq_true c14
      have c14b1 : decide (x5_1 ≤ (a0.size : Int)) = true := decide_eq_true c14
      clear c14
      simp only [Option.some.injEq, Prod.mk.injEq] at H
      obtain ⟨rfl, rfl⟩ := H
      go_wp2
      repeat (go_quiet (fail); try go_wp2)
      go_ret2
      exact ⟨_, fi_, by (with_reducible repeat apply ru); exact HO_4.out, m0_⟩
     ·rw [if_neg c14] at H
      exact absurd H (by simp)
    ·rw [if_neg c13] at H
     exact absurd H (by simp)
def spec_StrOk.l0 : Nat → List ByteArray → ByteArray → Int → Option (Bool)
 | 0, _, _, _ => none
 | k + 1, x3, x4, x5 => if x5 < (x3.length : Int) then (if 0 ≤ x5 then ((spec_LinOk.f k (rdOf ByteArray.empty x3 x5)).bind fun t693 => (if t693 = true then (spec_StrOk.l0 k x3 x4 (wrap64 (x5 + 1))) else (some false))) else (none)) else ((spec_LinOk.f k x4).bind fun t694 => (some t694))
def spec_StrOk.f (k : Nat) (a0 : ByteArray) : Option (Bool) := if (a0.size : Int) > 120 then (some false) else ((spec_StrLines.f k a0).bind fun bt688 => (spec_StrOk.l0 k bt688.1 bt688.2 0))
theorem spec_StrOk.mono_l : ∀ k, (∀ y0 y1 y2, LeO (spec_StrOk.l0 k y0 y1 y2) (spec_StrOk.l0 (k + 1) y0 y1 y2))
 | 0 => fun _ _ _ r h => by simp [spec_StrOk.l0] at h
 | k + 1 => by
  have ih0 := spec_StrOk.mono_l k
  ·intro y0 y1 y2
   unfold spec_StrOk.l0
   repeat' first | (with_reducible first | exact ih0 _ _ _ | exact spec_LinOk.mono _ _ | exact spec_StrLines.mono _ _ | exact LeO.refl _ | exact LeO.none _ | refine LeO.ite ?_ ?_ | refine LeO.bind ?_ (fun _ => ?_)) | exact ih0 _ _ _ | exact spec_LinOk.mono _ _ | exact spec_StrLines.mono _ _ | exact LeO.none _ | refine LeO.ite ?_ ?_ | refine LeO.bind ?_ (fun _ => ?_)
theorem spec_StrOk.mono : ∀ a0 k, LeO (spec_StrOk.f k a0) (spec_StrOk.f (k + 1) a0) := by
 intro a0 k
 have ih0 := spec_StrOk.mono_l k
 unfold spec_StrOk.f
 repeat' first | (with_reducible first | exact ih0 _ _ _ | exact spec_LinOk.mono _ _ | exact spec_StrLines.mono _ _ | exact LeO.refl _ | exact LeO.none _ | refine LeO.ite ?_ ?_ | refine LeO.bind ?_ (fun _ => ?_)) | exact ih0 _ _ _ | exact spec_LinOk.mono _ _ | exact spec_StrLines.mono _ _ | exact LeO.none _ | refine LeO.ite ?_ ?_ | refine LeO.bind ?_ (fun _ => ?_)
set_option maxHeartbeats 8000000 in
set_option maxRecDepth 100000 in
theorem spec_StrOk.calls (k : Nat) (a0 : ByteArray) (r : Bool) (w : World) (h : spec_StrOk.f k a0 = some r) :
  Calls Tryz.prog 33 #[.string a0] w fun e w' => e = .returned (.bool r) ∧ Below w.heap.size w w' := by
 have HB := am (Below.refl w.heap.size w)
 have H : (if (a0.size : Int) > 120 then (some false) else ((spec_StrLines.f k a0).bind fun bt688 => (spec_StrOk.l0 k bt688.1 bt688.2 0))) = some r := h
 clear h
 by_cases c2 : (a0.size : Int) > 120
 ·rw [if_pos c2] at H
  have c2b0 : decide (120 < (a0.size : Int)) = true := decide_eq_true c2
  have c2b1 : decide (120 < a0.size) = true := decide_eq_true (by omega)
  clear c2
  obtain rfl := Option.some.inj H
  go_enter Tryz.func33, Tryz.ntmps33
  go_wp2
  go_ret
  exact ⟨fi_, m0_⟩
 ·rw [if_neg c2] at H
  have c2b0 : decide (120 < (a0.size : Int)) = false := decide_eq_false c2
  have c2b1 : decide (120 < a0.size) = false := decide_eq_false (by omega)
  clear c2
  obtain ⟨⟨t688, t689⟩, A3, H⟩ := bse H
  try dsimp only at H
  have H' := am H
  clear H
  go_enter Tryz.func33, Tryz.ntmps33
  go_wp2_with (first | ((with_reducible refine gate_callee (f := 39) rfl ?_); refine gL (some 11) Tryz.func39 #[.string a0] ?_; (with_reducible refine (spec_StrLines.calls k a0 t688 t689 _ A3.out).mono ?_); rintro e w4 ⟨v690, rfl, ho0, hb⟩; refine ⟨_, rfl, ?_⟩; have HO691 := am (Kd.R_lower ho0 (below_size (bl HB))); replace HB := hbS HB hb; (try clear hb); (try clear ho0)))
  go_loopg [5] k (fun kq v5 w' => ∃ (x5_1 : Int), v5 = .int .i64 x5_1 ∧ Aside0 (spec_StrOk.l0 kq t688 t689 x5_1 = some r) ∧ Aside0 (kq ≤ k) ∧ Aside0 (Kd.R Kd.string 9 w' w.heap.size (fun _ => True) v690 t688) ∧ Aside0 (Below w.heap.size w w'))
  case atStart => exact ⟨(0), rs_, H', ⟨Nat.le_refl _⟩, ⟨by (with_reducible repeat apply ru); exact HO691.out⟩, ⟨m0_⟩⟩
  case round =>
   clear H'
   try clear c2
   try clear c2b0
   try clear c2b1
   try clear p2
   try clear c3
   obtain ⟨x5_1, rfl, HA, HK1, HO_3, HB⟩ := hrel
   cases gk with
   | zero => exact absurd HA.out (by simp [spec_StrOk.l0])
   | succ k1 =>
    have H := HA.out
    clear HA
    simp only [spec_StrOk.l0] at H
    by_cases c5 : x5_1 < (t688.length : Int)
    ·rw [if_pos c5] at H
     have c5b0 : decide (x5_1 < (t688.length : Int)) = true := decide_eq_true c5
     clear c5
     by_cases c6 : 0 ≤ x5_1
     ·rw [if_pos c6] at H
      have c6b0 : decide (0 ≤ x5_1) = true := decide_eq_true c6
      clear c6
      obtain ⟨t693, A7, H⟩ := bse H
      try dsimp only at H
      by_cases c8 : t693 = true
      ·subst c8
       have H1 : (spec_StrOk.l0 k1 t688 t689 (wrap64 (x5_1 + 1))) = some r := by rw [if_pos rfl] at H; exact H
       clear H
       have H := H1
       clear H1
       have H' := am H
       clear H
       obtain ⟨Ao9, co9, eo9⟩ := Kd.R_slice HO_3.out
       subst eo9
       have p692 : 0 ≤ (x5_1 : Int) := of_decide_eq_true da_
       have q692 : x5_1 < (t688.length : Int) := of_decide_eq_true da_
       obtain ⟨ad692, e692, hx692_0⟩ := Kd.at_string (Kd.R_reads' HO_3.out).2.2 x5_1 p692 q692
       cases e692
       replace p692 := eq_true p692
       replace q692 := eq_true q692
       go_wp2_with (first | ((with_reducible refine gate_callee (f := 17) rfl ?_); refine gL (some 24) Tryz.func17 #[.string (rdOf ByteArray.empty t688 x5_1)] ?_; (with_reducible refine (spec_LinOk.calls k1 (rdOf ByteArray.empty t688 x5_1) true _ A7.out).mono ?_); rintro e w' ⟨rfl, ⟨nd, rfl⟩⟩; refine ⟨_, rfl, ?_⟩))
       go_roundg k1
       case measure => have := HK1.out; omega
       case rel => exact ⟨(wrap64 (x5_1 + 1)), rs_, H', ⟨by have := HK1.out; omega⟩, ⟨by (with_reducible repeat apply ru); exact HO_3.out⟩, ⟨m0_⟩⟩
      ·replace c8 := Bool.eq_false_iff.mpr c8
       subst c8
       have H1 : (some false) = some r := by rw [if_neg (show ¬ (false = true) by decide)] at H; exact H
       clear H
       have H := H1
       clear H1
       obtain rfl := Option.some.inj H
       obtain ⟨Ao10, co10, eo10⟩ := Kd.R_slice HO_3.out
       subst eo10
       have p692 : 0 ≤ (x5_1 : Int) := of_decide_eq_true da_
       have q692 : x5_1 < (t688.length : Int) := of_decide_eq_true da_
       obtain ⟨ad692, e692, hx692_0⟩ := Kd.at_string (Kd.R_reads' HO_3.out).2.2 x5_1 p692 q692
       cases e692
       replace p692 := eq_true p692
       replace q692 := eq_true q692
       go_wp2_with (first | ((with_reducible refine gate_callee (f := 17) rfl ?_); refine gL (some 24) Tryz.func17 #[.string (rdOf ByteArray.empty t688 x5_1)] ?_; (with_reducible refine (spec_LinOk.calls k1 (rdOf ByteArray.empty t688 x5_1) false _ A7.out).mono ?_); rintro e w' ⟨rfl, ⟨nd, rfl⟩⟩; refine ⟨_, rfl, ?_⟩))
       go_ret
       exact ⟨fi_, m0_⟩
     ·rw [if_neg c6] at H
      exact absurd H (by simp)
    ·rw [if_neg c5] at H
     have c5b0 : decide (x5_1 < (t688.length : Int)) = false := decide_eq_false c5
     clear c5
     obtain ⟨t694, A11, H⟩ := bse H
     try dsimp only at H
     obtain rfl := Option.some.inj H
     obtain ⟨Ao12, co12, eo12⟩ := Kd.R_slice HO_3.out
     subst eo12
     go_wp2_with (first | ((with_reducible refine gate_callee (f := 17) rfl ?_); refine gL (some 27) Tryz.func17 #[.string t689] ?_; (with_reducible refine (spec_LinOk.calls k1 t689 t694 _ A11.out).mono ?_); rintro e w' ⟨rfl, ⟨nd, rfl⟩⟩; refine ⟨_, rfl, ?_⟩))
     go_ret
     exact ⟨fi_, m0_⟩
def spec_l20Stream.l0 : Nat → ByteArray → Int → List Int → Int → Option (ByteArray × Int)
 | 0, _, _, _, _ => none
 | k + 1, x3, x4, x1000, x1001 => if x4 > 0 then ((spec_l20Line.f k x1000 x1001).bind fun bt658 => (if x3.size + bt658.1.size ≤ 9223372036854775807 then (if (x3 ++ bt658.1).size + 1 ≤ 9223372036854775807 then (if (((x3 ++ bt658.1) ++ (⟨#[59]⟩ : ByteArray)).size : Int) ≤ 120 then (spec_l20Stream.l0 k ((x3 ++ bt658.1) ++ (⟨#[59]⟩ : ByteArray)) (wrap64 (x4 - 1)) x1000 bt658.2) else (spec_l20Stream.l0 k x3 (wrap64 (x4 - 1)) x1000 bt658.2)) else (none)) else (none))) else ((spec_l20Rd_pick.f k x1000 x1001 3).bind fun bt660 => (if bt660.1 = 0 then ((spec_l20Line.f k x1000 bt660.2).bind fun bt662 => (if (wrap64 ((x3.size : Int) + (bt662.1.size : Int))) ≤ 120 then (if x3.size + bt662.1.size ≤ 9223372036854775807 then (some (x3 ++ bt662.1, bt662.2)) else (none)) else (some (x3, bt662.2)))) else (some (x3, bt660.2))))
def spec_l20Stream.f (k : Nat) (s0_0 : List Int) (s0_1 : Int) : Option (ByteArray × Int) := (spec_l20Rd_pick.f k s0_0 s0_1 9).bind fun bt656 => (spec_l20Stream.l0 k (⟨#[]⟩ : ByteArray) bt656.1 s0_0 bt656.2)
theorem spec_l20Stream.mono_l : ∀ k, (∀ y0 y1 y2 y3, LeO (spec_l20Stream.l0 k y0 y1 y2 y3) (spec_l20Stream.l0 (k + 1) y0 y1 y2 y3))
 | 0 => fun _ _ _ _ r h => by simp [spec_l20Stream.l0] at h
 | k + 1 => by
  have ih0 := spec_l20Stream.mono_l k
  ·intro y0 y1 y2 y3
   unfold spec_l20Stream.l0
   repeat' first | (with_reducible first | exact ih0 _ _ _ _ | exact spec_l20Line.mono _ _ _ | exact spec_l20Rd_pick.mono _ _ _ _ | exact LeO.refl _ | exact LeO.none _ | refine LeO.ite ?_ ?_ | refine LeO.bind ?_ (fun _ => ?_)) | exact ih0 _ _ _ _ | exact spec_l20Line.mono _ _ _ | exact spec_l20Rd_pick.mono _ _ _ _ | exact LeO.none _ | refine LeO.ite ?_ ?_ | refine LeO.bind ?_ (fun _ => ?_)
theorem spec_l20Stream.mono : ∀ a0 a1 k, LeO (spec_l20Stream.f k a0 a1) (spec_l20Stream.f (k + 1) a0 a1) := by
 intro a0 a1 k
 have ih0 := spec_l20Stream.mono_l k
 unfold spec_l20Stream.f
 repeat' first | (with_reducible first | exact ih0 _ _ _ _ | exact spec_l20Line.mono _ _ _ | exact spec_l20Rd_pick.mono _ _ _ _ | exact LeO.refl _ | exact LeO.none _ | refine LeO.ite ?_ ?_ | refine LeO.bind ?_ (fun _ => ?_)) | exact ih0 _ _ _ _ | exact spec_l20Line.mono _ _ _ | exact spec_l20Rd_pick.mono _ _ _ _ | exact LeO.none _ | refine LeO.ite ?_ ?_ | refine LeO.bind ?_ (fun _ => ?_)
set_option maxHeartbeats 8000000 in
set_option maxRecDepth 100000 in
theorem spec_l20Stream.calls (k : Nat) (g : Nat) (s0_0 : List Int) (s0_1 : Int) (r1 : ByteArray) (r2 : Int) (w0 w : World) (hI : IsS84 w0 w g s0_0 s0_1) (hB : Below w0.heap.size w0 w) (h : spec_l20Stream.f k s0_0 s0_1 = some (r1, r2)) :
  Calls Tryz.prog 95 #[.pointer (some ⟨g, 0, none⟩)] w fun e w' => e = .returned (.string r1) ∧ IsS84 w0 w' g s0_0 r2 ∧ Below w0.heap.size w0 w' ∧ KeepBut w w' g none := by
 have HI0 := am hI
 have HK := am (KeepBut.refl w g none)
 have HL := am hB.size
 clear hI
 have HW0 := am hB.size
 have HB := am hB
 clear hB
 have H : ((spec_l20Rd_pick.f k s0_0 s0_1 9).bind fun bt656 => (spec_l20Stream.l0 k (⟨#[]⟩ : ByteArray) bt656.1 s0_0 bt656.2)) = some (r1, r2) := h
 clear h
 obtain ⟨⟨t656, t657⟩, A2, H⟩ := bse H
 try dsimp only at H
 have H' := am H
 clear H
 go_enter Tryz.func95, Tryz.ntmps95
 go_wp2_with (first | ((with_reducible refine gate_callee (f := 63) rfl ?_); refine gL (some 8) Tryz.func63 #[.pointer (some ⟨g, 0, none⟩), .int .i64 9] ?_; (with_reducible refine (spec_l20Rd_pick.calls k g s0_0 s0_1 9 t656 t657 w0 _ ?side1 ?side2 A2.out).mono ?_); (case side1 => exact m25_); (case side2 => exact m23_); rintro e w3 ⟨rfl, hi, hb, hk⟩; refine ⟨_, rfl, ?_⟩; replace HK := am (KeepBut.trans m24_ hk (.inl rfl)); replace HB := am hb; replace HI0 := am hi; (try clear hb); (try clear hk); (try clear hi)))
 go_loopg [3, 4] k (fun kq v3 v4 w' => ∃ (x3_1 : ByteArray) (x4_1 : Int) (x1001_1 : Int), v3 = .string x3_1 ∧ v4 = .int .i64 x4_1 ∧ Aside0 (spec_l20Stream.l0 kq x3_1 x4_1 s0_0 x1001_1 = some (r1, r2)) ∧ Aside0 (kq ≤ k) ∧ Aside0 (IsS84 w0 w' g s0_0 x1001_1) ∧ Aside0 (KeepBut w w' g none) ∧ Aside0 (Below w0.heap.size w0 w'))
 case atStart => exact ⟨((⟨#[]⟩ : ByteArray)), (t656), (t657), rs_, rs_, H', ⟨Nat.le_refl _⟩, ⟨m25_⟩, ⟨m24_⟩, ⟨m23_⟩⟩
 case round =>
  clear H'
  try clear p2
  obtain ⟨x3_1, x4_1, x1001_1, rfl, rfl, HA, HK1, HI0, HK, HB⟩ := hrel
  cases gk with
  | zero => exact absurd HA.out (by simp [spec_l20Stream.l0])
  | succ k1 =>
   have H := HA.out
   clear HA
   simp only [spec_l20Stream.l0] at H
   by_cases c4 : x4_1 > 0
   ·rw [if_pos c4] at H
    have c4b0 : decide (0 < x4_1) = true := decide_eq_true c4
    clear c4
    obtain ⟨⟨t658, t659⟩, A5, H⟩ := bse H
    try dsimp only at H
    by_cases c6 : x3_1.size + t658.size ≤ 9223372036854775807
    ·rw [if_pos c6] at H
     have c6b0 := eq_true c6
     have c6b1 : decide (x3_1.size + t658.size ≤ 9223372036854775807) = true := decide_eq_true c6
     try have c6b2 : (9223372036854775807 < x3_1.size + t658.size) = False := eq_false (Nat.not_lt.2 c6)
     by_cases c7 : (x3_1 ++ t658).size + 1 ≤ 9223372036854775807
     ·rw [if_pos c7] at H
      have c7b0 := eq_true c7
      have c7b1 : decide ((x3_1 ++ t658).size + 1 ≤ 9223372036854775807) = true := decide_eq_true c7
      try have c7b2 : (9223372036854775807 < (x3_1 ++ t658).size + 1) = False := eq_false (Nat.not_lt.2 c7)
      try have c7b3 : (9223372036854775807 < x3_1.size + t658.size + 1) = False := (by have z_ := c7b2; simp only [ByteArray.size_append] at z_; exact z_)
      by_cases c8 : (((x3_1 ++ t658) ++ (⟨#[59]⟩ : ByteArray)).size : Int) ≤ 120
      ·rw [if_pos c8] at H
       have c8b0 : decide ((((x3_1 ++ t658) ++ (⟨#[59]⟩ : ByteArray)).size : Int) ≤ 120) = true := decide_eq_true c8
       have c8b1 : decide (((x3_1 ++ t658) ++ (⟨#[59]⟩ : ByteArray)).size ≤ 120) = true := decide_eq_true (by omega)
       try have c8b3 : decide ((x3_1.size : Int) + (t658.size : Int) + 1 ≤ 120) = true := (by have z_ := c8b0; simp only [ByteArray.size_append, Int.natCast_add] at z_; exact z_)
       clear c8
       have H' := am H
       clear H
       go_wp2_with (first | ((with_reducible refine gate_callee (f := 42) rfl ?_); refine gL (some 15) Tryz.func42 #[.pointer (some ⟨g, 0, none⟩)] ?_; (with_reducible refine (spec_l20Line.calls k1 g s0_0 x1001_1 t658 t659 w0 _ ?side1 ?side2 A5.out).mono ?_); (case side1 => exact m25_); (case side2 => exact m23_); rintro e w9 ⟨rfl, hi, hb, hk⟩; refine ⟨_, rfl, ?_⟩; replace HK := am (KeepBut.trans m24_ hk (.inl rfl)); replace HB := am hb; replace HI0 := am hi; (try clear hb); (try clear hk); (try clear hi)))
       go_roundg k1
       case measure => have := HK1.out; omega
       case rel => exact ⟨((x3_1 ++ t658) ++ (⟨#[59]⟩ : ByteArray)), (wrap64 (x4_1 - 1)), (t659), rs_, rs_, H', ⟨by have := HK1.out; omega⟩, ⟨m25_⟩, ⟨m24_⟩, ⟨m23_⟩⟩
      ·rw [if_neg c8] at H
       have c8b0 : decide ((((x3_1 ++ t658) ++ (⟨#[59]⟩ : ByteArray)).size : Int) ≤ 120) = false := decide_eq_false c8
       have c8b1 : decide (((x3_1 ++ t658) ++ (⟨#[59]⟩ : ByteArray)).size ≤ 120) = false := decide_eq_false (by omega)
       try have c8b3 : decide ((x3_1.size : Int) + (t658.size : Int) + 1 ≤ 120) = false := (by have z_ := c8b0; simp only [ByteArray.size_append, Int.natCast_add] at z_; exact z_)
       clear c8
       have H' := am H
       clear H
       go_wp2_with (first | ((with_reducible refine gate_callee (f := 42) rfl ?_); refine gL (some 15) Tryz.func42 #[.pointer (some ⟨g, 0, none⟩)] ?_; (with_reducible refine (spec_l20Line.calls k1 g s0_0 x1001_1 t658 t659 w0 _ ?side1 ?side2 A5.out).mono ?_); (case side1 => exact m25_); (case side2 => exact m23_); rintro e w10 ⟨rfl, hi, hb, hk⟩; refine ⟨_, rfl, ?_⟩; replace HK := am (KeepBut.trans m24_ hk (.inl rfl)); replace HB := am hb; replace HI0 := am hi; (try clear hb); (try clear hk); (try clear hi)))
       go_roundg k1
       case measure => have := HK1.out; omega
       case rel => exact ⟨(x3_1), (wrap64 (x4_1 - 1)), (t659), rs_, rs_, H', ⟨by have := HK1.out; omega⟩, ⟨m25_⟩, ⟨m24_⟩, ⟨m23_⟩⟩
     ·rw [if_neg c7] at H
      exact absurd H (by simp)
    ·rw [if_neg c6] at H
     exact absurd H (by simp)
   ·rw [if_neg c4] at H
    have c4b0 : decide (0 < x4_1) = false := decide_eq_false c4
    clear c4
    obtain ⟨⟨t660, t661⟩, A11, H⟩ := bse H
    try dsimp only at H
    by_cases c12 : t660 = 0
    ·rw [if_pos c12] at H
     have c12b0 : (t660 == 0) = true := beq_iff_eq.mpr c12
     have c12b1 : (t660 != 0) = false := bne_eq_false_iff_eq.mpr c12
     clear c12
     obtain ⟨⟨t662, t663⟩, A13, H⟩ := bse H
     try dsimp only at H
     by_cases c14 : (wrap64 ((x3_1.size : Int) + (t662.size : Int))) ≤ 120
     ·rw [if_pos c14] at H
      have c14b0 : decide ((wrap64 ((x3_1.size : Int) + (t662.size : Int))) ≤ 120) = true := decide_eq_true c14
      clear c14
      by_cases c15 : x3_1.size + t662.size ≤ 9223372036854775807
      ·rw [if_pos c15] at H
       have c15b0 := eq_true c15
       have c15b1 : decide (x3_1.size + t662.size ≤ 9223372036854775807) = true := decide_eq_true c15
       try have c15b2 : (9223372036854775807 < x3_1.size + t662.size) = False := eq_false (Nat.not_lt.2 c15)
       try have c15b5 : decide ((x3_1.size : Int) + (t662.size : Int) ≤ 120) = true := (by have z_ := of_decide_eq_true c14b0; have y_ := of_decide_eq_true c15b1; unfold wrap64 at z_; exact decide_eq_true (by omega))
       simp only [Option.some.injEq, Prod.mk.injEq] at H
       obtain ⟨rfl, rfl⟩ := H
       go_wp2_with (first | ((with_reducible refine gate_callee (f := 63) rfl ?_); refine gL (some 23) Tryz.func63 #[.pointer (some ⟨g, 0, none⟩), .int .i64 3] ?_; (with_reducible refine (spec_l20Rd_pick.calls k1 g s0_0 x1001_1 3 t660 t661 w0 _ ?side1 ?side2 A11.out).mono ?_); (case side1 => exact m25_); (case side2 => exact m23_); rintro e w16 ⟨rfl, hi, hb, hk⟩; refine ⟨_, rfl, ?_⟩; replace HK := am (KeepBut.trans m24_ hk (.inl rfl)); replace HB := am hb; replace HI0 := am hi; (try clear hb); (try clear hk); (try clear hi)) | ((with_reducible refine gate_callee (f := 42) rfl ?_); refine gL (some 26) Tryz.func42 #[.pointer (some ⟨g, 0, none⟩)] ?_; (with_reducible refine (spec_l20Line.calls k1 g s0_0 t661 t662 t663 w0 _ ?side1 ?side2 A13.out).mono ?_); (case side1 => exact m25_); (case side2 => exact m23_); rintro e w17 ⟨rfl, hi, hb, hk⟩; refine ⟨_, rfl, ?_⟩; replace HK := am (KeepBut.trans m24_ hk (.inl rfl)); replace HB := am hb; replace HI0 := am hi; (try clear hb); (try clear hk); (try clear hi)))
       go_ret
       exact ⟨fi_, m25_, m23_, m24_⟩
      ·rw [if_neg c15] at H
       exact absurd H (by simp)
     ·rw [if_neg c14] at H
      have c14b0 : decide ((wrap64 ((x3_1.size : Int) + (t662.size : Int))) ≤ 120) = false := decide_eq_false c14
      clear c14
      simp only [Option.some.injEq, Prod.mk.injEq] at H
      obtain ⟨rfl, rfl⟩ := H
      go_wp2_with (first | ((with_reducible refine gate_callee (f := 63) rfl ?_); refine gL (some 23) Tryz.func63 #[.pointer (some ⟨g, 0, none⟩), .int .i64 3] ?_; (with_reducible refine (spec_l20Rd_pick.calls k1 g s0_0 x1001_1 3 t660 t661 w0 _ ?side1 ?side2 A11.out).mono ?_); (case side1 => exact m25_); (case side2 => exact m23_); rintro e w18 ⟨rfl, hi, hb, hk⟩; refine ⟨_, rfl, ?_⟩; replace HK := am (KeepBut.trans m24_ hk (.inl rfl)); replace HB := am hb; replace HI0 := am hi; (try clear hb); (try clear hk); (try clear hi)) | ((with_reducible refine gate_callee (f := 42) rfl ?_); refine gL (some 26) Tryz.func42 #[.pointer (some ⟨g, 0, none⟩)] ?_; (with_reducible refine (spec_l20Line.calls k1 g s0_0 t661 t662 t663 w0 _ ?side1 ?side2 A13.out).mono ?_); (case side1 => exact m25_); (case side2 => exact m23_); rintro e w19 ⟨rfl, hi, hb, hk⟩; refine ⟨_, rfl, ?_⟩; replace HK := am (KeepBut.trans m24_ hk (.inl rfl)); replace HB := am hb; replace HI0 := am hi; (try clear hb); (try clear hk); (try clear hi)))
      go_ret
      exact ⟨fi_, m25_, m23_, m24_⟩
    ·rw [if_neg c12] at H
     have c12b0 : (t660 == 0) = false := beq_eq_false_iff_ne.mpr c12
     have c12b1 : (t660 != 0) = true := bne_iff_ne.mpr c12
     simp only [Option.some.injEq, Prod.mk.injEq] at H
     obtain ⟨rfl, rfl⟩ := H
     go_wp2_with (first | ((with_reducible refine gate_callee (f := 63) rfl ?_); refine gL (some 23) Tryz.func63 #[.pointer (some ⟨g, 0, none⟩), .int .i64 3] ?_; (with_reducible refine (spec_l20Rd_pick.calls k1 g s0_0 x1001_1 3 t660 t661 w0 _ ?side1 ?side2 A11.out).mono ?_); (case side1 => exact m25_); (case side2 => exact m23_); rintro e w20 ⟨rfl, hi, hb, hk⟩; refine ⟨_, rfl, ?_⟩; replace HK := am (KeepBut.trans m24_ hk (.inl rfl)); replace HB := am hb; replace HI0 := am hi; (try clear hb); (try clear hk); (try clear hi)))
     go_ret
     exact ⟨fi_, m25_, m23_, m24_⟩
def spec_l20StreamOr.l0 : Nat → ByteArray → List Int → Int → Option (ByteArray × Int)
 | 0, _, _, _ => none
 | k + 1, x5, x1000, x1001 => if (x5.size : Int) ≤ 120 then (if x5.size + 5 ≤ 9223372036854775807 then (spec_l20StreamOr.l0 k (x5 ++ (⟨#[108, 105, 115, 116, 59]⟩ : ByteArray)) x1000 x1001) else (none)) else (some (x5, x1001))
def spec_l20StreamOr.f (k : Nat) (s0_0 : List Int) (s0_1 : Int) (a1 : Int) : Option (ByteArray × Int) := (spec_l20Stream.f k s0_0 s0_1).bind fun bt664 => ((spec_l20Rd_odd.f k s0_0 bt664.2 a1).bind fun bt666 => (if bt666.1 = true then ((spec_l20Rd_pick.f k s0_0 bt666.2 3).bind fun bt668 => (if bt668.1 = 0 then ((spec_l20Bent.f k s0_0 bt668.2 bt664.1).bind fun bt670 => (some (bt670.1, bt670.2))) else (if bt668.1 = 1 then (if bt664.1.size + 18 ≤ 9223372036854775807 then (some (bt664.1 ++ (⟨#[97, 98, 99, 100, 101, 102, 103, 104, 105, 106, 32, 107, 108, 109, 110, 111, 112, 59]⟩ : ByteArray), bt668.2)) else (none)) else (spec_l20StreamOr.l0 k bt664.1 s0_0 bt668.2)))) else (some (bt664.1, bt666.2))))
theorem spec_l20StreamOr.mono_l : ∀ k, (∀ y0 y1 y2, LeO (spec_l20StreamOr.l0 k y0 y1 y2) (spec_l20StreamOr.l0 (k + 1) y0 y1 y2))
 | 0 => fun _ _ _ r h => by simp [spec_l20StreamOr.l0] at h
 | k + 1 => by
  have ih0 := spec_l20StreamOr.mono_l k
  ·intro y0 y1 y2
   unfold spec_l20StreamOr.l0
   repeat' first | (with_reducible first | exact ih0 _ _ _ | exact spec_l20Bent.mono _ _ _ _ | exact spec_l20Rd_odd.mono _ _ _ _ | exact spec_l20Rd_pick.mono _ _ _ _ | exact spec_l20Stream.mono _ _ _ | exact LeO.refl _ | exact LeO.none _ | refine LeO.ite ?_ ?_ | refine LeO.bind ?_ (fun _ => ?_)) | exact ih0 _ _ _ | exact spec_l20Bent.mono _ _ _ _ | exact spec_l20Rd_odd.mono _ _ _ _ | exact spec_l20Rd_pick.mono _ _ _ _ | exact spec_l20Stream.mono _ _ _ | exact LeO.none _ | refine LeO.ite ?_ ?_ | refine LeO.bind ?_ (fun _ => ?_)
theorem spec_l20StreamOr.mono : ∀ a0 a1 a2 k, LeO (spec_l20StreamOr.f k a0 a1 a2) (spec_l20StreamOr.f (k + 1) a0 a1 a2) := by
 intro a0 a1 a2 k
 have ih0 := spec_l20StreamOr.mono_l k
 unfold spec_l20StreamOr.f
 repeat' first | (with_reducible first | exact ih0 _ _ _ | exact spec_l20Bent.mono _ _ _ _ | exact spec_l20Rd_odd.mono _ _ _ _ | exact spec_l20Rd_pick.mono _ _ _ _ | exact spec_l20Stream.mono _ _ _ | exact LeO.refl _ | exact LeO.none _ | refine LeO.ite ?_ ?_ | refine LeO.bind ?_ (fun _ => ?_)) | exact ih0 _ _ _ | exact spec_l20Bent.mono _ _ _ _ | exact spec_l20Rd_odd.mono _ _ _ _ | exact spec_l20Rd_pick.mono _ _ _ _ | exact spec_l20Stream.mono _ _ _ | exact LeO.none _ | refine LeO.ite ?_ ?_ | refine LeO.bind ?_ (fun _ => ?_)
set_option maxHeartbeats 8000000 in
set_option maxRecDepth 100000 in
theorem spec_l20StreamOr.calls (k : Nat) (g : Nat) (s0_0 : List Int) (s0_1 : Int) (a1 : Int) (r1 : ByteArray) (r2 : Int) (w0 w : World) (hI : IsS84 w0 w g s0_0 s0_1) (hB : Below w0.heap.size w0 w) (h : spec_l20StreamOr.f k s0_0 s0_1 a1 = some (r1, r2)) :
  Calls Tryz.prog 67 #[.pointer (some ⟨g, 0, none⟩), .int .i64 a1] w fun e w' => e = .returned (.string r1) ∧ IsS84 w0 w' g s0_0 r2 ∧ Below w0.heap.size w0 w' ∧ KeepBut w w' g none := by
 have HI0 := am hI
 have HK := am (KeepBut.refl w g none)
 have HL := am hB.size
 clear hI
 have HW0 := am hB.size
 have HB := am hB
 clear hB
 have H : ((spec_l20Stream.f k s0_0 s0_1).bind fun bt664 => ((spec_l20Rd_odd.f k s0_0 bt664.2 a1).bind fun bt666 => (if bt666.1 = true then ((spec_l20Rd_pick.f k s0_0 bt666.2 3).bind fun bt668 => (if bt668.1 = 0 then ((spec_l20Bent.f k s0_0 bt668.2 bt664.1).bind fun bt670 => (some (bt670.1, bt670.2))) else (if bt668.1 = 1 then (if bt664.1.size + 18 ≤ 9223372036854775807 then (some (bt664.1 ++ (⟨#[97, 98, 99, 100, 101, 102, 103, 104, 105, 106, 32, 107, 108, 109, 110, 111, 112, 59]⟩ : ByteArray), bt668.2)) else (none)) else (spec_l20StreamOr.l0 k bt664.1 s0_0 bt668.2)))) else (some (bt664.1, bt666.2))))) = some (r1, r2) := h
 clear h
 obtain ⟨⟨t664, t665⟩, A3, H⟩ := bse H
 try dsimp only at H
 obtain ⟨⟨t666, t667⟩, A4, H⟩ := bse H
 try dsimp only at H
 by_cases c5 : t666 = true
 ·subst c5
  have H1 : ((spec_l20Rd_pick.f k s0_0 t667 3).bind fun bt668 => (if bt668.1 = 0 then ((spec_l20Bent.f k s0_0 bt668.2 t664).bind fun bt670 => (some (bt670.1, bt670.2))) else (if bt668.1 = 1 then (if t664.size + 18 ≤ 9223372036854775807 then (some (t664 ++ (⟨#[97, 98, 99, 100, 101, 102, 103, 104, 105, 106, 32, 107, 108, 109, 110, 111, 112, 59]⟩ : ByteArray), bt668.2)) else (none)) else (spec_l20StreamOr.l0 k t664 s0_0 bt668.2)))) = some (r1, r2) := by rw [if_pos rfl] at H; exact H
  clear H
  have H := H1
  clear H1
  obtain ⟨⟨t668, t669⟩, A6, H⟩ := bse H
  try dsimp only at H
  by_cases c7 : t668 = 0
  ·rw [if_pos c7] at H
   have c7b0 : (t668 == 0) = true := beq_iff_eq.mpr c7
   have c7b1 : (t668 != 0) = false := bne_eq_false_iff_eq.mpr c7
   clear c7
   obtain ⟨⟨t670, t671⟩, A8, H⟩ := bse H
   try dsimp only at H
   simp only [Option.some.injEq, Prod.mk.injEq] at H
   obtain ⟨rfl, rfl⟩ := H
   go_enter Tryz.func67, Tryz.ntmps67
   go_wp2_with (first | ((with_reducible refine gate_callee (f := 95) rfl ?_); refine gL (some 7) Tryz.func95 #[.pointer (some ⟨g, 0, none⟩)] ?_; (with_reducible refine (spec_l20Stream.calls k g s0_0 s0_1 t664 t665 w0 _ ?side1 ?side2 A3.out).mono ?_); (case side1 => exact m25_); (case side2 => exact m23_); rintro e w9 ⟨rfl, hi, hb, hk⟩; refine ⟨_, rfl, ?_⟩; replace HK := am (KeepBut.trans m24_ hk (.inl rfl)); replace HB := am hb; replace HI0 := am hi; (try clear hb); (try clear hk); (try clear hi)) | ((with_reducible refine gate_callee (f := 43) rfl ?_); refine gL (some 10) Tryz.func43 #[.pointer (some ⟨g, 0, none⟩), .int .i64 a1] ?_; (with_reducible refine (spec_l20Rd_odd.calls k g s0_0 t665 a1 true t667 w0 _ ?side1 ?side2 A4.out).mono ?_); (case side1 => exact m25_); (case side2 => exact m23_); rintro e w10 ⟨rfl, hi, hb, hk⟩; refine ⟨_, rfl, ?_⟩; replace HK := am (KeepBut.trans m24_ hk (.inl rfl)); replace HB := am hb; replace HI0 := am hi; (try clear hb); (try clear hk); (try clear hi)) | ((with_reducible refine gate_callee (f := 63) rfl ?_); refine gL (some 12) Tryz.func63 #[.pointer (some ⟨g, 0, none⟩), .int .i64 3] ?_; (with_reducible refine (spec_l20Rd_pick.calls k g s0_0 t667 3 t668 t669 w0 _ ?side1 ?side2 A6.out).mono ?_); (case side1 => exact m25_); (case side2 => exact m23_); rintro e w11 ⟨rfl, hi, hb, hk⟩; refine ⟨_, rfl, ?_⟩; replace HK := am (KeepBut.trans m24_ hk (.inl rfl)); replace HB := am hb; replace HI0 := am hi; (try clear hb); (try clear hk); (try clear hi)) | ((with_reducible refine gate_callee (f := 44) rfl ?_); refine gL (some 17) Tryz.func44 #[.pointer (some ⟨g, 0, none⟩), .string t664] ?_; (with_reducible refine (spec_l20Bent.calls k g s0_0 t669 t664 t670 t671 w0 _ ?side1 ?side2 A8.out).mono ?_); (case side1 => exact m25_); (case side2 => exact m23_); rintro e w12 ⟨rfl, hi, hb, hk⟩; refine ⟨_, rfl, ?_⟩; replace HK := am (KeepBut.trans m24_ hk (.inl rfl)); replace HB := am hb; replace HI0 := am hi; (try clear hb); (try clear hk); (try clear hi)))
   go_ret
   exact ⟨fi_, m25_, m23_, m24_⟩
  ·rw [if_neg c7] at H
   have c7b0 : (t668 == 0) = false := beq_eq_false_iff_ne.mpr c7
   have c7b1 : (t668 != 0) = true := bne_iff_ne.mpr c7
   by_cases c13 : t668 = 1
   ·rw [if_pos c13] at H
    have c13b0 : (t668 == 1) = true := beq_iff_eq.mpr c13
    have c13b1 : (t668 != 1) = false := bne_eq_false_iff_eq.mpr c13
    clear c13
    by_cases c14 : t664.size + 18 ≤ 9223372036854775807
    ·rw [if_pos c14] at H
     have c14b0 := eq_true c14
     have c14b1 : decide (t664.size + 18 ≤ 9223372036854775807) = true := decide_eq_true c14
     try have c14b2 : (9223372036854775807 < t664.size + 18) = False := eq_false (Nat.not_lt.2 c14)
     simp only [Option.some.injEq, Prod.mk.injEq] at H
     obtain ⟨rfl, rfl⟩ := H
     go_enter Tryz.func67, Tryz.ntmps67
     go_wp2_with (first | ((with_reducible refine gate_callee (f := 95) rfl ?_); refine gL (some 7) Tryz.func95 #[.pointer (some ⟨g, 0, none⟩)] ?_; (with_reducible refine (spec_l20Stream.calls k g s0_0 s0_1 t664 t665 w0 _ ?side1 ?side2 A3.out).mono ?_); (case side1 => exact m25_); (case side2 => exact m23_); rintro e w15 ⟨rfl, hi, hb, hk⟩; refine ⟨_, rfl, ?_⟩; replace HK := am (KeepBut.trans m24_ hk (.inl rfl)); replace HB := am hb; replace HI0 := am hi; (try clear hb); (try clear hk); (try clear hi)) | ((with_reducible refine gate_callee (f := 43) rfl ?_); refine gL (some 10) Tryz.func43 #[.pointer (some ⟨g, 0, none⟩), .int .i64 a1] ?_; (with_reducible refine (spec_l20Rd_odd.calls k g s0_0 t665 a1 true t667 w0 _ ?side1 ?side2 A4.out).mono ?_); (case side1 => exact m25_); (case side2 => exact m23_); rintro e w16 ⟨rfl, hi, hb, hk⟩; refine ⟨_, rfl, ?_⟩; replace HK := am (KeepBut.trans m24_ hk (.inl rfl)); replace HB := am hb; replace HI0 := am hi; (try clear hb); (try clear hk); (try clear hi)) | ((with_reducible refine gate_callee (f := 63) rfl ?_); refine gL (some 12) Tryz.func63 #[.pointer (some ⟨g, 0, none⟩), .int .i64 3] ?_; (with_reducible refine (spec_l20Rd_pick.calls k g s0_0 t667 3 t668 t669 w0 _ ?side1 ?side2 A6.out).mono ?_); (case side1 => exact m25_); (case side2 => exact m23_); rintro e w17 ⟨rfl, hi, hb, hk⟩; refine ⟨_, rfl, ?_⟩; replace HK := am (KeepBut.trans m24_ hk (.inl rfl)); replace HB := am hb; replace HI0 := am hi; (try clear hb); (try clear hk); (try clear hi)))
     go_ret
     exact ⟨fi_, m25_, m23_, m24_⟩
    ·rw [if_neg c14] at H
     exact absurd H (by simp)
   ·rw [if_neg c13] at H
    have c13b0 : (t668 == 1) = false := beq_eq_false_iff_ne.mpr c13
    have c13b1 : (t668 != 1) = true := bne_iff_ne.mpr c13
    have H' := am H
    clear H
    go_enter Tryz.func67, Tryz.ntmps67
    go_wp2_with (first | ((with_reducible refine gate_callee (f := 95) rfl ?_); refine gL (some 7) Tryz.func95 #[.pointer (some ⟨g, 0, none⟩)] ?_; (with_reducible refine (spec_l20Stream.calls k g s0_0 s0_1 t664 t665 w0 _ ?side1 ?side2 A3.out).mono ?_); (case side1 => exact m25_); (case side2 => exact m23_); rintro e w18 ⟨rfl, hi, hb, hk⟩; refine ⟨_, rfl, ?_⟩; replace HK := am (KeepBut.trans m24_ hk (.inl rfl)); replace HB := am hb; replace HI0 := am hi; (try clear hb); (try clear hk); (try clear hi)) | ((with_reducible refine gate_callee (f := 43) rfl ?_); refine gL (some 10) Tryz.func43 #[.pointer (some ⟨g, 0, none⟩), .int .i64 a1] ?_; (with_reducible refine (spec_l20Rd_odd.calls k g s0_0 t665 a1 true t667 w0 _ ?side1 ?side2 A4.out).mono ?_); (case side1 => exact m25_); (case side2 => exact m23_); rintro e w19 ⟨rfl, hi, hb, hk⟩; refine ⟨_, rfl, ?_⟩; replace HK := am (KeepBut.trans m24_ hk (.inl rfl)); replace HB := am hb; replace HI0 := am hi; (try clear hb); (try clear hk); (try clear hi)) | ((with_reducible refine gate_callee (f := 63) rfl ?_); refine gL (some 12) Tryz.func63 #[.pointer (some ⟨g, 0, none⟩), .int .i64 3] ?_; (with_reducible refine (spec_l20Rd_pick.calls k g s0_0 t667 3 t668 t669 w0 _ ?side1 ?side2 A6.out).mono ?_); (case side1 => exact m25_); (case side2 => exact m23_); rintro e w20 ⟨rfl, hi, hb, hk⟩; refine ⟨_, rfl, ?_⟩; replace HK := am (KeepBut.trans m24_ hk (.inl rfl)); replace HB := am hb; replace HI0 := am hi; (try clear hb); (try clear hk); (try clear hi)))
    go_loopg [5] k (fun kq v5 w' => ∃ (x5_1 : ByteArray), v5 = .string x5_1 ∧ Aside0 (spec_l20StreamOr.l0 kq x5_1 s0_0 t669 = some (r1, r2)) ∧ Aside0 (kq ≤ k) ∧ Aside0 (IsS84 w0 w' g s0_0 t669) ∧ Aside0 (KeepBut w w' g none) ∧ Aside0 (Below w0.heap.size w0 w'))
    case atStart => exact ⟨(t664), rs_, H', ⟨Nat.le_refl _⟩, ⟨m25_⟩, ⟨m24_⟩, ⟨m23_⟩⟩
    case round =>
     clear H'
     try clear c1
     try clear p2
     try clear c4
     try clear c5
     try clear c6
     try clear c7
     try clear c7b0
     try clear c7b1
     try clear c9
     try clear c13
     try clear c13b0
     try clear c13b1
     try clear c14
     try clear c14b0
     try clear c14b1
     try clear c14b2
     obtain ⟨x5_1, rfl, HA, HK1, HI0, HK, HB⟩ := hrel
     cases gk with
     | zero => exact absurd HA.out (by simp [spec_l20StreamOr.l0])
     | succ k1 =>
      have H := HA.out
      clear HA
      simp only [spec_l20StreamOr.l0] at H
      by_cases c21 : (x5_1.size : Int) ≤ 120
      ·rw [if_pos c21] at H
       have c21b0 : decide ((x5_1.size : Int) ≤ 120) = true := decide_eq_true c21
       have c21b1 : decide (x5_1.size ≤ 120) = true := decide_eq_true (by omega)
       clear c21
       by_cases c22 : x5_1.size + 5 ≤ 9223372036854775807
       ·rw [if_pos c22] at H
        have c22b0 := eq_true c22
        have c22b1 : decide (x5_1.size + 5 ≤ 9223372036854775807) = true := decide_eq_true c22
        try have c22b2 : (9223372036854775807 < x5_1.size + 5) = False := eq_false (Nat.not_lt.2 c22)
        have H' := am H
        clear H
        go_wp2
        go_roundg k1
        case measure => have := HK1.out; omega
        case rel => exact ⟨(x5_1 ++ (⟨#[108, 105, 115, 116, 59]⟩ : ByteArray)), rs_, H', ⟨by have := HK1.out; omega⟩, ⟨m25_⟩, ⟨m24_⟩, ⟨m23_⟩⟩
       ·rw [if_neg c22] at H
        exact absurd H (by simp)
      ·rw [if_neg c21] at H
       have c21b0 : decide ((x5_1.size : Int) ≤ 120) = false := decide_eq_false c21
       have c21b1 : decide (x5_1.size ≤ 120) = false := decide_eq_false (by omega)
       clear c21
       simp only [Option.some.injEq, Prod.mk.injEq] at H
       obtain ⟨rfl, rfl⟩ := H
       go_wp2
       go_ret
       exact ⟨fi_, m25_, m23_, m24_⟩
 ·replace c5 := Bool.eq_false_iff.mpr c5
  subst c5
  have H1 : (some (t664, t667)) = some (r1, r2) := by rw [if_neg (show ¬ (false = true) by decide)] at H; exact H
  clear H
  have H := H1
  clear H1
  simp only [Option.some.injEq, Prod.mk.injEq] at H
  obtain ⟨rfl, rfl⟩ := H
  go_enter Tryz.func67, Tryz.ntmps67
  go_wp2_with (first | ((with_reducible refine gate_callee (f := 95) rfl ?_); refine gL (some 7) Tryz.func95 #[.pointer (some ⟨g, 0, none⟩)] ?_; (with_reducible refine (spec_l20Stream.calls k g s0_0 s0_1 t664 t665 w0 _ ?side1 ?side2 A3.out).mono ?_); (case side1 => exact m25_); (case side2 => exact m23_); rintro e w23 ⟨rfl, hi, hb, hk⟩; refine ⟨_, rfl, ?_⟩; replace HK := am (KeepBut.trans m24_ hk (.inl rfl)); replace HB := am hb; replace HI0 := am hi; (try clear hb); (try clear hk); (try clear hi)) | ((with_reducible refine gate_callee (f := 43) rfl ?_); refine gL (some 10) Tryz.func43 #[.pointer (some ⟨g, 0, none⟩), .int .i64 a1] ?_; (with_reducible refine (spec_l20Rd_odd.calls k g s0_0 t665 a1 false t667 w0 _ ?side1 ?side2 A4.out).mono ?_); (case side1 => exact m25_); (case side2 => exact m23_); rintro e w24 ⟨rfl, hi, hb, hk⟩; refine ⟨_, rfl, ?_⟩; replace HK := am (KeepBut.trans m24_ hk (.inl rfl)); replace HB := am hb; replace HI0 := am hi; (try clear hb); (try clear hk); (try clear hi)))
  go_ret
  exact ⟨fi_, m25_, m23_, m24_⟩
def spec_DrawRwrStream.f (k : Nat) (l0 : List Int) : Option ((List (S34)) × ByteArray) := (spec_l20Open.f l0).bind fun bt673 => ((spec_l20Table.f k bt673.1 bt673.2 14).bind fun bt676 => ((spec_l20StreamOr.f k bt673.1 bt676.2 9).bind fun bt680 => (some (bt676.1, bt680.1))))
theorem spec_DrawRwrStream.mono : ∀ a0 k, LeO (spec_DrawRwrStream.f k a0) (spec_DrawRwrStream.f (k + 1) a0) := by
 intro a0 k
 unfold spec_DrawRwrStream.f
 repeat' first | (with_reducible first | exact spec_l20StreamOr.mono _ _ _ _ | exact spec_l20Table.mono _ _ _ _ | exact LeO.refl _ | exact LeO.none _ | refine LeO.ite ?_ ?_ | refine LeO.bind ?_ (fun _ => ?_)) | exact spec_l20StreamOr.mono _ _ _ _ | exact spec_l20Table.mono _ _ _ _ | exact LeO.none _ | refine LeO.ite ?_ ?_ | refine LeO.bind ?_ (fun _ => ?_)
set_option maxHeartbeats 8000000 in
set_option maxRecDepth 100000 in
theorem spec_DrawRwrStream.calls (k : Nat) (A0 : Option Addr) (c0 : Nat) (l0 : List Int) (r1 : List (S34)) (r2 : ByteArray) (w : World) (hr0 : Kd.C (Kd.int .u8) w A0 l0.length l0) (hc0 : l0.length ≤ c0) (h : spec_DrawRwrStream.f k l0 = some (r1, r2)) :
  Calls Tryz.prog 32 #[.slice A0 l0.length c0] w fun e w' => ∃ v0_ : Value, e = .returned (.tuple #[.agg #[v0_], .string r2]) ∧ Kd.R k34 34 w' w.heap.size (fun _ => True) v0_ r1 ∧ Below w.heap.size w w' := by
 have hu25 := Tryz.underlying25
 have HR0 := am hr0
 have HC0 := am hc0
 clear hr0 hc0
 have HB := am (Below.refl w.heap.size w)
 have H : ((spec_l20Open.f l0).bind fun bt673 => ((spec_l20Table.f k bt673.1 bt673.2 14).bind fun bt676 => ((spec_l20StreamOr.f k bt673.1 bt676.2 9).bind fun bt680 => (some (bt676.1, bt680.1))))) = some (r1, r2) := h
 clear h
 obtain ⟨⟨t673, t674⟩, A2, H⟩ := bse H
 try dsimp only at H
 obtain ⟨⟨t676, t679⟩, A3, H⟩ := bse H
 try dsimp only at H
 obtain ⟨⟨t680, t681⟩, A4, H⟩ := bse H
 try dsimp only at H
 simp only [Option.some.injEq, Prod.mk.injEq] at H
 obtain ⟨rfl, rfl⟩ := H
 go_enter Tryz.func32, Tryz.ntmps32
 go_wp2_with (first | ((with_reducible refine gate_dst (N := 2) rfl ?_); refine box_event rfl (N := 2) rfl (cs := #[.slice none 0 0]) (t := 25) hr_ ?_; intro gb672 hg w5 hbox hb; have BK672 := am hbox; have GW672 := gwE HB hg; have GE672 := gwE HB hg; replace HB := hbS HB hb; clear hb hbox hg) | ((with_reducible refine gate_callee (f := 40) rfl ?_); refine gL (some 6) Tryz.func40 #[.slice A0 l0.length c0] ?_; (with_reducible refine (spec_l20Open.calls _ _ l0 t673 t674 w _ ?side1 ?side2 ?side3 A2.out).mono ?_); (case side1 => exact m2_); (case side2 => exact HR0.out); (case side3 => exact HC0.out); rintro e w6 ⟨g675, rfl, hi, hb, hb2⟩; refine ⟨_, rfl, ?_⟩; replace HB := am hb; have HI675 := am hi; have NB675_672 := am (IsS84.ne_blk hi (blk_below (g := gb672) (o := .cells #[.slice none 0 0] 25 (0, 0)) (bk BK672) hb2) (by decide)); have NB672_675 := am (Ne.symm (IsS84.ne_blk hi (blk_below (g := gb672) (o := .cells #[.slice none 0 0] 25 (0, 0)) (bk BK672) hb2) (by decide))); replace BK672 := am (blk_below (g := gb672) (o := .cells #[.slice none 0 0] 25 (0, 0)) (bk BK672) hb2); (try clear hb); (try clear hb2); (try clear hi)) | ((with_reducible refine gate_callee (f := 41) rfl ?_); refine gL (some 8) Tryz.func41 #[.pointer (some ⟨g675, 0, none⟩), .int .i64 14] ?_; (with_reducible refine (spec_l20Table.calls k g675 t673 t674 14 t676 t679 w _ ?side1 ?side2 A3.out).mono ?_); (case side1 => exact m19_); (case side2 => exact m20_); rintro e w7 ⟨v677, rfl, ho0, hi, hb, hk⟩; refine ⟨_, rfl, ?_⟩; replace BK672 := am (KeepBut.blk hk (g' := gb672) (o := .cells #[.slice none 0 0] 25 (0, 0)) (bk BK672) NB672_675.out (by simp)); have HO678 := am (Kd.R_lower ho0 (below_size m20_)); replace HB := am hb; replace HI675 := am hi; (try clear hb); (try clear hk); (try clear hi); (try clear ho0)) | ((with_reducible refine gate_callee (f := 67) rfl ?_); refine gL (some 10) Tryz.func67 #[.pointer (some ⟨g675, 0, none⟩), .int .i64 9] ?_; (with_reducible refine (spec_l20StreamOr.calls k g675 t673 t679 9 t680 t681 w _ ?side1 ?side2 A4.out).mono ?_); (case side1 => exact m19_); (case side2 => exact m20_); rintro e w8 ⟨rfl, hi, hb, hk⟩; refine ⟨_, rfl, ?_⟩; replace BK672 := am (KeepBut.blk hk (g' := gb672) (o := .cells #[.slice none 0 0] 25 (0, 0)) (bk BK672) NB672_675.out (by simp)); replace HO678 := am (Kd.R_mono (Kd.R_keep (IsS84.apart (show IsS84 w _ g675 t673 t679 from m19_) (rs HO678) (by decide)) hk (fun _ h => h.2)) (fun _ h => h.1)); replace HB := am hb; replace HI675 := am hi; (try clear hb); (try clear hk); (try clear hi); obtain ⟨Ao9, co9, eo9⟩ := Kd.R_slice HO678.out; subst eo9; have := NB672_675.out; have := NB675_672.out; have := bcell BK672 0; have := bfz BK672 0))
 refine bodyPost_ret (results_ct rfl _ _ gb672 25 #[.slice Ao9 t676.length co9] (0, 0) _ rfl (by (with_reducible repeat refine bu ?_); refine blk_put (cs := #[.slice none 0 0]) ?_ 0 _ rfl; (with_reducible repeat refine bu ?_); exact BK672.out) Tryz.underlying25 rfl (by kernel_rfl)) rfl ?_
 exact ⟨_, fi_, by (with_reducible repeat apply ru); exact Kd.R_mono (Kd.R_far (p := ⟨gb672, 0, none⟩) (Kd.R_types HO678.out BK672.out (by decide)) (fun _ hk => hk.2) (.slice Ao9 t676.length co9)) (fun _ hk => trivial), m20_⟩
def spec_l3Stream.l0 : Nat → List ByteArray → ByteArray → Int → List (S34) → Option ((List (S34)) × ByteArray)
 | 0, _, _, _, _ => none
 | k + 1, x6, x8, x9, x768000 => if x9 < (x6.length : Int) then (if 0 ≤ x9 then ((spec_l3Line.f k x768000 (rdOf ByteArray.empty x6 x9)).bind fun bt774 => (if x8.size + bt774.2.size ≤ 9223372036854775807 then (if (x8 ++ bt774.2).size + 1 ≤ 9223372036854775807 then (spec_l3Stream.l0 k x6 ((x8 ++ bt774.2) ++ (⟨#[59]⟩ : ByteArray)) (wrap64 (x9 + 1)) bt774.1) else (none)) else (none))) else (none)) else (some (x768000, x8))
def spec_l3Stream.f (k : Nat) (l0_0 : List (S34)) (a1 : ByteArray) : Option ((List (S34)) × ByteArray) := (spec_StrLines.f k a1).bind fun bt769 => (spec_l3Stream.l0 k bt769.1 (⟨#[]⟩ : ByteArray) 0 l0_0)
theorem spec_l3Stream.mono_l : ∀ k, (∀ y0 y1 y2 y3, LeO (spec_l3Stream.l0 k y0 y1 y2 y3) (spec_l3Stream.l0 (k + 1) y0 y1 y2 y3))
 | 0 => fun _ _ _ _ r h => by simp [spec_l3Stream.l0] at h
 | k + 1 => by
  have ih0 := spec_l3Stream.mono_l k
  ·intro y0 y1 y2 y3
   unfold spec_l3Stream.l0
   repeat' first | (with_reducible first | exact ih0 _ _ _ _ | exact spec_StrLines.mono _ _ | exact spec_l3Line.mono _ _ _ | exact LeO.refl _ | exact LeO.none _ | refine LeO.ite ?_ ?_ | refine LeO.bind ?_ (fun _ => ?_)) | exact ih0 _ _ _ _ | exact spec_StrLines.mono _ _ | exact spec_l3Line.mono _ _ _ | exact LeO.none _ | refine LeO.ite ?_ ?_ | refine LeO.bind ?_ (fun _ => ?_)
theorem spec_l3Stream.mono : ∀ a0 a1 k, LeO (spec_l3Stream.f k a0 a1) (spec_l3Stream.f (k + 1) a0 a1) := by
 intro a0 a1 k
 have ih0 := spec_l3Stream.mono_l k
 unfold spec_l3Stream.f
 repeat' first | (with_reducible first | exact ih0 _ _ _ _ | exact spec_StrLines.mono _ _ | exact spec_l3Line.mono _ _ _ | exact LeO.refl _ | exact LeO.none _ | refine LeO.ite ?_ ?_ | refine LeO.bind ?_ (fun _ => ?_)) | exact ih0 _ _ _ _ | exact spec_StrLines.mono _ _ | exact spec_l3Line.mono _ _ _ | exact LeO.none _ | refine LeO.ite ?_ ?_ | refine LeO.bind ?_ (fun _ => ?_)
def spec_l3Stream.T6 : Bool × List (List Nat × List Nat) := (true, [([], []), ([], []), ([], []), ([1, 2], [1, 2]), ([3], [3]), ([0, 4], [0, 4]), ([5], [5]), ([6], [6]), ([6], [6]), ([], []), ([9, 7, 5, 0, 1, 2, 3, 4, 5, 6, 7, 9], [7, 9]), ([8, 10, 0, 1, 2, 3, 4, 5, 6, 7, 8, 9, 10], [8])])
def spec_l3Stream.B6 : List Nat := [0, 0, 0, 6, 14, 31, 63, 127, 127, 0, 767, 2047]
theorem spec_l3Stream.tab6 : rtab .any (opsOf Tryz.f73 6) = spec_l3Stream.T6 := by kernel_rfl
theorem spec_l3Stream.bits6 : waitsOk spec_l3Stream.T6.2 spec_l3Stream.B6 = true := by kernel_rfl
set_option maxHeartbeats 8000000 in
set_option maxRecDepth 100000 in
theorem spec_l3Stream.calls (k : Nat) (P0_0_ : Nat → Prop) (u9000_ : Value) (l0_0 : List (S34)) (a1 : ByteArray) (r1 : List (S34)) (r2 : ByteArray) (w0 w : World) (hB : Below w0.heap.size w0 w) (ho0_0 : Kd.R k34 34 w w0.heap.size P0_0_ u9000_ l0_0) (h : spec_l3Stream.f k l0_0 a1 = some (r1, r2)) :
  Calls Tryz.prog 73 #[.agg #[u9000_], .string a1] w fun e w' => ∃ v0_ : Value, e = .returned (.tuple #[.agg #[v0_], .string r2]) ∧ Kd.R k34 34 w' w0.heap.size (fun k_ => (P0_0_ k_ ∨ w.heap.size ≤ k_)) v0_ r1 ∧ Below w0.heap.size w0 w' ∧ Kept w w' (fun k_ => P0_0_ k_) := by
 have hu25 := Tryz.underlying25
 have HO0_0 := am (show Kd.R k34 34 w w0.heap.size (fun k_ => (P0_0_ k_ ∨ w.heap.size ≤ k_)) u9000_ l0_0 from Kd.R_mono ho0_0 (fun k_ hk => (.inl hk)))
 have HK := am (Kept.refl w (fun k_ => P0_0_ k_))
 have HW0 := am hB.size
 have HB := am hB
 clear hB
 have H : ((spec_StrLines.f k a1).bind fun bt769 => (spec_l3Stream.l0 k bt769.1 (⟨#[]⟩ : ByteArray) 0 l0_0)) = some (r1, r2) := h
 clear h
 obtain ⟨⟨t769, t770⟩, A3, H⟩ := bse H
 try dsimp only at H
 have H' := am H
 clear H
 obtain ⟨Ao4, co4, eo4⟩ := Kd.R_slice HO0_0.out
 subst eo4
 go_enter Tryz.func73, Tryz.ntmps73
 go_wp2_with (first | ((with_reducible refine gate_dst (N := 2) rfl ?_); refine box_event rfl (N := 2) rfl (cs := #[.slice Ao4 l0_0.length co4]) (t := 25) hr_ ?_; intro gb767 hg w5 hbox hb; replace HO0_0 := am (Kd.R_below (rs HO0_0) hb); have BK767 := am hbox; have GW767 := am ((by rw [hg]; exact (by first | exact HK.out.1 | exact (show Kept w _ (fun k_ => P0_0_ k_) from m15_).1) : w.heap.size ≤ gb767)); replace HK := am (Kept.below (S := (fun k_ => P0_0_ k_)) m15_ hb); have GE767 := gwE HB hg; replace HB := hbS HB hb; clear hb hbox hg) | ((with_reducible refine gate_dst (N := 4) rfl ?_); refine box_event rfl (N := 4) rfl (cs := #[.slice none 0 0]) (t := 25) hr_ ?_; intro gb768 hg w6 hbox hb; replace HO0_0 := am (Kd.R_below (rs HO0_0) hb); have BK768 := am hbox; have GW768 := am ((by rw [hg]; exact (by first | exact HK.out.1 | exact (show Kept w _ (fun k_ => P0_0_ k_) from m16_).1) : w.heap.size ≤ gb768)); replace HK := am (Kept.below (S := (fun k_ => P0_0_ k_)) m16_ hb); have GE768 := gwE HB hg; replace HB := hbS HB hb; have NB767_768 := neL BK767 hg; have NB768_767 := neG BK767 hg; replace BK767 := bkB BK767 hb; clear hb hbox hg) | ((with_reducible refine gate_callee (f := 39) rfl ?_); refine gL (some 14) Tryz.func39 #[.string a1] ?_; (with_reducible refine (spec_StrLines.calls k a1 t769 t770 _ A3.out).mono ?_); rintro e w7 ⟨v771, rfl, ho0, hb⟩; refine ⟨_, rfl, ?_⟩; replace HO0_0 := am (Kd.R_below (rs HO0_0) hb); have HO772 := am (Kd.R_lower (Kd.R_newM (M := fun k_ => (P0_0_ k_ ∨ w.heap.size ≤ k_)) ho0 (by first | exact HK.out.1 | exact (show Kept w _ (fun k_ => P0_0_ k_) from m16_).1) (fun k_ h_ => .inr h_)) (below_size (bl HB))); replace BK767 := bkB BK767 hb; replace BK768 := bkB BK768 hb; replace HK := am (Kept.below (S := (fun k_ => P0_0_ k_)) m16_ hb); replace HB := hbS HB hb; (try clear hb); (try clear ho0)))
 go_loopg [8, 9] k (fun kq v8 v9 w' => ∃ (x8_1 : ByteArray) (x9_1 : Int) (x768000_1 : List (S34)) (u768000 : Value), v8 = .string x8_1 ∧ v9 = .int .i64 x9_1 ∧ Aside0 (spec_l3Stream.l0 kq t769 x8_1 x9_1 x768000_1 = some (r1, r2)) ∧ Aside0 (kq ≤ k) ∧ Aside0 (Kd.R Kd.string 9 w' w0.heap.size (fun k_ => (P0_0_ k_ ∨ w.heap.size ≤ k_)) v771 t769) ∧ Aside0 (Kd.R k34 34 w' w0.heap.size (fun k_ => (P0_0_ k_ ∨ w.heap.size ≤ k_)) u768000 x768000_1) ∧ Aside0 (w'.heap[gb767]? = some (.cells #[u768000] 25 (0, 0))) ∧ Aside0 (w'.heap[gb768]? = some (.cells #[(.slice none 0 0)] 25 (0, 0))) ∧ Aside0 (Kept w w' (fun k_ => P0_0_ k_)) ∧ Aside0 (Below w0.heap.size w0 w'))
 case atStart => exact ⟨((⟨#[]⟩ : ByteArray)), (0), (l0_0), (.slice Ao4 l0_0.length co4), rs_, rs_, H', ⟨Nat.le_refl _⟩, ⟨by (with_reducible repeat apply ru); exact Kd.R_mono HO772.out (fun _ hk => hk.1)⟩, ⟨by (with_reducible repeat apply ru); exact HO0_0.out⟩, ⟨bk BK767⟩, ⟨bk BK768⟩, ⟨m16_⟩, ⟨m2_⟩⟩
 case round =>
  clear H'
  try clear p2
  try clear c3
  try clear c7
  obtain ⟨x8_1, x9_1, x768000_1, u768000, rfl, rfl, HA, HK1, HO_6, HO_768000, BK767, BK768, HK, HB⟩ := hrel
  cases gk with
  | zero => exact absurd HA.out (by simp [spec_l3Stream.l0])
  | succ k1 =>
   have H := HA.out
   clear HA
   simp only [spec_l3Stream.l0] at H
   by_cases c8 : x9_1 < (t769.length : Int)
   ·rw [if_pos c8] at H
    have c8b0 : decide (x9_1 < (t769.length : Int)) = true := decide_eq_true c8
    clear c8
    by_cases c9 : 0 ≤ x9_1
    ·rw [if_pos c9] at H
     have c9b0 : decide (0 ≤ x9_1) = true := decide_eq_true c9
     clear c9
     obtain ⟨⟨t774, t777⟩, A10, H⟩ := bse H
     try dsimp only at H
     by_cases c11 : x8_1.size + t777.size ≤ 9223372036854775807
     ·rw [if_pos c11] at H
      have c11b0 := eq_true c11
      have c11b1 : decide (x8_1.size + t777.size ≤ 9223372036854775807) = true := decide_eq_true c11
      try have c11b2 : (9223372036854775807 < x8_1.size + t777.size) = False := eq_false (Nat.not_lt.2 c11)
      by_cases c12 : (x8_1 ++ t777).size + 1 ≤ 9223372036854775807
      ·rw [if_pos c12] at H
       have c12b0 := eq_true c12
       have c12b1 : decide ((x8_1 ++ t777).size + 1 ≤ 9223372036854775807) = true := decide_eq_true c12
       try have c12b2 : (9223372036854775807 < (x8_1 ++ t777).size + 1) = False := eq_false (Nat.not_lt.2 c12)
       try have c12b3 : (9223372036854775807 < x8_1.size + t777.size + 1) = False := (by have z_ := c12b2; simp only [ByteArray.size_append] at z_; exact z_)
       have H' := am H
       clear H
       obtain ⟨Ao13, co13, eo13⟩ := Kd.R_slice HO_6.out
       subst eo13
       obtain ⟨Ao14, co14, eo14⟩ := Kd.R_slice HO_768000.out
       subst eo14
       try go_wp2
       replace HO_6 := am (Kd.R_drew HO_6.out)
       replace HO_768000 := am (Kd.R_drew HO_768000.out)
       replace BK767 := am (blk_drew BK767.out)
       replace BK768 := am (blk_drew BK768.out)
       replace HK := am (Kept.drew HK.out)
       replace HB := am (below_drew1 HB.out)
       have p773 : 0 ≤ (x9_1 : Int) := of_decide_eq_true da_
       have q773 : x9_1 < (t769.length : Int) := of_decide_eq_true da_
       obtain ⟨ad773, e773, hx773_0⟩ := Kd.at_string (Kd.R_reads' HO_6.out).2.2 x9_1 p773 q773
       cases e773
       replace p773 := eq_true p773
       replace q773 := eq_true q773
       refine start_ (n := 12) (S := fun w' => w'.cell? ⟨gb767, 0, none⟩ = some (.slice Ao14 x768000_1.length co14) ∧ w'.cell? (ad773.add (x9_1).toNat) = some (.string (rdOf ByteArray.empty t769 x9_1))) (ds := []) #[false, false, false, false, false, false, false, false, false, false, false, false] (by kernel_rfl) rfl rfl ⟨bcell BK767 0, hx773_0⟩ (fun hHeld => ?_); refine with_tabW spec_l3Stream.tab6 spec_l3Stream.bits6 (fun HT_ HW_ => ?_)
       generalize wr.drew = w15 at HO_6 HO_768000 BK767 BK768 HK HB hx773_0 hHeld ⊢
       refine pu_ 1 (some 25) (bm 12 2) ?_
       refine pu_ 2 (some 26) (bm 12 6) ?_
       refine pu_ 3 (some 27) (bm 12 14) ?_
       refine tk_ 0 (some 24) (bm 12 15) rfl (.inl ⟨rfl, m3_⟩) ?_
       refine tk_ 4 (some 28) (bm 12 31) rfl (.inl ⟨rfl, m3_⟩) ?_
       refine join_ (σ := Value × Nat) 2 #[true, true, true, true, true, true, true, true, true, true, false, false] (fun s_ => [(29, .tuple #[.agg #[s_.1], .string t777]), (10, .pointer (some ⟨s_.2, 0, none⟩)), (23, .tuple #[.agg #[s_.1], .string t777]), (30, .agg #[s_.1]), (31, .string t777)]) (fun s_ w' => (w'.cell? ⟨gb767, 0, none⟩ = some (.slice Ao14 x768000_1.length co14) ∧ w'.cell? (ad773.add (x9_1).toNat) = some (.string (rdOf ByteArray.empty t769 x9_1))) ∧ (Kd.R k34 34 w' w0.heap.size (fun k_ => (P0_0_ k_ ∨ w.heap.size ≤ k_)) s_.1 t774) ∧ (Kd.R Kd.string 9 w' w0.heap.size (fun k_ => (P0_0_ k_ ∨ w.heap.size ≤ k_)) (.slice (some ad773) t769.length co13) t769) ∧ (w'.heap[gb767]? = some (.cells #[.slice Ao14 x768000_1.length co14] 25 (0, 0))) ∧ (w'.heap[gb768]? = some (.cells #[.slice none 0 0] 25 (0, 0))) ∧ (w'.heap[s_.2]? = some (.cells #[.slice none 0 0] 25 (0, 0))) ∧ (w.heap.size ≤ s_.2) ∧ (w0.heap.size ≤ s_.2) ∧ (gb767 ≠ s_.2) ∧ (s_.2 ≠ gb767) ∧ (gb768 ≠ s_.2) ∧ (s_.2 ≠ gb768) ∧ (Kept w w' (fun k_ => P0_0_ k_)) ∧ (Below w0.heap.size w0 w')) ?_ ?_
       rotate_left
       ·intro hCont
        refine two_ (i := 5) (j := 9) (Ni := some 29) (Nj := some 10) #[true, true, true, true, true, true, false, false, false, false, false, false] #[true, true, true, true, true, false, false, false, false, true, false, false] rfl rfl rfl rfl (two_of HT_.out (by kernel_rfl)) (by decide) (by decide) (fun K hK => ?_) (fun K hK => ?_)
        ·skip
         refine gR Tryz.func46 #[.agg #[.slice Ao14 x768000_1.length co14], .string (rdOf ByteArray.empty t769 x9_1)] ?_
         with_reducible refine (spec_l3Line.calls k1 (fun k_ => some k_ = (.slice Ao14 x768000_1.length co14 : Value).ownBlock) (.slice Ao14 x768000_1.length co14) x768000_1 (rdOf ByteArray.empty t769 x9_1) t774 t777 w0 _ ?side1 ?side2 A10.out).mono ?_
         (case side1 => exact m2_)
         (case side2 => exact Kd.R_tight rfl HO_768000.out)
         rintro e w16 ⟨v775, rfl, ho0, hb, hkp⟩
         have HS1_ := ckp_ (hHeld.2) hkp (by first | (rw [add_block]; exact (fun hs_ => ((((Kd.R_apart' HO_6.out (Kd.R_typed HO_768000.out) (by decide))).1 _ rfl).2) hs_)) | (show ¬ _; simp only [add_block]; exact (fun hs_ => ((((Kd.R_apart' HO_6.out (Kd.R_typed HO_768000.out) (by decide))).1 _ rfl).2) hs_)) | exact (fun hs_ => ((((Kd.R_apart' HO_6.out (Kd.R_typed HO_768000.out) (by decide))).1 _ rfl).2) hs_))
         refine ⟨_, rfl, ?_⟩
         replace HO_6 := am (Kd.R_mono (ok' := fun k_ => (P0_0_ k_ ∨ w.heap.size ≤ k_)) (Kd.R_keptB ((Kd.R_apart' HO_6.out (Kd.R_typed HO_768000.out) (by decide))) hkp (fun k_ hk_ hs_ => (hk_.2) hs_)) (fun k_ hk_ => hk_.1.1))
         replace BK767 := am (blk_kept (bk BK767) hkp (fun hs_ => (fun e_ => (Kd.R_ne HO_768000.out BK767.out (by decide)) e_) hs_))
         replace BK768 := am (blk_kept (bk BK768) hkp (fun hs_ => (fun e_ => (Kd.R_ne HO_768000.out BK768.out (by decide)) e_) hs_))
         have HO776 := am (Kd.R_mono (ok' := fun k_ => (P0_0_ k_ ∨ w.heap.size ≤ k_)) ho0 (fun k_ hk_ => Or.elim hk_ (fun hs_ => (HO_768000.out.1 k_ (hs_).symm)) (fun hn_ => (.inr (Nat.le_trans (by first | exact HK.out.1 | exact (show Kept w _ (fun k_ => P0_0_ k_) from m16_).1) hn_)))))
         replace HK := am (Kept.then_ (S := (fun k_ => P0_0_ k_)) m16_ hkp (fun k_ hs_ => (fun e_ => (HO_768000.out.1 k_ e_.symm)) hs_))
         replace HB := am hb
         clear HO_768000
         (try clear hb)
         (try clear hkp)
         (try clear ho0)
         refine hK.out _ _ ⟨bcell BK767 0, HS1_⟩ (fun hHeld => ?_)
         clear hK K
         refine nm_ ?_
         refine pu_ 6 (some 23) (bm 12 127) ?_
         refine pu_ 7 (some 30) (bm 12 255) ?_
         refine pu_ 8 (some 31) (bm 12 511) ?_
         refine on_ 9 (some 10) (bm 12 1023) (fun K hK => ?_)
         refine box_step rfl (N := 10) rfl (cs := #[.slice none 0 0]) (t := 25) hr_ ?_
         intro gb778 hg w17 hbox hb
         have HS1_ := bch hb (hHeld.2)
         replace HO_6 := am (Kd.R_below (rs HO_6) hb)
         replace HO776 := am (Kd.R_below (rs HO776) hb)
         have BK778 := am hbox
         have GW778 := am ((by rw [hg]; exact (by first | exact HK.out.1 | exact (show Kept w _ (fun k_ => P0_0_ k_) from m16_).1) : w.heap.size ≤ gb778))
         replace HK := am (Kept.below (S := (fun k_ => P0_0_ k_)) m16_ hb)
         have GE778 := gwE HB hg
         replace HB := hbS HB hb
         have NB767_778 := neL BK767 hg
         have NB778_767 := neG BK767 hg
         replace BK767 := bkB BK767 hb
         have NB768_778 := neL BK768 hg
         have NB778_768 := neG BK768 hg
         replace BK768 := bkB BK768 hb
         clear hb hbox hg
         refine hK.out _ _ ⟨bcell BK767 0, HS1_⟩ (fun hHeld => ?_)
         clear hK K
         refine nm_ ?_
         exact norm_ (by simp only [putAll, Act.put, List.setIfInBounds_toArray, List.set_cons_zero, List.set_cons_succ]) (hCont (v775, gb778) _ ⟨hHeld, (rs HO776), (rs HO_6), (bk BK767), (bk BK768), (bk BK778), GW778.out, GE778.out, NB767_778.out, NB778_767.out, NB768_778.out, NB778_768.out, m16_, (bl HB)⟩)
        ·skip
         refine box_step rfl (N := 10) rfl (cs := #[.slice none 0 0]) (t := 25) hr_ ?_
         intro gb778 hg w16 hbox hb
         have HS1_ := bch hb (hHeld.2)
         replace HO_6 := am (Kd.R_below (rs HO_6) hb)
         replace HO_768000 := am (Kd.R_below (rs HO_768000) hb)
         have BK778 := am hbox
         have GW778 := am ((by rw [hg]; exact (by first | exact HK.out.1 | exact (show Kept w _ (fun k_ => P0_0_ k_) from m16_).1) : w.heap.size ≤ gb778))
         replace HK := am (Kept.below (S := (fun k_ => P0_0_ k_)) m16_ hb)
         have GE778 := gwE HB hg
         replace HB := hbS HB hb
         have NB767_778 := neL BK767 hg
         have NB778_767 := neG BK767 hg
         replace BK767 := bkB BK767 hb
         have NB768_778 := neL BK768 hg
         have NB778_768 := neG BK768 hg
         replace BK768 := bkB BK768 hb
         clear hb hbox hg
         refine hK.out _ _ ⟨bcell BK767 0, HS1_⟩ (fun hHeld => ?_)
         clear hK K
         refine nm_ ?_
         refine on_ 5 (some 29) (bm 12 575) (fun K hK => ?_)
         refine gR Tryz.func46 #[.agg #[.slice Ao14 x768000_1.length co14], .string (rdOf ByteArray.empty t769 x9_1)] ?_
         with_reducible refine (spec_l3Line.calls k1 (fun k_ => some k_ = (.slice Ao14 x768000_1.length co14 : Value).ownBlock) (.slice Ao14 x768000_1.length co14) x768000_1 (rdOf ByteArray.empty t769 x9_1) t774 t777 w0 _ ?side1 ?side2 A10.out).mono ?_
         (case side1 => exact m2_)
         (case side2 => exact Kd.R_tight rfl HO_768000.out)
         rintro e w17 ⟨v775, rfl, ho0, hb, hkp⟩
         have HS1_ := ckp_ (hHeld.2) hkp (by first | (rw [add_block]; exact (fun hs_ => ((((Kd.R_apart' HO_6.out (Kd.R_typed HO_768000.out) (by decide))).1 _ rfl).2) hs_)) | (show ¬ _; simp only [add_block]; exact (fun hs_ => ((((Kd.R_apart' HO_6.out (Kd.R_typed HO_768000.out) (by decide))).1 _ rfl).2) hs_)) | exact (fun hs_ => ((((Kd.R_apart' HO_6.out (Kd.R_typed HO_768000.out) (by decide))).1 _ rfl).2) hs_))
         refine ⟨_, rfl, ?_⟩
         replace HO_6 := am (Kd.R_mono (ok' := fun k_ => (P0_0_ k_ ∨ w.heap.size ≤ k_)) (Kd.R_keptB ((Kd.R_apart' HO_6.out (Kd.R_typed HO_768000.out) (by decide))) hkp (fun k_ hk_ hs_ => (hk_.2) hs_)) (fun k_ hk_ => hk_.1.1))
         replace BK767 := am (blk_kept (bk BK767) hkp (fun hs_ => (fun e_ => (Kd.R_ne HO_768000.out BK767.out (by decide)) e_) hs_))
         replace BK768 := am (blk_kept (bk BK768) hkp (fun hs_ => (fun e_ => (Kd.R_ne HO_768000.out BK768.out (by decide)) e_) hs_))
         replace BK778 := am (blk_kept (bk BK778) hkp (fun hs_ => (fun e_ => (Kd.R_ne HO_768000.out BK778.out (by decide)) e_) hs_))
         have HO776 := am (Kd.R_mono (ok' := fun k_ => (P0_0_ k_ ∨ w.heap.size ≤ k_)) ho0 (fun k_ hk_ => Or.elim hk_ (fun hs_ => (HO_768000.out.1 k_ (hs_).symm)) (fun hn_ => (.inr (Nat.le_trans (by first | exact HK.out.1 | exact (show Kept w _ (fun k_ => P0_0_ k_) from m16_).1) hn_)))))
         replace HK := am (Kept.then_ (S := (fun k_ => P0_0_ k_)) m16_ hkp (fun k_ hs_ => (fun e_ => (HO_768000.out.1 k_ e_.symm)) hs_))
         replace HB := am hb
         clear HO_768000
         (try clear hb)
         (try clear hkp)
         (try clear ho0)
         refine hK.out _ _ ⟨bcell BK767 0, HS1_⟩ (fun hHeld => ?_)
         clear hK K
         refine nm_ ?_
         refine pu_ 6 (some 23) (bm 12 639) ?_
         refine pu_ 7 (some 30) (bm 12 767) ?_
         refine pu_ 8 (some 31) (bm 12 1023) ?_
         exact norm_ (by simp only [putAll, Act.put, List.setIfInBounds_toArray, List.set_cons_zero, List.set_cons_succ]) (hCont (v775, gb778) _ ⟨hHeld, (rs HO776), (rs HO_6), (bk BK767), (bk BK768), (bk BK778), GW778.out, GE778.out, NB767_778.out, NB778_767.out, NB768_778.out, NB778_768.out, m16_, (bl HB)⟩)
       rintro ⟨v775, gb778⟩ w18 ⟨hS_, h0_, h1_, h2_, h3_, h4_, h5_, h6_, h7_, h8_, h9_, h10_, h11_, h12_⟩
       have n0_ : Aside0 (Kd.R k34 34 w18 w0.heap.size (fun k_ => (P0_0_ k_ ∨ w.heap.size ≤ k_)) v775 t774) := ⟨h0_⟩
       have n1_ : Aside0 (Kd.R Kd.string 9 w18 w0.heap.size (fun k_ => (P0_0_ k_ ∨ w.heap.size ≤ k_)) (.slice (some ad773) t769.length co13) t769) := ⟨h1_⟩
       have n2_ : Aside0 (w18.heap[gb767]? = some (.cells #[.slice Ao14 x768000_1.length co14] 25 (0, 0))) := ⟨h2_⟩
       have n3_ : Aside0 (w18.heap[gb768]? = some (.cells #[.slice none 0 0] 25 (0, 0))) := ⟨h3_⟩
       have n4_ : Aside0 (w18.heap[gb778]? = some (.cells #[.slice none 0 0] 25 (0, 0))) := ⟨h4_⟩
       have n5_ : Aside0 (w.heap.size ≤ gb778) := ⟨h5_⟩
       have n6_ : Aside0 (w0.heap.size ≤ gb778) := ⟨h6_⟩
       have n7_ : Aside0 (gb767 ≠ gb778) := ⟨h7_⟩
       have n8_ : Aside0 (gb778 ≠ gb767) := ⟨h8_⟩
       have n9_ : Aside0 (gb768 ≠ gb778) := ⟨h9_⟩
       have n10_ : Aside0 (gb778 ≠ gb768) := ⟨h10_⟩
       have n11_ : Aside0 (Kept w w18 (fun k_ => P0_0_ k_)) := ⟨h11_⟩
       have n12_ : Aside0 (Below w0.heap.size w0 w18) := ⟨h12_⟩
       clear HO_6
       clear HO_768000
       clear BK767
       clear BK768
       clear HK
       clear HB
       clear h0_ h1_ h2_ h3_ h4_ h5_ h6_ h7_ h8_ h9_ h10_ h11_ h12_
       have HO776 := n0_
       have HO_6 := n1_
       have BK767 := n2_
       have BK768 := n3_
       have BK778 := n4_
       have GW778 := n5_
       have GE778 := n6_
       have NB767_778 := n7_
       have NB778_767 := n8_
       have NB768_778 := n9_
       have NB778_768 := n10_
       have HK := n11_
       have HB := n12_
       clear n0_ n1_ n2_ n3_ n4_ n5_ n6_ n7_ n8_ n9_ n10_ n11_ n12_
       have hHeld : w18.cell? ⟨gb767, 0, none⟩ = some (.slice Ao14 x768000_1.length co14) ∧ w18.cell? (ad773.add (x9_1).toNat) = some (.string (rdOf ByteArray.empty t769 x9_1)) := hS_
       obtain ⟨Ao19, co19, eo19⟩ := Kd.R_slice HO776.out
       (first | subst eo19 | (injection eo19 with f1_ f2_ f3_; have f4_ := f1_.symm; have f5_ := f3_.symm; clear f1_ f2_ f3_; subst f4_; subst f5_))
       refine norm_ (a' := ?_) ?_ ?_
       rotate_left
       ·simp only [putAll, Act.put, List.setIfInBounds_toArray, List.set_cons_zero, List.set_cons_succ]
        rfl
       refine on_ 10 none (bm 12 2047) (fun K hK => ?_)
       have : w18.cell? ⟨gb778, 0, none⟩ = some (.slice none 0 0) := bcell BK778 0
       have := bfz BK778 0
       have := NB767_778.out
       have := NB768_778.out
       have := NB778_767.out
       have := NB778_768.out
       refine skip_ (w1 := ?_) (by rfl) rfl ?_ ?_
       rotate_left
       ·go_simp
        rfl
       refine hK.out _ _ ⟨((cell_far (p := ⟨gb778, _, none⟩) NB767_778.out _).trans (hHeld.1)), ((cell_far (p := ⟨gb778, _, none⟩) (by first | exact Kd.own_blk (Kd.R_ne HO_6.out BK778.out (by decide)) | (rw [add_block]; exact Kd.own_blk (Kd.R_ne HO_6.out BK778.out (by decide))) | (show (Addr.add _ _).block ≠ _; rw [add_block]; exact Kd.own_blk (Kd.R_ne HO_6.out BK778.out (by decide))) | (dsimp only; exact Kd.own_blk (Kd.R_ne HO_6.out BK778.out (by decide)))) _).trans (hHeld.2))⟩ (fun hHeld => ?_)
       clear hK K
       refine pu_ 11 (some 11) (bm 12 4095) ?_
       refine done_ (done_of HT_.out (by kernel_rfl)) ?_
       have := NB778_767.out
       have := NB767_778.out
       have := NB778_768.out
       have := NB768_778.out
       have := bcell BK778 0
       have := bfz BK778 0
       have := NB767_768.out
       have := NB768_767.out
       have := bcell BK767 0
       have := bfz BK767 0
       try go_wp2
       go_roundg k1
       case measure => have := HK1.out; omega
       case rel => exact ⟨((x8_1 ++ t777) ++ (⟨#[59]⟩ : ByteArray)), (wrap64 (x9_1 + 1)), (t774), (.slice Ao19 t774.length co19), rs_, rs_, H', ⟨by have := HK1.out; omega⟩, ⟨by (with_reducible repeat apply ru); exact Kd.R_mono (Kd.R_far (p := ⟨gb767, 0, none⟩) (Kd.R_far (p := ⟨gb778, 0, none⟩) (Kd.R_types (Kd.R_types HO_6.out BK778.out (by decide)) BK767.out (by decide)) (fun _ hk => hk.1.2) (.slice Ao19 t774.length co19)) (fun _ hk => hk.2) (.slice Ao19 t774.length co19)) (fun _ hk => hk.1.1)⟩, ⟨by (with_reducible repeat apply ru); exact Kd.R_mono (Kd.R_far (p := ⟨gb767, 0, none⟩) (Kd.R_far (p := ⟨gb778, 0, none⟩) (Kd.R_types (Kd.R_types HO776.out BK778.out (by decide)) BK767.out (by decide)) (fun _ hk => hk.1.2) (.slice Ao19 t774.length co19)) (fun _ hk => hk.2) (.slice Ao19 t774.length co19)) (fun _ hk => hk.1.1)⟩, ⟨by (with_reducible repeat refine bu ?_); refine blk_put (cs := #[.slice Ao14 x768000_1.length co14]) ?_ 0 _ rfl; (with_reducible repeat refine bu ?_); refine blk_far ?_ NB767_778.out _; (with_reducible repeat refine bu ?_); exact BK767.out⟩, bf_ BK768, ⟨m16_⟩, ⟨m2_⟩⟩
      ·rw [if_neg c12] at H
       exact absurd H (by simp)
     ·rw [if_neg c11] at H
      exact absurd H (by simp)
    ·rw [if_neg c9] at H
     exact absurd H (by simp)
   ·rw [if_neg c8] at H
    have c8b0 : decide (x9_1 < (t769.length : Int)) = false := decide_eq_false c8
    clear c8
    simp only [Option.some.injEq, Prod.mk.injEq] at H
    obtain ⟨rfl, rfl⟩ := H
    obtain ⟨Ao26, co26, eo26⟩ := Kd.R_slice HO_6.out
    subst eo26
    have := NB767_768.out
    have := NB768_767.out
    have := bcell BK767 0
    have := bfz BK767 0
    obtain ⟨Ao29, co29, eo29⟩ := Kd.R_slice HO_768000.out
    subst eo29
    have := bcell BK768 0
    have := bfz BK768 0
    go_wp2
    refine bodyPost_ret (results_ct rfl _ _ gb768 25 #[.slice Ao29 x768000_1.length co29] (0, 0) _ rfl (by (with_reducible repeat refine bu ?_); refine blk_put (cs := #[.slice none 0 0]) ?_ 0 _ rfl; (with_reducible repeat refine bu ?_); exact BK768.out) Tryz.underlying25 rfl (by kernel_rfl)) rfl ?_
    exact ⟨_, fi_, by (with_reducible repeat apply ru); exact Kd.R_mono (Kd.R_far (p := ⟨gb768, 0, none⟩) (Kd.R_types HO_768000.out BK768.out (by decide)) (fun _ hk => hk.2) (.slice Ao29 x768000_1.length co29)) (fun _ hk => hk.1), m2_, m16_⟩
end
end Go.Proofs.YtffmbccgcaghjaaGreatDoor.P
