import Derived.Test.YtffmbccgcaghjaaGreatDoorGLawFnRwrStreamx2
import Derived.Lib.CutLaws
import Derived.Lib.CountLaws
import Derived.Lib.SplitLaws
import Derived.Lib.LastIndexByte
import Derived.RangeFuncNested
import Derived.RangeFuncBound
import Derived.RangeFuncCalls
import Derived.RangeFuncLeaves
import Derived.Shelf.Abstract
import Derived.OwnWalkIn
import Derived.TacticsInMore
import Derived.LoopNIn
import Derived.LoopIn
import Derived.Lib.Hide
import Derived.Laws.EntriesVeiled
import Derived.Shelf.Strings.BuilderK
import Derived.Shelf.LaysM
import Derived.Shelf.LaysC
import Derived.Shelf.Strings.Count
import Derived.Shelf.Strings.LastIndex
import Derived.Test.YtffmbccgcaghjaaGreatDoorProg
import Derived.Shelf.Vars
import Derived.Shelf.Lays
namespace Go.Proofs.YtffmbccgcaghjaaGreatDoor.P
open Go.Proofs.YtffmbccgcaghjaaGreatDoorUFnRwrStream.PrintLast Go.Proofs.YtffmbccgcaghjaaGreatDoorUFnRwrStream.PrintMore Go.Proofs.YtffmbccgcaghjaaGreatDoorUFnRwrStream.PrintWords Go.RowKit
set_option linter.unusedVariables false
set_option linter.unusedSimpArgs false
section
attribute [local go_sem] max2_int min2_int max_two min_two max_three min_three max_four min_four
def spec_l20Bent.f (k : Nat) (s0_0 : List Int) (s0_1 : Int) (a1 : ByteArray) : Option (ByteArray × Int) := (spec_l20Rd_pick.f k s0_0 s0_1 (wrap64 ((a1.size : Int) + 1))).bind fun bt252 => ((spec_l20Rd_pick.f k s0_0 bt252.2 256).bind fun bt254 => ((some (([32, 48, 49, 57, 59, 97, 112, bt254.1] : List Int) : List Int)).bind fun y256 => ((spec_l20Rd_pick.f k s0_0 bt254.2 8).bind fun bt259 => (if 0 ≤ bt259.1 then (if bt259.1 < (y256.length : Int) then ((some (([(rd y256 bt259.1) % 256] : List Int) : List Int)).bind fun y262 => ((spec_l20Rd_pick.f k s0_0 bt259.2 3).bind fun bt265 => (if bt265.1 = 0 then (if 0 ≤ bt252.1 then (if bt252.1 ≤ (a1.size : Int) then (if (a1.extract 0 (bt252.1 : Int).toNat).size + (strOfNums y262).size ≤ 9223372036854775807 then (if ((a1.extract 0 (bt252.1 : Int).toNat) ++ (strOfNums y262)).size + (a1.extract (bt252.1 : Int).toNat a1.size).size ≤ 9223372036854775807 then (some (((a1.extract 0 (bt252.1 : Int).toNat) ++ (strOfNums y262)) ++ (a1.extract (bt252.1 : Int).toNat a1.size), bt265.2)) else (none)) else (none)) else (none)) else (none)) else (if bt265.1 = 1 then (if bt252.1 < (a1.size : Int) then (if 0 ≤ bt252.1 then (if bt252.1 ≤ (a1.size : Int) then (if 0 ≤ (wrap64 (bt252.1 + 1)) then (if (wrap64 (bt252.1 + 1)) ≤ (a1.size : Int) then (if (a1.extract 0 (bt252.1 : Int).toNat).size + (a1.extract ((wrap64 (bt252.1 + 1)) : Int).toNat a1.size).size ≤ 9223372036854775807 then (some ((a1.extract 0 (bt252.1 : Int).toNat) ++ (a1.extract ((wrap64 (bt252.1 + 1)) : Int).toNat a1.size), bt265.2)) else (none)) else (none)) else (none)) else (none)) else (none)) else (some (a1, bt265.2))) else (if bt252.1 < (a1.size : Int) then (if 0 ≤ bt252.1 then (if bt252.1 ≤ (a1.size : Int) then (if (a1.extract 0 (bt252.1 : Int).toNat).size + (strOfNums y262).size ≤ 9223372036854775807 then (if 0 ≤ (wrap64 (bt252.1 + 1)) then (if (wrap64 (bt252.1 + 1)) ≤ (a1.size : Int) then (if ((a1.extract 0 (bt252.1 : Int).toNat) ++ (strOfNums y262)).size + (a1.extract ((wrap64 (bt252.1 + 1)) : Int).toNat a1.size).size ≤ 9223372036854775807 then (some (((a1.extract 0 (bt252.1 : Int).toNat) ++ (strOfNums y262)) ++ (a1.extract ((wrap64 (bt252.1 + 1)) : Int).toNat a1.size), bt265.2)) else (none)) else (none)) else (none)) else (none)) else (none)) else (none)) else (some (a1, bt265.2))))))) else (none)) else (none)))))
theorem spec_l20Bent.mono : ∀ a0 a1 a2 k, LeO (spec_l20Bent.f k a0 a1 a2) (spec_l20Bent.f (k + 1) a0 a1 a2) := by
 intro a0 a1 a2 k
 unfold spec_l20Bent.f
 repeat' first | (with_reducible first | exact spec_l20Rd_pick.mono _ _ _ _ | exact LeO.refl _ | exact LeO.none _ | refine LeO.ite ?_ ?_ | refine LeO.bind ?_ (fun _ => ?_)) | exact spec_l20Rd_pick.mono _ _ _ _ | exact LeO.none _ | refine LeO.ite ?_ ?_ | refine LeO.bind ?_ (fun _ => ?_)
set_option maxHeartbeats 8000000 in
set_option maxRecDepth 100000 in
theorem spec_l20Bent.calls (k : Nat) (g : Nat) (s0_0 : List Int) (s0_1 : Int) (a1 : ByteArray) (r1 : ByteArray) (r2 : Int) (w0 w : World) (hI : IsS84 w0 w g s0_0 s0_1) (hB : Below w0.heap.size w0 w) (h : spec_l20Bent.f k s0_0 s0_1 a1 = some (r1, r2)) :
  Calls Tryz.prog 44 #[.pointer (some ⟨g, 0, none⟩), .string a1] w fun e w' => e = .returned (.string r1) ∧ IsS84 w0 w' g s0_0 r2 ∧ Below w0.heap.size w0 w' ∧ KeepBut w w' g none := by
 have HI0 := am hI
 have HK := am (KeepBut.refl w g none)
 have HL := am hB.size
 clear hI
 have HW0 := am hB.size
 have HB := am hB
 clear hB
 have H : ((spec_l20Rd_pick.f k s0_0 s0_1 (wrap64 ((a1.size : Int) + 1))).bind fun bt252 => ((spec_l20Rd_pick.f k s0_0 bt252.2 256).bind fun bt254 => ((some (([32, 48, 49, 57, 59, 97, 112, bt254.1] : List Int) : List Int)).bind fun y256 => ((spec_l20Rd_pick.f k s0_0 bt254.2 8).bind fun bt259 => (if 0 ≤ bt259.1 then (if bt259.1 < (y256.length : Int) then ((some (([(rd y256 bt259.1) % 256] : List Int) : List Int)).bind fun y262 => ((spec_l20Rd_pick.f k s0_0 bt259.2 3).bind fun bt265 => (if bt265.1 = 0 then (if 0 ≤ bt252.1 then (if bt252.1 ≤ (a1.size : Int) then (if (a1.extract 0 (bt252.1 : Int).toNat).size + (strOfNums y262).size ≤ 9223372036854775807 then (if ((a1.extract 0 (bt252.1 : Int).toNat) ++ (strOfNums y262)).size + (a1.extract (bt252.1 : Int).toNat a1.size).size ≤ 9223372036854775807 then (some (((a1.extract 0 (bt252.1 : Int).toNat) ++ (strOfNums y262)) ++ (a1.extract (bt252.1 : Int).toNat a1.size), bt265.2)) else (none)) else (none)) else (none)) else (none)) else (if bt265.1 = 1 then (if bt252.1 < (a1.size : Int) then (if 0 ≤ bt252.1 then (if bt252.1 ≤ (a1.size : Int) then (if 0 ≤ (wrap64 (bt252.1 + 1)) then (if (wrap64 (bt252.1 + 1)) ≤ (a1.size : Int) then (if (a1.extract 0 (bt252.1 : Int).toNat).size + (a1.extract ((wrap64 (bt252.1 + 1)) : Int).toNat a1.size).size ≤ 9223372036854775807 then (some ((a1.extract 0 (bt252.1 : Int).toNat) ++ (a1.extract ((wrap64 (bt252.1 + 1)) : Int).toNat a1.size), bt265.2)) else (none)) else (none)) else (none)) else (none)) else (none)) else (some (a1, bt265.2))) else (if bt252.1 < (a1.size : Int) then (if 0 ≤ bt252.1 then (if bt252.1 ≤ (a1.size : Int) then (if (a1.extract 0 (bt252.1 : Int).toNat).size + (strOfNums y262).size ≤ 9223372036854775807 then (if 0 ≤ (wrap64 (bt252.1 + 1)) then (if (wrap64 (bt252.1 + 1)) ≤ (a1.size : Int) then (if ((a1.extract 0 (bt252.1 : Int).toNat) ++ (strOfNums y262)).size + (a1.extract ((wrap64 (bt252.1 + 1)) : Int).toNat a1.size).size ≤ 9223372036854775807 then (some (((a1.extract 0 (bt252.1 : Int).toNat) ++ (strOfNums y262)) ++ (a1.extract ((wrap64 (bt252.1 + 1)) : Int).toNat a1.size), bt265.2)) else (none)) else (none)) else (none)) else (none)) else (none)) else (none)) else (some (a1, bt265.2))))))) else (none)) else (none)))))) = some (r1, r2) := h
 clear h
 obtain ⟨⟨t252, t253⟩, A3, H⟩ := bse H
 try dsimp only at H
 obtain ⟨⟨t254, t255⟩, A4, H⟩ := bse H
 try dsimp only at H
 obtain ⟨y256, hy256⟩ : ∃ y_ : List Int, y_ = (([32, 48, 49, 57, 59, 97, 112, t254] : List Int)) := ⟨_, rfl⟩
 replace H : ((spec_l20Rd_pick.f k s0_0 t255 8).bind fun bt259 => (if 0 ≤ bt259.1 then (if bt259.1 < (y256.length : Int) then ((some (([(rd y256 bt259.1) % 256] : List Int) : List Int)).bind fun y262 => ((spec_l20Rd_pick.f k s0_0 bt259.2 3).bind fun bt265 => (if bt265.1 = 0 then (if 0 ≤ t252 then (if t252 ≤ (a1.size : Int) then (if (a1.extract 0 (t252 : Int).toNat).size + (strOfNums y262).size ≤ 9223372036854775807 then (if ((a1.extract 0 (t252 : Int).toNat) ++ (strOfNums y262)).size + (a1.extract (t252 : Int).toNat a1.size).size ≤ 9223372036854775807 then (some (((a1.extract 0 (t252 : Int).toNat) ++ (strOfNums y262)) ++ (a1.extract (t252 : Int).toNat a1.size), bt265.2)) else (none)) else (none)) else (none)) else (none)) else (if bt265.1 = 1 then (if t252 < (a1.size : Int) then (if 0 ≤ t252 then (if t252 ≤ (a1.size : Int) then (if 0 ≤ (wrap64 (t252 + 1)) then (if (wrap64 (t252 + 1)) ≤ (a1.size : Int) then (if (a1.extract 0 (t252 : Int).toNat).size + (a1.extract ((wrap64 (t252 + 1)) : Int).toNat a1.size).size ≤ 9223372036854775807 then (some ((a1.extract 0 (t252 : Int).toNat) ++ (a1.extract ((wrap64 (t252 + 1)) : Int).toNat a1.size), bt265.2)) else (none)) else (none)) else (none)) else (none)) else (none)) else (some (a1, bt265.2))) else (if t252 < (a1.size : Int) then (if 0 ≤ t252 then (if t252 ≤ (a1.size : Int) then (if (a1.extract 0 (t252 : Int).toNat).size + (strOfNums y262).size ≤ 9223372036854775807 then (if 0 ≤ (wrap64 (t252 + 1)) then (if (wrap64 (t252 + 1)) ≤ (a1.size : Int) then (if ((a1.extract 0 (t252 : Int).toNat) ++ (strOfNums y262)).size + (a1.extract ((wrap64 (t252 + 1)) : Int).toNat a1.size).size ≤ 9223372036854775807 then (some (((a1.extract 0 (t252 : Int).toNat) ++ (strOfNums y262)) ++ (a1.extract ((wrap64 (t252 + 1)) : Int).toNat a1.size), bt265.2)) else (none)) else (none)) else (none)) else (none)) else (none)) else (none)) else (some (a1, bt265.2))))))) else (none)) else (none))) = some (r1, r2) := by first | (rw [hy256]; with_reducible exact H) | (have H2_ := (Option.bind_some _ _).symm.trans H; rw [hy256]; with_reducible exact H2_) | (have H2_ := (Option.bind_some _ _).symm.trans H; with_reducible exact H2_) | with_reducible exact H | (rw [hy256]; exact H) | exact H
 have Ny256 := am hy256
 clear hy256
 obtain ⟨⟨t259, t260⟩, A5, H⟩ := bse H
 try dsimp only at H
 by_cases c6 : 0 ≤ t259
 ·rw [if_pos c6] at H
  have c6b0 : decide (0 ≤ t259) = true := decide_eq_true c6
  clear c6
  by_cases c7 : t259 < (y256.length : Int)
  ·rw [if_pos c7] at H
   have c7b0 : decide (t259 < (y256.length : Int)) = true := decide_eq_true c7
   clear c7
   obtain ⟨y262, hy262⟩ : ∃ y_ : List Int, y_ = (([(rd y256 t259) % 256] : List Int)) := ⟨_, rfl⟩
   replace H : ((spec_l20Rd_pick.f k s0_0 t260 3).bind fun bt265 => (if bt265.1 = 0 then (if 0 ≤ t252 then (if t252 ≤ (a1.size : Int) then (if (a1.extract 0 (t252 : Int).toNat).size + (strOfNums y262).size ≤ 9223372036854775807 then (if ((a1.extract 0 (t252 : Int).toNat) ++ (strOfNums y262)).size + (a1.extract (t252 : Int).toNat a1.size).size ≤ 9223372036854775807 then (some (((a1.extract 0 (t252 : Int).toNat) ++ (strOfNums y262)) ++ (a1.extract (t252 : Int).toNat a1.size), bt265.2)) else (none)) else (none)) else (none)) else (none)) else (if bt265.1 = 1 then (if t252 < (a1.size : Int) then (if 0 ≤ t252 then (if t252 ≤ (a1.size : Int) then (if 0 ≤ (wrap64 (t252 + 1)) then (if (wrap64 (t252 + 1)) ≤ (a1.size : Int) then (if (a1.extract 0 (t252 : Int).toNat).size + (a1.extract ((wrap64 (t252 + 1)) : Int).toNat a1.size).size ≤ 9223372036854775807 then (some ((a1.extract 0 (t252 : Int).toNat) ++ (a1.extract ((wrap64 (t252 + 1)) : Int).toNat a1.size), bt265.2)) else (none)) else (none)) else (none)) else (none)) else (none)) else (some (a1, bt265.2))) else (if t252 < (a1.size : Int) then (if 0 ≤ t252 then (if t252 ≤ (a1.size : Int) then (if (a1.extract 0 (t252 : Int).toNat).size + (strOfNums y262).size ≤ 9223372036854775807 then (if 0 ≤ (wrap64 (t252 + 1)) then (if (wrap64 (t252 + 1)) ≤ (a1.size : Int) then (if ((a1.extract 0 (t252 : Int).toNat) ++ (strOfNums y262)).size + (a1.extract ((wrap64 (t252 + 1)) : Int).toNat a1.size).size ≤ 9223372036854775807 then (some (((a1.extract 0 (t252 : Int).toNat) ++ (strOfNums y262)) ++ (a1.extract ((wrap64 (t252 + 1)) : Int).toNat a1.size), bt265.2)) else (none)) else (none)) else (none)) else (none)) else (none)) else (none)) else (some (a1, bt265.2)))))) = some (r1, r2) := by first | (rw [hy262]; with_reducible exact H) | (have H2_ := (Option.bind_some _ _).symm.trans H; rw [hy262]; with_reducible exact H2_) | (have H2_ := (Option.bind_some _ _).symm.trans H; with_reducible exact H2_) | with_reducible exact H | (rw [hy262]; exact H) | exact H
   have Ny262 := am hy262
   clear hy262
   obtain ⟨⟨t265, t266⟩, A8, H⟩ := bse H
   try dsimp only at H
   by_cases c9 : t265 = 0
   ·rw [if_pos c9] at H
    have c9b0 : (t265 == 0) = true := beq_iff_eq.mpr c9
    have c9b1 : (t265 != 0) = false := bne_eq_false_iff_eq.mpr c9
    clear c9
    by_cases c10 : 0 ≤ t252
    ·rw [if_pos c10] at H
     have c10b0 := eq_true c10
     have c10b1 : decide (0 ≤ t252) = true := decide_eq_true c10
     clear c10
     by_cases c11 : t252 ≤ (a1.size : Int)
     ·rw [if_pos c11] at H
      have c11b0 := eq_true c11
      have c11b1 : decide (t252 ≤ (a1.size : Int)) = true := decide_eq_true c11
      clear c11
      by_cases c12 : (a1.extract 0 (t252 : Int).toNat).size + (strOfNums y262).size ≤ 9223372036854775807
      ·rw [if_pos c12] at H
       have c12b0 := eq_true c12
       have c12b1 : decide ((a1.extract 0 (t252 : Int).toNat).size + (strOfNums y262).size ≤ 9223372036854775807) = true := decide_eq_true c12
       try have c12b2 : (9223372036854775807 < (a1.extract 0 (t252 : Int).toNat).size + (strOfNums y262).size) = False := eq_false (Nat.not_lt.2 c12)
       have c13b0 := eq_true (of_decide_eq_true da_ : 0 ≤ t252)
       have c14b0 := eq_true (of_decide_eq_true da_ : t252 ≤ (a1.size : Int))
       by_cases c15 : ((a1.extract 0 (t252 : Int).toNat) ++ (strOfNums y262)).size + (a1.extract (t252 : Int).toNat a1.size).size ≤ 9223372036854775807
       ·rw [if_pos c15] at H
        have c15b0 := eq_true c15
        have c15b1 : decide (((a1.extract 0 (t252 : Int).toNat) ++ (strOfNums y262)).size + (a1.extract (t252 : Int).toNat a1.size).size ≤ 9223372036854775807) = true := decide_eq_true c15
        try have c15b2 : (9223372036854775807 < ((a1.extract 0 (t252 : Int).toNat) ++ (strOfNums y262)).size + (a1.extract (t252 : Int).toNat a1.size).size) = False := eq_false (Nat.not_lt.2 c15)
        try have c15b3 : (9223372036854775807 < (a1.extract 0 (t252 : Int).toNat).size + (strOfNums y262).size + (a1.extract (t252 : Int).toNat a1.size).size) = False := (by have z_ := c15b2; simp only [ByteArray.size_append] at z_; exact z_)
        simp only [Option.some.injEq, Prod.mk.injEq] at H
        obtain ⟨rfl, rfl⟩ := H
        go_enter Tryz.func44, Tryz.ntmps44
        iterate 4 ((try go_quiet (fail)); (try go_wp2_with (first | (go_at_call 63; (with_reducible refine (spec_l20Rd_pick.calls k g s0_0 s0_1 (wrap64 ((a1.size : Int) + 1)) t252 t253 w0 _ ?side1 ?side2 A3.out).mono ?_); (case side1 => exact m25_); (case side2 => exact m23_); rintro e w16 ⟨rfl, hi, hb, hk⟩; replace HK := am (KeepBut.trans m24_ hk (.inl rfl)); replace HB := am hb; replace HI0 := am hi; (try clear hb); (try clear hk); (try clear hi)) | (go_at_call 63; (with_reducible refine (spec_l20Rd_pick.calls k g s0_0 t253 256 t254 t255 w0 _ ?side1 ?side2 A4.out).mono ?_); (case side1 => exact m25_); (case side2 => exact m23_); rintro e w17 ⟨rfl, hi, hb, hk⟩; replace HK := am (KeepBut.trans m24_ hk (.inl rfl)); replace HB := am hb; replace HI0 := am hi; (try clear hb); (try clear hk); (try clear hi)) | ((with_reducible refine gate_dst (N := 14) rfl ?_); refine Kd.R_lit (Kd.int .i64) _ 3 rfl (N := 14) rfl (xs := ([32, 48, 49, 57, 59, 97, 112, t254] : List Int)) (inner := [.int .i64 32, .int .i64 48, .int .i64 49, .int .i64 57, .int .i64 59, .int .i64 97, .int .i64 112, .int .i64 t254]) (ok := fun _ => True) (okp := fun _ => True) hr_ ?hp (fun _ hk => hk) trivial (Below.refl _ _) (Nat.le_refl _) (by simp) ?_; (case hp => exact (Reps.one (show Kd.M (Kd.int .i64) _ _ _ 32 [.int .i64 32] from rfl) (Reps.one (show Kd.M (Kd.int .i64) _ _ _ 48 [.int .i64 48] from rfl) (Reps.one (show Kd.M (Kd.int .i64) _ _ _ 49 [.int .i64 49] from rfl) (Reps.one (show Kd.M (Kd.int .i64) _ _ _ 57 [.int .i64 57] from rfl) (Reps.one (show Kd.M (Kd.int .i64) _ _ _ 59 [.int .i64 59] from rfl) (Reps.one (show Kd.M (Kd.int .i64) _ _ _ 97 [.int .i64 97] from rfl) (Reps.one (show Kd.M (Kd.int .i64) _ _ _ 112 [.int .i64 112] from rfl) (Reps.one (show Kd.M (Kd.int .i64) _ _ _ t254 [.int .i64 t254] from rfl) (Reps.none _ _)))))))))); intro v257 w18 ho19 hb hg_ hnew_; clear hg_ hnew_; (first | rw [← Ny256.out] at ho19 | (simp only [Int.reduceToNat] at ho19; rw [← Ny256.out] at ho19)); have HO258 := am (Kd.R_lower ho19 (keep_size (w := w) (g := g) (row := none) m24_)); replace HK := am (KeepBut.trans m24_ (KeepBut.of_below hb g none) (.inl rfl)); replace HB := am (below_step m23_ hb); replace HI0 := am (IsS84.below m25_ hb); clear hb ho19) | (go_at_call 63; (with_reducible refine (spec_l20Rd_pick.calls k g s0_0 t255 8 t259 t260 w0 _ ?side1 ?side2 A5.out).mono ?_); (case side1 => exact m25_); (case side2 => exact m23_); rintro e w20 ⟨rfl, hi, hb, hk⟩; replace HO258 := am (Kd.R_mono (Kd.R_keep (IsS84.apart (show IsS84 w0 _ g s0_0 t255 from m25_) (rs HO258) (by decide)) hk (fun _ h => h.2)) (fun _ h => h.1)); replace HK := am (KeepBut.trans m24_ hk (.inl rfl)); replace HB := am hb; replace HI0 := am hi; (try clear hb); (try clear hk); (try clear hi); obtain ⟨Ao21, co21, eo21⟩ := Kd.R_slice HO258.out; subst eo21; have p261 : 0 ≤ (t259 : Int) := of_decide_eq_true da_; have q261 : t259 < (y256.length : Int) := of_decide_eq_true da_; obtain ⟨ad261, e261, hx261_0⟩ := Kd.at_int (Kd.R_reads' HO258.out).2.2 t259 p261 q261; cases e261; replace p261 := eq_true p261; replace q261 := eq_true q261) | ((with_reducible refine gate_dst (N := 20) rfl ?_); refine Kd.R_lit (Kd.int .u8) _ 5 rfl (N := 20) rfl (xs := ([(rd y256 t259) % 256] : List Int)) (inner := [.int .u8 ((rd y256 t259) % 256)]) (ok := fun _ => True) (okp := fun _ => True) hr_ ?hp (fun _ hk => hk) trivial (Below.refl _ _) (Nat.le_refl _) (by simp) ?_; (case hp => exact (Reps.one (show Kd.M (Kd.int .u8) _ _ _ ((rd y256 t259) % 256) [.int .u8 ((rd y256 t259) % 256)] from rfl) (Reps.none _ _))); intro v263 w22 ho23 hb hg_ hnew_; clear hg_ hnew_; (first | rw [← Ny262.out] at ho23 | (simp only [Int.reduceToNat] at ho23; rw [← Ny262.out] at ho23)); replace HO258 := am (Kd.R_below (rs HO258) hb); have HO264 := am (Kd.R_lower ho23 (keep_size (w := w) (g := g) (row := none) m24_)); replace HK := am (KeepBut.trans m24_ (KeepBut.of_below hb g none) (.inl rfl)); replace HB := am (below_step m23_ hb); replace HI0 := am (IsS84.below m25_ hb); clear hb ho23; have hcv24 := own_string (P := Tryz.prog) Tryz.underlying22 Tryz.underlying5 Tryz.underlying9 (Kd.own_of_R HO264.out)) | (go_at_call 63; (with_reducible refine (spec_l20Rd_pick.calls k g s0_0 t260 3 t265 t266 w0 _ ?side1 ?side2 A8.out).mono ?_); (case side1 => exact m25_); (case side2 => exact m23_); rintro e w25 ⟨rfl, hi, hb, hk⟩; replace HO258 := am (Kd.R_mono (Kd.R_keep (IsS84.apart (show IsS84 w0 _ g s0_0 t260 from m25_) (rs HO258) (by decide)) hk (fun _ h => h.2)) (fun _ h => h.1)); replace HO264 := am (Kd.R_mono (Kd.R_keep (IsS84.apart (show IsS84 w0 _ g s0_0 t260 from m25_) (rs HO264) (by decide)) hk (fun _ h => h.2)) (fun _ h => h.1)); replace HK := am (KeepBut.trans m24_ hk (.inl rfl)); replace HB := am hb; replace HI0 := am hi; (try clear hb); (try clear hk); (try clear hi)))))
        go_ret
        exact ⟨fi_, m25_, m23_, m24_⟩
       ·rw [if_neg c15] at H
        exact absurd H (by simp)
      ·rw [if_neg c12] at H
       exact absurd H (by simp)
     ·rw [if_neg c11] at H
      exact absurd H (by simp)
    ·rw [if_neg c10] at H
     exact absurd H (by simp)
   ·rw [if_neg c9] at H
    have c9b0 : (t265 == 0) = false := beq_eq_false_iff_ne.mpr c9
    have c9b1 : (t265 != 0) = true := bne_iff_ne.mpr c9
    by_cases c26 : t265 = 1
    ·rw [if_pos c26] at H
     have c26b0 : (t265 == 1) = true := beq_iff_eq.mpr c26
     have c26b1 : (t265 != 1) = false := bne_eq_false_iff_eq.mpr c26
     clear c26
     by_cases c27 : t252 < (a1.size : Int)
     ·rw [if_pos c27] at H
      have c27b0 : decide (t252 < (a1.size : Int)) = true := decide_eq_true c27
      clear c27
      by_cases c28 : 0 ≤ t252
      ·rw [if_pos c28] at H
       have c28b0 := eq_true c28
       have c28b1 : decide (0 ≤ t252) = true := decide_eq_true c28
       clear c28
       by_cases c29 : t252 ≤ (a1.size : Int)
       ·rw [if_pos c29] at H
        have c29b0 := eq_true c29
        have c29b1 : decide (t252 ≤ (a1.size : Int)) = true := decide_eq_true c29
        clear c29
        obtain ⟨ji30, hji30⟩ : ∃ j_ : Int, (wrap64 (t252 + 1)) = j_ := ⟨_, rfl⟩
        replace H : (if 0 ≤ (ji30) then (if (ji30) ≤ (a1.size : Int) then (if (a1.extract 0 (t252 : Int).toNat).size + (a1.extract ((ji30) : Int).toNat a1.size).size ≤ 9223372036854775807 then (some ((a1.extract 0 (t252 : Int).toNat) ++ (a1.extract ((ji30) : Int).toNat a1.size), t266)) else (none)) else (none)) else (none)) = some (r1, r2) := by first | (rw [hji30] at H; exact H) | (simp only [hji30] at H ⊢; exact H)
        (try rw [hji30] at A3)
        (try rw [hji30] at A4)
        (try rw [hji30] at A5)
        (try rw [hji30] at A8)
        have hji30w : (IntKind.i64.wrap (t252 + 1)) = ji30 := (i64_w _).trans hji30
        by_cases c31 : 0 ≤ (ji30)
        ·rw [if_pos c31] at H
         have c31b0 := eq_true c31
         have c31b1 : decide (0 ≤ (ji30)) = true := decide_eq_true c31
         clear c31
         by_cases c32 : (ji30) ≤ (a1.size : Int)
         ·rw [if_pos c32] at H
          have c32b0 := eq_true c32
          have c32b1 : decide ((ji30) ≤ (a1.size : Int)) = true := decide_eq_true c32
          clear c32
          by_cases c33 : (a1.extract 0 (t252 : Int).toNat).size + (a1.extract ((ji30) : Int).toNat a1.size).size ≤ 9223372036854775807
          ·rw [if_pos c33] at H
           have c33b0 := eq_true c33
           have c33b1 : decide ((a1.extract 0 (t252 : Int).toNat).size + (a1.extract ((ji30) : Int).toNat a1.size).size ≤ 9223372036854775807) = true := decide_eq_true c33
           try have c33b2 : (9223372036854775807 < (a1.extract 0 (t252 : Int).toNat).size + (a1.extract ((ji30) : Int).toNat a1.size).size) = False := eq_false (Nat.not_lt.2 c33)
           simp only [Option.some.injEq, Prod.mk.injEq] at H
           obtain ⟨rfl, rfl⟩ := H
           go_enter Tryz.func44, Tryz.ntmps44
           iterate 4 ((try go_quiet (fail)); (try go_wp2_with (first | (go_at_call 63; (with_reducible refine (spec_l20Rd_pick.calls k g s0_0 s0_1 (wrap64 ((a1.size : Int) + 1)) t252 t253 w0 _ ?side1 ?side2 A3.out).mono ?_); (case side1 => exact m25_); (case side2 => exact m23_); rintro e w34 ⟨rfl, hi, hb, hk⟩; replace HK := am (KeepBut.trans m24_ hk (.inl rfl)); replace HB := am hb; replace HI0 := am hi; (try clear hb); (try clear hk); (try clear hi)) | (go_at_call 63; (with_reducible refine (spec_l20Rd_pick.calls k g s0_0 t253 256 t254 t255 w0 _ ?side1 ?side2 A4.out).mono ?_); (case side1 => exact m25_); (case side2 => exact m23_); rintro e w35 ⟨rfl, hi, hb, hk⟩; replace HK := am (KeepBut.trans m24_ hk (.inl rfl)); replace HB := am hb; replace HI0 := am hi; (try clear hb); (try clear hk); (try clear hi)) | ((with_reducible refine gate_dst (N := 14) rfl ?_); refine Kd.R_lit (Kd.int .i64) _ 3 rfl (N := 14) rfl (xs := ([32, 48, 49, 57, 59, 97, 112, t254] : List Int)) (inner := [.int .i64 32, .int .i64 48, .int .i64 49, .int .i64 57, .int .i64 59, .int .i64 97, .int .i64 112, .int .i64 t254]) (ok := fun _ => True) (okp := fun _ => True) hr_ ?hp (fun _ hk => hk) trivial (Below.refl _ _) (Nat.le_refl _) (by simp) ?_; (case hp => exact (Reps.one (show Kd.M (Kd.int .i64) _ _ _ 32 [.int .i64 32] from rfl) (Reps.one (show Kd.M (Kd.int .i64) _ _ _ 48 [.int .i64 48] from rfl) (Reps.one (show Kd.M (Kd.int .i64) _ _ _ 49 [.int .i64 49] from rfl) (Reps.one (show Kd.M (Kd.int .i64) _ _ _ 57 [.int .i64 57] from rfl) (Reps.one (show Kd.M (Kd.int .i64) _ _ _ 59 [.int .i64 59] from rfl) (Reps.one (show Kd.M (Kd.int .i64) _ _ _ 97 [.int .i64 97] from rfl) (Reps.one (show Kd.M (Kd.int .i64) _ _ _ 112 [.int .i64 112] from rfl) (Reps.one (show Kd.M (Kd.int .i64) _ _ _ t254 [.int .i64 t254] from rfl) (Reps.none _ _)))))))))); intro v257 w36 ho37 hb hg_ hnew_; clear hg_ hnew_; (first | rw [← Ny256.out] at ho37 | (simp only [Int.reduceToNat] at ho37; rw [← Ny256.out] at ho37)); have HO258 := am (Kd.R_lower ho37 (keep_size (w := w) (g := g) (row := none) m24_)); replace HK := am (KeepBut.trans m24_ (KeepBut.of_below hb g none) (.inl rfl)); replace HB := am (below_step m23_ hb); replace HI0 := am (IsS84.below m25_ hb); clear hb ho37) | (go_at_call 63; (with_reducible refine (spec_l20Rd_pick.calls k g s0_0 t255 8 t259 t260 w0 _ ?side1 ?side2 A5.out).mono ?_); (case side1 => exact m25_); (case side2 => exact m23_); rintro e w38 ⟨rfl, hi, hb, hk⟩; replace HO258 := am (Kd.R_mono (Kd.R_keep (IsS84.apart (show IsS84 w0 _ g s0_0 t255 from m25_) (rs HO258) (by decide)) hk (fun _ h => h.2)) (fun _ h => h.1)); replace HK := am (KeepBut.trans m24_ hk (.inl rfl)); replace HB := am hb; replace HI0 := am hi; (try clear hb); (try clear hk); (try clear hi); obtain ⟨Ao39, co39, eo39⟩ := Kd.R_slice HO258.out; subst eo39; have p261 : 0 ≤ (t259 : Int) := of_decide_eq_true da_; have q261 : t259 < (y256.length : Int) := of_decide_eq_true da_; obtain ⟨ad261, e261, hx261_0⟩ := Kd.at_int (Kd.R_reads' HO258.out).2.2 t259 p261 q261; cases e261; replace p261 := eq_true p261; replace q261 := eq_true q261) | ((with_reducible refine gate_dst (N := 20) rfl ?_); refine Kd.R_lit (Kd.int .u8) _ 5 rfl (N := 20) rfl (xs := ([(rd y256 t259) % 256] : List Int)) (inner := [.int .u8 ((rd y256 t259) % 256)]) (ok := fun _ => True) (okp := fun _ => True) hr_ ?hp (fun _ hk => hk) trivial (Below.refl _ _) (Nat.le_refl _) (by simp) ?_; (case hp => exact (Reps.one (show Kd.M (Kd.int .u8) _ _ _ ((rd y256 t259) % 256) [.int .u8 ((rd y256 t259) % 256)] from rfl) (Reps.none _ _))); intro v263 w40 ho41 hb hg_ hnew_; clear hg_ hnew_; (first | rw [← Ny262.out] at ho41 | (simp only [Int.reduceToNat] at ho41; rw [← Ny262.out] at ho41)); replace HO258 := am (Kd.R_below (rs HO258) hb); have HO264 := am (Kd.R_lower ho41 (keep_size (w := w) (g := g) (row := none) m24_)); replace HK := am (KeepBut.trans m24_ (KeepBut.of_below hb g none) (.inl rfl)); replace HB := am (below_step m23_ hb); replace HI0 := am (IsS84.below m25_ hb); clear hb ho41; have hcv42 := own_string (P := Tryz.prog) Tryz.underlying22 Tryz.underlying5 Tryz.underlying9 (Kd.own_of_R HO264.out)) | (go_at_call 63; (with_reducible refine (spec_l20Rd_pick.calls k g s0_0 t260 3 t265 t266 w0 _ ?side1 ?side2 A8.out).mono ?_); (case side1 => exact m25_); (case side2 => exact m23_); rintro e w43 ⟨rfl, hi, hb, hk⟩; replace HO258 := am (Kd.R_mono (Kd.R_keep (IsS84.apart (show IsS84 w0 _ g s0_0 t260 from m25_) (rs HO258) (by decide)) hk (fun _ h => h.2)) (fun _ h => h.1)); replace HO264 := am (Kd.R_mono (Kd.R_keep (IsS84.apart (show IsS84 w0 _ g s0_0 t260 from m25_) (rs HO264) (by decide)) hk (fun _ h => h.2)) (fun _ h => h.1)); replace HK := am (KeepBut.trans m24_ hk (.inl rfl)); replace HB := am hb; replace HI0 := am hi; (try clear hb); (try clear hk); (try clear hi)))))
           go_ret
           exact ⟨by first | rfl | (simp [errW_none, errW_some] <;> rfl) | (simp only [← hji30]; first | rfl | (simp [errW_none, errW_some] <;> rfl)) | (simp [*, errW_none, errW_some] <;> rfl), m25_, m23_, m24_⟩
          ·rw [if_neg c33] at H
           exact absurd H (by simp)
         ·rw [if_neg c32] at H
          exact absurd H (by simp)
        ·rw [if_neg c31] at H
         exact absurd H (by simp)
       ·rw [if_neg c29] at H
        exact absurd H (by simp)
      ·rw [if_neg c28] at H
       exact absurd H (by simp)
     ·rw [if_neg c27] at H
      have c27b0 : decide (t252 < (a1.size : Int)) = false := decide_eq_false c27
      clear c27
      simp only [Option.some.injEq, Prod.mk.injEq] at H
      obtain ⟨rfl, rfl⟩ := H
      go_enter Tryz.func44, Tryz.ntmps44
      iterate 4 ((try go_quiet (fail)); (try go_wp2_with (first | (go_at_call 63; (with_reducible refine (spec_l20Rd_pick.calls k g s0_0 s0_1 (wrap64 ((a1.size : Int) + 1)) t252 t253 w0 _ ?side1 ?side2 A3.out).mono ?_); (case side1 => exact m25_); (case side2 => exact m23_); rintro e w44 ⟨rfl, hi, hb, hk⟩; replace HK := am (KeepBut.trans m24_ hk (.inl rfl)); replace HB := am hb; replace HI0 := am hi; (try clear hb); (try clear hk); (try clear hi)) | (go_at_call 63; (with_reducible refine (spec_l20Rd_pick.calls k g s0_0 t253 256 t254 t255 w0 _ ?side1 ?side2 A4.out).mono ?_); (case side1 => exact m25_); (case side2 => exact m23_); rintro e w45 ⟨rfl, hi, hb, hk⟩; replace HK := am (KeepBut.trans m24_ hk (.inl rfl)); replace HB := am hb; replace HI0 := am hi; (try clear hb); (try clear hk); (try clear hi)) | ((with_reducible refine gate_dst (N := 14) rfl ?_); refine Kd.R_lit (Kd.int .i64) _ 3 rfl (N := 14) rfl (xs := ([32, 48, 49, 57, 59, 97, 112, t254] : List Int)) (inner := [.int .i64 32, .int .i64 48, .int .i64 49, .int .i64 57, .int .i64 59, .int .i64 97, .int .i64 112, .int .i64 t254]) (ok := fun _ => True) (okp := fun _ => True) hr_ ?hp (fun _ hk => hk) trivial (Below.refl _ _) (Nat.le_refl _) (by simp) ?_; (case hp => exact (Reps.one (show Kd.M (Kd.int .i64) _ _ _ 32 [.int .i64 32] from rfl) (Reps.one (show Kd.M (Kd.int .i64) _ _ _ 48 [.int .i64 48] from rfl) (Reps.one (show Kd.M (Kd.int .i64) _ _ _ 49 [.int .i64 49] from rfl) (Reps.one (show Kd.M (Kd.int .i64) _ _ _ 57 [.int .i64 57] from rfl) (Reps.one (show Kd.M (Kd.int .i64) _ _ _ 59 [.int .i64 59] from rfl) (Reps.one (show Kd.M (Kd.int .i64) _ _ _ 97 [.int .i64 97] from rfl) (Reps.one (show Kd.M (Kd.int .i64) _ _ _ 112 [.int .i64 112] from rfl) (Reps.one (show Kd.M (Kd.int .i64) _ _ _ t254 [.int .i64 t254] from rfl) (Reps.none _ _)))))))))); intro v257 w46 ho47 hb hg_ hnew_; clear hg_ hnew_; (first | rw [← Ny256.out] at ho47 | (simp only [Int.reduceToNat] at ho47; rw [← Ny256.out] at ho47)); have HO258 := am (Kd.R_lower ho47 (keep_size (w := w) (g := g) (row := none) m24_)); replace HK := am (KeepBut.trans m24_ (KeepBut.of_below hb g none) (.inl rfl)); replace HB := am (below_step m23_ hb); replace HI0 := am (IsS84.below m25_ hb); clear hb ho47) | (go_at_call 63; (with_reducible refine (spec_l20Rd_pick.calls k g s0_0 t255 8 t259 t260 w0 _ ?side1 ?side2 A5.out).mono ?_); (case side1 => exact m25_); (case side2 => exact m23_); rintro e w48 ⟨rfl, hi, hb, hk⟩; replace HO258 := am (Kd.R_mono (Kd.R_keep (IsS84.apart (show IsS84 w0 _ g s0_0 t255 from m25_) (rs HO258) (by decide)) hk (fun _ h => h.2)) (fun _ h => h.1)); replace HK := am (KeepBut.trans m24_ hk (.inl rfl)); replace HB := am hb; replace HI0 := am hi; (try clear hb); (try clear hk); (try clear hi); obtain ⟨Ao49, co49, eo49⟩ := Kd.R_slice HO258.out; subst eo49; have p261 : 0 ≤ (t259 : Int) := of_decide_eq_true da_; have q261 : t259 < (y256.length : Int) := of_decide_eq_true da_; obtain ⟨ad261, e261, hx261_0⟩ := Kd.at_int (Kd.R_reads' HO258.out).2.2 t259 p261 q261; cases e261; replace p261 := eq_true p261; replace q261 := eq_true q261) | ((with_reducible refine gate_dst (N := 20) rfl ?_); refine Kd.R_lit (Kd.int .u8) _ 5 rfl (N := 20) rfl (xs := ([(rd y256 t259) % 256] : List Int)) (inner := [.int .u8 ((rd y256 t259) % 256)]) (ok := fun _ => True) (okp := fun _ => True) hr_ ?hp (fun _ hk => hk) trivial (Below.refl _ _) (Nat.le_refl _) (by simp) ?_; (case hp => exact (Reps.one (show Kd.M (Kd.int .u8) _ _ _ ((rd y256 t259) % 256) [.int .u8 ((rd y256 t259) % 256)] from rfl) (Reps.none _ _))); intro v263 w50 ho51 hb hg_ hnew_; clear hg_ hnew_; (first | rw [← Ny262.out] at ho51 | (simp only [Int.reduceToNat] at ho51; rw [← Ny262.out] at ho51)); replace HO258 := am (Kd.R_below (rs HO258) hb); have HO264 := am (Kd.R_lower ho51 (keep_size (w := w) (g := g) (row := none) m24_)); replace HK := am (KeepBut.trans m24_ (KeepBut.of_below hb g none) (.inl rfl)); replace HB := am (below_step m23_ hb); replace HI0 := am (IsS84.below m25_ hb); clear hb ho51; have hcv52 := own_string (P := Tryz.prog) Tryz.underlying22 Tryz.underlying5 Tryz.underlying9 (Kd.own_of_R HO264.out)) | (go_at_call 63; (with_reducible refine (spec_l20Rd_pick.calls k g s0_0 t260 3 t265 t266 w0 _ ?side1 ?side2 A8.out).mono ?_); (case side1 => exact m25_); (case side2 => exact m23_); rintro e w53 ⟨rfl, hi, hb, hk⟩; replace HO258 := am (Kd.R_mono (Kd.R_keep (IsS84.apart (show IsS84 w0 _ g s0_0 t260 from m25_) (rs HO258) (by decide)) hk (fun _ h => h.2)) (fun _ h => h.1)); replace HO264 := am (Kd.R_mono (Kd.R_keep (IsS84.apart (show IsS84 w0 _ g s0_0 t260 from m25_) (rs HO264) (by decide)) hk (fun _ h => h.2)) (fun _ h => h.1)); replace HK := am (KeepBut.trans m24_ hk (.inl rfl)); replace HB := am hb; replace HI0 := am hi; (try clear hb); (try clear hk); (try clear hi)))))
      go_ret
      exact ⟨fi_, m25_, m23_, m24_⟩
    ·rw [if_neg c26] at H
     have c26b0 : (t265 == 1) = false := beq_eq_false_iff_ne.mpr c26
     have c26b1 : (t265 != 1) = true := bne_iff_ne.mpr c26
     by_cases c54 : t252 < (a1.size : Int)
     ·rw [if_pos c54] at H
      have c54b0 : decide (t252 < (a1.size : Int)) = true := decide_eq_true c54
      clear c54
      by_cases c55 : 0 ≤ t252
      ·rw [if_pos c55] at H
       have c55b0 := eq_true c55
       have c55b1 : decide (0 ≤ t252) = true := decide_eq_true c55
       clear c55
       by_cases c56 : t252 ≤ (a1.size : Int)
       ·rw [if_pos c56] at H
        have c56b0 := eq_true c56
        have c56b1 : decide (t252 ≤ (a1.size : Int)) = true := decide_eq_true c56
        clear c56
        by_cases c57 : (a1.extract 0 (t252 : Int).toNat).size + (strOfNums y262).size ≤ 9223372036854775807
        ·rw [if_pos c57] at H
         have c57b0 := eq_true c57
         have c57b1 : decide ((a1.extract 0 (t252 : Int).toNat).size + (strOfNums y262).size ≤ 9223372036854775807) = true := decide_eq_true c57
         try have c57b2 : (9223372036854775807 < (a1.extract 0 (t252 : Int).toNat).size + (strOfNums y262).size) = False := eq_false (Nat.not_lt.2 c57)
         obtain ⟨ji58, hji58⟩ : ∃ j_ : Int, (wrap64 (t252 + 1)) = j_ := ⟨_, rfl⟩
         replace H : (if 0 ≤ (ji58) then (if (ji58) ≤ (a1.size : Int) then (if ((a1.extract 0 (t252 : Int).toNat) ++ (strOfNums y262)).size + (a1.extract ((ji58) : Int).toNat a1.size).size ≤ 9223372036854775807 then (some (((a1.extract 0 (t252 : Int).toNat) ++ (strOfNums y262)) ++ (a1.extract ((ji58) : Int).toNat a1.size), t266)) else (none)) else (none)) else (none)) = some (r1, r2) := by first | (rw [hji58] at H; exact H) | (simp only [hji58] at H ⊢; exact H)
         (try rw [hji58] at A3)
         (try rw [hji58] at A4)
         (try rw [hji58] at A5)
         (try rw [hji58] at A8)
         have hji58w : (IntKind.i64.wrap (t252 + 1)) = ji58 := (i64_w _).trans hji58
         by_cases c59 : 0 ≤ (ji58)
         ·rw [if_pos c59] at H
          have c59b0 := eq_true c59
          have c59b1 : decide (0 ≤ (ji58)) = true := decide_eq_true c59
          clear c59
          by_cases c60 : (ji58) ≤ (a1.size : Int)
          ·rw [if_pos c60] at H
           have c60b0 := eq_true c60
           have c60b1 : decide ((ji58) ≤ (a1.size : Int)) = true := decide_eq_true c60
           clear c60
           by_cases c61 : ((a1.extract 0 (t252 : Int).toNat) ++ (strOfNums y262)).size + (a1.extract ((ji58) : Int).toNat a1.size).size ≤ 9223372036854775807
           ·rw [if_pos c61] at H
            have c61b0 := eq_true c61
            have c61b1 : decide (((a1.extract 0 (t252 : Int).toNat) ++ (strOfNums y262)).size + (a1.extract ((ji58) : Int).toNat a1.size).size ≤ 9223372036854775807) = true := decide_eq_true c61
            try have c61b2 : (9223372036854775807 < ((a1.extract 0 (t252 : Int).toNat) ++ (strOfNums y262)).size + (a1.extract ((ji58) : Int).toNat a1.size).size) = False := eq_false (Nat.not_lt.2 c61)
            try have c61b3 : (9223372036854775807 < (a1.extract 0 (t252 : Int).toNat).size + (strOfNums y262).size + (a1.extract ((ji58) : Int).toNat a1.size).size) = False := (by have z_ := c61b2; simp only [ByteArray.size_append] at z_; exact z_)
            simp only [Option.some.injEq, Prod.mk.injEq] at H
            obtain ⟨rfl, rfl⟩ := H
            go_enter Tryz.func44, Tryz.ntmps44
            iterate 4 ((try go_quiet (fail)); (try go_wp2_with (first | (go_at_call 63; (with_reducible refine (spec_l20Rd_pick.calls k g s0_0 s0_1 (wrap64 ((a1.size : Int) + 1)) t252 t253 w0 _ ?side1 ?side2 A3.out).mono ?_); (case side1 => exact m25_); (case side2 => exact m23_); rintro e w62 ⟨rfl, hi, hb, hk⟩; replace HK := am (KeepBut.trans m24_ hk (.inl rfl)); replace HB := am hb; replace HI0 := am hi; (try clear hb); (try clear hk); (try clear hi)) | (go_at_call 63; (with_reducible refine (spec_l20Rd_pick.calls k g s0_0 t253 256 t254 t255 w0 _ ?side1 ?side2 A4.out).mono ?_); (case side1 => exact m25_); (case side2 => exact m23_); rintro e w63 ⟨rfl, hi, hb, hk⟩; replace HK := am (KeepBut.trans m24_ hk (.inl rfl)); replace HB := am hb; replace HI0 := am hi; (try clear hb); (try clear hk); (try clear hi)) | ((with_reducible refine gate_dst (N := 14) rfl ?_); refine Kd.R_lit (Kd.int .i64) _ 3 rfl (N := 14) rfl (xs := ([32, 48, 49, 57, 59, 97, 112, t254] : List Int)) (inner := [.int .i64 32, .int .i64 48, .int .i64 49, .int .i64 57, .int .i64 59, .int .i64 97, .int .i64 112, .int .i64 t254]) (ok := fun _ => True) (okp := fun _ => True) hr_ ?hp (fun _ hk => hk) trivial (Below.refl _ _) (Nat.le_refl _) (by simp) ?_; (case hp => exact (Reps.one (show Kd.M (Kd.int .i64) _ _ _ 32 [.int .i64 32] from rfl) (Reps.one (show Kd.M (Kd.int .i64) _ _ _ 48 [.int .i64 48] from rfl) (Reps.one (show Kd.M (Kd.int .i64) _ _ _ 49 [.int .i64 49] from rfl) (Reps.one (show Kd.M (Kd.int .i64) _ _ _ 57 [.int .i64 57] from rfl) (Reps.one (show Kd.M (Kd.int .i64) _ _ _ 59 [.int .i64 59] from rfl) (Reps.one (show Kd.M (Kd.int .i64) _ _ _ 97 [.int .i64 97] from rfl) (Reps.one (show Kd.M (Kd.int .i64) _ _ _ 112 [.int .i64 112] from rfl) (Reps.one (show Kd.M (Kd.int .i64) _ _ _ t254 [.int .i64 t254] from rfl) (Reps.none _ _)))))))))); intro v257 w64 ho65 hb hg_ hnew_; clear hg_ hnew_; (first | rw [← Ny256.out] at ho65 | (simp only [Int.reduceToNat] at ho65; rw [← Ny256.out] at ho65)); have HO258 := am (Kd.R_lower ho65 (keep_size (w := w) (g := g) (row := none) m24_)); replace HK := am (KeepBut.trans m24_ (KeepBut.of_below hb g none) (.inl rfl)); replace HB := am (below_step m23_ hb); replace HI0 := am (IsS84.below m25_ hb); clear hb ho65) | (go_at_call 63; (with_reducible refine (spec_l20Rd_pick.calls k g s0_0 t255 8 t259 t260 w0 _ ?side1 ?side2 A5.out).mono ?_); (case side1 => exact m25_); (case side2 => exact m23_); rintro e w66 ⟨rfl, hi, hb, hk⟩; replace HO258 := am (Kd.R_mono (Kd.R_keep (IsS84.apart (show IsS84 w0 _ g s0_0 t255 from m25_) (rs HO258) (by decide)) hk (fun _ h => h.2)) (fun _ h => h.1)); replace HK := am (KeepBut.trans m24_ hk (.inl rfl)); replace HB := am hb; replace HI0 := am hi; (try clear hb); (try clear hk); (try clear hi); obtain ⟨Ao67, co67, eo67⟩ := Kd.R_slice HO258.out; subst eo67; have p261 : 0 ≤ (t259 : Int) := of_decide_eq_true da_; have q261 : t259 < (y256.length : Int) := of_decide_eq_true da_; obtain ⟨ad261, e261, hx261_0⟩ := Kd.at_int (Kd.R_reads' HO258.out).2.2 t259 p261 q261; cases e261; replace p261 := eq_true p261; replace q261 := eq_true q261) | ((with_reducible refine gate_dst (N := 20) rfl ?_); refine Kd.R_lit (Kd.int .u8) _ 5 rfl (N := 20) rfl (xs := ([(rd y256 t259) % 256] : List Int)) (inner := [.int .u8 ((rd y256 t259) % 256)]) (ok := fun _ => True) (okp := fun _ => True) hr_ ?hp (fun _ hk => hk) trivial (Below.refl _ _) (Nat.le_refl _) (by simp) ?_; (case hp => exact (Reps.one (show Kd.M (Kd.int .u8) _ _ _ ((rd y256 t259) % 256) [.int .u8 ((rd y256 t259) % 256)] from rfl) (Reps.none _ _))); intro v263 w68 ho69 hb hg_ hnew_; clear hg_ hnew_; (first | rw [← Ny262.out] at ho69 | (simp only [Int.reduceToNat] at ho69; rw [← Ny262.out] at ho69)); replace HO258 := am (Kd.R_below (rs HO258) hb); have HO264 := am (Kd.R_lower ho69 (keep_size (w := w) (g := g) (row := none) m24_)); replace HK := am (KeepBut.trans m24_ (KeepBut.of_below hb g none) (.inl rfl)); replace HB := am (below_step m23_ hb); replace HI0 := am (IsS84.below m25_ hb); clear hb ho69; have hcv70 := own_string (P := Tryz.prog) Tryz.underlying22 Tryz.underlying5 Tryz.underlying9 (Kd.own_of_R HO264.out)) | (go_at_call 63; (with_reducible refine (spec_l20Rd_pick.calls k g s0_0 t260 3 t265 t266 w0 _ ?side1 ?side2 A8.out).mono ?_); (case side1 => exact m25_); (case side2 => exact m23_); rintro e w71 ⟨rfl, hi, hb, hk⟩; replace HO258 := am (Kd.R_mono (Kd.R_keep (IsS84.apart (show IsS84 w0 _ g s0_0 t260 from m25_) (rs HO258) (by decide)) hk (fun _ h => h.2)) (fun _ h => h.1)); replace HO264 := am (Kd.R_mono (Kd.R_keep (IsS84.apart (show IsS84 w0 _ g s0_0 t260 from m25_) (rs HO264) (by decide)) hk (fun _ h => h.2)) (fun _ h => h.1)); replace HK := am (KeepBut.trans m24_ hk (.inl rfl)); replace HB := am hb; replace HI0 := am hi; (try clear hb); (try clear hk); (try clear hi)))))
            go_ret
            exact ⟨by first | rfl | (simp [errW_none, errW_some] <;> rfl) | (simp only [← hji58]; first | rfl | (simp [errW_none, errW_some] <;> rfl)) | (simp [*, errW_none, errW_some] <;> rfl), m25_, m23_, m24_⟩
           ·rw [if_neg c61] at H
            exact absurd H (by simp)
          ·rw [if_neg c60] at H
           exact absurd H (by simp)
         ·rw [if_neg c59] at H
          exact absurd H (by simp)
        ·rw [if_neg c57] at H
         exact absurd H (by simp)
       ·rw [if_neg c56] at H
        exact absurd H (by simp)
      ·rw [if_neg c55] at H
       exact absurd H (by simp)
     ·rw [if_neg c54] at H
      have c54b0 : decide (t252 < (a1.size : Int)) = false := decide_eq_false c54
      clear c54
      simp only [Option.some.injEq, Prod.mk.injEq] at H
      obtain ⟨rfl, rfl⟩ := H
      go_enter Tryz.func44, Tryz.ntmps44
      iterate 4 ((try go_quiet (fail)); (try go_wp2_with (first | (go_at_call 63; (with_reducible refine (spec_l20Rd_pick.calls k g s0_0 s0_1 (wrap64 ((a1.size : Int) + 1)) t252 t253 w0 _ ?side1 ?side2 A3.out).mono ?_); (case side1 => exact m25_); (case side2 => exact m23_); rintro e w72 ⟨rfl, hi, hb, hk⟩; replace HK := am (KeepBut.trans m24_ hk (.inl rfl)); replace HB := am hb; replace HI0 := am hi; (try clear hb); (try clear hk); (try clear hi)) | (go_at_call 63; (with_reducible refine (spec_l20Rd_pick.calls k g s0_0 t253 256 t254 t255 w0 _ ?side1 ?side2 A4.out).mono ?_); (case side1 => exact m25_); (case side2 => exact m23_); rintro e w73 ⟨rfl, hi, hb, hk⟩; replace HK := am (KeepBut.trans m24_ hk (.inl rfl)); replace HB := am hb; replace HI0 := am hi; (try clear hb); (try clear hk); (try clear hi)) | ((with_reducible refine gate_dst (N := 14) rfl ?_); refine Kd.R_lit (Kd.int .i64) _ 3 rfl (N := 14) rfl (xs := ([32, 48, 49, 57, 59, 97, 112, t254] : List Int)) (inner := [.int .i64 32, .int .i64 48, .int .i64 49, .int .i64 57, .int .i64 59, .int .i64 97, .int .i64 112, .int .i64 t254]) (ok := fun _ => True) (okp := fun _ => True) hr_ ?hp (fun _ hk => hk) trivial (Below.refl _ _) (Nat.le_refl _) (by simp) ?_; (case hp => exact (Reps.one (show Kd.M (Kd.int .i64) _ _ _ 32 [.int .i64 32] from rfl) (Reps.one (show Kd.M (Kd.int .i64) _ _ _ 48 [.int .i64 48] from rfl) (Reps.one (show Kd.M (Kd.int .i64) _ _ _ 49 [.int .i64 49] from rfl) (Reps.one (show Kd.M (Kd.int .i64) _ _ _ 57 [.int .i64 57] from rfl) (Reps.one (show Kd.M (Kd.int .i64) _ _ _ 59 [.int .i64 59] from rfl) (Reps.one (show Kd.M (Kd.int .i64) _ _ _ 97 [.int .i64 97] from rfl) (Reps.one (show Kd.M (Kd.int .i64) _ _ _ 112 [.int .i64 112] from rfl) (Reps.one (show Kd.M (Kd.int .i64) _ _ _ t254 [.int .i64 t254] from rfl) (Reps.none _ _)))))))))); intro v257 w74 ho75 hb hg_ hnew_; clear hg_ hnew_; (first | rw [← Ny256.out] at ho75 | (simp only [Int.reduceToNat] at ho75; rw [← Ny256.out] at ho75)); have HO258 := am (Kd.R_lower ho75 (keep_size (w := w) (g := g) (row := none) m24_)); replace HK := am (KeepBut.trans m24_ (KeepBut.of_below hb g none) (.inl rfl)); replace HB := am (below_step m23_ hb); replace HI0 := am (IsS84.below m25_ hb); clear hb ho75) | (go_at_call 63; (with_reducible refine (spec_l20Rd_pick.calls k g s0_0 t255 8 t259 t260 w0 _ ?side1 ?side2 A5.out).mono ?_); (case side1 => exact m25_); (case side2 => exact m23_); rintro e w76 ⟨rfl, hi, hb, hk⟩; replace HO258 := am (Kd.R_mono (Kd.R_keep (IsS84.apart (show IsS84 w0 _ g s0_0 t255 from m25_) (rs HO258) (by decide)) hk (fun _ h => h.2)) (fun _ h => h.1)); replace HK := am (KeepBut.trans m24_ hk (.inl rfl)); replace HB := am hb; replace HI0 := am hi; (try clear hb); (try clear hk); (try clear hi); obtain ⟨Ao77, co77, eo77⟩ := Kd.R_slice HO258.out; subst eo77; have p261 : 0 ≤ (t259 : Int) := of_decide_eq_true da_; have q261 : t259 < (y256.length : Int) := of_decide_eq_true da_; obtain ⟨ad261, e261, hx261_0⟩ := Kd.at_int (Kd.R_reads' HO258.out).2.2 t259 p261 q261; cases e261; replace p261 := eq_true p261; replace q261 := eq_true q261) | ((with_reducible refine gate_dst (N := 20) rfl ?_); refine Kd.R_lit (Kd.int .u8) _ 5 rfl (N := 20) rfl (xs := ([(rd y256 t259) % 256] : List Int)) (inner := [.int .u8 ((rd y256 t259) % 256)]) (ok := fun _ => True) (okp := fun _ => True) hr_ ?hp (fun _ hk => hk) trivial (Below.refl _ _) (Nat.le_refl _) (by simp) ?_; (case hp => exact (Reps.one (show Kd.M (Kd.int .u8) _ _ _ ((rd y256 t259) % 256) [.int .u8 ((rd y256 t259) % 256)] from rfl) (Reps.none _ _))); intro v263 w78 ho79 hb hg_ hnew_; clear hg_ hnew_; (first | rw [← Ny262.out] at ho79 | (simp only [Int.reduceToNat] at ho79; rw [← Ny262.out] at ho79)); replace HO258 := am (Kd.R_below (rs HO258) hb); have HO264 := am (Kd.R_lower ho79 (keep_size (w := w) (g := g) (row := none) m24_)); replace HK := am (KeepBut.trans m24_ (KeepBut.of_below hb g none) (.inl rfl)); replace HB := am (below_step m23_ hb); replace HI0 := am (IsS84.below m25_ hb); clear hb ho79; have hcv80 := own_string (P := Tryz.prog) Tryz.underlying22 Tryz.underlying5 Tryz.underlying9 (Kd.own_of_R HO264.out)) | (go_at_call 63; (with_reducible refine (spec_l20Rd_pick.calls k g s0_0 t260 3 t265 t266 w0 _ ?side1 ?side2 A8.out).mono ?_); (case side1 => exact m25_); (case side2 => exact m23_); rintro e w81 ⟨rfl, hi, hb, hk⟩; replace HO258 := am (Kd.R_mono (Kd.R_keep (IsS84.apart (show IsS84 w0 _ g s0_0 t260 from m25_) (rs HO258) (by decide)) hk (fun _ h => h.2)) (fun _ h => h.1)); replace HO264 := am (Kd.R_mono (Kd.R_keep (IsS84.apart (show IsS84 w0 _ g s0_0 t260 from m25_) (rs HO264) (by decide)) hk (fun _ h => h.2)) (fun _ h => h.1)); replace HK := am (KeepBut.trans m24_ hk (.inl rfl)); replace HB := am hb; replace HI0 := am hi; (try clear hb); (try clear hk); (try clear hi)))))
      go_ret
      exact ⟨fi_, m25_, m23_, m24_⟩
  ·rw [if_neg c7] at H
   exact absurd H (by simp)
 ·rw [if_neg c6] at H
  exact absurd H (by simp)
def spec_EndOutside.f (a0_0 : Int) (a0_1 : Int) : Option (Bool) := (spec_l1In.f a0_0 100 109).bind fun t215 => (if t215 = true then ((spec_l1In.f a0_1 1 999).bind fun t216 => (some t216)) else (some false))
set_option maxHeartbeats 8000000 in
set_option maxRecDepth 100000 in
theorem spec_EndOutside.calls (a0_0 : Int) (a0_1 : Int) (r : Bool) (w : World) (h : spec_EndOutside.f a0_0 a0_1 = some r) :
  Calls Tryz.prog 113 #[.agg #[.int .i64 a0_0, .int .i64 a0_1]] w fun e w' => e = .returned (.bool r) ∧ Below w.heap.size w w' := by
 have hu34 := Tryz.underlying34
 have HB := am (Below.refl w.heap.size w)
 have H : ((spec_l1In.f a0_0 100 109).bind fun t215 => (if t215 = true then ((spec_l1In.f a0_1 1 999).bind fun t216 => (some t216)) else (some false))) = some r := h
 clear h
 obtain ⟨t215, A2, H⟩ := bse H
 try dsimp only at H
 by_cases c3 : t215 = true
 ·subst c3
  have H1 : ((spec_l1In.f a0_1 1 999).bind fun t216 => (some t216)) = some r := by rw [if_pos rfl] at H; exact H
  clear H
  have H := H1
  clear H1
  obtain ⟨t216, A4, H⟩ := bse H
  try dsimp only at H
  obtain rfl := Option.some.inj H
  go_enter Tryz.func113, Tryz.ntmps113
  go_wp2_with (first | ((with_reducible refine gate_dst (N := 1) rfl ?_); refine box_event rfl (N := 1) rfl (cs := #[.int .i64 a0_0, .int .i64 a0_1]) (t := 34) hr_ ?_; intro gb214 hg w5 hbox hb; have BK214 := am hbox; have GW214 := gwE HB hg; have GE214 := gwE HB hg; replace HB := hbS HB hb; clear hb hbox hg; have := bcell BK214 0; have := bcell BK214 1; have := bfz BK214 0; have := bfz BK214 1) | ((with_reducible refine gate_callee (f := 81) rfl ?_); refine gL (some 5) Tryz.func81 #[.int .i64 a0_0, .int .i64 100, .int .i64 109] ?_; (with_reducible refine (spec_l1In.calls a0_0 100 109 true _ A2.out).mono ?_); rintro e w' ⟨rfl, ⟨nd, rfl⟩⟩; refine ⟨_, rfl, ?_⟩) | (go_at_call 81; (with_reducible refine (spec_l1In.calls a0_1 1 999 t216 _ A4.out).mono ?_); rintro e w' ⟨rfl, ⟨nd, rfl⟩⟩))
  go_ret
  exact ⟨fi_, m2_⟩
 ·replace c3 := Bool.eq_false_iff.mpr c3
  subst c3
  have H1 : (some false) = some r := by rw [if_neg (show ¬ (false = true) by decide)] at H; exact H
  clear H
  have H := H1
  clear H1
  obtain rfl := Option.some.inj H
  go_enter Tryz.func113, Tryz.ntmps113
  go_wp2_with (first | ((with_reducible refine gate_dst (N := 1) rfl ?_); refine box_event rfl (N := 1) rfl (cs := #[.int .i64 a0_0, .int .i64 a0_1]) (t := 34) hr_ ?_; intro gb214 hg w7 hbox hb; have BK214 := am hbox; have GW214 := gwE HB hg; have GE214 := gwE HB hg; replace HB := hbS HB hb; clear hb hbox hg; have := bcell BK214 0; have := bcell BK214 1; have := bfz BK214 0; have := bfz BK214 1) | ((with_reducible refine gate_callee (f := 81) rfl ?_); refine gL (some 5) Tryz.func81 #[.int .i64 a0_0, .int .i64 100, .int .i64 109] ?_; (with_reducible refine (spec_l1In.calls a0_0 100 109 false _ A2.out).mono ?_); rintro e w' ⟨rfl, ⟨nd, rfl⟩⟩; refine ⟨_, rfl, ?_⟩))
  go_ret
  exact ⟨fi_, m2_⟩
def spec_EndOk.f (a0_0 : Int) (a0_1 : Int) : Option (Bool) := (spec_EndInside.f a0_0 a0_1).bind fun t218 => (if t218 = true then (some true) else ((spec_EndOutside.f a0_0 a0_1).bind fun t219 => (if t219 = true then (some true) else (if a0_0 = 50 then ((spec_l1In.f a0_1 1 999).bind fun t220 => (some t220)) else (some false)))))
set_option maxHeartbeats 8000000 in
set_option maxRecDepth 100000 in
theorem spec_EndOk.calls (a0_0 : Int) (a0_1 : Int) (r : Bool) (w : World) (h : spec_EndOk.f a0_0 a0_1 = some r) :
  Calls Tryz.prog 92 #[.agg #[.int .i64 a0_0, .int .i64 a0_1]] w fun e w' => e = .returned (.bool r) ∧ Below w.heap.size w w' := by
 have hu34 := Tryz.underlying34
 have HB := am (Below.refl w.heap.size w)
 have H : ((spec_EndInside.f a0_0 a0_1).bind fun t218 => (if t218 = true then (some true) else ((spec_EndOutside.f a0_0 a0_1).bind fun t219 => (if t219 = true then (some true) else (if a0_0 = 50 then ((spec_l1In.f a0_1 1 999).bind fun t220 => (some t220)) else (some false)))))) = some r := h
 clear h
 obtain ⟨t218, A2, H⟩ := bse H
 try dsimp only at H
 by_cases c3 : t218 = true
 ·subst c3
  have H1 : (some true) = some r := by rw [if_pos rfl] at H; exact H
  clear H
  have H := H1
  clear H1
  obtain rfl := Option.some.inj H
  go_enter Tryz.func92, Tryz.ntmps92
  go_wp2_with (first | ((with_reducible refine gate_dst (N := 1) rfl ?_); refine box_event rfl (N := 1) rfl (cs := #[.int .i64 a0_0, .int .i64 a0_1]) (t := 34) hr_ ?_; intro gb217 hg w4 hbox hb; have BK217 := am hbox; have GW217 := gwE HB hg; have GE217 := gwE HB hg; replace HB := hbS HB hb; clear hb hbox hg; have := bcell BK217 0; have := bcell BK217 1; have := bfz BK217 0; have := bfz BK217 1) | ((with_reducible refine gate_callee (f := 48) rfl ?_); refine gL (some 4) Tryz.func48 #[.agg #[.int .i64 a0_0, .int .i64 a0_1]] ?_; (with_reducible refine (spec_EndInside.calls a0_0 a0_1 true _ A2.out).mono ?_); rintro e w6 ⟨rfl, hb⟩; refine ⟨_, rfl, ?_⟩; replace BK217 := bkB BK217 hb; replace HB := hbS HB hb; (try clear hb)))
  go_ret
  exact ⟨fi_, m2_⟩
 ·replace c3 := Bool.eq_false_iff.mpr c3
  subst c3
  have H1 : ((spec_EndOutside.f a0_0 a0_1).bind fun t219 => (if t219 = true then (some true) else (if a0_0 = 50 then ((spec_l1In.f a0_1 1 999).bind fun t220 => (some t220)) else (some false)))) = some r := by rw [if_neg (show ¬ (false = true) by decide)] at H; exact H
  clear H
  have H := H1
  clear H1
  obtain ⟨t219, A7, H⟩ := bse H
  try dsimp only at H
  by_cases c8 : t219 = true
  ·subst c8
   have H1 : (some true) = some r := by rw [if_pos rfl] at H; exact H
   clear H
   have H := H1
   clear H1
   obtain rfl := Option.some.inj H
   go_enter Tryz.func92, Tryz.ntmps92
   go_wp2_with (first | ((with_reducible refine gate_dst (N := 1) rfl ?_); refine box_event rfl (N := 1) rfl (cs := #[.int .i64 a0_0, .int .i64 a0_1]) (t := 34) hr_ ?_; intro gb217 hg w9 hbox hb; have BK217 := am hbox; have GW217 := gwE HB hg; have GE217 := gwE HB hg; replace HB := hbS HB hb; clear hb hbox hg; have := bcell BK217 0; have := bcell BK217 1; have := bfz BK217 0; have := bfz BK217 1) | ((with_reducible refine gate_callee (f := 48) rfl ?_); refine gL (some 4) Tryz.func48 #[.agg #[.int .i64 a0_0, .int .i64 a0_1]] ?_; (with_reducible refine (spec_EndInside.calls a0_0 a0_1 false _ A2.out).mono ?_); rintro e w11 ⟨rfl, hb⟩; refine ⟨_, rfl, ?_⟩; replace BK217 := bkB BK217 hb; replace HB := hbS HB hb; (try clear hb); have := bcell BK217 0; have := bcell BK217 1; have := bfz BK217 0; have := bfz BK217 1) | (go_at_call 113; (with_reducible refine (spec_EndOutside.calls a0_0 a0_1 true _ A7.out).mono ?_); rintro e w13 ⟨rfl, hb⟩; replace BK217 := bkB BK217 hb; replace HB := hbS HB hb; (try clear hb)))
   go_ret
   exact ⟨fi_, m2_⟩
  ·replace c8 := Bool.eq_false_iff.mpr c8
   subst c8
   have H1 : (if a0_0 = 50 then ((spec_l1In.f a0_1 1 999).bind fun t220 => (some t220)) else (some false)) = some r := by rw [if_neg (show ¬ (false = true) by decide)] at H; exact H
   clear H
   have H := H1
   clear H1
   by_cases c14 : a0_0 = 50
   ·rw [if_pos c14] at H
    have c14b0 : (a0_0 == 50) = true := beq_iff_eq.mpr c14
    have c14b1 : (a0_0 != 50) = false := bne_eq_false_iff_eq.mpr c14
    clear c14
    obtain ⟨t220, A15, H⟩ := bse H
    try dsimp only at H
    obtain rfl := Option.some.inj H
    go_enter Tryz.func92, Tryz.ntmps92
    go_wp2_with (first | ((with_reducible refine gate_dst (N := 1) rfl ?_); refine box_event rfl (N := 1) rfl (cs := #[.int .i64 a0_0, .int .i64 a0_1]) (t := 34) hr_ ?_; intro gb217 hg w16 hbox hb; have BK217 := am hbox; have GW217 := gwE HB hg; have GE217 := gwE HB hg; replace HB := hbS HB hb; clear hb hbox hg; have := bcell BK217 0; have := bcell BK217 1; have := bfz BK217 0; have := bfz BK217 1) | ((with_reducible refine gate_callee (f := 48) rfl ?_); refine gL (some 4) Tryz.func48 #[.agg #[.int .i64 a0_0, .int .i64 a0_1]] ?_; (with_reducible refine (spec_EndInside.calls a0_0 a0_1 false _ A2.out).mono ?_); rintro e w18 ⟨rfl, hb⟩; refine ⟨_, rfl, ?_⟩; replace BK217 := bkB BK217 hb; replace HB := hbS HB hb; (try clear hb); have := bcell BK217 0; have := bcell BK217 1; have := bfz BK217 0; have := bfz BK217 1) | (go_at_call 113; (with_reducible refine (spec_EndOutside.calls a0_0 a0_1 false _ A7.out).mono ?_); rintro e w20 ⟨rfl, hb⟩; replace BK217 := bkB BK217 hb; replace HB := hbS HB hb; (try clear hb); have := bcell BK217 0; have := bcell BK217 1; have := bfz BK217 0; have := bfz BK217 1) | (go_at_call 81; (with_reducible refine (spec_l1In.calls a0_1 1 999 t220 _ A15.out).mono ?_); rintro e w' ⟨rfl, ⟨nd, rfl⟩⟩))
    go_ret
    exact ⟨fi_, m2_⟩
   ·rw [if_neg c14] at H
    have c14b0 : (a0_0 == 50) = false := beq_eq_false_iff_ne.mpr c14
    have c14b1 : (a0_0 != 50) = true := bne_iff_ne.mpr c14
    obtain rfl := Option.some.inj H
    go_enter Tryz.func92, Tryz.ntmps92
    go_wp2_with (first | ((with_reducible refine gate_dst (N := 1) rfl ?_); refine box_event rfl (N := 1) rfl (cs := #[.int .i64 a0_0, .int .i64 a0_1]) (t := 34) hr_ ?_; intro gb217 hg w22 hbox hb; have BK217 := am hbox; have GW217 := gwE HB hg; have GE217 := gwE HB hg; replace HB := hbS HB hb; clear hb hbox hg; have := bcell BK217 0; have := bcell BK217 1; have := bfz BK217 0; have := bfz BK217 1) | ((with_reducible refine gate_callee (f := 48) rfl ?_); refine gL (some 4) Tryz.func48 #[.agg #[.int .i64 a0_0, .int .i64 a0_1]] ?_; (with_reducible refine (spec_EndInside.calls a0_0 a0_1 false _ A2.out).mono ?_); rintro e w24 ⟨rfl, hb⟩; refine ⟨_, rfl, ?_⟩; replace BK217 := bkB BK217 hb; replace HB := hbS HB hb; (try clear hb); have := bcell BK217 0; have := bcell BK217 1; have := bfz BK217 0; have := bfz BK217 1) | (go_at_call 113; (with_reducible refine (spec_EndOutside.calls a0_0 a0_1 false _ A7.out).mono ?_); rintro e w26 ⟨rfl, hb⟩; replace BK217 := bkB BK217 hb; replace HB := hbS HB hb; (try clear hb); have := bcell BK217 0; have := bcell BK217 1; have := bfz BK217 0; have := bfz BK217 1))
    go_ret
    exact ⟨fi_, m2_⟩
def spec_l1Plain.l0 : Nat → Int → ByteArray → Option (ByteArray)
 | 0, _, _ => none
 | k + 1, x0, x3 => if x0 > 9 then ((some (([(wrap64 (48 + (Int.tmod x0 10))) % 256] : List Int) : List Int)).bind fun y221 => (if (strOfNums y221).size + x3.size ≤ 9223372036854775807 then (spec_l1Plain.l0 k (wrap64 (Int.tdiv x0 10)) ((strOfNums y221) ++ x3)) else (none))) else ((some (([(wrap64 (48 + x0)) % 256] : List Int) : List Int)).bind fun y224 => (if (strOfNums y224).size + x3.size ≤ 9223372036854775807 then (some ((strOfNums y224) ++ x3)) else (none)))
def spec_l1Plain.f (k : Nat) (a0 : Int) : Option (ByteArray) := spec_l1Plain.l0 k a0 (⟨#[]⟩ : ByteArray)
theorem spec_l1Plain.mono_l : ∀ k, (∀ y0 y1, LeO (spec_l1Plain.l0 k y0 y1) (spec_l1Plain.l0 (k + 1) y0 y1))
 | 0 => fun _ _ r h => by simp [spec_l1Plain.l0] at h
 | k + 1 => by
  have ih0 := spec_l1Plain.mono_l k
  ·intro y0 y1
   unfold spec_l1Plain.l0
   repeat' first | (with_reducible first | exact ih0 _ _ | exact LeO.refl _ | exact LeO.none _ | refine LeO.ite ?_ ?_ | refine LeO.bind ?_ (fun _ => ?_)) | exact ih0 _ _ | exact LeO.none _ | refine LeO.ite ?_ ?_ | refine LeO.bind ?_ (fun _ => ?_)
theorem spec_l1Plain.mono : ∀ a0 k, LeO (spec_l1Plain.f k a0) (spec_l1Plain.f (k + 1) a0) := by
 intro a0 k
 have ih0 := spec_l1Plain.mono_l k
 unfold spec_l1Plain.f
 repeat' first | (with_reducible first | exact ih0 _ _ | exact LeO.refl _ | exact LeO.none _ | refine LeO.ite ?_ ?_ | refine LeO.bind ?_ (fun _ => ?_)) | exact ih0 _ _ | exact LeO.none _ | refine LeO.ite ?_ ?_ | refine LeO.bind ?_ (fun _ => ?_)
set_option maxHeartbeats 8000000 in
set_option maxRecDepth 100000 in
theorem spec_l1Plain.calls (k : Nat) (a0 : Int) (r : ByteArray) (w : World) (h : spec_l1Plain.f k a0 = some r) :
  Calls Tryz.prog 114 #[.int .i64 a0] w fun e w' => e = .returned (.string r) ∧ Below w.heap.size w w' := by
 have HB := am (Below.refl w.heap.size w)
 have H : (spec_l1Plain.l0 k a0 (⟨#[]⟩ : ByteArray)) = some r := h
 clear h
 have H' := am H
 clear H
 go_enter Tryz.func114, Tryz.ntmps114
 go_wp2
 go_loopg [0, 3] k (fun kq v0 v3 w' => ∃ (x0_1 : Int) (x3_1 : ByteArray), v0 = .int .i64 x0_1 ∧ v3 = .string x3_1 ∧ Aside0 (spec_l1Plain.l0 kq x0_1 x3_1 = some r) ∧ Aside0 (kq ≤ k) ∧ Aside0 (Below w.heap.size w w'))
 case atStart => exact ⟨(a0), ((⟨#[]⟩ : ByteArray)), rs_, rs_, H', ⟨Nat.le_refl _⟩, ⟨m0_⟩⟩
 case round =>
  clear H'
  try clear c1
  obtain ⟨x0_1, x3_1, rfl, rfl, HA, HK1, HB⟩ := hrel
  cases gk with
  | zero => exact absurd HA.out (by simp [spec_l1Plain.l0])
  | succ k1 =>
   have H := HA.out
   clear HA
   simp only [spec_l1Plain.l0] at H
   by_cases c2 : x0_1 > 9
   ·rw [if_pos c2] at H
    have c2b0 : decide (9 < x0_1) = true := decide_eq_true c2
    clear c2
    obtain ⟨y221, hy221⟩ : ∃ y_ : List Int, y_ = (([(wrap64 (48 + (Int.tmod x0_1 10))) % 256] : List Int)) := ⟨_, rfl⟩
    replace H : (if (strOfNums y221).size + x3_1.size ≤ 9223372036854775807 then (spec_l1Plain.l0 k1 (wrap64 (Int.tdiv x0_1 10)) ((strOfNums y221) ++ x3_1)) else (none)) = some r := by first | (rw [hy221]; with_reducible exact H) | (have H2_ := (Option.bind_some _ _).symm.trans H; rw [hy221]; with_reducible exact H2_) | (have H2_ := (Option.bind_some _ _).symm.trans H; with_reducible exact H2_) | with_reducible exact H | (rw [hy221]; exact H) | exact H
    have Ny221 := am hy221
    clear hy221
    by_cases c3 : (strOfNums y221).size + x3_1.size ≤ 9223372036854775807
    ·rw [if_pos c3] at H
     have c3b0 := eq_true c3
     have c3b1 : decide ((strOfNums y221).size + x3_1.size ≤ 9223372036854775807) = true := decide_eq_true c3
     try have c3b2 : (9223372036854775807 < (strOfNums y221).size + x3_1.size) = False := eq_false (Nat.not_lt.2 c3)
     have H' := am H
     clear H
     go_wp2_with (first | ((with_reducible refine gate_dst (N := 10) rfl ?_); refine Kd.R_lit (Kd.int .u8) _ 5 rfl (N := 10) rfl (xs := ([(wrap64 (48 + (Int.tmod x0_1 10))) % 256] : List Int)) (inner := [.int .u8 ((wrap64 (48 + (Int.tmod x0_1 10))) % 256)]) (ok := fun _ => True) (okp := fun _ => True) hr_ ?hp (fun _ hk => hk) trivial (Below.refl _ _) (Nat.le_refl _) (by simp) ?_; (case hp => exact (Reps.one (show Kd.M (Kd.int .u8) _ _ _ ((wrap64 (48 + (Int.tmod x0_1 10))) % 256) [.int .u8 ((wrap64 (48 + (Int.tmod x0_1 10))) % 256)] from rfl) (Reps.none _ _))); intro v222 w4 ho5 hb hg_ hnew_; clear hg_ hnew_; (first | rw [← Ny221.out] at ho5 | (simp only [Int.reduceToNat] at ho5; rw [← Ny221.out] at ho5)); have HO223 := am (Kd.R_lower ho5 (below_size (bl HB))); replace HB := hbS HB hb; clear hb ho5; have hcv6 := own_string (P := Tryz.prog) Tryz.underlying22 Tryz.underlying5 Tryz.underlying9 (Kd.own_of_R HO223.out)))
     go_roundg k1
     case measure => have := HK1.out; omega
     case rel => exact ⟨(wrap64 (Int.tdiv x0_1 10)), ((strOfNums y221) ++ x3_1), rs_, rs_, H', ⟨by have := HK1.out; omega⟩, ⟨m0_⟩⟩
    ·rw [if_neg c3] at H
     exact absurd H (by simp)
   ·rw [if_neg c2] at H
    have c2b0 : decide (9 < x0_1) = false := decide_eq_false c2
    clear c2
    obtain ⟨y224, hy224⟩ : ∃ y_ : List Int, y_ = (([(wrap64 (48 + x0_1)) % 256] : List Int)) := ⟨_, rfl⟩
    replace H : (if (strOfNums y224).size + x3_1.size ≤ 9223372036854775807 then (some ((strOfNums y224) ++ x3_1)) else (none)) = some r := by first | (rw [hy224]; with_reducible exact H) | (have H2_ := (Option.bind_some _ _).symm.trans H; rw [hy224]; with_reducible exact H2_) | (have H2_ := (Option.bind_some _ _).symm.trans H; with_reducible exact H2_) | with_reducible exact H | (rw [hy224]; exact H) | exact H
    have Ny224 := am hy224
    clear hy224
    by_cases c7 : (strOfNums y224).size + x3_1.size ≤ 9223372036854775807
    ·rw [if_pos c7] at H
     have c7b0 := eq_true c7
     have c7b1 : decide ((strOfNums y224).size + x3_1.size ≤ 9223372036854775807) = true := decide_eq_true c7
     try have c7b2 : (9223372036854775807 < (strOfNums y224).size + x3_1.size) = False := eq_false (Nat.not_lt.2 c7)
     obtain rfl := Option.some.inj H
     go_wp2_with (first | ((with_reducible refine gate_dst (N := 19) rfl ?_); refine Kd.R_lit (Kd.int .u8) _ 5 rfl (N := 19) rfl (xs := ([(wrap64 (48 + x0_1)) % 256] : List Int)) (inner := [.int .u8 ((wrap64 (48 + x0_1)) % 256)]) (ok := fun _ => True) (okp := fun _ => True) hr_ ?hp (fun _ hk => hk) trivial (Below.refl _ _) (Nat.le_refl _) (by simp) ?_; (case hp => exact (Reps.one (show Kd.M (Kd.int .u8) _ _ _ ((wrap64 (48 + x0_1)) % 256) [.int .u8 ((wrap64 (48 + x0_1)) % 256)] from rfl) (Reps.none _ _))); intro v225 w8 ho9 hb hg_ hnew_; clear hg_ hnew_; (first | rw [← Ny224.out] at ho9 | (simp only [Int.reduceToNat] at ho9; rw [← Ny224.out] at ho9)); have HO226 := am (Kd.R_lower ho9 (below_size (bl HB))); replace HB := hbS HB hb; clear hb ho9; have hcv10 := own_string (P := Tryz.prog) Tryz.underlying22 Tryz.underlying5 Tryz.underlying9 (Kd.own_of_R HO226.out)))
     go_ret
     exact ⟨fi_, m0_⟩
    ·rw [if_neg c7] at H
     exact absurd H (by simp)
def spec_EndText.f (k : Nat) (a0_0 : Int) (a0_1 : Int) : Option (ByteArray) := (spec_EndOk.f a0_0 a0_1).bind fun t228 => (if t228 = true then ((spec_l1Plain.f k a0_0).bind fun t229 => (if t229.size + 1 ≤ 9223372036854775807 then ((spec_l1Plain.f k a0_1).bind fun t230 => (if (t229 ++ (⟨#[32]⟩ : ByteArray)).size + t230.size ≤ 9223372036854775807 then (some ((t229 ++ (⟨#[32]⟩ : ByteArray)) ++ t230)) else (none))) else (none))) else (some (⟨#[]⟩ : ByteArray)))
theorem spec_EndText.mono : ∀ a0 a1 k, LeO (spec_EndText.f k a0 a1) (spec_EndText.f (k + 1) a0 a1) := by
 intro a0 a1 k
 unfold spec_EndText.f
 repeat' first | (with_reducible first | exact spec_l1Plain.mono _ _ | exact LeO.refl _ | exact LeO.none _ | refine LeO.ite ?_ ?_ | refine LeO.bind ?_ (fun _ => ?_)) | exact spec_l1Plain.mono _ _ | exact LeO.none _ | refine LeO.ite ?_ ?_ | refine LeO.bind ?_ (fun _ => ?_)
def spec_EndText.T3 : Bool × List (List Nat × List Nat) := (true, [([], []), ([0], [0]), ([1], [1]), ([2], [2]), ([], []), ([4], [4]), ([5, 2], [5]), ([3, 6], [3, 6]), ([7, 6, 0, 1, 2, 3, 4, 5, 6, 7], [7])])
def spec_EndText.B3 : List Nat := [0, 1, 3, 7, 0, 16, 55, 127, 255]
theorem spec_EndText.tab3 : rtab .any (opsOf Tryz.f93 3) = spec_EndText.T3 := by kernel_rfl
theorem spec_EndText.bits3 : waitsOk spec_EndText.T3.2 spec_EndText.B3 = true := by kernel_rfl
set_option maxHeartbeats 8000000 in
set_option maxRecDepth 100000 in
theorem spec_EndText.calls (k : Nat) (a0_0 : Int) (a0_1 : Int) (r : ByteArray) (w : World) (h : spec_EndText.f k a0_0 a0_1 = some r) :
  Calls Tryz.prog 93 #[.agg #[.int .i64 a0_0, .int .i64 a0_1]] w fun e w' => e = .returned (.string r) ∧ Below w.heap.size w w' := by
 have hu34 := Tryz.underlying34
 have HB := am (Below.refl w.heap.size w)
 have H : ((spec_EndOk.f a0_0 a0_1).bind fun t228 => (if t228 = true then ((spec_l1Plain.f k a0_0).bind fun t229 => (if t229.size + 1 ≤ 9223372036854775807 then ((spec_l1Plain.f k a0_1).bind fun t230 => (if (t229 ++ (⟨#[32]⟩ : ByteArray)).size + t230.size ≤ 9223372036854775807 then (some ((t229 ++ (⟨#[32]⟩ : ByteArray)) ++ t230)) else (none))) else (none))) else (some (⟨#[]⟩ : ByteArray)))) = some r := h
 clear h
 obtain ⟨t228, A2, H⟩ := bse H
 try dsimp only at H
 by_cases c3 : t228 = true
 ·subst c3
  have H1 : ((spec_l1Plain.f k a0_0).bind fun t229 => (if t229.size + 1 ≤ 9223372036854775807 then ((spec_l1Plain.f k a0_1).bind fun t230 => (if (t229 ++ (⟨#[32]⟩ : ByteArray)).size + t230.size ≤ 9223372036854775807 then (some ((t229 ++ (⟨#[32]⟩ : ByteArray)) ++ t230)) else (none))) else (none))) = some r := by rw [if_pos rfl] at H; exact H
  clear H
  have H := H1
  clear H1
  obtain ⟨t229, A4, H⟩ := bse H
  try dsimp only at H
  by_cases c5 : t229.size + 1 ≤ 9223372036854775807
  ·rw [if_pos c5] at H
   have c5b0 := eq_true c5
   have c5b1 : decide (t229.size + 1 ≤ 9223372036854775807) = true := decide_eq_true c5
   try have c5b2 : (9223372036854775807 < t229.size + 1) = False := eq_false (Nat.not_lt.2 c5)
   obtain ⟨t230, A6, H⟩ := bse H
   try dsimp only at H
   by_cases c7 : (t229 ++ (⟨#[32]⟩ : ByteArray)).size + t230.size ≤ 9223372036854775807
   ·rw [if_pos c7] at H
    have c7b0 := eq_true c7
    have c7b1 : decide ((t229 ++ (⟨#[32]⟩ : ByteArray)).size + t230.size ≤ 9223372036854775807) = true := decide_eq_true c7
    try have c7b2 : (9223372036854775807 < (t229 ++ (⟨#[32]⟩ : ByteArray)).size + t230.size) = False := eq_false (Nat.not_lt.2 c7)
    try have c7b3 : (9223372036854775807 < t229.size + 1 + t230.size) = False := (by have z_ := c7b2; simp only [ByteArray.size_append] at z_; exact z_)
    obtain rfl := Option.some.inj H
    go_enter Tryz.func93, Tryz.ntmps93
    try go_wp2_with (first | ((with_reducible refine gate_dst (N := 1) rfl ?_); refine box_event rfl (N := 1) rfl (cs := #[.int .i64 a0_0, .int .i64 a0_1]) (t := 34) hr_ ?_; intro gb227 hg w8 hbox hb; have BK227 := am hbox; have GW227 := gwE HB hg; have GE227 := gwE HB hg; replace HB := hbS HB hb; clear hb hbox hg; have := bcell BK227 0; have := bcell BK227 1; have := bfz BK227 0; have := bfz BK227 1) | ((with_reducible refine gate_callee (f := 92) rfl ?_); refine gL (some 4) Tryz.func92 #[.agg #[.int .i64 a0_0, .int .i64 a0_1]] ?_; (with_reducible refine (spec_EndOk.calls a0_0 a0_1 true _ A2.out).mono ?_); rintro e w10 ⟨rfl, hb⟩; refine ⟨_, rfl, ?_⟩; replace BK227 := bkB BK227 hb; replace HB := hbS HB hb; (try clear hb)))
    replace BK227 := am (blk_drew BK227.out)
    replace HB := am (below_drew1 HB.out)
    refine start_ (n := 9) (S := fun w' => w'.cell? ⟨gb227, 0, none⟩ = some (.int .i64 a0_0) ∧ w'.cell? ⟨gb227, 1, none⟩ = some (.int .i64 a0_1)) (ds := []) #[false, false, false, false, false, false, false, false, false] (by kernel_rfl) rfl rfl ⟨bcell BK227 0, bcell BK227 1⟩ (fun hHeld => ?_); refine with_tabW spec_EndText.tab3 spec_EndText.bits3 (fun HT_ HW_ => ?_)
    generalize w10.drew = w11 at BK227 HB hHeld ⊢
    refine pu_ 0 (some 6) (bm 9 1) ?_
    refine pu_ 4 (some 10) (bm 9 17) ?_
    refine tk_ 1 (some 7) (bm 9 19) rfl (.inl ⟨rfl, m3_⟩) ?_
    refine tk_ 5 (some 11) (bm 9 51) rfl (.inl ⟨rfl, m3_⟩) ?_
    refine on_ 2 (some 8) (bm 9 55) (fun K hK => ?_)
    refine gR Tryz.func114 #[.int .i64 a0_0] ?_
    with_reducible refine (spec_l1Plain.calls k a0_0 t229 _ A4.out).mono ?_
    rintro e w12 ⟨rfl, hb⟩
    refine ⟨_, rfl, ?_⟩
    replace BK227 := bkB BK227 hb
    replace HB := hbS HB hb
    (try clear hb)
    (try clear hb2)
    (try clear hk)
    (try clear hi)
    refine hK.out _ _ ⟨bcell BK227 0, bcell BK227 1⟩ (fun hHeld => ?_)
    clear hK K
    refine nm_ ?_
    refine pu_ 3 (some 9) (bm 9 63) ?_
    refine on_ 6 (some 12) (bm 9 127) (fun K hK => ?_)
    refine gR Tryz.func114 #[.int .i64 a0_1] ?_
    with_reducible refine (spec_l1Plain.calls k a0_1 t230 _ A6.out).mono ?_
    rintro e w13 ⟨rfl, hb⟩
    refine ⟨_, rfl, ?_⟩
    replace BK227 := bkB BK227 hb
    replace HB := hbS HB hb
    (try clear hb)
    (try clear hb2)
    (try clear hk)
    (try clear hi)
    refine hK.out _ _ ⟨bcell BK227 0, bcell BK227 1⟩ (fun hHeld => ?_)
    clear hK K
    refine nm_ ?_
    refine pu_ 7 (some 13) (bm 9 255) ?_
    refine pu_ 8 (some 2) (bm 9 511) ?_
    refine done_ (done_of HT_.out (by kernel_rfl)) ?_
    try go_wp2
    go_ret
    exact ⟨fi_, m2_⟩
   ·rw [if_neg c7] at H
    exact absurd H (by simp)
  ·rw [if_neg c5] at H
   exact absurd H (by simp)
 ·replace c3 := Bool.eq_false_iff.mpr c3
  subst c3
  have H1 : (some (⟨#[]⟩ : ByteArray)) = some r := by rw [if_neg (show ¬ (false = true) by decide)] at H; exact H
  clear H
  have H := H1
  clear H1
  obtain rfl := Option.some.inj H
  go_enter Tryz.func93, Tryz.ntmps93
  go_wp2_with (first | ((with_reducible refine gate_dst (N := 1) rfl ?_); refine box_event rfl (N := 1) rfl (cs := #[.int .i64 a0_0, .int .i64 a0_1]) (t := 34) hr_ ?_; intro gb227 hg w14 hbox hb; have BK227 := am hbox; have GW227 := gwE HB hg; have GE227 := gwE HB hg; replace HB := hbS HB hb; clear hb hbox hg; have := bcell BK227 0; have := bcell BK227 1; have := bfz BK227 0; have := bfz BK227 1) | ((with_reducible refine gate_callee (f := 92) rfl ?_); refine gL (some 4) Tryz.func92 #[.agg #[.int .i64 a0_0, .int .i64 a0_1]] ?_; (with_reducible refine (spec_EndOk.calls a0_0 a0_1 false _ A2.out).mono ?_); rintro e w16 ⟨rfl, hb⟩; refine ⟨_, rfl, ?_⟩; replace BK227 := bkB BK227 hb; replace HB := hbS HB hb; (try clear hb)))
  go_ret
  exact ⟨fi_, m2_⟩
def spec_LinPort.f (k : Nat) (a0_0 : Int) (a0_1 : Int) : Option (ByteArray) := (spec_EndOk.f a0_0 a0_1).bind fun t232 => (if t232 = true then ((spec_EndText.f k a0_0 a0_1).bind fun t233 => (if 5 + t233.size ≤ 9223372036854775807 then (some ((⟨#[112, 111, 114, 116, 32]⟩ : ByteArray) ++ t233)) else (none))) else (some (⟨#[]⟩ : ByteArray)))
theorem spec_LinPort.mono : ∀ a0 a1 k, LeO (spec_LinPort.f k a0 a1) (spec_LinPort.f (k + 1) a0 a1) := by
 intro a0 a1 k
 unfold spec_LinPort.f
 repeat' first | (with_reducible first | exact spec_EndText.mono _ _ _ | exact LeO.refl _ | exact LeO.none _ | refine LeO.ite ?_ ?_ | refine LeO.bind ?_ (fun _ => ?_)) | exact spec_EndText.mono _ _ _ | exact LeO.none _ | refine LeO.ite ?_ ?_ | refine LeO.bind ?_ (fun _ => ?_)
set_option maxHeartbeats 8000000 in
set_option maxRecDepth 100000 in
theorem spec_LinPort.calls (k : Nat) (a0_0 : Int) (a0_1 : Int) (r : ByteArray) (w : World) (h : spec_LinPort.f k a0_0 a0_1 = some r) :
  Calls Tryz.prog 64 #[.agg #[.int .i64 a0_0, .int .i64 a0_1]] w fun e w' => e = .returned (.string r) ∧ Below w.heap.size w w' := by
 have hu34 := Tryz.underlying34
 have HB := am (Below.refl w.heap.size w)
 have H : ((spec_EndOk.f a0_0 a0_1).bind fun t232 => (if t232 = true then ((spec_EndText.f k a0_0 a0_1).bind fun t233 => (if 5 + t233.size ≤ 9223372036854775807 then (some ((⟨#[112, 111, 114, 116, 32]⟩ : ByteArray) ++ t233)) else (none))) else (some (⟨#[]⟩ : ByteArray)))) = some r := h
 clear h
 obtain ⟨t232, A2, H⟩ := bse H
 try dsimp only at H
 by_cases c3 : t232 = true
 ·subst c3
  have H1 : ((spec_EndText.f k a0_0 a0_1).bind fun t233 => (if 5 + t233.size ≤ 9223372036854775807 then (some ((⟨#[112, 111, 114, 116, 32]⟩ : ByteArray) ++ t233)) else (none))) = some r := by rw [if_pos rfl] at H; exact H
  clear H
  have H := H1
  clear H1
  obtain ⟨t233, A4, H⟩ := bse H
  try dsimp only at H
  by_cases c5 : 5 + t233.size ≤ 9223372036854775807
  ·rw [if_pos c5] at H
   have c5b0 := eq_true c5
   have c5b1 : decide (5 + t233.size ≤ 9223372036854775807) = true := decide_eq_true c5
   try have c5b2 : (9223372036854775807 < 5 + t233.size) = False := eq_false (Nat.not_lt.2 c5)
   obtain rfl := Option.some.inj H
   go_enter Tryz.func64, Tryz.ntmps64
   go_wp2_with (first | ((with_reducible refine gate_dst (N := 1) rfl ?_); refine box_event rfl (N := 1) rfl (cs := #[.int .i64 a0_0, .int .i64 a0_1]) (t := 34) hr_ ?_; intro gb231 hg w6 hbox hb; have BK231 := am hbox; have GW231 := gwE HB hg; have GE231 := gwE HB hg; replace HB := hbS HB hb; clear hb hbox hg; have := bcell BK231 0; have := bcell BK231 1; have := bfz BK231 0; have := bfz BK231 1) | ((with_reducible refine gate_callee (f := 92) rfl ?_); refine gL (some 4) Tryz.func92 #[.agg #[.int .i64 a0_0, .int .i64 a0_1]] ?_; (with_reducible refine (spec_EndOk.calls a0_0 a0_1 true _ A2.out).mono ?_); rintro e w8 ⟨rfl, hb⟩; refine ⟨_, rfl, ?_⟩; replace BK231 := bkB BK231 hb; replace HB := hbS HB hb; (try clear hb); have := bcell BK231 0; have := bcell BK231 1; have := bfz BK231 0; have := bfz BK231 1) | ((with_reducible refine gate_callee (f := 93) rfl ?_); refine gL (some 7) Tryz.func93 #[.agg #[.int .i64 a0_0, .int .i64 a0_1]] ?_; (with_reducible refine (spec_EndText.calls k a0_0 a0_1 t233 _ A4.out).mono ?_); rintro e w10 ⟨rfl, hb⟩; refine ⟨_, rfl, ?_⟩; replace BK231 := bkB BK231 hb; replace HB := hbS HB hb; (try clear hb)))
   go_ret
   exact ⟨fi_, m2_⟩
  ·rw [if_neg c5] at H
   exact absurd H (by simp)
 ·replace c3 := Bool.eq_false_iff.mpr c3
  subst c3
  have H1 : (some (⟨#[]⟩ : ByteArray)) = some r := by rw [if_neg (show ¬ (false = true) by decide)] at H; exact H
  clear H
  have H := H1
  clear H1
  obtain rfl := Option.some.inj H
  go_enter Tryz.func64, Tryz.ntmps64
  go_wp2_with (first | ((with_reducible refine gate_dst (N := 1) rfl ?_); refine box_event rfl (N := 1) rfl (cs := #[.int .i64 a0_0, .int .i64 a0_1]) (t := 34) hr_ ?_; intro gb231 hg w11 hbox hb; have BK231 := am hbox; have GW231 := gwE HB hg; have GE231 := gwE HB hg; replace HB := hbS HB hb; clear hb hbox hg; have := bcell BK231 0; have := bcell BK231 1; have := bfz BK231 0; have := bfz BK231 1) | ((with_reducible refine gate_callee (f := 92) rfl ?_); refine gL (some 4) Tryz.func92 #[.agg #[.int .i64 a0_0, .int .i64 a0_1]] ?_; (with_reducible refine (spec_EndOk.calls a0_0 a0_1 false _ A2.out).mono ?_); rintro e w13 ⟨rfl, hb⟩; refine ⟨_, rfl, ?_⟩; replace BK231 := bkB BK231 hb; replace HB := hbS HB hb; (try clear hb)))
  go_ret
  exact ⟨fi_, m2_⟩
def spec_l20Line.f (k : Nat) (s0_0 : List Int) (s0_1 : Int) : Option (ByteArray × Int) := (spec_l20Rd_pick.f k s0_0 s0_1 3).bind fun bt234 => (if bt234.1 = 0 then ((spec_l20In.f k s0_0 bt234.2).bind fun bt236 => ((spec_LinPort.f k bt236.1 bt236.2.1).bind fun t239 => (some (t239, bt236.2.2)))) else (if bt234.1 = 1 then ((some (([(⟨#[]⟩ : ByteArray), (⟨#[108, 105, 115, 116]⟩ : ByteArray), (⟨#[117, 115, 101, 114, 32, 97]⟩ : ByteArray), (⟨#[112, 111, 114, 116, 32, 53, 48, 32, 53, 48, 48]⟩ : ByteArray), (⟨#[112, 111, 114, 116, 32, 49, 48, 48, 32, 57]⟩ : ByteArray), (⟨#[112, 111, 114, 116, 32, 48, 49, 32, 50]⟩ : ByteArray), (⟨#[112, 111, 114, 116, 32, 49]⟩ : ByteArray), (⟨#[97, 98, 99, 100, 101, 102, 103, 104, 105, 106, 32, 107, 108, 109, 110, 111]⟩ : ByteArray), (⟨#[112, 111, 114, 116]⟩ : ByteArray), (⟨#[112, 111, 114, 116, 32, 49, 32, 50, 32, 51]⟩ : ByteArray)] : List ByteArray) : List ByteArray)).bind fun y240 => ((spec_l20Rd_pick.f k s0_0 bt234.2 10).bind fun bt243 => (if 0 ≤ bt243.1 then (if bt243.1 < (y240.length : Int) then (some (rdOf ByteArray.empty y240 bt243.1, bt243.2)) else (none)) else (none)))) else ((some (([(⟨#[97]⟩ : ByteArray), (⟨#[98, 98]⟩ : ByteArray), (⟨#[103, 101, 116, 32, 102, 105, 108, 101, 49]⟩ : ByteArray), (⟨#[113, 117, 105, 116]⟩ : ByteArray)] : List ByteArray) : List ByteArray)).bind fun y246 => ((spec_l20Rd_pick.f k s0_0 bt234.2 4).bind fun bt249 => (if 0 ≤ bt249.1 then (if bt249.1 < (y246.length : Int) then (some (rdOf ByteArray.empty y246 bt249.1, bt249.2)) else (none)) else (none))))))
theorem spec_l20Line.mono : ∀ a0 a1 k, LeO (spec_l20Line.f k a0 a1) (spec_l20Line.f (k + 1) a0 a1) := by
 intro a0 a1 k
 unfold spec_l20Line.f
 repeat' first | (with_reducible first | exact spec_LinPort.mono _ _ _ | exact spec_l20In.mono _ _ _ | exact spec_l20Rd_pick.mono _ _ _ _ | exact LeO.refl _ | exact LeO.none _ | refine LeO.ite ?_ ?_ | refine LeO.bind ?_ (fun _ => ?_)) | exact spec_LinPort.mono _ _ _ | exact spec_l20In.mono _ _ _ | exact spec_l20Rd_pick.mono _ _ _ _ | exact LeO.none _ | refine LeO.ite ?_ ?_ | refine LeO.bind ?_ (fun _ => ?_)
set_option maxHeartbeats 8000000 in
set_option maxRecDepth 100000 in
theorem spec_l20Line.calls (k : Nat) (g : Nat) (s0_0 : List Int) (s0_1 : Int) (r1 : ByteArray) (r2 : Int) (w0 w : World) (hI : IsS84 w0 w g s0_0 s0_1) (hB : Below w0.heap.size w0 w) (h : spec_l20Line.f k s0_0 s0_1 = some (r1, r2)) :
  Calls Tryz.prog 42 #[.pointer (some ⟨g, 0, none⟩)] w fun e w' => e = .returned (.string r1) ∧ IsS84 w0 w' g s0_0 r2 ∧ Below w0.heap.size w0 w' ∧ KeepBut w w' g none := by
 have HI0 := am hI
 have HK := am (KeepBut.refl w g none)
 have HL := am hB.size
 clear hI
 have HW0 := am hB.size
 have HB := am hB
 clear hB
 have H : ((spec_l20Rd_pick.f k s0_0 s0_1 3).bind fun bt234 => (if bt234.1 = 0 then ((spec_l20In.f k s0_0 bt234.2).bind fun bt236 => ((spec_LinPort.f k bt236.1 bt236.2.1).bind fun t239 => (some (t239, bt236.2.2)))) else (if bt234.1 = 1 then ((some (([(⟨#[]⟩ : ByteArray), (⟨#[108, 105, 115, 116]⟩ : ByteArray), (⟨#[117, 115, 101, 114, 32, 97]⟩ : ByteArray), (⟨#[112, 111, 114, 116, 32, 53, 48, 32, 53, 48, 48]⟩ : ByteArray), (⟨#[112, 111, 114, 116, 32, 49, 48, 48, 32, 57]⟩ : ByteArray), (⟨#[112, 111, 114, 116, 32, 48, 49, 32, 50]⟩ : ByteArray), (⟨#[112, 111, 114, 116, 32, 49]⟩ : ByteArray), (⟨#[97, 98, 99, 100, 101, 102, 103, 104, 105, 106, 32, 107, 108, 109, 110, 111]⟩ : ByteArray), (⟨#[112, 111, 114, 116]⟩ : ByteArray), (⟨#[112, 111, 114, 116, 32, 49, 32, 50, 32, 51]⟩ : ByteArray)] : List ByteArray) : List ByteArray)).bind fun y240 => ((spec_l20Rd_pick.f k s0_0 bt234.2 10).bind fun bt243 => (if 0 ≤ bt243.1 then (if bt243.1 < (y240.length : Int) then (some (rdOf ByteArray.empty y240 bt243.1, bt243.2)) else (none)) else (none)))) else ((some (([(⟨#[97]⟩ : ByteArray), (⟨#[98, 98]⟩ : ByteArray), (⟨#[103, 101, 116, 32, 102, 105, 108, 101, 49]⟩ : ByteArray), (⟨#[113, 117, 105, 116]⟩ : ByteArray)] : List ByteArray) : List ByteArray)).bind fun y246 => ((spec_l20Rd_pick.f k s0_0 bt234.2 4).bind fun bt249 => (if 0 ≤ bt249.1 then (if bt249.1 < (y246.length : Int) then (some (rdOf ByteArray.empty y246 bt249.1, bt249.2)) else (none)) else (none))))))) = some (r1, r2) := h
 clear h
 obtain ⟨⟨t234, t235⟩, A2, H⟩ := bse H
 try dsimp only at H
 by_cases c3 : t234 = 0
 ·rw [if_pos c3] at H
  have c3b0 : (t234 == 0) = true := beq_iff_eq.mpr c3
  have c3b1 : (t234 != 0) = false := bne_eq_false_iff_eq.mpr c3
  clear c3
  obtain ⟨⟨t236, t237, t238⟩, A4, H⟩ := bse H
  try dsimp only at H
  obtain ⟨t239, A5, H⟩ := bse H
  try dsimp only at H
  simp only [Option.some.injEq, Prod.mk.injEq] at H
  obtain ⟨rfl, rfl⟩ := H
  go_enter Tryz.func42, Tryz.ntmps42
  go_wp2_with (first | ((with_reducible refine gate_callee (f := 63) rfl ?_); refine gL (some 4) Tryz.func63 #[.pointer (some ⟨g, 0, none⟩), .int .i64 3] ?_; (with_reducible refine (spec_l20Rd_pick.calls k g s0_0 s0_1 3 t234 t235 w0 _ ?side1 ?side2 A2.out).mono ?_); (case side1 => exact m25_); (case side2 => exact m23_); rintro e w6 ⟨rfl, hi, hb, hk⟩; refine ⟨_, rfl, ?_⟩; replace HK := am (KeepBut.trans m24_ hk (.inl rfl)); replace HB := am hb; replace HI0 := am hi; (try clear hb); (try clear hk); (try clear hi)) | ((with_reducible refine gate_callee (f := 75) rfl ?_); refine gL (some 8) Tryz.func75 #[.pointer (some ⟨g, 0, none⟩)] ?_; (with_reducible refine (spec_l20In.calls k g s0_0 t235 t236 t237 t238 w0 _ ?side1 ?side2 A4.out).mono ?_); (case side1 => exact m25_); (case side2 => exact m23_); rintro e w7 ⟨rfl, hi, hb, hk⟩; refine ⟨_, rfl, ?_⟩; replace HK := am (KeepBut.trans m24_ hk (.inl rfl)); replace HB := am hb; replace HI0 := am hi; (try clear hb); (try clear hk); (try clear hi)) | ((with_reducible refine gate_callee (f := 64) rfl ?_); refine gL (some 9) Tryz.func64 #[.agg #[.int .i64 t236, .int .i64 t237]] ?_; (with_reducible refine (spec_LinPort.calls k t236 t237 t239 _ A5.out).mono ?_); rintro e w8 ⟨rfl, hb⟩; refine ⟨_, rfl, ?_⟩; replace HK := am (KeepBut.trans m24_ (KeepBut.of_below hb g none) (.inl rfl)); replace HB := am (below_step m23_ hb); replace HI0 := am (IsS84.below m25_ hb); (try clear hb)))
  go_ret
  exact ⟨fi_, m25_, m23_, m24_⟩
 ·rw [if_neg c3] at H
  have c3b0 : (t234 == 0) = false := beq_eq_false_iff_ne.mpr c3
  have c3b1 : (t234 != 0) = true := bne_iff_ne.mpr c3
  by_cases c9 : t234 = 1
  ·rw [if_pos c9] at H
   have c9b0 : (t234 == 1) = true := beq_iff_eq.mpr c9
   have c9b1 : (t234 != 1) = false := bne_eq_false_iff_eq.mpr c9
   clear c9
   obtain ⟨y240, hy240⟩ : ∃ y_ : List ByteArray, y_ = (([(⟨#[]⟩ : ByteArray), (⟨#[108, 105, 115, 116]⟩ : ByteArray), (⟨#[117, 115, 101, 114, 32, 97]⟩ : ByteArray), (⟨#[112, 111, 114, 116, 32, 53, 48, 32, 53, 48, 48]⟩ : ByteArray), (⟨#[112, 111, 114, 116, 32, 49, 48, 48, 32, 57]⟩ : ByteArray), (⟨#[112, 111, 114, 116, 32, 48, 49, 32, 50]⟩ : ByteArray), (⟨#[112, 111, 114, 116, 32, 49]⟩ : ByteArray), (⟨#[97, 98, 99, 100, 101, 102, 103, 104, 105, 106, 32, 107, 108, 109, 110, 111]⟩ : ByteArray), (⟨#[112, 111, 114, 116]⟩ : ByteArray), (⟨#[112, 111, 114, 116, 32, 49, 32, 50, 32, 51]⟩ : ByteArray)] : List ByteArray)) := ⟨_, rfl⟩
   replace H : ((spec_l20Rd_pick.f k s0_0 t235 10).bind fun bt243 => (if 0 ≤ bt243.1 then (if bt243.1 < (y240.length : Int) then (some (rdOf ByteArray.empty y240 bt243.1, bt243.2)) else (none)) else (none))) = some (r1, r2) := by first | (rw [hy240]; with_reducible exact H) | (have H2_ := (Option.bind_some _ _).symm.trans H; rw [hy240]; with_reducible exact H2_) | (have H2_ := (Option.bind_some _ _).symm.trans H; with_reducible exact H2_) | with_reducible exact H | (rw [hy240]; exact H) | exact H
   have Ny240 := am hy240
   clear hy240
   obtain ⟨⟨t243, t244⟩, A10, H⟩ := bse H
   try dsimp only at H
   by_cases c11 : 0 ≤ t243
   ·rw [if_pos c11] at H
    have c11b0 : decide (0 ≤ t243) = true := decide_eq_true c11
    clear c11
    by_cases c12 : t243 < (y240.length : Int)
    ·rw [if_pos c12] at H
     have c12b0 : decide (t243 < (y240.length : Int)) = true := decide_eq_true c12
     clear c12
     simp only [Option.some.injEq, Prod.mk.injEq] at H
     obtain ⟨rfl, rfl⟩ := H
     go_enter Tryz.func42, Tryz.ntmps42
     go_wp2_with (first | ((with_reducible refine gate_callee (f := 63) rfl ?_); refine gL (some 4) Tryz.func63 #[.pointer (some ⟨g, 0, none⟩), .int .i64 3] ?_; (with_reducible refine (spec_l20Rd_pick.calls k g s0_0 s0_1 3 t234 t235 w0 _ ?side1 ?side2 A2.out).mono ?_); (case side1 => exact m25_); (case side2 => exact m23_); rintro e w13 ⟨rfl, hi, hb, hk⟩; refine ⟨_, rfl, ?_⟩; replace HK := am (KeepBut.trans m24_ hk (.inl rfl)); replace HB := am hb; replace HI0 := am hi; (try clear hb); (try clear hk); (try clear hi)) | ((with_reducible refine gate_dst (N := 12) rfl ?_); refine Kd.R_lit Kd.string _ 9 rfl (N := 12) rfl (xs := ([(⟨#[]⟩ : ByteArray), (⟨#[108, 105, 115, 116]⟩ : ByteArray), (⟨#[117, 115, 101, 114, 32, 97]⟩ : ByteArray), (⟨#[112, 111, 114, 116, 32, 53, 48, 32, 53, 48, 48]⟩ : ByteArray), (⟨#[112, 111, 114, 116, 32, 49, 48, 48, 32, 57]⟩ : ByteArray), (⟨#[112, 111, 114, 116, 32, 48, 49, 32, 50]⟩ : ByteArray), (⟨#[112, 111, 114, 116, 32, 49]⟩ : ByteArray), (⟨#[97, 98, 99, 100, 101, 102, 103, 104, 105, 106, 32, 107, 108, 109, 110, 111]⟩ : ByteArray), (⟨#[112, 111, 114, 116]⟩ : ByteArray), (⟨#[112, 111, 114, 116, 32, 49, 32, 50, 32, 51]⟩ : ByteArray)] : List ByteArray)) (inner := [.string (⟨#[]⟩ : ByteArray), .string (⟨#[108, 105, 115, 116]⟩ : ByteArray), .string (⟨#[117, 115, 101, 114, 32, 97]⟩ : ByteArray), .string (⟨#[112, 111, 114, 116, 32, 53, 48, 32, 53, 48, 48]⟩ : ByteArray), .string (⟨#[112, 111, 114, 116, 32, 49, 48, 48, 32, 57]⟩ : ByteArray), .string (⟨#[112, 111, 114, 116, 32, 48, 49, 32, 50]⟩ : ByteArray), .string (⟨#[112, 111, 114, 116, 32, 49]⟩ : ByteArray), .string (⟨#[97, 98, 99, 100, 101, 102, 103, 104, 105, 106, 32, 107, 108, 109, 110, 111]⟩ : ByteArray), .string (⟨#[112, 111, 114, 116]⟩ : ByteArray), .string (⟨#[112, 111, 114, 116, 32, 49, 32, 50, 32, 51]⟩ : ByteArray)]) (ok := fun _ => True) (okp := fun _ => True) hr_ ?hp (fun _ hk => hk) trivial (Below.refl _ _) (Nat.le_refl _) (by simp) ?_; (case hp => exact (Reps.one (show Kd.M Kd.string _ _ _ (⟨#[]⟩ : ByteArray) [.string (⟨#[]⟩ : ByteArray)] from rfl) (Reps.one (show Kd.M Kd.string _ _ _ (⟨#[108, 105, 115, 116]⟩ : ByteArray) [.string (⟨#[108, 105, 115, 116]⟩ : ByteArray)] from rfl) (Reps.one (show Kd.M Kd.string _ _ _ (⟨#[117, 115, 101, 114, 32, 97]⟩ : ByteArray) [.string (⟨#[117, 115, 101, 114, 32, 97]⟩ : ByteArray)] from rfl) (Reps.one (show Kd.M Kd.string _ _ _ (⟨#[112, 111, 114, 116, 32, 53, 48, 32, 53, 48, 48]⟩ : ByteArray) [.string (⟨#[112, 111, 114, 116, 32, 53, 48, 32, 53, 48, 48]⟩ : ByteArray)] from rfl) (Reps.one (show Kd.M Kd.string _ _ _ (⟨#[112, 111, 114, 116, 32, 49, 48, 48, 32, 57]⟩ : ByteArray) [.string (⟨#[112, 111, 114, 116, 32, 49, 48, 48, 32, 57]⟩ : ByteArray)] from rfl) (Reps.one (show Kd.M Kd.string _ _ _ (⟨#[112, 111, 114, 116, 32, 48, 49, 32, 50]⟩ : ByteArray) [.string (⟨#[112, 111, 114, 116, 32, 48, 49, 32, 50]⟩ : ByteArray)] from rfl) (Reps.one (show Kd.M Kd.string _ _ _ (⟨#[112, 111, 114, 116, 32, 49]⟩ : ByteArray) [.string (⟨#[112, 111, 114, 116, 32, 49]⟩ : ByteArray)] from rfl) (Reps.one (show Kd.M Kd.string _ _ _ (⟨#[97, 98, 99, 100, 101, 102, 103, 104, 105, 106, 32, 107, 108, 109, 110, 111]⟩ : ByteArray) [.string (⟨#[97, 98, 99, 100, 101, 102, 103, 104, 105, 106, 32, 107, 108, 109, 110, 111]⟩ : ByteArray)] from rfl) (Reps.one (show Kd.M Kd.string _ _ _ (⟨#[112, 111, 114, 116]⟩ : ByteArray) [.string (⟨#[112, 111, 114, 116]⟩ : ByteArray)] from rfl) (Reps.one (show Kd.M Kd.string _ _ _ (⟨#[112, 111, 114, 116, 32, 49, 32, 50, 32, 51]⟩ : ByteArray) [.string (⟨#[112, 111, 114, 116, 32, 49, 32, 50, 32, 51]⟩ : ByteArray)] from rfl) (Reps.none _ _)))))))))))); intro v241 w14 ho15 hb hg_ hnew_; clear hg_ hnew_; (first | rw [← Ny240.out] at ho15 | (simp only [Int.reduceToNat] at ho15; rw [← Ny240.out] at ho15)); have HO242 := am (Kd.R_lower ho15 (keep_size (w := w) (g := g) (row := none) m24_)); replace HK := am (KeepBut.trans m24_ (KeepBut.of_below hb g none) (.inl rfl)); replace HB := am (below_step m23_ hb); replace HI0 := am (IsS84.below m25_ hb); clear hb ho15) | ((with_reducible refine gate_callee (f := 63) rfl ?_); refine gL (some 14) Tryz.func63 #[.pointer (some ⟨g, 0, none⟩), .int .i64 10] ?_; (with_reducible refine (spec_l20Rd_pick.calls k g s0_0 t235 10 t243 t244 w0 _ ?side1 ?side2 A10.out).mono ?_); (case side1 => exact m25_); (case side2 => exact m23_); rintro e w16 ⟨rfl, hi, hb, hk⟩; refine ⟨_, rfl, ?_⟩; replace HO242 := am (Kd.R_mono (Kd.R_keep (IsS84.apart (show IsS84 w0 _ g s0_0 t235 from m25_) (rs HO242) (by decide)) hk (fun _ h => h.2)) (fun _ h => h.1)); replace HK := am (KeepBut.trans m24_ hk (.inl rfl)); replace HB := am hb; replace HI0 := am hi; (try clear hb); (try clear hk); (try clear hi); obtain ⟨Ao17, co17, eo17⟩ := Kd.R_slice HO242.out; subst eo17; have p245 : 0 ≤ (t243 : Int) := of_decide_eq_true da_; have q245 : t243 < (y240.length : Int) := of_decide_eq_true da_; obtain ⟨ad245, e245, hx245_0⟩ := Kd.at_string (Kd.R_reads' HO242.out).2.2 t243 p245 q245; cases e245; replace p245 := eq_true p245; replace q245 := eq_true q245))
     go_ret
     exact ⟨fi_, m25_, m23_, m24_⟩
    ·rw [if_neg c12] at H
     exact absurd H (by simp)
   ·rw [if_neg c11] at H
    exact absurd H (by simp)
  ·rw [if_neg c9] at H
   have c9b0 : (t234 == 1) = false := beq_eq_false_iff_ne.mpr c9
   have c9b1 : (t234 != 1) = true := bne_iff_ne.mpr c9
   obtain ⟨y246, hy246⟩ : ∃ y_ : List ByteArray, y_ = (([(⟨#[97]⟩ : ByteArray), (⟨#[98, 98]⟩ : ByteArray), (⟨#[103, 101, 116, 32, 102, 105, 108, 101, 49]⟩ : ByteArray), (⟨#[113, 117, 105, 116]⟩ : ByteArray)] : List ByteArray)) := ⟨_, rfl⟩
   replace H : ((spec_l20Rd_pick.f k s0_0 t235 4).bind fun bt249 => (if 0 ≤ bt249.1 then (if bt249.1 < (y246.length : Int) then (some (rdOf ByteArray.empty y246 bt249.1, bt249.2)) else (none)) else (none))) = some (r1, r2) := by first | (rw [hy246]; with_reducible exact H) | (have H2_ := (Option.bind_some _ _).symm.trans H; rw [hy246]; with_reducible exact H2_) | (have H2_ := (Option.bind_some _ _).symm.trans H; with_reducible exact H2_) | with_reducible exact H | (rw [hy246]; exact H) | exact H
   have Ny246 := am hy246
   clear hy246
   obtain ⟨⟨t249, t250⟩, A18, H⟩ := bse H
   try dsimp only at H
   by_cases c19 : 0 ≤ t249
   ·rw [if_pos c19] at H
    have c19b0 : decide (0 ≤ t249) = true := decide_eq_true c19
    clear c19
    by_cases c20 : t249 < (y246.length : Int)
    ·rw [if_pos c20] at H
     have c20b0 : decide (t249 < (y246.length : Int)) = true := decide_eq_true c20
     clear c20
     simp only [Option.some.injEq, Prod.mk.injEq] at H
     obtain ⟨rfl, rfl⟩ := H
     go_enter Tryz.func42, Tryz.ntmps42
     go_wp2_with (first | ((with_reducible refine gate_callee (f := 63) rfl ?_); refine gL (some 4) Tryz.func63 #[.pointer (some ⟨g, 0, none⟩), .int .i64 3] ?_; (with_reducible refine (spec_l20Rd_pick.calls k g s0_0 s0_1 3 t234 t235 w0 _ ?side1 ?side2 A2.out).mono ?_); (case side1 => exact m25_); (case side2 => exact m23_); rintro e w21 ⟨rfl, hi, hb, hk⟩; refine ⟨_, rfl, ?_⟩; replace HK := am (KeepBut.trans m24_ hk (.inl rfl)); replace HB := am hb; replace HI0 := am hi; (try clear hb); (try clear hk); (try clear hi)) | ((with_reducible refine gate_dst (N := 17) rfl ?_); refine Kd.R_lit Kd.string _ 9 rfl (N := 17) rfl (xs := ([(⟨#[97]⟩ : ByteArray), (⟨#[98, 98]⟩ : ByteArray), (⟨#[103, 101, 116, 32, 102, 105, 108, 101, 49]⟩ : ByteArray), (⟨#[113, 117, 105, 116]⟩ : ByteArray)] : List ByteArray)) (inner := [.string (⟨#[97]⟩ : ByteArray), .string (⟨#[98, 98]⟩ : ByteArray), .string (⟨#[103, 101, 116, 32, 102, 105, 108, 101, 49]⟩ : ByteArray), .string (⟨#[113, 117, 105, 116]⟩ : ByteArray)]) (ok := fun _ => True) (okp := fun _ => True) hr_ ?hp (fun _ hk => hk) trivial (Below.refl _ _) (Nat.le_refl _) (by simp) ?_; (case hp => exact (Reps.one (show Kd.M Kd.string _ _ _ (⟨#[97]⟩ : ByteArray) [.string (⟨#[97]⟩ : ByteArray)] from rfl) (Reps.one (show Kd.M Kd.string _ _ _ (⟨#[98, 98]⟩ : ByteArray) [.string (⟨#[98, 98]⟩ : ByteArray)] from rfl) (Reps.one (show Kd.M Kd.string _ _ _ (⟨#[103, 101, 116, 32, 102, 105, 108, 101, 49]⟩ : ByteArray) [.string (⟨#[103, 101, 116, 32, 102, 105, 108, 101, 49]⟩ : ByteArray)] from rfl) (Reps.one (show Kd.M Kd.string _ _ _ (⟨#[113, 117, 105, 116]⟩ : ByteArray) [.string (⟨#[113, 117, 105, 116]⟩ : ByteArray)] from rfl) (Reps.none _ _)))))); intro v247 w22 ho23 hb hg_ hnew_; clear hg_ hnew_; (first | rw [← Ny246.out] at ho23 | (simp only [Int.reduceToNat] at ho23; rw [← Ny246.out] at ho23)); have HO248 := am (Kd.R_lower ho23 (keep_size (w := w) (g := g) (row := none) m24_)); replace HK := am (KeepBut.trans m24_ (KeepBut.of_below hb g none) (.inl rfl)); replace HB := am (below_step m23_ hb); replace HI0 := am (IsS84.below m25_ hb); clear hb ho23) | ((with_reducible refine gate_callee (f := 63) rfl ?_); refine gL (some 19) Tryz.func63 #[.pointer (some ⟨g, 0, none⟩), .int .i64 4] ?_; (with_reducible refine (spec_l20Rd_pick.calls k g s0_0 t235 4 t249 t250 w0 _ ?side1 ?side2 A18.out).mono ?_); (case side1 => exact m25_); (case side2 => exact m23_); rintro e w24 ⟨rfl, hi, hb, hk⟩; refine ⟨_, rfl, ?_⟩; replace HO248 := am (Kd.R_mono (Kd.R_keep (IsS84.apart (show IsS84 w0 _ g s0_0 t235 from m25_) (rs HO248) (by decide)) hk (fun _ h => h.2)) (fun _ h => h.1)); replace HK := am (KeepBut.trans m24_ hk (.inl rfl)); replace HB := am hb; replace HI0 := am hi; (try clear hb); (try clear hk); (try clear hi); obtain ⟨Ao25, co25, eo25⟩ := Kd.R_slice HO248.out; subst eo25; have p251 : 0 ≤ (t249 : Int) := of_decide_eq_true da_; have q251 : t249 < (y246.length : Int) := of_decide_eq_true da_; obtain ⟨ad251, e251, hx251_0⟩ := Kd.at_string (Kd.R_reads' HO248.out).2.2 t249 p251 q251; cases e251; replace p251 := eq_true p251; replace q251 := eq_true q251))
     go_ret
     exact ⟨fi_, m25_, m23_, m24_⟩
    ·rw [if_neg c20] at H
     exact absurd H (by simp)
   ·rw [if_neg c19] at H
    exact absurd H (by simp)
def spec_l20Stream.l0 : Nat → ByteArray → Int → List Int → Int → Option (ByteArray × Int)
 | 0, _, _, _, _ => none
 | k + 1, x3, x4, x1000, x1001 => if x4 > 0 then ((spec_l20Line.f k x1000 x1001).bind fun bt658 => (if x3.size + bt658.1.size ≤ 9223372036854775807 then (if (x3 ++ bt658.1).size + 1 ≤ 9223372036854775807 then (if (((x3 ++ bt658.1) ++ (⟨#[59]⟩ : ByteArray)).size : Int) ≤ 120 then (spec_l20Stream.l0 k ((x3 ++ bt658.1) ++ (⟨#[59]⟩ : ByteArray)) (wrap64 (x4 - 1)) x1000 bt658.2) else (spec_l20Stream.l0 k x3 (wrap64 (x4 - 1)) x1000 bt658.2)) else (none)) else (none))) else ((spec_l20Rd_pick.f k x1000 x1001 3).bind fun bt660 => (if bt660.1 = 0 then ((spec_l20Line.f k x1000 bt660.2).bind fun bt662 => (if (wrap64 ((x3.size : Int) + (bt662.1.size : Int))) ≤ 120 then (if x3.size + bt662.1.size ≤ 9223372036854775807 then (some (x3 ++ bt662.1, bt662.2)) else (none)) else (some (x3, bt662.2)))) else (some (x3, bt660.2))))
def spec_l20Stream.f (k : Nat) (s0_0 : List Int) (s0_1 : Int) : Option (ByteArray × Int) := (spec_l20Rd_pick.f k s0_0 s0_1 9).bind fun bt656 => (spec_l20Stream.l0 k (⟨#[]⟩ : ByteArray) bt656.1 s0_0 bt656.2)
theorem spec_l20Stream.mono_l : ∀ k, (∀ y0 y1 y2 y3, LeO (spec_l20Stream.l0 k y0 y1 y2 y3) (spec_l20Stream.l0 (k + 1) y0 y1 y2 y3))
 | 0 => fun _ _ _ _ r h => by simp [spec_l20Stream.l0] at h
 | k + 1 => by
  have ih0 := spec_l20Stream.mono_l k
  ·intro y0 y1 y2 y3
   unfold spec_l20Stream.l0
   repeat' first | (with_reducible first | exact ih0 _ _ _ _ | exact spec_l20Line.mono _ _ _ | exact spec_l20Rd_pick.mono _ _ _ _ | exact LeO.refl _ | exact LeO.none _ | refine LeO.ite ?_ ?_ | refine LeO.bind ?_ (fun _ => ?_)) | exact ih0 _ _ _ _ | exact spec_l20Line.mono _ _ _ | exact spec_l20Rd_pick.mono _ _ _ _ | exact LeO.none _ | refine LeO.ite ?_ ?_ | refine LeO.bind ?_ (fun _ => ?_)
theorem spec_l20Stream.mono : ∀ a0 a1 k, LeO (spec_l20Stream.f k a0 a1) (spec_l20Stream.f (k + 1) a0 a1) := by
 intro a0 a1 k
 have ih0 := spec_l20Stream.mono_l k
 unfold spec_l20Stream.f
 repeat' first | (with_reducible first | exact ih0 _ _ _ _ | exact spec_l20Line.mono _ _ _ | exact spec_l20Rd_pick.mono _ _ _ _ | exact LeO.refl _ | exact LeO.none _ | refine LeO.ite ?_ ?_ | refine LeO.bind ?_ (fun _ => ?_)) | exact ih0 _ _ _ _ | exact spec_l20Line.mono _ _ _ | exact spec_l20Rd_pick.mono _ _ _ _ | exact LeO.none _ | refine LeO.ite ?_ ?_ | refine LeO.bind ?_ (fun _ => ?_)
set_option maxHeartbeats 8000000 in
set_option maxRecDepth 100000 in
theorem spec_l20Stream.calls (k : Nat) (g : Nat) (s0_0 : List Int) (s0_1 : Int) (r1 : ByteArray) (r2 : Int) (w0 w : World) (hI : IsS84 w0 w g s0_0 s0_1) (hB : Below w0.heap.size w0 w) (h : spec_l20Stream.f k s0_0 s0_1 = some (r1, r2)) :
  Calls Tryz.prog 95 #[.pointer (some ⟨g, 0, none⟩)] w fun e w' => e = .returned (.string r1) ∧ IsS84 w0 w' g s0_0 r2 ∧ Below w0.heap.size w0 w' ∧ KeepBut w w' g none := by
 have HI0 := am hI
 have HK := am (KeepBut.refl w g none)
 have HL := am hB.size
 clear hI
 have HW0 := am hB.size
 have HB := am hB
 clear hB
 have H : ((spec_l20Rd_pick.f k s0_0 s0_1 9).bind fun bt656 => (spec_l20Stream.l0 k (⟨#[]⟩ : ByteArray) bt656.1 s0_0 bt656.2)) = some (r1, r2) := h
 clear h
 obtain ⟨⟨t656, t657⟩, A2, H⟩ := bse H
 try dsimp only at H
 have H' := am H
 clear H
 go_enter Tryz.func95, Tryz.ntmps95
 go_wp2_with (first | ((with_reducible refine gate_callee (f := 63) rfl ?_); refine gL (some 8) Tryz.func63 #[.pointer (some ⟨g, 0, none⟩), .int .i64 9] ?_; (with_reducible refine (spec_l20Rd_pick.calls k g s0_0 s0_1 9 t656 t657 w0 _ ?side1 ?side2 A2.out).mono ?_); (case side1 => exact m25_); (case side2 => exact m23_); rintro e w3 ⟨rfl, hi, hb, hk⟩; refine ⟨_, rfl, ?_⟩; replace HK := am (KeepBut.trans m24_ hk (.inl rfl)); replace HB := am hb; replace HI0 := am hi; (try clear hb); (try clear hk); (try clear hi)))
 go_loopg [3, 4] k (fun kq v3 v4 w' => ∃ (x3_1 : ByteArray) (x4_1 : Int) (x1001_1 : Int), v3 = .string x3_1 ∧ v4 = .int .i64 x4_1 ∧ Aside0 (spec_l20Stream.l0 kq x3_1 x4_1 s0_0 x1001_1 = some (r1, r2)) ∧ Aside0 (kq ≤ k) ∧ Aside0 (IsS84 w0 w' g s0_0 x1001_1) ∧ Aside0 (KeepBut w w' g none) ∧ Aside0 (Below w0.heap.size w0 w'))
 case atStart => exact ⟨((⟨#[]⟩ : ByteArray)), (t656), (t657), rs_, rs_, H', ⟨Nat.le_refl _⟩, ⟨m25_⟩, ⟨m24_⟩, ⟨m23_⟩⟩
 case round =>
  clear H'
  try clear p2
  obtain ⟨x3_1, x4_1, x1001_1, rfl, rfl, HA, HK1, HI0, HK, HB⟩ := hrel
  cases gk with
  | zero => exact absurd HA.out (by simp [spec_l20Stream.l0])
  | succ k1 =>
   have H := HA.out
   clear HA
   simp only [spec_l20Stream.l0] at H
   by_cases c4 : x4_1 > 0
   ·rw [if_pos c4] at H
    have c4b0 : decide (0 < x4_1) = true := decide_eq_true c4
    clear c4
    obtain ⟨⟨t658, t659⟩, A5, H⟩ := bse H
    try dsimp only at H
    by_cases c6 : x3_1.size + t658.size ≤ 9223372036854775807
    ·rw [if_pos c6] at H
     have c6b0 := eq_true c6
     have c6b1 : decide (x3_1.size + t658.size ≤ 9223372036854775807) = true := decide_eq_true c6
     try have c6b2 : (9223372036854775807 < x3_1.size + t658.size) = False := eq_false (Nat.not_lt.2 c6)
     by_cases c7 : (x3_1 ++ t658).size + 1 ≤ 9223372036854775807
     ·rw [if_pos c7] at H
      have c7b0 := eq_true c7
      have c7b1 : decide ((x3_1 ++ t658).size + 1 ≤ 9223372036854775807) = true := decide_eq_true c7
      try have c7b2 : (9223372036854775807 < (x3_1 ++ t658).size + 1) = False := eq_false (Nat.not_lt.2 c7)
      try have c7b3 : (9223372036854775807 < x3_1.size + t658.size + 1) = False := (by have z_ := c7b2; simp only [ByteArray.size_append] at z_; exact z_)
      by_cases c8 : (((x3_1 ++ t658) ++ (⟨#[59]⟩ : ByteArray)).size : Int) ≤ 120
      ·rw [if_pos c8] at H
       have c8b0 : decide ((((x3_1 ++ t658) ++ (⟨#[59]⟩ : ByteArray)).size : Int) ≤ 120) = true := decide_eq_true c8
       have c8b1 : decide (((x3_1 ++ t658) ++ (⟨#[59]⟩ : ByteArray)).size ≤ 120) = true := decide_eq_true (by omega)
       try have c8b3 : decide ((x3_1.size : Int) + (t658.size : Int) + 1 ≤ 120) = true := (by have z_ := c8b0; simp only [ByteArray.size_append, Int.natCast_add] at z_; exact z_)
       clear c8
       have H' := am H
       clear H
       go_wp2_with (first | ((with_reducible refine gate_callee (f := 42) rfl ?_); refine gL (some 15) Tryz.func42 #[.pointer (some ⟨g, 0, none⟩)] ?_; (with_reducible refine (spec_l20Line.calls k1 g s0_0 x1001_1 t658 t659 w0 _ ?side1 ?side2 A5.out).mono ?_); (case side1 => exact m25_); (case side2 => exact m23_); rintro e w9 ⟨rfl, hi, hb, hk⟩; refine ⟨_, rfl, ?_⟩; replace HK := am (KeepBut.trans m24_ hk (.inl rfl)); replace HB := am hb; replace HI0 := am hi; (try clear hb); (try clear hk); (try clear hi)))
       go_roundg k1
       case measure => have := HK1.out; omega
       case rel => exact ⟨((x3_1 ++ t658) ++ (⟨#[59]⟩ : ByteArray)), (wrap64 (x4_1 - 1)), (t659), rs_, rs_, H', ⟨by have := HK1.out; omega⟩, ⟨m25_⟩, ⟨m24_⟩, ⟨m23_⟩⟩
      ·rw [if_neg c8] at H
       have c8b0 : decide ((((x3_1 ++ t658) ++ (⟨#[59]⟩ : ByteArray)).size : Int) ≤ 120) = false := decide_eq_false c8
       have c8b1 : decide (((x3_1 ++ t658) ++ (⟨#[59]⟩ : ByteArray)).size ≤ 120) = false := decide_eq_false (by omega)
       try have c8b3 : decide ((x3_1.size : Int) + (t658.size : Int) + 1 ≤ 120) = false := (by have z_ := c8b0; simp only [ByteArray.size_append, Int.natCast_add] at z_; exact z_)
       clear c8
       have H' := am H
       clear H
       go_wp2_with (first | ((with_reducible refine gate_callee (f := 42) rfl ?_); refine gL (some 15) Tryz.func42 #[.pointer (some ⟨g, 0, none⟩)] ?_; (with_reducible refine (spec_l20Line.calls k1 g s0_0 x1001_1 t658 t659 w0 _ ?side1 ?side2 A5.out).mono ?_); (case side1 => exact m25_); (case side2 => exact m23_); rintro e w10 ⟨rfl, hi, hb, hk⟩; refine ⟨_, rfl, ?_⟩; replace HK := am (KeepBut.trans m24_ hk (.inl rfl)); replace HB := am hb; replace HI0 := am hi; (try clear hb); (try clear hk); (try clear hi)))
       go_roundg k1
       case measure => have := HK1.out; omega
       case rel => exact ⟨(x3_1), (wrap64 (x4_1 - 1)), (t659), rs_, rs_, H', ⟨by have := HK1.out; omega⟩, ⟨m25_⟩, ⟨m24_⟩, ⟨m23_⟩⟩
     ·rw [if_neg c7] at H
      exact absurd H (by simp)
    ·rw [if_neg c6] at H
     exact absurd H (by simp)
   ·rw [if_neg c4] at H
    have c4b0 : decide (0 < x4_1) = false := decide_eq_false c4
    clear c4
    obtain ⟨⟨t660, t661⟩, A11, H⟩ := bse H
    try dsimp only at H
    by_cases c12 : t660 = 0
    ·rw [if_pos c12] at H
     have c12b0 : (t660 == 0) = true := beq_iff_eq.mpr c12
     have c12b1 : (t660 != 0) = false := bne_eq_false_iff_eq.mpr c12
     clear c12
     obtain ⟨⟨t662, t663⟩, A13, H⟩ := bse H
     try dsimp only at H
     by_cases c14 : (wrap64 ((x3_1.size : Int) + (t662.size : Int))) ≤ 120
     ·rw [if_pos c14] at H
      have c14b0 : decide ((wrap64 ((x3_1.size : Int) + (t662.size : Int))) ≤ 120) = true := decide_eq_true c14
      clear c14
      by_cases c15 : x3_1.size + t662.size ≤ 9223372036854775807
      ·rw [if_pos c15] at H
       have c15b0 := eq_true c15
       have c15b1 : decide (x3_1.size + t662.size ≤ 9223372036854775807) = true := decide_eq_true c15
       try have c15b2 : (9223372036854775807 < x3_1.size + t662.size) = False := eq_false (Nat.not_lt.2 c15)
       try have c15b5 : decide ((x3_1.size : Int) + (t662.size : Int) ≤ 120) = true := (by have z_ := of_decide_eq_true c14b0; have y_ := of_decide_eq_true c15b1; unfold wrap64 at z_; exact decide_eq_true (by omega))
       simp only [Option.some.injEq, Prod.mk.injEq] at H
       obtain ⟨rfl, rfl⟩ := H
       go_wp2_with (first | ((with_reducible refine gate_callee (f := 63) rfl ?_); refine gL (some 23) Tryz.func63 #[.pointer (some ⟨g, 0, none⟩), .int .i64 3] ?_; (with_reducible refine (spec_l20Rd_pick.calls k1 g s0_0 x1001_1 3 t660 t661 w0 _ ?side1 ?side2 A11.out).mono ?_); (case side1 => exact m25_); (case side2 => exact m23_); rintro e w16 ⟨rfl, hi, hb, hk⟩; refine ⟨_, rfl, ?_⟩; replace HK := am (KeepBut.trans m24_ hk (.inl rfl)); replace HB := am hb; replace HI0 := am hi; (try clear hb); (try clear hk); (try clear hi)) | ((with_reducible refine gate_callee (f := 42) rfl ?_); refine gL (some 26) Tryz.func42 #[.pointer (some ⟨g, 0, none⟩)] ?_; (with_reducible refine (spec_l20Line.calls k1 g s0_0 t661 t662 t663 w0 _ ?side1 ?side2 A13.out).mono ?_); (case side1 => exact m25_); (case side2 => exact m23_); rintro e w17 ⟨rfl, hi, hb, hk⟩; refine ⟨_, rfl, ?_⟩; replace HK := am (KeepBut.trans m24_ hk (.inl rfl)); replace HB := am hb; replace HI0 := am hi; (try clear hb); (try clear hk); (try clear hi)))
       go_ret
       exact ⟨fi_, m25_, m23_, m24_⟩
      ·rw [if_neg c15] at H
       exact absurd H (by simp)
     ·rw [if_neg c14] at H
      have c14b0 : decide ((wrap64 ((x3_1.size : Int) + (t662.size : Int))) ≤ 120) = false := decide_eq_false c14
      clear c14
      simp only [Option.some.injEq, Prod.mk.injEq] at H
      obtain ⟨rfl, rfl⟩ := H
      go_wp2_with (first | ((with_reducible refine gate_callee (f := 63) rfl ?_); refine gL (some 23) Tryz.func63 #[.pointer (some ⟨g, 0, none⟩), .int .i64 3] ?_; (with_reducible refine (spec_l20Rd_pick.calls k1 g s0_0 x1001_1 3 t660 t661 w0 _ ?side1 ?side2 A11.out).mono ?_); (case side1 => exact m25_); (case side2 => exact m23_); rintro e w18 ⟨rfl, hi, hb, hk⟩; refine ⟨_, rfl, ?_⟩; replace HK := am (KeepBut.trans m24_ hk (.inl rfl)); replace HB := am hb; replace HI0 := am hi; (try clear hb); (try clear hk); (try clear hi)) | ((with_reducible refine gate_callee (f := 42) rfl ?_); refine gL (some 26) Tryz.func42 #[.pointer (some ⟨g, 0, none⟩)] ?_; (with_reducible refine (spec_l20Line.calls k1 g s0_0 t661 t662 t663 w0 _ ?side1 ?side2 A13.out).mono ?_); (case side1 => exact m25_); (case side2 => exact m23_); rintro e w19 ⟨rfl, hi, hb, hk⟩; refine ⟨_, rfl, ?_⟩; replace HK := am (KeepBut.trans m24_ hk (.inl rfl)); replace HB := am hb; replace HI0 := am hi; (try clear hb); (try clear hk); (try clear hi)))
      go_ret
      exact ⟨fi_, m25_, m23_, m24_⟩
    ·rw [if_neg c12] at H
     have c12b0 : (t660 == 0) = false := beq_eq_false_iff_ne.mpr c12
     have c12b1 : (t660 != 0) = true := bne_iff_ne.mpr c12
     simp only [Option.some.injEq, Prod.mk.injEq] at H
     obtain ⟨rfl, rfl⟩ := H
     go_wp2_with (first | ((with_reducible refine gate_callee (f := 63) rfl ?_); refine gL (some 23) Tryz.func63 #[.pointer (some ⟨g, 0, none⟩), .int .i64 3] ?_; (with_reducible refine (spec_l20Rd_pick.calls k1 g s0_0 x1001_1 3 t660 t661 w0 _ ?side1 ?side2 A11.out).mono ?_); (case side1 => exact m25_); (case side2 => exact m23_); rintro e w20 ⟨rfl, hi, hb, hk⟩; refine ⟨_, rfl, ?_⟩; replace HK := am (KeepBut.trans m24_ hk (.inl rfl)); replace HB := am hb; replace HI0 := am hi; (try clear hb); (try clear hk); (try clear hi)))
     go_ret
     exact ⟨fi_, m25_, m23_, m24_⟩
def spec_l20StreamOr.l0 : Nat → ByteArray → List Int → Int → Option (ByteArray × Int)
 | 0, _, _, _ => none
 | k + 1, x5, x1000, x1001 => if (x5.size : Int) ≤ 120 then (if x5.size + 5 ≤ 9223372036854775807 then (spec_l20StreamOr.l0 k (x5 ++ (⟨#[108, 105, 115, 116, 59]⟩ : ByteArray)) x1000 x1001) else (none)) else (some (x5, x1001))
def spec_l20StreamOr.f (k : Nat) (s0_0 : List Int) (s0_1 : Int) (a1 : Int) : Option (ByteArray × Int) := (spec_l20Stream.f k s0_0 s0_1).bind fun bt664 => ((spec_l20Rd_odd.f k s0_0 bt664.2 a1).bind fun bt666 => (if bt666.1 = true then ((spec_l20Rd_pick.f k s0_0 bt666.2 3).bind fun bt668 => (if bt668.1 = 0 then ((spec_l20Bent.f k s0_0 bt668.2 bt664.1).bind fun bt670 => (some (bt670.1, bt670.2))) else (if bt668.1 = 1 then (if bt664.1.size + 18 ≤ 9223372036854775807 then (some (bt664.1 ++ (⟨#[97, 98, 99, 100, 101, 102, 103, 104, 105, 106, 32, 107, 108, 109, 110, 111, 112, 59]⟩ : ByteArray), bt668.2)) else (none)) else (spec_l20StreamOr.l0 k bt664.1 s0_0 bt668.2)))) else (some (bt664.1, bt666.2))))
theorem spec_l20StreamOr.mono_l : ∀ k, (∀ y0 y1 y2, LeO (spec_l20StreamOr.l0 k y0 y1 y2) (spec_l20StreamOr.l0 (k + 1) y0 y1 y2))
 | 0 => fun _ _ _ r h => by simp [spec_l20StreamOr.l0] at h
 | k + 1 => by
  have ih0 := spec_l20StreamOr.mono_l k
  ·intro y0 y1 y2
   unfold spec_l20StreamOr.l0
   repeat' first | (with_reducible first | exact ih0 _ _ _ | exact spec_l20Bent.mono _ _ _ _ | exact spec_l20Rd_odd.mono _ _ _ _ | exact spec_l20Rd_pick.mono _ _ _ _ | exact spec_l20Stream.mono _ _ _ | exact LeO.refl _ | exact LeO.none _ | refine LeO.ite ?_ ?_ | refine LeO.bind ?_ (fun _ => ?_)) | exact ih0 _ _ _ | exact spec_l20Bent.mono _ _ _ _ | exact spec_l20Rd_odd.mono _ _ _ _ | exact spec_l20Rd_pick.mono _ _ _ _ | exact spec_l20Stream.mono _ _ _ | exact LeO.none _ | refine LeO.ite ?_ ?_ | refine LeO.bind ?_ (fun _ => ?_)
theorem spec_l20StreamOr.mono : ∀ a0 a1 a2 k, LeO (spec_l20StreamOr.f k a0 a1 a2) (spec_l20StreamOr.f (k + 1) a0 a1 a2) := by
 intro a0 a1 a2 k
 have ih0 := spec_l20StreamOr.mono_l k
 unfold spec_l20StreamOr.f
 repeat' first | (with_reducible first | exact ih0 _ _ _ | exact spec_l20Bent.mono _ _ _ _ | exact spec_l20Rd_odd.mono _ _ _ _ | exact spec_l20Rd_pick.mono _ _ _ _ | exact spec_l20Stream.mono _ _ _ | exact LeO.refl _ | exact LeO.none _ | refine LeO.ite ?_ ?_ | refine LeO.bind ?_ (fun _ => ?_)) | exact ih0 _ _ _ | exact spec_l20Bent.mono _ _ _ _ | exact spec_l20Rd_odd.mono _ _ _ _ | exact spec_l20Rd_pick.mono _ _ _ _ | exact spec_l20Stream.mono _ _ _ | exact LeO.none _ | refine LeO.ite ?_ ?_ | refine LeO.bind ?_ (fun _ => ?_)
set_option maxHeartbeats 8000000 in
set_option maxRecDepth 100000 in
theorem spec_l20StreamOr.calls (k : Nat) (g : Nat) (s0_0 : List Int) (s0_1 : Int) (a1 : Int) (r1 : ByteArray) (r2 : Int) (w0 w : World) (hI : IsS84 w0 w g s0_0 s0_1) (hB : Below w0.heap.size w0 w) (h : spec_l20StreamOr.f k s0_0 s0_1 a1 = some (r1, r2)) :
  Calls Tryz.prog 67 #[.pointer (some ⟨g, 0, none⟩), .int .i64 a1] w fun e w' => e = .returned (.string r1) ∧ IsS84 w0 w' g s0_0 r2 ∧ Below w0.heap.size w0 w' ∧ KeepBut w w' g none := by
 have HI0 := am hI
 have HK := am (KeepBut.refl w g none)
 have HL := am hB.size
 clear hI
 have HW0 := am hB.size
 have HB := am hB
 clear hB
 have H : ((spec_l20Stream.f k s0_0 s0_1).bind fun bt664 => ((spec_l20Rd_odd.f k s0_0 bt664.2 a1).bind fun bt666 => (if bt666.1 = true then ((spec_l20Rd_pick.f k s0_0 bt666.2 3).bind fun bt668 => (if bt668.1 = 0 then ((spec_l20Bent.f k s0_0 bt668.2 bt664.1).bind fun bt670 => (some (bt670.1, bt670.2))) else (if bt668.1 = 1 then (if bt664.1.size + 18 ≤ 9223372036854775807 then (some (bt664.1 ++ (⟨#[97, 98, 99, 100, 101, 102, 103, 104, 105, 106, 32, 107, 108, 109, 110, 111, 112, 59]⟩ : ByteArray), bt668.2)) else (none)) else (spec_l20StreamOr.l0 k bt664.1 s0_0 bt668.2)))) else (some (bt664.1, bt666.2))))) = some (r1, r2) := h
 clear h
 obtain ⟨⟨t664, t665⟩, A3, H⟩ := bse H
 try dsimp only at H
 obtain ⟨⟨t666, t667⟩, A4, H⟩ := bse H
 try dsimp only at H
 by_cases c5 : t666 = true
 ·subst c5
  have H1 : ((spec_l20Rd_pick.f k s0_0 t667 3).bind fun bt668 => (if bt668.1 = 0 then ((spec_l20Bent.f k s0_0 bt668.2 t664).bind fun bt670 => (some (bt670.1, bt670.2))) else (if bt668.1 = 1 then (if t664.size + 18 ≤ 9223372036854775807 then (some (t664 ++ (⟨#[97, 98, 99, 100, 101, 102, 103, 104, 105, 106, 32, 107, 108, 109, 110, 111, 112, 59]⟩ : ByteArray), bt668.2)) else (none)) else (spec_l20StreamOr.l0 k t664 s0_0 bt668.2)))) = some (r1, r2) := by rw [if_pos rfl] at H; exact H
  clear H
  have H := H1
  clear H1
  obtain ⟨⟨t668, t669⟩, A6, H⟩ := bse H
  try dsimp only at H
  by_cases c7 : t668 = 0
  ·rw [if_pos c7] at H
   have c7b0 : (t668 == 0) = true := beq_iff_eq.mpr c7
   have c7b1 : (t668 != 0) = false := bne_eq_false_iff_eq.mpr c7
   clear c7
   obtain ⟨⟨t670, t671⟩, A8, H⟩ := bse H
   try dsimp only at H
   simp only [Option.some.injEq, Prod.mk.injEq] at H
   obtain ⟨rfl, rfl⟩ := H
   go_enter Tryz.func67, Tryz.ntmps67
   go_wp2_with (first | ((with_reducible refine gate_callee (f := 95) rfl ?_); refine gL (some 7) Tryz.func95 #[.pointer (some ⟨g, 0, none⟩)] ?_; (with_reducible refine (spec_l20Stream.calls k g s0_0 s0_1 t664 t665 w0 _ ?side1 ?side2 A3.out).mono ?_); (case side1 => exact m25_); (case side2 => exact m23_); rintro e w9 ⟨rfl, hi, hb, hk⟩; refine ⟨_, rfl, ?_⟩; replace HK := am (KeepBut.trans m24_ hk (.inl rfl)); replace HB := am hb; replace HI0 := am hi; (try clear hb); (try clear hk); (try clear hi)) | ((with_reducible refine gate_callee (f := 43) rfl ?_); refine gL (some 10) Tryz.func43 #[.pointer (some ⟨g, 0, none⟩), .int .i64 a1] ?_; (with_reducible refine (spec_l20Rd_odd.calls k g s0_0 t665 a1 true t667 w0 _ ?side1 ?side2 A4.out).mono ?_); (case side1 => exact m25_); (case side2 => exact m23_); rintro e w10 ⟨rfl, hi, hb, hk⟩; refine ⟨_, rfl, ?_⟩; replace HK := am (KeepBut.trans m24_ hk (.inl rfl)); replace HB := am hb; replace HI0 := am hi; (try clear hb); (try clear hk); (try clear hi)) | ((with_reducible refine gate_callee (f := 63) rfl ?_); refine gL (some 12) Tryz.func63 #[.pointer (some ⟨g, 0, none⟩), .int .i64 3] ?_; (with_reducible refine (spec_l20Rd_pick.calls k g s0_0 t667 3 t668 t669 w0 _ ?side1 ?side2 A6.out).mono ?_); (case side1 => exact m25_); (case side2 => exact m23_); rintro e w11 ⟨rfl, hi, hb, hk⟩; refine ⟨_, rfl, ?_⟩; replace HK := am (KeepBut.trans m24_ hk (.inl rfl)); replace HB := am hb; replace HI0 := am hi; (try clear hb); (try clear hk); (try clear hi)) | ((with_reducible refine gate_callee (f := 44) rfl ?_); refine gL (some 17) Tryz.func44 #[.pointer (some ⟨g, 0, none⟩), .string t664] ?_; (with_reducible refine (spec_l20Bent.calls k g s0_0 t669 t664 t670 t671 w0 _ ?side1 ?side2 A8.out).mono ?_); (case side1 => exact m25_); (case side2 => exact m23_); rintro e w12 ⟨rfl, hi, hb, hk⟩; refine ⟨_, rfl, ?_⟩; replace HK := am (KeepBut.trans m24_ hk (.inl rfl)); replace HB := am hb; replace HI0 := am hi; (try clear hb); (try clear hk); (try clear hi)))
   go_ret
   exact ⟨fi_, m25_, m23_, m24_⟩
  ·rw [if_neg c7] at H
   have c7b0 : (t668 == 0) = false := beq_eq_false_iff_ne.mpr c7
   have c7b1 : (t668 != 0) = true := bne_iff_ne.mpr c7
   by_cases c13 : t668 = 1
   ·rw [if_pos c13] at H
    have c13b0 : (t668 == 1) = true := beq_iff_eq.mpr c13
    have c13b1 : (t668 != 1) = false := bne_eq_false_iff_eq.mpr c13
    clear c13
    by_cases c14 : t664.size + 18 ≤ 9223372036854775807
    ·rw [if_pos c14] at H
     have c14b0 := eq_true c14
     have c14b1 : decide (t664.size + 18 ≤ 9223372036854775807) = true := decide_eq_true c14
     try have c14b2 : (9223372036854775807 < t664.size + 18) = False := eq_false (Nat.not_lt.2 c14)
     simp only [Option.some.injEq, Prod.mk.injEq] at H
     obtain ⟨rfl, rfl⟩ := H
     go_enter Tryz.func67, Tryz.ntmps67
     go_wp2_with (first | ((with_reducible refine gate_callee (f := 95) rfl ?_); refine gL (some 7) Tryz.func95 #[.pointer (some ⟨g, 0, none⟩)] ?_; (with_reducible refine (spec_l20Stream.calls k g s0_0 s0_1 t664 t665 w0 _ ?side1 ?side2 A3.out).mono ?_); (case side1 => exact m25_); (case side2 => exact m23_); rintro e w15 ⟨rfl, hi, hb, hk⟩; refine ⟨_, rfl, ?_⟩; replace HK := am (KeepBut.trans m24_ hk (.inl rfl)); replace HB := am hb; replace HI0 := am hi; (try clear hb); (try clear hk); (try clear hi)) | ((with_reducible refine gate_callee (f := 43) rfl ?_); refine gL (some 10) Tryz.func43 #[.pointer (some ⟨g, 0, none⟩), .int .i64 a1] ?_; (with_reducible refine (spec_l20Rd_odd.calls k g s0_0 t665 a1 true t667 w0 _ ?side1 ?side2 A4.out).mono ?_); (case side1 => exact m25_); (case side2 => exact m23_); rintro e w16 ⟨rfl, hi, hb, hk⟩; refine ⟨_, rfl, ?_⟩; replace HK := am (KeepBut.trans m24_ hk (.inl rfl)); replace HB := am hb; replace HI0 := am hi; (try clear hb); (try clear hk); (try clear hi)) | ((with_reducible refine gate_callee (f := 63) rfl ?_); refine gL (some 12) Tryz.func63 #[.pointer (some ⟨g, 0, none⟩), .int .i64 3] ?_; (with_reducible refine (spec_l20Rd_pick.calls k g s0_0 t667 3 t668 t669 w0 _ ?side1 ?side2 A6.out).mono ?_); (case side1 => exact m25_); (case side2 => exact m23_); rintro e w17 ⟨rfl, hi, hb, hk⟩; refine ⟨_, rfl, ?_⟩; replace HK := am (KeepBut.trans m24_ hk (.inl rfl)); replace HB := am hb; replace HI0 := am hi; (try clear hb); (try clear hk); (try clear hi)))
     go_ret
     exact ⟨fi_, m25_, m23_, m24_⟩
    ·rw [if_neg c14] at H
     exact absurd H (by simp)
   ·rw [if_neg c13] at H
    have c13b0 : (t668 == 1) = false := beq_eq_false_iff_ne.mpr c13
    have c13b1 : (t668 != 1) = true := bne_iff_ne.mpr c13
    have H' := am H
    clear H
    go_enter Tryz.func67, Tryz.ntmps67
    go_wp2_with (first | ((with_reducible refine gate_callee (f := 95) rfl ?_); refine gL (some 7) Tryz.func95 #[.pointer (some ⟨g, 0, none⟩)] ?_; (with_reducible refine (spec_l20Stream.calls k g s0_0 s0_1 t664 t665 w0 _ ?side1 ?side2 A3.out).mono ?_); (case side1 => exact m25_); (case side2 => exact m23_); rintro e w18 ⟨rfl, hi, hb, hk⟩; refine ⟨_, rfl, ?_⟩; replace HK := am (KeepBut.trans m24_ hk (.inl rfl)); replace HB := am hb; replace HI0 := am hi; (try clear hb); (try clear hk); (try clear hi)) | ((with_reducible refine gate_callee (f := 43) rfl ?_); refine gL (some 10) Tryz.func43 #[.pointer (some ⟨g, 0, none⟩), .int .i64 a1] ?_; (with_reducible refine (spec_l20Rd_odd.calls k g s0_0 t665 a1 true t667 w0 _ ?side1 ?side2 A4.out).mono ?_); (case side1 => exact m25_); (case side2 => exact m23_); rintro e w19 ⟨rfl, hi, hb, hk⟩; refine ⟨_, rfl, ?_⟩; replace HK := am (KeepBut.trans m24_ hk (.inl rfl)); replace HB := am hb; replace HI0 := am hi; (try clear hb); (try clear hk); (try clear hi)) | ((with_reducible refine gate_callee (f := 63) rfl ?_); refine gL (some 12) Tryz.func63 #[.pointer (some ⟨g, 0, none⟩), .int .i64 3] ?_; (with_reducible refine (spec_l20Rd_pick.calls k g s0_0 t667 3 t668 t669 w0 _ ?side1 ?side2 A6.out).mono ?_); (case side1 => exact m25_); (case side2 => exact m23_); rintro e w20 ⟨rfl, hi, hb, hk⟩; refine ⟨_, rfl, ?_⟩; replace HK := am (KeepBut.trans m24_ hk (.inl rfl)); replace HB := am hb; replace HI0 := am hi; (try clear hb); (try clear hk); (try clear hi)))
    go_loopg [5] k (fun kq v5 w' => ∃ (x5_1 : ByteArray), v5 = .string x5_1 ∧ Aside0 (spec_l20StreamOr.l0 kq x5_1 s0_0 t669 = some (r1, r2)) ∧ Aside0 (kq ≤ k) ∧ Aside0 (IsS84 w0 w' g s0_0 t669) ∧ Aside0 (KeepBut w w' g none) ∧ Aside0 (Below w0.heap.size w0 w'))
    case atStart => exact ⟨(t664), rs_, H', ⟨Nat.le_refl _⟩, ⟨m25_⟩, ⟨m24_⟩, ⟨m23_⟩⟩
    case round =>
     clear H'
     try clear c1
     try clear p2
     try clear c4
     try clear c5
     try clear c6
     try clear c7
     try clear c7b0
     try clear c7b1
     try clear c9
     try clear c13
     try clear c13b0
     try clear c13b1
     try clear c14
     try clear c14b0
     try clear c14b1
     try clear c14b2
     obtain ⟨x5_1, rfl, HA, HK1, HI0, HK, HB⟩ := hrel
     cases gk with
     | zero => exact absurd HA.out (by simp [spec_l20StreamOr.l0])
     | succ k1 =>
      have H := HA.out
      clear HA
      simp only [spec_l20StreamOr.l0] at H
      by_cases c21 : (x5_1.size : Int) ≤ 120
      ·rw [if_pos c21] at H
       have c21b0 : decide ((x5_1.size : Int) ≤ 120) = true := decide_eq_true c21
       have c21b1 : decide (x5_1.size ≤ 120) = true := decide_eq_true (by omega)
       clear c21
       by_cases c22 : x5_1.size + 5 ≤ 9223372036854775807
       ·rw [if_pos c22] at H
        have c22b0 := eq_true c22
        have c22b1 : decide (x5_1.size + 5 ≤ 9223372036854775807) = true := decide_eq_true c22
        try have c22b2 : (9223372036854775807 < x5_1.size + 5) = False := eq_false (Nat.not_lt.2 c22)
        have H' := am H
        clear H
        go_wp2
        go_roundg k1
        case measure => have := HK1.out; omega
        case rel => exact ⟨(x5_1 ++ (⟨#[108, 105, 115, 116, 59]⟩ : ByteArray)), rs_, H', ⟨by have := HK1.out; omega⟩, ⟨m25_⟩, ⟨m24_⟩, ⟨m23_⟩⟩
       ·rw [if_neg c22] at H
        exact absurd H (by simp)
      ·rw [if_neg c21] at H
       have c21b0 : decide ((x5_1.size : Int) ≤ 120) = false := decide_eq_false c21
       have c21b1 : decide (x5_1.size ≤ 120) = false := decide_eq_false (by omega)
       clear c21
       simp only [Option.some.injEq, Prod.mk.injEq] at H
       obtain ⟨rfl, rfl⟩ := H
       go_wp2
       go_ret
       exact ⟨fi_, m25_, m23_, m24_⟩
 ·replace c5 := Bool.eq_false_iff.mpr c5
  subst c5
  have H1 : (some (t664, t667)) = some (r1, r2) := by rw [if_neg (show ¬ (false = true) by decide)] at H; exact H
  clear H
  have H := H1
  clear H1
  simp only [Option.some.injEq, Prod.mk.injEq] at H
  obtain ⟨rfl, rfl⟩ := H
  go_enter Tryz.func67, Tryz.ntmps67
  go_wp2_with (first | ((with_reducible refine gate_callee (f := 95) rfl ?_); refine gL (some 7) Tryz.func95 #[.pointer (some ⟨g, 0, none⟩)] ?_; (with_reducible refine (spec_l20Stream.calls k g s0_0 s0_1 t664 t665 w0 _ ?side1 ?side2 A3.out).mono ?_); (case side1 => exact m25_); (case side2 => exact m23_); rintro e w23 ⟨rfl, hi, hb, hk⟩; refine ⟨_, rfl, ?_⟩; replace HK := am (KeepBut.trans m24_ hk (.inl rfl)); replace HB := am hb; replace HI0 := am hi; (try clear hb); (try clear hk); (try clear hi)) | ((with_reducible refine gate_callee (f := 43) rfl ?_); refine gL (some 10) Tryz.func43 #[.pointer (some ⟨g, 0, none⟩), .int .i64 a1] ?_; (with_reducible refine (spec_l20Rd_odd.calls k g s0_0 t665 a1 false t667 w0 _ ?side1 ?side2 A4.out).mono ?_); (case side1 => exact m25_); (case side2 => exact m23_); rintro e w24 ⟨rfl, hi, hb, hk⟩; refine ⟨_, rfl, ?_⟩; replace HK := am (KeepBut.trans m24_ hk (.inl rfl)); replace HB := am hb; replace HI0 := am hi; (try clear hb); (try clear hk); (try clear hi)))
  go_ret
  exact ⟨fi_, m25_, m23_, m24_⟩
def spec_DrawRwrStream.f (k : Nat) (l0 : List Int) : Option ((List (S34)) × ByteArray) := (spec_l20Open.f l0).bind fun bt673 => ((spec_l20Table.f k bt673.1 bt673.2 14).bind fun bt676 => ((spec_l20StreamOr.f k bt673.1 bt676.2 9).bind fun bt680 => (some (bt676.1, bt680.1))))
theorem spec_DrawRwrStream.mono : ∀ a0 k, LeO (spec_DrawRwrStream.f k a0) (spec_DrawRwrStream.f (k + 1) a0) := by
 intro a0 k
 unfold spec_DrawRwrStream.f
 repeat' first | (with_reducible first | exact spec_l20StreamOr.mono _ _ _ _ | exact spec_l20Table.mono _ _ _ _ | exact LeO.refl _ | exact LeO.none _ | refine LeO.ite ?_ ?_ | refine LeO.bind ?_ (fun _ => ?_)) | exact spec_l20StreamOr.mono _ _ _ _ | exact spec_l20Table.mono _ _ _ _ | exact LeO.none _ | refine LeO.ite ?_ ?_ | refine LeO.bind ?_ (fun _ => ?_)
set_option maxHeartbeats 8000000 in
set_option maxRecDepth 100000 in
theorem spec_DrawRwrStream.calls (k : Nat) (A0 : Option Addr) (c0 : Nat) (l0 : List Int) (r1 : List (S34)) (r2 : ByteArray) (w : World) (hr0 : Kd.C (Kd.int .u8) w A0 l0.length l0) (hc0 : l0.length ≤ c0) (h : spec_DrawRwrStream.f k l0 = some (r1, r2)) :
  Calls Tryz.prog 32 #[.slice A0 l0.length c0] w fun e w' => ∃ v0_ : Value, e = .returned (.tuple #[.agg #[v0_], .string r2]) ∧ Kd.R k34 34 w' w.heap.size (fun _ => True) v0_ r1 ∧ Below w.heap.size w w' := by
 have hu25 := Tryz.underlying25
 have HR0 := am hr0
 have HC0 := am hc0
 clear hr0 hc0
 have HB := am (Below.refl w.heap.size w)
 have H : ((spec_l20Open.f l0).bind fun bt673 => ((spec_l20Table.f k bt673.1 bt673.2 14).bind fun bt676 => ((spec_l20StreamOr.f k bt673.1 bt676.2 9).bind fun bt680 => (some (bt676.1, bt680.1))))) = some (r1, r2) := h
 clear h
 obtain ⟨⟨t673, t674⟩, A2, H⟩ := bse H
 try dsimp only at H
 obtain ⟨⟨t676, t679⟩, A3, H⟩ := bse H
 try dsimp only at H
 obtain ⟨⟨t680, t681⟩, A4, H⟩ := bse H
 try dsimp only at H
 simp only [Option.some.injEq, Prod.mk.injEq] at H
 obtain ⟨rfl, rfl⟩ := H
 go_enter Tryz.func32, Tryz.ntmps32
 go_wp2_with (first | ((with_reducible refine gate_dst (N := 2) rfl ?_); refine box_event rfl (N := 2) rfl (cs := #[.slice none 0 0]) (t := 25) hr_ ?_; intro gb672 hg w5 hbox hb; have BK672 := am hbox; have GW672 := gwE HB hg; have GE672 := gwE HB hg; replace HB := hbS HB hb; clear hb hbox hg) | ((with_reducible refine gate_callee (f := 40) rfl ?_); refine gL (some 6) Tryz.func40 #[.slice A0 l0.length c0] ?_; (with_reducible refine (spec_l20Open.calls _ _ l0 t673 t674 w _ ?side1 ?side2 ?side3 A2.out).mono ?_); (case side1 => exact m2_); (case side2 => exact HR0.out); (case side3 => exact HC0.out); rintro e w6 ⟨g675, rfl, hi, hb, hb2⟩; refine ⟨_, rfl, ?_⟩; replace HB := am hb; have HI675 := am hi; have NB675_672 := am (IsS84.ne_blk hi (blk_below (g := gb672) (o := .cells #[.slice none 0 0] 25 (0, 0)) (bk BK672) hb2) (by decide)); have NB672_675 := am (Ne.symm (IsS84.ne_blk hi (blk_below (g := gb672) (o := .cells #[.slice none 0 0] 25 (0, 0)) (bk BK672) hb2) (by decide))); replace BK672 := am (blk_below (g := gb672) (o := .cells #[.slice none 0 0] 25 (0, 0)) (bk BK672) hb2); (try clear hb); (try clear hb2); (try clear hi)) | ((with_reducible refine gate_callee (f := 41) rfl ?_); refine gL (some 8) Tryz.func41 #[.pointer (some ⟨g675, 0, none⟩), .int .i64 14] ?_; (with_reducible refine (spec_l20Table.calls k g675 t673 t674 14 t676 t679 w _ ?side1 ?side2 A3.out).mono ?_); (case side1 => exact m19_); (case side2 => exact m20_); rintro e w7 ⟨v677, rfl, ho0, hi, hb, hk⟩; refine ⟨_, rfl, ?_⟩; replace BK672 := am (KeepBut.blk hk (g' := gb672) (o := .cells #[.slice none 0 0] 25 (0, 0)) (bk BK672) NB672_675.out (by simp)); have HO678 := am (Kd.R_lower ho0 (below_size m20_)); replace HB := am hb; replace HI675 := am hi; (try clear hb); (try clear hk); (try clear hi); (try clear ho0)) | ((with_reducible refine gate_callee (f := 67) rfl ?_); refine gL (some 10) Tryz.func67 #[.pointer (some ⟨g675, 0, none⟩), .int .i64 9] ?_; (with_reducible refine (spec_l20StreamOr.calls k g675 t673 t679 9 t680 t681 w _ ?side1 ?side2 A4.out).mono ?_); (case side1 => exact m19_); (case side2 => exact m20_); rintro e w8 ⟨rfl, hi, hb, hk⟩; refine ⟨_, rfl, ?_⟩; replace BK672 := am (KeepBut.blk hk (g' := gb672) (o := .cells #[.slice none 0 0] 25 (0, 0)) (bk BK672) NB672_675.out (by simp)); replace HO678 := am (Kd.R_mono (Kd.R_keep (IsS84.apart (show IsS84 w _ g675 t673 t679 from m19_) (rs HO678) (by decide)) hk (fun _ h => h.2)) (fun _ h => h.1)); replace HB := am hb; replace HI675 := am hi; (try clear hb); (try clear hk); (try clear hi); obtain ⟨Ao9, co9, eo9⟩ := Kd.R_slice HO678.out; subst eo9; have := NB672_675.out; have := NB675_672.out; have := bcell BK672 0; have := bfz BK672 0))
 refine bodyPost_ret (results_ct rfl _ _ gb672 25 #[.slice Ao9 t676.length co9] (0, 0) _ rfl (by (with_reducible repeat refine bu ?_); refine blk_put (cs := #[.slice none 0 0]) ?_ 0 _ rfl; (with_reducible repeat refine bu ?_); exact BK672.out) Tryz.underlying25 rfl (by kernel_rfl)) rfl ?_
 exact ⟨_, fi_, by (with_reducible repeat apply ru); exact Kd.R_mono (Kd.R_far (p := ⟨gb672, 0, none⟩) (Kd.R_types HO678.out BK672.out (by decide)) (fun _ hk => hk.2) (.slice Ao9 t676.length co9)) (fun _ hk => trivial), m20_⟩
def spec_l2Byte.f (a0 : Int) : Option (Bool) := if a0 ≥ 97 then (if a0 ≤ 122 then (some true) else (if a0 ≥ 48 then (if a0 ≤ 57 then (some true) else (some (a0 == 32))) else (some (a0 == 32)))) else (if a0 ≥ 48 then (if a0 ≤ 57 then (some true) else (some (a0 == 32))) else (some (a0 == 32)))
set_option maxHeartbeats 8000000 in
set_option maxRecDepth 100000 in
theorem spec_l2Byte.calls (a0 : Int) (r : Bool) (w : World) (h : spec_l2Byte.f a0 = some r) :
  Calls Tryz.prog 50 #[.int .u8 a0] w fun e w' => e = .returned (.bool r) ∧ Drawn0 w w' := by
 have H : (if a0 ≥ 97 then (if a0 ≤ 122 then (some true) else (if a0 ≥ 48 then (if a0 ≤ 57 then (some true) else (some (a0 == 32))) else (some (a0 == 32)))) else (if a0 ≥ 48 then (if a0 ≤ 57 then (some true) else (some (a0 == 32))) else (some (a0 == 32)))) = some r := h
 clear h
 by_cases c2 : a0 ≥ 97
 ·rw [if_pos c2] at H
  have c2b0 : decide (97 ≤ a0) = true := decide_eq_true c2
  clear c2
  by_cases c3 : a0 ≤ 122
  ·rw [if_pos c3] at H
   have c3b0 : decide (a0 ≤ 122) = true := decide_eq_true c3
   clear c3
   obtain rfl := Option.some.inj H
   go_enter Tryz.func50, Tryz.ntmps50
   go_wp2
   go_ret
   exact ⟨by first | rfl | (simp; done) | (simp [*]; done), by repeat (first | exact Drawn0.refl _ | apply Drawn0.step)⟩
  ·rw [if_neg c3] at H
   have c3b0 : decide (a0 ≤ 122) = false := decide_eq_false c3
   clear c3
   by_cases c4 : a0 ≥ 48
   ·rw [if_pos c4] at H
    have c4b0 : decide (48 ≤ a0) = true := decide_eq_true c4
    clear c4
    by_cases c5 : a0 ≤ 57
    ·rw [if_pos c5] at H
     have c5b0 : decide (a0 ≤ 57) = true := decide_eq_true c5
     clear c5
     obtain rfl := Option.some.inj H
     go_enter Tryz.func50, Tryz.ntmps50
     go_wp2
     go_ret
     exact ⟨by first | rfl | (simp; done) | (simp [*]; done), by repeat (first | exact Drawn0.refl _ | apply Drawn0.step)⟩
    ·rw [if_neg c5] at H
     have c5b0 : decide (a0 ≤ 57) = false := decide_eq_false c5
     clear c5
     obtain rfl := Option.some.inj H
     go_enter Tryz.func50, Tryz.ntmps50
     go_wp2
     go_ret
     exact ⟨by first | rfl | (simp; done) | (simp [*]; done), by repeat (first | exact Drawn0.refl _ | apply Drawn0.step)⟩
   ·rw [if_neg c4] at H
    have c4b0 : decide (48 ≤ a0) = false := decide_eq_false c4
    clear c4
    obtain rfl := Option.some.inj H
    go_enter Tryz.func50, Tryz.ntmps50
    go_wp2
    go_ret
    exact ⟨by first | rfl | (simp; done) | (simp [*]; done), by repeat (first | exact Drawn0.refl _ | apply Drawn0.step)⟩
 ·rw [if_neg c2] at H
  have c2b0 : decide (97 ≤ a0) = false := decide_eq_false c2
  clear c2
  by_cases c6 : a0 ≥ 48
  ·rw [if_pos c6] at H
   have c6b0 : decide (48 ≤ a0) = true := decide_eq_true c6
   clear c6
   by_cases c7 : a0 ≤ 57
   ·rw [if_pos c7] at H
    have c7b0 : decide (a0 ≤ 57) = true := decide_eq_true c7
    clear c7
    obtain rfl := Option.some.inj H
    go_enter Tryz.func50, Tryz.ntmps50
    go_wp2
    go_ret
    exact ⟨by first | rfl | (simp; done) | (simp [*]; done), by repeat (first | exact Drawn0.refl _ | apply Drawn0.step)⟩
   ·rw [if_neg c7] at H
    have c7b0 : decide (a0 ≤ 57) = false := decide_eq_false c7
    clear c7
    obtain rfl := Option.some.inj H
    go_enter Tryz.func50, Tryz.ntmps50
    go_wp2
    go_ret
    exact ⟨by first | rfl | (simp; done) | (simp [*]; done), by repeat (first | exact Drawn0.refl _ | apply Drawn0.step)⟩
  ·rw [if_neg c6] at H
   have c6b0 : decide (48 ≤ a0) = false := decide_eq_false c6
   clear c6
   obtain rfl := Option.some.inj H
   go_enter Tryz.func50, Tryz.ntmps50
   go_wp2
   go_ret
   exact ⟨by first | rfl | (simp; done) | (simp [*]; done), by repeat (first | exact Drawn0.refl _ | apply Drawn0.step)⟩
def spec_LinOk.l0 : Nat → ByteArray → Int → Option (Bool)
 | 0, _, _ => none
 | k + 1, x0, x3 => if x3 < (x0.size : Int) then (if 0 ≤ x3 then ((spec_l2Byte.f (bt x0 x3)).bind fun t407 => (if t407 = true then (spec_LinOk.l0 k x0 (wrap64 (x3 + 1))) else (some false))) else (none)) else (some true)
def spec_LinOk.f (k : Nat) (a0 : ByteArray) : Option (Bool) := if (a0.size : Int) > 16 then (some false) else (spec_LinOk.l0 k a0 0)
theorem spec_LinOk.mono_l : ∀ k, (∀ y0 y1, LeO (spec_LinOk.l0 k y0 y1) (spec_LinOk.l0 (k + 1) y0 y1))
 | 0 => fun _ _ r h => by simp [spec_LinOk.l0] at h
 | k + 1 => by
  have ih0 := spec_LinOk.mono_l k
  ·intro y0 y1
   unfold spec_LinOk.l0
   repeat' first | (with_reducible first | exact ih0 _ _ | exact LeO.refl _ | exact LeO.none _ | refine LeO.ite ?_ ?_ | refine LeO.bind ?_ (fun _ => ?_)) | exact ih0 _ _ | exact LeO.none _ | refine LeO.ite ?_ ?_ | refine LeO.bind ?_ (fun _ => ?_)
theorem spec_LinOk.mono : ∀ a0 k, LeO (spec_LinOk.f k a0) (spec_LinOk.f (k + 1) a0) := by
 intro a0 k
 have ih0 := spec_LinOk.mono_l k
 unfold spec_LinOk.f
 repeat' first | (with_reducible first | exact ih0 _ _ | exact LeO.refl _ | exact LeO.none _ | refine LeO.ite ?_ ?_ | refine LeO.bind ?_ (fun _ => ?_)) | exact ih0 _ _ | exact LeO.none _ | refine LeO.ite ?_ ?_ | refine LeO.bind ?_ (fun _ => ?_)
set_option maxHeartbeats 8000000 in
set_option maxRecDepth 100000 in
theorem spec_LinOk.calls (k : Nat) (a0 : ByteArray) (r : Bool) (w : World) (h : spec_LinOk.f k a0 = some r) :
  Calls Tryz.prog 17 #[.string a0] w fun e w' => e = .returned (.bool r) ∧ Drawn0 w w' := by
 have H : (if (a0.size : Int) > 16 then (some false) else (spec_LinOk.l0 k a0 0)) = some r := h
 clear h
 by_cases c2 : (a0.size : Int) > 16
 ·rw [if_pos c2] at H
  have c2b0 : decide (16 < (a0.size : Int)) = true := decide_eq_true c2
  have c2b1 : decide (16 < a0.size) = true := decide_eq_true (by omega)
  clear c2
  obtain rfl := Option.some.inj H
  go_enter Tryz.func17, Tryz.ntmps17
  go_wp2
  go_ret
  exact ⟨by first | rfl | (simp; done) | (simp [*]; done), by repeat (first | exact Drawn0.refl _ | apply Drawn0.step)⟩
 ·rw [if_neg c2] at H
  have c2b0 : decide (16 < (a0.size : Int)) = false := decide_eq_false c2
  have c2b1 : decide (16 < a0.size) = false := decide_eq_false (by omega)
  clear c2
  have H' := am H
  clear H
  go_enter Tryz.func17, Tryz.ntmps17
  go_wp2
  go_loopg [3] k (fun kq v3 w' => ∃ (x3_1 : Int), v3 = .int .i64 x3_1 ∧ Aside0 (spec_LinOk.l0 kq a0 x3_1 = some r) ∧ Aside0 (kq ≤ k) ∧ Drawn0 w w')
  case atStart => exact ⟨(0), rs_, H', ⟨Nat.le_refl _⟩, by repeat (first | exact Drawn0.refl _ | apply Drawn0.step)⟩
  case round =>
   clear H'
   try clear c1
   try clear c2
   try clear c2b0
   try clear c2b1
   try clear p2
   obtain ⟨x3_1, rfl, HA, HK1, ⟨m1, rfl⟩⟩ := hrel
   cases gk with
   | zero => exact absurd HA.out (by simp [spec_LinOk.l0])
   | succ k1 =>
    have H := HA.out
    clear HA
    simp only [spec_LinOk.l0] at H
    by_cases c3 : x3_1 < (a0.size : Int)
    ·rw [if_pos c3] at H
     have c3b0 : decide (x3_1 < (a0.size : Int)) = true := decide_eq_true c3
     clear c3
     by_cases c4 : 0 ≤ x3_1
     ·rw [if_pos c4] at H
      have c4b0 : decide (0 ≤ x3_1) = true := decide_eq_true c4
      clear c4
      obtain ⟨t407, A6, H⟩ := bse H
      try dsimp only at H
      by_cases c7 : t407 = true
      ·subst c7
       have H1 : (spec_LinOk.l0 k1 a0 (wrap64 (x3_1 + 1))) = some r := by rw [if_pos rfl] at H; exact H
       clear H
       have H := H1
       clear H1
       have H' := am H
       clear H
       have p5 : 0 ≤ (x3_1 : Int) := of_decide_eq_true da_
       have q5 : x3_1 < (a0.size : Int) := of_decide_eq_true da_
       have hx5 := bt_at a0 x3_1
       replace p5 := eq_true p5
       replace q5 := eq_true q5
       go_wp2_with (first | ((with_reducible refine gate_callee (f := 50) rfl ?_); refine gL (some 16) Tryz.func50 #[.int .u8 (bt a0 x3_1)] ?_; (with_reducible refine (spec_l2Byte.calls (bt a0 x3_1) true _ A6.out).mono ?_); rintro e w' ⟨rfl, ⟨nd, rfl⟩⟩; refine ⟨_, rfl, ?_⟩))
       go_roundg k1
       case measure => have := HK1.out; omega
       case rel => exact ⟨(wrap64 (x3_1 + 1)), rs_, H', ⟨by have := HK1.out; omega⟩, by repeat (first | exact Drawn0.refl _ | apply Drawn0.step)⟩
      ·replace c7 := Bool.eq_false_iff.mpr c7
       subst c7
       have H1 : (some false) = some r := by rw [if_neg (show ¬ (false = true) by decide)] at H; exact H
       clear H
       have H := H1
       clear H1
       obtain rfl := Option.some.inj H
       have p5 : 0 ≤ (x3_1 : Int) := of_decide_eq_true da_
       have q5 : x3_1 < (a0.size : Int) := of_decide_eq_true da_
       have hx5 := bt_at a0 x3_1
       replace p5 := eq_true p5
       replace q5 := eq_true q5
       go_wp2_with (first | ((with_reducible refine gate_callee (f := 50) rfl ?_); refine gL (some 16) Tryz.func50 #[.int .u8 (bt a0 x3_1)] ?_; (with_reducible refine (spec_l2Byte.calls (bt a0 x3_1) false _ A6.out).mono ?_); rintro e w' ⟨rfl, ⟨nd, rfl⟩⟩; refine ⟨_, rfl, ?_⟩))
       go_ret
       exact ⟨by first | rfl | (simp; done) | (simp [*]; done), by repeat (first | exact Drawn0.refl _ | apply Drawn0.step)⟩
     ·rw [if_neg c4] at H
      exact absurd H (by simp)
    ·rw [if_neg c3] at H
     have c3b0 : decide (x3_1 < (a0.size : Int)) = false := decide_eq_false c3
     clear c3
     obtain rfl := Option.some.inj H
     go_wp2
     go_ret
     exact ⟨by first | rfl | (simp; done) | (simp [*]; done), by repeat (first | exact Drawn0.refl _ | apply Drawn0.step)⟩
def spec_StrLines.l0 : Nat → ByteArray → List ByteArray → Int → Int → Option (List ByteArray × ByteArray)
 | 0, _, _, _, _ => none
 | k + 1, x0, x4, x5, x6 => if x6 < (x0.size : Int) then (if 0 ≤ x6 then (if (bt x0 x6) = 59 then (if 0 ≤ x5 then (if x5 ≤ x6 then (if x6 ≤ (x0.size : Int) then (if x4.length < 8796093022208 then (spec_StrLines.l0 k x0 (x4 ++ [x0.extract (x5 : Int).toNat (x6 : Int).toNat]) (wrap64 (x6 + 1)) (wrap64 (x6 + 1))) else (none)) else (none)) else (none)) else (none)) else (spec_StrLines.l0 k x0 x4 x5 (wrap64 (x6 + 1)))) else (none)) else (if 0 ≤ x5 then (if x5 ≤ (x0.size : Int) then (some (x4, x0.extract (x5 : Int).toNat x0.size)) else (none)) else (none))
def spec_StrLines.f (k : Nat) (a0 : ByteArray) : Option (List ByteArray × ByteArray) := spec_StrLines.l0 k a0 (([] : List ByteArray)) 0 0
theorem spec_StrLines.mono_l : ∀ k, (∀ y0 y1 y2 y3, LeO (spec_StrLines.l0 k y0 y1 y2 y3) (spec_StrLines.l0 (k + 1) y0 y1 y2 y3))
 | 0 => fun _ _ _ _ r h => by simp [spec_StrLines.l0] at h
 | k + 1 => by
  have ih0 := spec_StrLines.mono_l k
  ·intro y0 y1 y2 y3
   unfold spec_StrLines.l0
   repeat' first | (with_reducible first | exact ih0 _ _ _ _ | exact LeO.refl _ | exact LeO.none _ | refine LeO.ite ?_ ?_ | refine LeO.bind ?_ (fun _ => ?_)) | exact ih0 _ _ _ _ | exact LeO.none _ | refine LeO.ite ?_ ?_ | refine LeO.bind ?_ (fun _ => ?_)
theorem spec_StrLines.mono : ∀ a0 k, LeO (spec_StrLines.f k a0) (spec_StrLines.f (k + 1) a0) := by
 intro a0 k
 have ih0 := spec_StrLines.mono_l k
 unfold spec_StrLines.f
 repeat' first | (with_reducible first | exact ih0 _ _ _ _ | exact LeO.refl _ | exact LeO.none _ | refine LeO.ite ?_ ?_ | refine LeO.bind ?_ (fun _ => ?_)) | exact ih0 _ _ _ _ | exact LeO.none _ | refine LeO.ite ?_ ?_ | refine LeO.bind ?_ (fun _ => ?_)
set_option maxHeartbeats 8000000 in
set_option maxRecDepth 100000 in
theorem spec_StrLines.calls (k : Nat) (a0 : ByteArray) (r1 : List ByteArray) (r2 : ByteArray) (w : World) (h : spec_StrLines.f k a0 = some (r1, r2)) :
  Calls Tryz.prog 39 #[.string a0] w fun e w' => ∃ v0_ : Value, e = .returned (.tuple #[v0_, .string r2]) ∧ Kd.R Kd.string 9 w' w.heap.size (fun _ => True) v0_ r1 ∧ Below w.heap.size w w' := by
 have HB := am (Below.refl w.heap.size w)
 have H : (spec_StrLines.l0 k a0 (([] : List ByteArray)) 0 0) = some (r1, r2) := h
 clear h
 obtain ⟨y682, hy682⟩ : ∃ y_ : List ByteArray, y_ = (([] : List ByteArray)) := ⟨_, rfl⟩
 replace H : (spec_StrLines.l0 k a0 y682 0 0) = some (r1, r2) := by first | (rw [hy682]; with_reducible exact H) | (have H2_ := (Option.bind_some _ _).symm.trans H; rw [hy682]; with_reducible exact H2_) | (have H2_ := (Option.bind_some _ _).symm.trans H; with_reducible exact H2_) | with_reducible exact H | (rw [hy682]; exact H) | exact H
 have Ny682 := am hy682
 clear hy682
 have H' := am H
 clear H
 go_enter Tryz.func39, Tryz.ntmps39
 iterate 4 ((try go_quiet (fail)); (try go_wp2_with (first | ((with_reducible refine gate_dst (N := 7) rfl ?_); refine Kd.R_lit Kd.string _ 9 rfl (N := 7) rfl (xs := ([] : List ByteArray)) (inner := []) (ok := fun _ => True) (okp := fun _ => True) hr_ ?hp (fun _ hk => hk) trivial (Below.refl _ _) (Nat.le_refl _) (by simp) ?_; (case hp => exact (Reps.none _ _)); intro v683 w2 ho3 hb hg_ hnew_; clear hg_ hnew_; (first | rw [← Ny682.out] at ho3 | (simp only [Int.reduceToNat] at ho3; rw [← Ny682.out] at ho3)); have HO684 := am (Kd.R_lower ho3 (below_size (bl HB))); replace HB := hbS HB hb; clear hb ho3))))
 go_loopg [4, 5, 6] k (fun kq v4 v5 v6 w' => ∃ (x4_1 : List ByteArray) (x5_1 : Int) (x6_1 : Int), v5 = .int .i64 x5_1 ∧ v6 = .int .i64 x6_1 ∧ Aside0 (spec_StrLines.l0 kq a0 x4_1 x5_1 x6_1 = some (r1, r2)) ∧ Aside0 (kq ≤ k) ∧ Aside0 (Kd.R Kd.string 9 w' w.heap.size (fun _ => True) v4 x4_1) ∧ Aside0 (Below w.heap.size w w'))
 case atStart => exact ⟨(y682), (0), (0), rs_, rs_, H', ⟨Nat.le_refl _⟩, ⟨by (with_reducible repeat apply ru); exact HO684.out⟩, ⟨m0_⟩⟩
 case round =>
  clear H'
  try clear p2
  try clear c3
  obtain ⟨x4_1, x5_1, x6_1, rfl, rfl, HA, HK1, HO_4, HB⟩ := hrel
  cases gk with
  | zero => exact absurd HA.out (by simp [spec_StrLines.l0])
  | succ k1 =>
   have H := HA.out
   clear HA
   simp only [spec_StrLines.l0] at H
   by_cases c4 : x6_1 < (a0.size : Int)
   ·rw [if_pos c4] at H
    have c4b0 : decide (x6_1 < (a0.size : Int)) = true := decide_eq_true c4
    clear c4
    by_cases c5 : 0 ≤ x6_1
    ·rw [if_pos c5] at H
     have c5b0 : decide (0 ≤ x6_1) = true := decide_eq_true c5
     clear c5
     by_cases c7 : (bt a0 x6_1) = 59
     ·rw [if_pos c7] at H
      have c7b0 : ((bt a0 x6_1) == 59) = true := beq_iff_eq.mpr c7
      have c7b1 : ((bt a0 x6_1) != 59) = false := bne_eq_false_iff_eq.mpr c7
      clear c7
      by_cases c8 : 0 ≤ x5_1
      ·rw [if_pos c8] at H
       have c8b0 := eq_true c8
       have c8b1 : decide (0 ≤ x5_1) = true := decide_eq_true c8
       clear c8
       by_cases c9 : x5_1 ≤ x6_1
       ·rw [if_pos c9] at H
        have c9b0 := eq_true c9
        have c9b1 : decide (x5_1 ≤ x6_1) = true := decide_eq_true c9
        clear c9
        by_cases c10 : x6_1 ≤ (a0.size : Int)
        ·rw [if_pos c10] at H
         have c10b0 := eq_true c10
         have c10b1 : decide (x6_1 ≤ (a0.size : Int)) = true := decide_eq_true c10
         clear c10
         by_cases c11 : x4_1.length < 8796093022208
         ·rw [if_pos c11] at H
          have LMc11 := am c11
          clear c11
          obtain ⟨y685, hy685⟩ : ∃ y_ : List ByteArray, y_ = (x4_1 ++ [a0.extract (x5_1 : Int).toNat (x6_1 : Int).toNat]) := ⟨_, rfl⟩
          replace H : (spec_StrLines.l0 k1 a0 y685 (wrap64 (x6_1 + 1)) (wrap64 (x6_1 + 1))) = some (r1, r2) := by first | (rw [hy685]; with_reducible exact H) | (have H2_ := (Option.bind_some _ _).symm.trans H; rw [hy685]; with_reducible exact H2_) | (have H2_ := (Option.bind_some _ _).symm.trans H; with_reducible exact H2_) | with_reducible exact H | (rw [hy685]; exact H) | exact H
          have Ny685 := am hy685
          clear hy685
          have H' := am H
          clear H
          have p6 : 0 ≤ (x6_1 : Int) := of_decide_eq_true da_
          have q6 : x6_1 < (a0.size : Int) := of_decide_eq_true da_
          have hx6 := bt_at a0 x6_1
          replace p6 := eq_true p6
          replace q6 := eq_true q6
          iterate 4 ((try go_quiet (fail)); (try go_wp2_with (first | ((with_reducible refine gate_builtin (b := .append) (xs := #[.tmp 18, .tmp 23]) rfl ?_); at_builtin; refine Kd.R_append Kd.string (w0 := w) w.heap.size rfl (.tmp 18) (.tmp 23) 51 9 (.string ⟨#[]⟩) 16 rfl Tryz.underlying51 info9 rfl (by decide) (by omega) u4 x4_1 (a0.extract (x5_1 : Int).toNat (x6_1 : Int).toNat) [.string (a0.extract (x5_1 : Int).toNat (x6_1 : Int).toNat)] (fun _ => True) (fun _ => False) rfl rfl ?aP (fun _ hk => hk.elim) ?aF ?aO ?aB ?aS ?aL ?_; (case aP => exact rfl); (case aB => exact (bl HB)); (case aF => exact (fun _ _ => trivial)); (case aO => exact (rs HO_4)); (case aS => exact (below_size (bl HB))); (case aL => have := LMc11.out; omega); intro v686 w12 ho hb hg hat; rw [← Ny685.out] at ho; replace HB := am hb; have HO687 := am (ho); clear HO_4; clear ho hb hg hat))))
          go_roundg k1
          case measure => have := HK1.out; omega
          case rel => exact ⟨(y685), (wrap64 (x6_1 + 1)), (wrap64 (x6_1 + 1)), rs_, rs_, H', ⟨by have := HK1.out; omega⟩, ⟨by (with_reducible repeat apply ru); exact HO687.out⟩, ⟨m0_⟩⟩
         ·rw [if_neg c11] at H
          exact absurd H (by simp)
        ·rw [if_neg c10] at H
         exact absurd H (by simp)
       ·rw [if_neg c9] at H
        exact absurd H (by simp)
      ·rw [if_neg c8] at H
       exact absurd H (by simp)
     ·rw [if_neg c7] at H
      have c7b0 : ((bt a0 x6_1) == 59) = false := beq_eq_false_iff_ne.mpr c7
      have c7b1 : ((bt a0 x6_1) != 59) = true := bne_iff_ne.mpr c7
      have H' := am H
      clear H
      have p6 : 0 ≤ (x6_1 : Int) := of_decide_eq_true da_
      have q6 : x6_1 < (a0.size : Int) := of_decide_eq_true da_
      have hx6 := bt_at a0 x6_1
      replace p6 := eq_true p6
      replace q6 := eq_true q6
      go_wp2
      repeat (go_quiet (fail); try go_wp2)
      go_roundg k1
      case measure => have := HK1.out; omega
      case rel => exact ⟨(x4_1), (x5_1), (wrap64 (x6_1 + 1)), rs_, rs_, H', ⟨by have := HK1.out; omega⟩, ⟨by (with_reducible repeat apply ru); exact HO_4.out⟩, ⟨m0_⟩⟩
    ·rw [if_neg c5] at H
     exact absurd H (by simp)
   ·rw [if_neg c4] at H
    have c4b0 : decide (x6_1 < (a0.size : Int)) = false := decide_eq_false c4
    clear c4
    by_cases c13 : 0 ≤ x5_1
    ·rw [if_pos c13] at H
     have c13b0 := eq_true c13
     have c13b1 : decide (0 ≤ x5_1) = true := decide_eq_true c13
     clear c13
     by_cases c14 : x5_1 ≤ (a0.size : Int)
     ·rw [if_pos c14] at H
      have c14b0 := eq_true c14
      have c14b1 : decide (x5_1 ≤ (a0.size : Int)) = true := decide_eq_true c14
      clear c14
      simp only [Option.some.injEq, Prod.mk.injEq] at H
      obtain ⟨rfl, rfl⟩ := H
      go_wp2
      repeat (go_quiet (fail); try go_wp2)
      go_ret2
      exact ⟨_, fi_, by (with_reducible repeat apply ru); exact HO_4.out, m0_⟩
     ·rw [if_neg c14] at H
      exact absurd H (by simp)
    ·rw [if_neg c13] at H
     exact absurd H (by simp)
def spec_StrOk.l0 : Nat → List ByteArray → ByteArray → Int → Option (Bool)
 | 0, _, _, _ => none
 | k + 1, x3, x4, x5 => if x5 < (x3.length : Int) then (if 0 ≤ x5 then ((spec_LinOk.f k (rdOf ByteArray.empty x3 x5)).bind fun t693 => (if t693 = true then (spec_StrOk.l0 k x3 x4 (wrap64 (x5 + 1))) else (some false))) else (none)) else ((spec_LinOk.f k x4).bind fun t694 => (some t694))
def spec_StrOk.f (k : Nat) (a0 : ByteArray) : Option (Bool) := if (a0.size : Int) > 120 then (some false) else ((spec_StrLines.f k a0).bind fun bt688 => (spec_StrOk.l0 k bt688.1 bt688.2 0))
theorem spec_StrOk.mono_l : ∀ k, (∀ y0 y1 y2, LeO (spec_StrOk.l0 k y0 y1 y2) (spec_StrOk.l0 (k + 1) y0 y1 y2))
 | 0 => fun _ _ _ r h => by simp [spec_StrOk.l0] at h
 | k + 1 => by
  have ih0 := spec_StrOk.mono_l k
  ·intro y0 y1 y2
   unfold spec_StrOk.l0
   repeat' first | (with_reducible first | exact ih0 _ _ _ | exact spec_LinOk.mono _ _ | exact spec_StrLines.mono _ _ | exact LeO.refl _ | exact LeO.none _ | refine LeO.ite ?_ ?_ | refine LeO.bind ?_ (fun _ => ?_)) | exact ih0 _ _ _ | exact spec_LinOk.mono _ _ | exact spec_StrLines.mono _ _ | exact LeO.none _ | refine LeO.ite ?_ ?_ | refine LeO.bind ?_ (fun _ => ?_)
theorem spec_StrOk.mono : ∀ a0 k, LeO (spec_StrOk.f k a0) (spec_StrOk.f (k + 1) a0) := by
 intro a0 k
 have ih0 := spec_StrOk.mono_l k
 unfold spec_StrOk.f
 repeat' first | (with_reducible first | exact ih0 _ _ _ | exact spec_LinOk.mono _ _ | exact spec_StrLines.mono _ _ | exact LeO.refl _ | exact LeO.none _ | refine LeO.ite ?_ ?_ | refine LeO.bind ?_ (fun _ => ?_)) | exact ih0 _ _ _ | exact spec_LinOk.mono _ _ | exact spec_StrLines.mono _ _ | exact LeO.none _ | refine LeO.ite ?_ ?_ | refine LeO.bind ?_ (fun _ => ?_)
set_option maxHeartbeats 8000000 in
set_option maxRecDepth 100000 in
theorem spec_StrOk.calls (k : Nat) (a0 : ByteArray) (r : Bool) (w : World) (h : spec_StrOk.f k a0 = some r) :
  Calls Tryz.prog 33 #[.string a0] w fun e w' => e = .returned (.bool r) ∧ Below w.heap.size w w' := by
 have HB := am (Below.refl w.heap.size w)
 have H : (if (a0.size : Int) > 120 then (some false) else ((spec_StrLines.f k a0).bind fun bt688 => (spec_StrOk.l0 k bt688.1 bt688.2 0))) = some r := h
 clear h
 by_cases c2 : (a0.size : Int) > 120
 ·rw [if_pos c2] at H
  have c2b0 : decide (120 < (a0.size : Int)) = true := decide_eq_true c2
  have c2b1 : decide (120 < a0.size) = true := decide_eq_true (by omega)
  clear c2
  obtain rfl := Option.some.inj H
  go_enter Tryz.func33, Tryz.ntmps33
  go_wp2
  go_ret
  exact ⟨fi_, m0_⟩
 ·rw [if_neg c2] at H
  have c2b0 : decide (120 < (a0.size : Int)) = false := decide_eq_false c2
  have c2b1 : decide (120 < a0.size) = false := decide_eq_false (by omega)
  clear c2
  obtain ⟨⟨t688, t689⟩, A3, H⟩ := bse H
  try dsimp only at H
  have H' := am H
  clear H
  go_enter Tryz.func33, Tryz.ntmps33
  go_wp2_with (first | ((with_reducible refine gate_callee (f := 39) rfl ?_); refine gL (some 11) Tryz.func39 #[.string a0] ?_; (with_reducible refine (spec_StrLines.calls k a0 t688 t689 _ A3.out).mono ?_); rintro e w4 ⟨v690, rfl, ho0, hb⟩; refine ⟨_, rfl, ?_⟩; have HO691 := am (Kd.R_lower ho0 (below_size (bl HB))); replace HB := hbS HB hb; (try clear hb); (try clear ho0)))
  go_loopg [5] k (fun kq v5 w' => ∃ (x5_1 : Int), v5 = .int .i64 x5_1 ∧ Aside0 (spec_StrOk.l0 kq t688 t689 x5_1 = some r) ∧ Aside0 (kq ≤ k) ∧ Aside0 (Kd.R Kd.string 9 w' w.heap.size (fun _ => True) v690 t688) ∧ Aside0 (Below w.heap.size w w'))
  case atStart => exact ⟨(0), rs_, H', ⟨Nat.le_refl _⟩, ⟨by (with_reducible repeat apply ru); exact HO691.out⟩, ⟨m0_⟩⟩
  case round =>
   clear H'
   try clear c2
   try clear c2b0
   try clear c2b1
   try clear p2
   try clear c3
   obtain ⟨x5_1, rfl, HA, HK1, HO_3, HB⟩ := hrel
   cases gk with
   | zero => exact absurd HA.out (by simp [spec_StrOk.l0])
   | succ k1 =>
    have H := HA.out
    clear HA
    simp only [spec_StrOk.l0] at H
    by_cases c5 : x5_1 < (t688.length : Int)
    ·rw [if_pos c5] at H
     have c5b0 : decide (x5_1 < (t688.length : Int)) = true := decide_eq_true c5
     clear c5
     by_cases c6 : 0 ≤ x5_1
     ·rw [if_pos c6] at H
      have c6b0 : decide (0 ≤ x5_1) = true := decide_eq_true c6
      clear c6
      obtain ⟨t693, A7, H⟩ := bse H
      try dsimp only at H
      by_cases c8 : t693 = true
      ·subst c8
       have H1 : (spec_StrOk.l0 k1 t688 t689 (wrap64 (x5_1 + 1))) = some r := by rw [if_pos rfl] at H; exact H
       clear H
       have H := H1
       clear H1
       have H' := am H
       clear H
       obtain ⟨Ao9, co9, eo9⟩ := Kd.R_slice HO_3.out
       subst eo9
       have p692 : 0 ≤ (x5_1 : Int) := of_decide_eq_true da_
       have q692 : x5_1 < (t688.length : Int) := of_decide_eq_true da_
       obtain ⟨ad692, e692, hx692_0⟩ := Kd.at_string (Kd.R_reads' HO_3.out).2.2 x5_1 p692 q692
       cases e692
       replace p692 := eq_true p692
       replace q692 := eq_true q692
       go_wp2_with (first | ((with_reducible refine gate_callee (f := 17) rfl ?_); refine gL (some 24) Tryz.func17 #[.string (rdOf ByteArray.empty t688 x5_1)] ?_; (with_reducible refine (spec_LinOk.calls k1 (rdOf ByteArray.empty t688 x5_1) true _ A7.out).mono ?_); rintro e w' ⟨rfl, ⟨nd, rfl⟩⟩; refine ⟨_, rfl, ?_⟩))
       go_roundg k1
       case measure => have := HK1.out; omega
       case rel => exact ⟨(wrap64 (x5_1 + 1)), rs_, H', ⟨by have := HK1.out; omega⟩, ⟨by (with_reducible repeat apply ru); exact HO_3.out⟩, ⟨m0_⟩⟩
      ·replace c8 := Bool.eq_false_iff.mpr c8
       subst c8
       have H1 : (some false) = some r := by rw [if_neg (show ¬ (false = true) by decide)] at H; exact H
       clear H
       have H := H1
       clear H1
       obtain rfl := Option.some.inj H
       obtain ⟨Ao10, co10, eo10⟩ := Kd.R_slice HO_3.out
       subst eo10
       have p692 : 0 ≤ (x5_1 : Int) := of_decide_eq_true da_
       have q692 : x5_1 < (t688.length : Int) := of_decide_eq_true da_
       obtain ⟨ad692, e692, hx692_0⟩ := Kd.at_string (Kd.R_reads' HO_3.out).2.2 x5_1 p692 q692
       cases e692
       replace p692 := eq_true p692
       replace q692 := eq_true q692
       go_wp2_with (first | ((with_reducible refine gate_callee (f := 17) rfl ?_); refine gL (some 24) Tryz.func17 #[.string (rdOf ByteArray.empty t688 x5_1)] ?_; (with_reducible refine (spec_LinOk.calls k1 (rdOf ByteArray.empty t688 x5_1) false _ A7.out).mono ?_); rintro e w' ⟨rfl, ⟨nd, rfl⟩⟩; refine ⟨_, rfl, ?_⟩))
       go_ret
       exact ⟨fi_, m0_⟩
     ·rw [if_neg c6] at H
      exact absurd H (by simp)
    ·rw [if_neg c5] at H
     have c5b0 : decide (x5_1 < (t688.length : Int)) = false := decide_eq_false c5
     clear c5
     obtain ⟨t694, A11, H⟩ := bse H
     try dsimp only at H
     obtain rfl := Option.some.inj H
     obtain ⟨Ao12, co12, eo12⟩ := Kd.R_slice HO_3.out
     subst eo12
     go_wp2_with (first | ((with_reducible refine gate_callee (f := 17) rfl ?_); refine gL (some 27) Tryz.func17 #[.string t689] ?_; (with_reducible refine (spec_LinOk.calls k1 t689 t694 _ A11.out).mono ?_); rintro e w' ⟨rfl, ⟨nd, rfl⟩⟩; refine ⟨_, rfl, ?_⟩))
     go_ret
     exact ⟨fi_, m0_⟩
end
end Go.Proofs.YtffmbccgcaghjaaGreatDoor.P
namespace Go.Proofs.YtffmbccgcaghjaaGreatDoor.P
open Go Go.RowKit
set_option linter.unusedVariables false
set_option linter.unusedSimpArgs false
theorem bax {a b : ByteArray} (h : a.data.toList = b.data.toList) : a = b := by
  cases a; cases b; simp at h; rw [h]
theorem len_data (s : ByteArray) : s.data.toList.length = s.size := by rw [Array.length_toList]; rfl
def lineL : ByteArray → List UInt8 → List ByteArray
  | _, [] => []
  | w, c :: r => if c = 59 then w :: lineL ⟨#[]⟩ r else lineL (w ++ ⟨#[c]⟩) r
def restL : ByteArray → List UInt8 → ByteArray
  | w, [] => w
  | w, c :: r => if c = 59 then restL ⟨#[]⟩ r else restL (w ++ ⟨#[c]⟩) r
def linesB (s : ByteArray) : List ByteArray := lineL ⟨#[]⟩ s.data.toList
def restB (s : ByteArray) : ByteArray := restL ⟨#[]⟩ s.data.toList
def cutS (s : ByteArray) : ByteArray × ByteArray × Bool := (⟨(Lib.cut s.data.toList [59]).1.toArray⟩, ⟨(Lib.cut s.data.toList [59]).2.1.toArray⟩, (Lib.cut s.data.toList [59]).2.2)
theorem line_index : ∀ (l : List UInt8) (w : ByteArray), (Lib.index l [59] = -1 → lineL w l = [] ∧ restL w l = w ++ ⟨l.toArray⟩) ∧
    (∀ i : Nat, Lib.index l [59] = i → lineL w l = (w ++ ⟨(l.take i).toArray⟩) :: lineL ⟨#[]⟩ (l.drop (i + 1)) ∧ restL w l = restL ⟨#[]⟩ (l.drop (i + 1)) ∧ i < l.length)
  | [], w => ⟨fun _ => ⟨rfl, bax (by simp [restL])⟩, fun i h => by simp [Lib.index] at h⟩
  | b :: l, w => by
    by_cases hb : b = 59
    · subst hb
      have hix : Lib.index (59 :: l) [59] = 0 := by rw [Lib.index]; simp [List.isPrefixOf]
      refine ⟨fun h => by omega, fun i h => ?_⟩
      have hi : i = 0 := by omega
      subst hi
      refine ⟨?_, ?_, by simp⟩
      · simp only [lineL, if_true, List.take_zero, Nat.zero_add, List.drop_succ_cons, List.drop_zero]
        congr 1; exact bax (by simp)
      · simp [restL]
    · have hp : ([59] : List UInt8).isPrefixOf (b :: l) = false := by simp [List.isPrefixOf, Ne.symm hb]
      have hix : Lib.index (b :: l) [59] = if Lib.index l [59] == -1 then -1 else Lib.index l [59] + 1 := by rw [Lib.index, hp]; simp
      obtain ⟨i1, i2⟩ := line_index l (w ++ ⟨#[b]⟩)
      have hge := Lib.index_ge l [59]
      refine ⟨fun h => ?_, fun i h => ?_⟩
      · have hm : Lib.index l [59] = -1 := by
          rw [hix] at h
          by_cases hm : Lib.index l [59] = -1
          · exact hm
          · rw [if_neg (fun e => hm (beq_iff_eq.1 e))] at h; omega
        obtain ⟨a1, a2⟩ := i1 hm
        simp only [lineL, restL, if_neg hb]
        exact ⟨a1, by rw [a2]; exact bax (by simp)⟩
      · have hm : Lib.index l [59] ≠ -1 := fun hm => by rw [hix, if_pos (beq_iff_eq.2 hm)] at h; omega
        rw [hix, if_neg (fun e => hm (beq_iff_eq.1 e))] at h
        obtain ⟨j, hj⟩ : ∃ j : Nat, Lib.index l [59] = j := ⟨(Lib.index l [59]).toNat, by omega⟩
        have hi : i = j + 1 := by omega
        subst hi
        obtain ⟨a1, a2, a3⟩ := i2 j hj
        simp only [lineL, restL, if_neg hb, List.take_succ_cons, List.drop_succ_cons]
        refine ⟨?_, a2, by simp; omega⟩
        rw [a1]; congr 1; exact bax (by simp)
theorem lines_hit {s : ByteArray} (h : (cutS s).2.2 = true) : linesB s = (cutS s).1 :: linesB (cutS s).2.1 ∧ restB s = restB (cutS s).2.1 ∧ (cutS s).2.1.size < s.size := by
  have hge := Lib.index_ge s.data.toList [59]
  have hc : 0 ≤ Lib.index s.data.toList [59] := by
    unfold cutS Lib.cut at h
    by_cases hc : 0 ≤ Lib.index s.data.toList [59]
    · exact hc
    · rw [if_neg hc] at h; cases h
  obtain ⟨i, hi⟩ : ∃ i : Nat, Lib.index s.data.toList [59] = i := ⟨(Lib.index s.data.toList [59]).toNat, by omega⟩
  obtain ⟨a1, a2, a3⟩ := (line_index s.data.toList ⟨#[]⟩).2 i hi
  have e : Lib.cut s.data.toList [59] = (s.data.toList.take i, s.data.toList.drop (i + 1), true) := by
    unfold Lib.cut; rw [hi, if_pos (by omega)]; simp
  unfold cutS linesB restB
  rw [e]
  refine ⟨?_, a2, ?_⟩
  · rw [a1]
    have e1 : (⟨#[]⟩ : ByteArray) ++ ⟨(s.data.toList.take i).toArray⟩ = ⟨(s.data.toList.take i).toArray⟩ := bax (by simp)
    rw [e1]
  · have := len_data s
    show (s.data.toList.drop (i + 1)).toArray.size < s.size
    rw [List.size_toArray, List.length_drop]
    omega
theorem lines_miss {s : ByteArray} (h : (cutS s).2.2 = false) : linesB s = [] ∧ restB s = s := by
  have hge := Lib.index_ge s.data.toList [59]
  have hc : Lib.index s.data.toList [59] = -1 := by
    unfold cutS Lib.cut at h
    by_cases hc : 0 ≤ Lib.index s.data.toList [59]
    · rw [if_pos hc] at h; cases h
    · omega
  obtain ⟨a1, a2⟩ := (line_index s.data.toList ⟨#[]⟩).1 hc
  exact ⟨a1, by unfold restB; rw [a2]; exact bax (by simp)⟩
theorem lineL_count : ∀ (l : List UInt8) (w : ByteArray), (lineL w l).length = l.count 59
  | [], _ => rfl
  | c :: l, w => by
    unfold lineL
    by_cases h : c = 59
    · subst h; simp [lineL_count l]
    · rw [if_neg h, lineL_count l, List.count_cons_of_ne (by simpa using h)]
theorem linesB_count (s : ByteArray) : (linesB s).length = Lib.countByte s.data.toList 59 := lineL_count _ _
theorem restL_no : ∀ (l : List UInt8) (w : ByteArray), (∀ c ∈ l, c ≠ 59) → restL w l = w ++ ⟨l.toArray⟩
  | [], w, _ => bax (by simp [restL])
  | c :: l, w, h => by
    unfold restL
    rw [if_neg (h c (by simp)), restL_no l _ (fun x hx => h x (by simp [hx]))]
    exact bax (by simp)
theorem restL_at : ∀ (x y : List UInt8) (w : ByteArray), restL w (x ++ 59 :: y) = restL ⟨#[]⟩ y
  | [], y, w => by simp [restL]
  | c :: x, y, w => by
    rw [List.cons_append, restL]
    by_cases h : c = 59
    · rw [if_pos h]; exact restL_at x y _
    · rw [if_neg h]; exact restL_at x y _
theorem byte_get (s : ByteArray) (j : Nat) (h : j < s.size) : s.data[j]! = s.data.toList[j]'(by rw [len_data]; exact h) := by
  have : j < s.data.size := h
  rw [getElem!_pos s.data j this]
  simp
theorem restB_last (s : ByteArray) : -1 ≤ Lib.lastIndexByte s 59 ∧ Lib.lastIndexByte s 59 < s.size ∧ restB s = s.extract (Lib.lastIndexByte s 59 + 1).toNat s.size := by
  have hl := len_data s
  rcases Lib.lastIdx_spec s 59 s.size with ⟨e, hno⟩ | ⟨i, hi, e, hc, hno⟩
  · have e' : Lib.lastIndexByte s 59 = -1 := e
    rw [e']
    refine ⟨by omega, by omega, ?_⟩
    unfold restB
    rw [restL_no _ _ (fun c hc => by
      obtain ⟨j, hj, rfl⟩ := List.getElem_of_mem hc
      intro e2
      have := hno j (by omega)
      rw [byte_get s j (by omega), e2] at this
      exact this rfl)]
    apply bax
    rw [Lib.extract_data]
    simp
    rw [List.take_of_length_le (by simp)]
  · have e' : Lib.lastIndexByte s 59 = i := e
    rw [e']
    refine ⟨by omega, by omega, ?_⟩
    have hli : i < s.data.toList.length := by omega
    have hsp : s.data.toList = s.data.toList.take i ++ 59 :: s.data.toList.drop (i + 1) := by
      have h59 : s.data.toList[i] = 59 := by
        rw [byte_get s i hi] at hc
        exact UInt8.toNat_inj.mp (by have : ((59 : UInt8).toNat : Int) = 59 := rfl; omega)
      have hd : s.data.toList.drop i = s.data.toList[i] :: s.data.toList.drop (i + 1) := List.drop_eq_getElem_cons hli
      rw [h59] at hd
      rw [← hd, List.take_append_drop]
    unfold restB
    rw [hsp, restL_at, restL_no _ _ (fun c hc => by
      obtain ⟨j, hj, rfl⟩ := List.getElem_of_mem hc
      intro e2
      simp only [List.length_drop] at hj
      have h1 := hno (i + 1 + j) (by omega) (by omega)
      rw [byte_get s (i + 1 + j) (by omega)] at h1
      rw [List.getElem_drop] at e2
      rw [e2] at h1
      exact h1 rfl)]
    apply bax
    rw [Lib.extract_data]
    have e3 : ((i : Int) + 1).toNat = i + 1 := by omega
    rw [e3]
    simp
    rw [List.take_of_length_le (by simp)]
end Go.Proofs.YtffmbccgcaghjaaGreatDoor.P
namespace Go.Proofs.YtffmbccgcaghjaaGreatDoor.P
open Go Go.RowKit
set_option linter.unusedVariables false
variable {F : Fence} {n : Nat} {P : Program}
def SeqRuns {α : Type} (F : Fence) (n : Nat) (P : Program) (g : Nat) (lb : Array Value) (encs : α → Array Value) (Kp T : World → World → Prop) (S : List α → Prop) (Nx : List α → α → Prop) (w : World) : Prop :=
  ∀ (l : Nat) (J : List α → World → Prop) (W : World), Below w.heap.size w W → AbidesFrom W.heap.size J → (∀ s A B, J s A → T A B → J s B) →
    (∀ pre x W1, J pre W1 → Nx pre x → YieldAt F (n - 1) P l (encs x) W1 fun e W' => e = .returned (.bool true) ∧ J (pre ++ [x]) W' ∧ Kp W1 W') →
    J [] W → CallsIn F n P g (#[.func (.yield l) #[] #[]] ++ lb) W fun e W' => (∃ v, e = .returned v) ∧ ∃ xs, S xs ∧ J xs W'
theorem wpIn_rangeFunc_runs {α : Type} {g : Operand} {ps : Array Tmp} {assign body : Code} {Q : Exit → Act → World → Prop} {a : Act} {w : World}
    (hro : F.round = none) (h1 : 1 ≤ n) {gf : Nat} {lb : Array Value} (hg : a.eval g = .func (.func gf) #[] lb) (hFg : F.fn gf) (eg : ∀ args w, (callFunc gf args).run P w = .ok (.enter gf args) w)
    {encs : α → Array Value} {Kp T : World → World → Prop} {S : List α → Prop} {Nx : List α → α → Prop} {w0 : World} (hseq : SeqRuns F (n - 1) P gf lb encs Kp T S Nx w0)
    (hKt : ∀ {A B C : World}, Kp A B → Kp B C → Kp A C) (hKb : ∀ (W : World) (l : Nat) (o o' : Obj), w.heap.size ≤ l → W.heap[l]? = some o → o.isCells = false → o.isWalk = false → Kp W (W.putObj l o'))
    (hTk : ∀ A B, T A B → ∀ k, w.heap.size ≤ k → B.heap[k]? = A.heap[k]?)
    (hb0 : Below w0.heap.size w0 w) (hps : ∀ x, (encs x).size = ps.size)
    (I : List α → World → Prop) (hI : OwnFrom w.heap.size I) (hIT : ∀ s A B, I s A → T A B → I s B) (h0 : I [] w) (a₁ : α → Act)
    (hassign : ∀ (l : Nat) (x : α) (W : World) (K : Act → World → Prop), K (a₁ x) W →
      assign.wpIn (F.inRound l) (n - 1 - 1) P (Exit.then K (fun _ _ _ => False)) { tmps := (ps.zip (encs x)).foldl (fun t (p, v) => t.setIfInBounds p v) a.tmps, defers := [] } W)
    (hbody : ∀ (l : Nat) (pre : List α) (x : α) (W : World), I pre W → Nx pre x → body.wpIn (F.inRound l) (n - 1 - 1) P (ownPostK Kp I (fun _ _ _ => False) (pre ++ [x]) W) (a₁ x) W)
    (hdone : ∀ (D : Nat) (xs : List α) (W : World), w.heap.size ≤ D → S xs → I xs W → W.heap[D]? = some (.deferred (some [])) → Q .normal { a with defers := { target := .collected D, args := #[] } :: a.defers } W) :
    (Code.rangeFunc g ps assign body).wpIn F n P Q a w := by
  refine wpIn_rangeFunc fun fn hfn => ?_
  rw [hro]
  -- the loop's record L st, at block w.heap.size + 1; the block for the rounds' deferred calls ahead of it
  obtain ⟨L, hL⟩ : ∃ L : LoopState → Option Code → Loop, L = fun st pe => { state := st, pending := pe, fn, tmps := a.tmps, params := ps, assign, body, defers := w.heap.size } := ⟨_, rfl⟩
  obtain ⟨V, hV⟩ : ∃ V, (w.alloc (.deferred (some []))).alloc (.loop (L .ready none)) = V := ⟨_, rfl⟩
  have vsz : V.heap.size = w.heap.size + 2 := by rw [← hV]; simp
  have vl : V.heap[w.heap.size + 1]? = some (.loop (L .ready none)) := by
    have := World.alloc_heap_new (w.alloc (.deferred (some []))) (.loop (L .ready none))
    rw [World.size_alloc, hV] at this
    exact this
  have vd : V.heap[w.heap.size]? = some (.deferred (some [])) := by
    rw [← hV]; exact (Below.heap_alloc _ _ _ (by simp)).trans (World.alloc_heap_new w _)
  have vi : I [] V := by rw [← hV]; exact hI.alloc _ (hI.alloc _ h0)
  have vb : Below w0.heap.size w0 V := by
    rw [← hV]; exact hb0.trans ((((Below.refl _ w).alloc (Nat.le_refl _) _).alloc (by simp) _).mono hb0.size)
  refine ⟨w.heap.size + 1, [{ target := .collected w.heap.size, args := #[] }], V, { target := .fn (.func gf) lb, args := #[.func (.yield (w.heap.size + 1)) #[] #[]] }, V, gf,
    #[.func (.yield (w.heap.size + 1)) #[] #[]] ++ lb, V, ?_, ?_, ?_, ?_, fun _ => h1, ?_⟩
  · rw [← hV, hL]; exact run_enterLoop_outer _ _ _ _ _
  · simp only [resolve, hg]; simp [go_sem]
  · intro f' hf'; simp [Target.leads] at hf'; subst hf'; exact hFg
  · simp [invoke, go_sem, eg]
  have keep : ∀ {A B : World} {row : Option Nat} {k : Nat} {o : Obj}, A.grownBy B row → (∀ r, row = some r → V.heap.size ≤ r ∧ ∃ o : Obj, A.heap[r]? = some o ∧ o.isWalk = true) → A.heap[k]? = some o → o.isWalk = false → B.heap[k]? = some o :=
    fun hg' hr hk ho => (grownBy_keeps hg' (fun r e => (hr r e).2) hk ho).trans hk
  refine (hseq (w.heap.size + 1) (fun pre W => I pre W ∧ W.heap[w.heap.size + 1]? = some (.loop (L .ready none)) ∧ W.heap[w.heap.size]? = some (.deferred (some []))) V vb ?abide ?turn ?round ⟨vi, vl, vd⟩).mono ?after
  case abide =>
    rintro s A B row ⟨i1, i2, i3⟩ hg' hr
    exact ⟨hI s A B row i1 hg' (fun r e => by obtain ⟨q1, o, q2, q3⟩ := hr r e; exact ⟨by omega, o, q2, Obj.not_cells_of_walk q3⟩), keep hg' hr i2 rfl, keep hg' hr i3 rfl⟩
  case turn =>
    rintro s A B ⟨i1, i2, i3⟩ ht
    exact ⟨hIT s A B i1 ht, (hTk A B ht _ (by omega)).trans i2, (hTk A B ht _ (Nat.le_refl _)).trans i3⟩
  case round =>
    rintro pre x W ⟨i1, i2, i3⟩ hlen
    have lt := (Array.getElem?_eq_some_iff.1 i2).1
    have hy := run_yield (P := P) (args := encs x) i2 (by rw [hL]; exact hps x)
    rw [hL] at hy
    refine ⟨fn, _, assign, body, hy, roundIn_of_wpIn hfn (hassign _ x W _ ⟨_, run_beginRound i2 (by rw [hL]), ?_⟩)⟩
    obtain ⟨R, hR⟩ : ∃ R, W.putObj (w.heap.size + 1) (.loop { L .ready none with state := .busy }) = R := ⟨_, rfl⟩
    have r2 : R.heap[w.heap.size + 1]? = some (.loop { L .ready none with state := .busy }) := by rw [← hR]; exact World.putObj_heap_same lt
    have r3 : R.heap[w.heap.size]? = some (.deferred (some [])) := by rw [← hR]; exact (World.putObj_heap_other (by omega)).trans i3
    have rk : Kp W R := by rw [← hR]; exact hKb _ _ _ _ (by omega) i2 rfl rfl
    have ri : I pre R := by rw [← hR]; exact hI.putObj _ i1 (by omega) i2 rfl
    rw [hR]
    refine wpIn_mono (hbody _ pre x R ri hlen) ?_
    rintro e a3 X hp
    cases e with
    | normal =>
      obtain ⟨k1, k2, k3⟩ := hp
      have x2 := k1.same _ _ r2 rfl
      have x3 := k1.same _ _ r3 rfl
      have hend := run_endRound (P := P) none x2
      rw [hL] at hend
      refine ⟨_, _, hend, rfl, ⟨hI.putObj _ k3 (by omega) x2 rfl, ?_, (World.putObj_heap_other (by omega)).trans x3⟩, hKt (hKt rk k2) (hKb _ _ _ _ (by omega) x2 rfl rfl)⟩
      have := World.putObj_heap_same (w := X) (o := .loop (L .ready none)) (Array.getElem?_eq_some_iff.1 x2).1
      rw [hL] at this ⊢
      exact this
    | ret => exact hp.2.elim
    | exit id => exact hp.2.elim
    | goto t => exact hp.2.elim
    | panic ch => exact hp.elim
    | outgrown => exact hp.elim
  case after =>
    rintro e X ⟨⟨v, rfl⟩, xs, hS, i1, i2, i3⟩
    refine ⟨none, _, by have := run_endLoop (P := P) i2 (by rw [hL]; simp); rw [hL] at this; exact this, hdone _ xs _ (Nat.le_refl _) hS (hI.putObj _ i1 (by omega) i2 rfl) ((World.putObj_heap_other (by omega)).trans i3)⟩
end Go.Proofs.YtffmbccgcaghjaaGreatDoor.P
namespace Go.Proofs.YtffmbccgcaghjaaGreatDoor.P
open Go.Proofs.YtffmbccgcaghjaaGreatDoorUFnRwrStream.PrintLast Go.Proofs.YtffmbccgcaghjaaGreatDoorUFnRwrStream.PrintMore Go.Proofs.YtffmbccgcaghjaaGreatDoorUFnRwrStream.PrintWords Go.RowKit Go.Shelf
set_option linter.unusedVariables false
set_option linter.unusedSimpArgs false
section
attribute [local go_sem] Oper.semAt_some
theorem linesOf0 (s : ByteArray) (w : World) :
    Calls Tryz.prog 71 #[.string s] w fun e w' => e = .returned (.func (.func 101) #[] #[.pointer (some ⟨w.heap.size, 0, none⟩)]) ∧ w' = w.alloc (.cells #[.string s] 9) := by
  go_enter Tryz.func71, Tryz.ntmps71
  go_wp2
  go_ret
  exact ⟨rfl, rfl⟩
theorem cutS_calls (s : ByteArray) (hs : s.size < 4294967281) (w : World) (hE : Env w) :
    Calls Tryz.prog 102 #[.string s, .string (⟨#[59]⟩ : ByteArray)] w fun e w' => e = .returned (.tuple #[.string (cutS s).1, .string (cutS s).2.1, .bool (cutS s).2.2]) ∧ ∃ n, w' = w.drewN n := by
  obtain ⟨m, hm⟩ := hE.max
  refine (Tryz.strings_Cut s _ m w hs hm).mono ?_
  rintro e w' ⟨rfl, n, rfl⟩
  exact ⟨rfl, n, rfl⟩
def KpL (n₀ b : Nat) (W W' : World) : Prop := Below n₀ W W' ∧ W'.heap[b]? = W.heap[b]?
theorem KpL.trans {n₀ b : Nat} {A B C : World} (h : KpL n₀ b A B) (k : KpL n₀ b B C) : KpL n₀ b A C := ⟨h.1.trans k.1, k.2.trans h.2⟩
def TuL (b : Nat) (A B : World) : Prop := ∃ v, B = A.setCell ⟨b, 0, none⟩ v
def leftL (b : Nat) (w : World) : Nat := match w.cell? ⟨b, 0, none⟩ with | some (.string s) => s.size | _ => 0
theorem leftL_of {b : Nat} {w : World} {s : ByteArray} (h : w.cell? ⟨b, 0, none⟩ = some (.string s)) : leftL b w = s.size := by unfold leftL; rw [h]
theorem abide_below {B : Nat} {β : Type} {J : β → World → Prop} (hA : AbidesFrom B J) {s : β} {A A' : World} (h : Below A.heap.size A A') (hj : J s A) : J s A' :=
  hA s A A' none hj (grown_of_below h none) (fun r e => by cases e)
set_option maxHeartbeats 4000000 in
set_option maxRecDepth 100000 in
theorem lines_runs (Bs n₀ : Nat) (s0 : ByteArray) (w0 w : World) (hn : w0.heap.size = n₀) (hw : Below n₀ w0 w) (hB : n₀ ≤ Bs) (hc : w.heap[Bs]? = some (.cells #[.string s0] 9 (0, 0))) (hs : s0.size < 4294967281) (hE : Env w0) :
    SeqRuns Fence.wide 8 Tryz.prog 101 #[.pointer (some ⟨Bs, 0, none⟩)] (fun x : ByteArray => #[.string x]) (KpL n₀ Bs) (TuL Bs) (fun xs => xs = linesB s0) (fun pre x => ∃ r, pre ++ x :: r = linesB s0) w := by
  intro l J W hW hA hT hY h0
  have HW0 := Lib.hid (show Below w0.heap.size w0 W from by rw [hn]; exact hw.trans (hW.mono (by rw [← hn]; exact hw.size)))
  have HE := Lib.hid hE
  have HN := Lib.hid hn
  have HA := Lib.hid hA
  have HT := Lib.hid hT
  have HY := Lib.hid hY
  have HBs := Lib.hid hB
  have hlt : Bs < w.heap.size := (Array.getElem?_eq_some_iff.1 hc).1
  have hbs : W.heap[Bs]? = some (.cells #[.string s0] 9 (0, 0)) := (hW.block _ hlt).trans hc
  have HS := Lib.hid hs
  have H0 := Lib.hid h0
  clear hn hE hA hT hw hc hY hs h0 hW hB
  refine callsIn_of_wp Tryz.func101 rfl trivial ?_ rfl
  simp only [Tryz.ntmps101, List.size_toArray, List.length_cons, List.length_nil, Nat.reduceAdd, Nat.reduceSub, Array.replicate_succ, Array.replicate_zero, List.push_toArray, List.append_toArray, List.nil_append, List.cons_append]
  have HB := Lib.hid hbs
  clear hbs hlt
  gi_wp2
  gi_loopw [] (fun wr => ∃ (pre : List ByteArray) (s : ByteArray), Hid (wr.heap[Bs]? = some (.cells #[.string s] 9 (0, 0))) ∧ Hid (pre ++ linesB s = linesB s0) ∧ Hid (s.size ≤ s0.size) ∧ Hid (J pre wr) ∧ Hid (Below n₀ W wr)) (fun wr => leftL Bs wr)
  case atStart => exact ⟨[], s0, HB, Lib.hid (by simp), Lib.hid (Nat.le_refl _), H0, Lib.hid (Below.refl _ _)⟩
  case round =>
    obtain ⟨pre, s, hb, hp, hz, hj, hw⟩ := hrel
    have hcell := (blk_cell hb.out 0).trans rfl
    have hEw : Env wr := HE.out.below (HW0.out.trans (by rw [HN.out]; exact hw.out))
    have HEW := Lib.hid hEw
    clear hEw
    have HAx : Hid (AbidesFrom wr.heap.size J) := Lib.hid (fun s A B row h hg hr => HA.out s A B row h hg (fun r e => ⟨Nat.le_trans hw.out.size (hr r e).1, (hr r e).2⟩))
    cases hc : (cutS s).2.2 with
    | false =>
      gi_wp2_with (refine ⟨trivial, ?_⟩; gi_at_call 102; refine (callsIn_wide.2 (cutS_calls s (by have := hz.out; have := HS.out; omega) _ HEW.out)).mono ?_; rintro e w' ⟨rfl, nq, rfl⟩)
      refine ⟨fun _ h => (by cases h), ?_⟩
      gi_wp2
      refine bodyPost_ret (results_none rfl _ _ _) rfl ?_
      exact ⟨⟨_, rfl⟩, pre, by rw [← hp.out, (lines_miss hc).1, List.append_nil], abide_below HAx.out (pw_below_drewN (Below.refl _ _) nq) hj.out⟩
    | true =>
      obtain ⟨l1, l2, l3⟩ := lines_hit hc
      have hlen : ∃ r, pre ++ (cutS s).1 :: r = linesB s0 := ⟨_, by rw [← l1]; exact hp.out⟩
      have HL := Lib.hid hlen
      have L1 := Lib.hid l1
      have L3 := Lib.hid l3
      clear hlen l1 l2 l3
      gi_wp2_with (first | (refine ⟨trivial, ?_⟩; gi_at_call 102; refine (callsIn_wide.2 (cutS_calls s (by have := hz.out; have := HS.out; omega) _ HEW.out)).mono ?_; rintro e w' ⟨rfl, nq, rfl⟩; obtain ⟨fn, tmps, assign, body, hy, hR⟩ := HY.out pre (cutS s).1 (wr.drewN nq) (abide_below HAx.out (pw_below_drewN (Below.refl _ _) nq) hj.out) HL.out))
      clear hcell
      refine hR.mono ?_
      rintro e W3 ⟨rfl, hJ3, hk3⟩
      have hb3 : W3.heap[Bs]? = some (.cells #[.string s] 9 (0, 0)) := hk3.2.trans hb.out
      have c3 : W3.cell? ⟨Bs, 0, none⟩ = some (.string s) := (blk_cell hb3 0).trans rfl
      have f3 := blk_frozen hb3 0
      have HB3 := Lib.hid hb3
      have HJ3 := Lib.hid hJ3
      have HK3 := Lib.hid hk3
      clear hb3 hJ3 hk3 hR hy
      gi_wp2
      have hb4 : (W3.setCell ⟨Bs, 0, none⟩ (.string (cutS s).2.1)).heap[Bs]? = some (.cells #[.string (cutS s).2.1] 9 (0, 0)) := blk_set HB3.out 0 _
      go_roundw
      case rel => exact ⟨pre ++ [(cutS s).1], (cutS s).2.1, Lib.hid hb4, Lib.hid (by rw [List.append_assoc, ← hp.out, L1.out]; rfl), Lib.hid (by have := L3.out; have := hz.out; omega), Lib.hid (HT.out _ _ _ HJ3.out ⟨_, rfl⟩), Lib.hid (((hw.out.trans (pw_below_drewN (Below.refl _ _) nq)).trans HK3.out.1).setCell (p := ⟨Bs, 0, none⟩) HBs.out _)⟩
      case measure =>
        rw [leftL_of ((blk_cell hb4 0).trans rfl), leftL_of ((blk_cell hb.out 0).trans rfl)]
        exact L3.out
end
end Go.Proofs.YtffmbccgcaghjaaGreatDoor.P
namespace Go.Proofs
open Go.Shelf
def Tryz.lays169_ren : Go.Shelf.Ren := ⟨fun | 169 => 97 | n => n, fun | 70 => 105 | 9 => 9 | 0 => 0 | 72 => 107 | 37 => 22 | 127 => 116 | 3 => 3 | 5 => 5 | n => n, fun | n => n⟩
theorem Tryz.lays169 : Go.Proofs.Lays.n169 Tryz.prog Tryz.lays169_ren := {
  mixed := by kernel_rfl
  f169 := Tryz.func97.trans (congrArg some (by kernel_rfl))
  t0 := Tryz.underlying0
  a0 := Tryz.isAgg0
  z0 := Tryz.sizeOf0
  v0 := Tryz.zeroValue0
  t3 := Tryz.underlying3
  a3 := Tryz.isAgg3
  z3 := Tryz.sizeOf3
  v3 := Tryz.zeroValue3
  t9 := Tryz.underlying9
  a9 := Tryz.isAgg9
  z9 := Tryz.sizeOf9
  v9 := Tryz.zeroValue9
  t37 := Tryz.underlying22
  a37 := Tryz.isAgg22
  z37 := Tryz.sizeOf22
  v37 := Tryz.zeroValue22
  t70 := Tryz.underlying105
  a70 := Tryz.isAgg105
  z70 := Tryz.sizeOf105
  v70 := Tryz.zeroValue105
  t72 := Tryz.underlying107
  a72 := Tryz.isAgg107
  z72 := Tryz.sizeOf107
  v72 := Tryz.zeroValue107
  t127 := Tryz.underlying116
  a127 := Tryz.isAgg116
  z127 := Tryz.sizeOf116
  v127 := Tryz.zeroValue116 }
theorem Tryz.Builder_Extra_169 : Builder.Extra Tryz.prog Tryz.lays169_ren := {
  sizeBuilder := by kernel_rfl
  liesBuilder := by kernel_rfl
  t5 := Tryz.underlying5
  a5 := Tryz.isAgg5
  z5 := Tryz.sizeOf5
  v5 := Tryz.zeroValue5
  infoByte := by kernel_rfl
  cellsByte := by kernel_rfl
  sizeByte := by kernel_rfl
  neB5 := by decide }
open Go.RowKit in
theorem Tryz.Builder_String_any_k (B b : Nat) (l : List UInt8) (w : World) (h : Lib.IsBuilderF 107 5 B b (Lib.byteCells l) w) (hBw : B ≤ w.heap.size) :
    Calls Tryz.prog 97 #[.pointer (some ⟨b, 0, none⟩)] w fun e w' => e = .returned (.string ⟨l.toArray⟩) ∧ (Lib.IsBuilderF 107 5 B b (Lib.byteCells l) w' ∧ Below B w w' ∧ Lib.OthersKept 5 (some b) w w') := Any.Builder_String_any_k Tryz.lays169 Tryz.Builder_Extra_169 B b l w h hBw
def Tryz.lays138_ren : Go.Shelf.Ren := ⟨fun | 138 => 70 | 195 => 98 | 218 => 99 | 143 => 100 | 219 => 116 | 217 => 126 | 225 => 127 | 224 => 128 | 267 => 129 | 266 => 139 | 314 => 140 | n => n, fun | 9 => 9 | 3 => 3 | 4 => 4 | 5 => 5 | 0 => 0 | 46 => 125 | 146 => 118 | 51 => 117 | n => n, fun | 1 => 1 | n => n⟩
theorem Tryz.lays138 : Go.Proofs.Lays.n138 Tryz.prog Tryz.lays138_ren := {
  mixed := by kernel_rfl
  f138 := Tryz.func70.trans (congrArg some (by kernel_rfl))
  f143 := Tryz.func100.trans (congrArg some (by kernel_rfl))
  f195 := Tryz.func98.trans (congrArg some (by kernel_rfl))
  f217 := Tryz.func126.trans (congrArg some (by kernel_rfl))
  f218 := Tryz.func99.trans (congrArg some (by kernel_rfl))
  f219 := Tryz.func116.trans (congrArg some (by kernel_rfl))
  f224 := Tryz.func128.trans (congrArg some (by kernel_rfl))
  f225 := Tryz.func127.trans (congrArg some (by kernel_rfl))
  f266 := Tryz.func139.trans (congrArg some (by kernel_rfl))
  f267 := Tryz.func129.trans (congrArg some (by kernel_rfl))
  f314 := Tryz.func140.trans (congrArg some (by kernel_rfl))
  t0 := Tryz.underlying0
  a0 := Tryz.isAgg0
  z0 := Tryz.sizeOf0
  v0 := Tryz.zeroValue0
  t3 := Tryz.underlying3
  a3 := Tryz.isAgg3
  z3 := Tryz.sizeOf3
  v3 := Tryz.zeroValue3
  t4 := Tryz.underlying4
  a4 := Tryz.isAgg4
  z4 := Tryz.sizeOf4
  v4 := Tryz.zeroValue4
  t5 := Tryz.underlying5
  a5 := Tryz.isAgg5
  z5 := Tryz.sizeOf5
  v5 := Tryz.zeroValue5
  t9 := Tryz.underlying9
  a9 := Tryz.isAgg9
  z9 := Tryz.sizeOf9
  v9 := Tryz.zeroValue9
  t46 := Tryz.underlying125
  a46 := Tryz.isAgg125
  z46 := Tryz.sizeOf125
  v46 := Tryz.zeroValue125
  t51 := Tryz.underlying117
  a51 := Tryz.isAgg117
  z51 := Tryz.sizeOf117
  v51 := Tryz.zeroValue117
  t146 := Tryz.underlying118
  a146 := Tryz.isAgg118
  z146 := Tryz.sizeOf118
  v146 := Tryz.zeroValue118
  g1 := by kernel_rfl }
open Go.RowKit Go.Lib in
theorem Tryz.strings_Count_one (s : ByteArray) (c : UInt8) (w : World) :
    Calls Tryz.prog 70 #[.string s, .string ⟨#[c]⟩] w fun e w' => e = .returned (.int .i64 (Lib.countByte s.data.toList c)) ∧ w' = w := Any.strings_Count_one Tryz.lays138 s c w
def Tryz.lays148_ren : Go.Shelf.Ren := ⟨fun | 148 => 72 | 222 => 103 | 223 => 104 | 269 => 118 | n => n, fun | 9 => 9 | 3 => 3 | 4 => 4 | 5 => 5 | 146 => 118 | 51 => 117 | 46 => 125 | n => n, fun | n => n⟩
theorem Tryz.lays148 : Go.Proofs.Lays.n148 Tryz.prog Tryz.lays148_ren := {
  mixed := by kernel_rfl
  f148 := Tryz.func72.trans (congrArg some (by kernel_rfl))
  f222 := Tryz.func103.trans (congrArg some (by kernel_rfl))
  f223 := Tryz.func104.trans (congrArg some (by kernel_rfl))
  f269 := Tryz.func118.trans (congrArg some (by kernel_rfl))
  t3 := Tryz.underlying3
  a3 := Tryz.isAgg3
  z3 := Tryz.sizeOf3
  v3 := Tryz.zeroValue3
  t4 := Tryz.underlying4
  a4 := Tryz.isAgg4
  z4 := Tryz.sizeOf4
  v4 := Tryz.zeroValue4
  t5 := Tryz.underlying5
  a5 := Tryz.isAgg5
  z5 := Tryz.sizeOf5
  v5 := Tryz.zeroValue5
  t9 := Tryz.underlying9
  a9 := Tryz.isAgg9
  z9 := Tryz.sizeOf9
  v9 := Tryz.zeroValue9
  t46 := Tryz.underlying125
  a46 := Tryz.isAgg125
  z46 := Tryz.sizeOf125
  v46 := Tryz.zeroValue125
  t51 := Tryz.underlying117
  a51 := Tryz.isAgg117
  z51 := Tryz.sizeOf117
  v51 := Tryz.zeroValue117
  t146 := Tryz.underlying118
  a146 := Tryz.isAgg118
  z146 := Tryz.sizeOf118
  v146 := Tryz.zeroValue118 }
open Go.RowKit Go.Lib in
theorem Tryz.strings_LastIndex_one (s sub : ByteArray) (h1 : sub.size = 1) (hs : s.size < 4611686018427387904) (w : World) :
    Calls Tryz.prog 72 #[.string s, .string sub] w fun e w' => e = .returned (.int .i64 (Lib.lastIndexByte s ((sub[0]'(by omega)).toNat : Int))) ∧ w' = w := Any.strings_LastIndex_one Tryz.lays148 s sub h1 hs w
end Go.Proofs
