import Derived.Test.YtakfmcpjnkagmaaGreatDoorGPosAllx4
import Derived.Lib.SplitLaws
namespace Go.Proofs.YtakfmcpjnkagmaaGreatDoor.P
open Go.Proofs.YtakfmcpjnkagmaaGreatDoorUPosAll.PrintLast Go.Proofs.YtakfmcpjnkagmaaGreatDoorUPosAll.PrintMore Go.Proofs.YtakfmcpjnkagmaaGreatDoorUPosAll.PrintWords Go.RowKit
set_option linter.unusedVariables false
set_option linter.unusedSimpArgs false
section
attribute [local go_sem] max2_int min2_int max_two min_two max_three min_three max_four min_four
def spec_l20Stream.l0 : Nat → ByteArray → Int → List Int → Int → Option (ByteArray × Int)
 | 0,_,_,_,_=>none
 | k + 1,x3,x4,x1000,x1001=>if x4 > 0 then ((spec_l20Line.f k x1000 x1001).bind fun bt650=>(if x3.size + bt650.1.size ≤ 9223372036854775807 then (if (x3 ++ bt650.1).size + 1 ≤ 9223372036854775807 then (if (((x3 ++ bt650.1) ++ (⟨#[59]⟩ : ByteArray)).size : Int) ≤ 120 then (spec_l20Stream.l0 k ((x3 ++ bt650.1) ++ (⟨#[59]⟩ : ByteArray)) (wrap64 (x4 - 1)) x1000 bt650.2) else (spec_l20Stream.l0 k x3 (wrap64 (x4 - 1)) x1000 bt650.2)) else (none)) else (none))) else ((spec_l20Rd_pick.f k x1000 x1001 3).bind fun bt652=>(if bt652.1 = 0 then ((spec_l20Line.f k x1000 bt652.2).bind fun bt654=>(if (wrap64 ((x3.size : Int) + (bt654.1.size : Int))) ≤ 120 then (if x3.size + bt654.1.size ≤ 9223372036854775807 then (some (x3 ++ bt654.1,bt654.2)) else (none)) else (some (x3,bt654.2)))) else (some (x3,bt652.2))))
def spec_l20Stream.f (k : Nat) (s0_0 : List Int) (s0_1 : Int) : Option (ByteArray × Int):=(spec_l20Rd_pick.f k s0_0 s0_1 9).bind fun bt648=>(spec_l20Stream.l0 k (⟨#[]⟩ : ByteArray) bt648.1 s0_0 bt648.2)
theorem spec_l20Stream.mono_l : ∀ k,(∀ y0 y1 y2 y3,LeO (spec_l20Stream.l0 k y0 y1 y2 y3) (spec_l20Stream.l0 (k + 1) y0 y1 y2 y3))
 | 0=>fun _ _ _ _ r h=>by simp [spec_l20Stream.l0] at h
 | k + 1=>by
  have ih0:=spec_l20Stream.mono_l k
  ·intro y0 y1 y2 y3
   unfold spec_l20Stream.l0
   repeat' first | (with_reducible first | exact ih0 _ _ _ _ | exact spec_l20Line.mono _ _ _ | exact spec_l20Rd_pick.mono _ _ _ _ | exact LeO.refl _ | exact LeO.none _ | refine LeO.ite ?_ ?_ | refine LeO.bind ?_ (fun _=>?_)) | exact ih0 _ _ _ _ | exact spec_l20Line.mono _ _ _ | exact spec_l20Rd_pick.mono _ _ _ _ | exact LeO.none _ | refine LeO.ite ?_ ?_ | refine LeO.bind ?_ (fun _=>?_)
theorem spec_l20Stream.mono : ∀ a0 a1 k,LeO (spec_l20Stream.f k a0 a1) (spec_l20Stream.f (k + 1) a0 a1):=by
 intro a0 a1 k
 have ih0:=spec_l20Stream.mono_l k
 unfold spec_l20Stream.f
 repeat' first | (with_reducible first | exact ih0 _ _ _ _ | exact spec_l20Line.mono _ _ _ | exact spec_l20Rd_pick.mono _ _ _ _ | exact LeO.refl _ | exact LeO.none _ | refine LeO.ite ?_ ?_ | refine LeO.bind ?_ (fun _=>?_)) | exact ih0 _ _ _ _ | exact spec_l20Line.mono _ _ _ | exact spec_l20Rd_pick.mono _ _ _ _ | exact LeO.none _ | refine LeO.ite ?_ ?_ | refine LeO.bind ?_ (fun _=>?_)
set_option maxHeartbeats 8000000 in
set_option maxRecDepth 100000 in
theorem spec_l20Stream.calls (k : Nat) (g : Nat) (s0_0 : List Int) (s0_1 : Int) (r1 : ByteArray) (r2 : Int) (w0 w : World) (hI : IsS102 w0 w g s0_0 s0_1) (hB : Below w0.heap.size w0 w) (h : spec_l20Stream.f k s0_0 s0_1 = some (r1,r2)) :
  Calls Tryz.prog 96 #[.pointer (some ⟨g,0,none⟩)] w fun e w'=>e = .returned (.string r1) ∧ IsS102 w0 w' g s0_0 r2 ∧ Below w0.heap.size w0 w' ∧ KeepBut w w' g none:=by
 have HI0:=am hI
 have HK:=am (KeepBut.refl w g none)
 have HL:=am hB.size
 clear hI
 have HW0:=am hB.size
 have HB:=am hB
 clear hB
 have H : ((spec_l20Rd_pick.f k s0_0 s0_1 9).bind fun bt648=>(spec_l20Stream.l0 k (⟨#[]⟩ : ByteArray) bt648.1 s0_0 bt648.2)) = some (r1,r2):=h
 clear h
 obtain ⟨⟨t648,t649⟩,A2,H⟩:=bse H
 try dsimp only at H
 have H':=am H
 clear H
 go_enter Tryz.func96,Tryz.ntmps96
 go_wp2_with (first | ((with_reducible refine gC 58 rfl ?_);refine gL (some 8) Tryz.func58 #[.pointer (some ⟨g,0,none⟩),.int .i64 9] ?_;(with_reducible refine (spec_l20Rd_pick.calls k g s0_0 s0_1 9 t648 t649 w0 _ ?side1 ?side2 A2.out).mono ?_);(case side1=>exact m8_);(case side2=>exact m9_);rintro e w3 ⟨rfl,hi,hb,hk⟩;refine ⟨_,rfl,?_⟩;replace HK:=am (KeepBut.trans m10_ hk (.inl rfl));replace HB:=am hb;replace HI0:=am hi;(try clear hb);(try clear hk);(try clear hi)))
 go_loopg [3,4] k (fun kq v3 v4 w'=>∃ (x3_1 : ByteArray) (x4_1 : Int) (x1001_1 : Int),v3 = .string x3_1 ∧ v4 = .int .i64 x4_1 ∧ Aside0 (spec_l20Stream.l0 kq x3_1 x4_1 s0_0 x1001_1 = some (r1,r2)) ∧ Aside0 (kq ≤ k) ∧ Aside0 (IsS102 w0 w' g s0_0 x1001_1) ∧ Aside0 (KeepBut w w' g none) ∧ Aside0 (Below w0.heap.size w0 w'))
 case atStart=>exact ⟨((⟨#[]⟩ : ByteArray)),(t648),(t649),rs_,rs_,H',⟨Nat.le_refl _⟩,⟨m8_⟩,⟨m10_⟩,⟨m9_⟩⟩
 case round=>
  clear H'
  try clear p2
  obtain ⟨x3_1,x4_1,x1001_1,rfl,rfl,HA,HK1,HI0,HK,HB⟩:=hrel
  cases gk with
  | zero=>exact absurd HA.out (by simp [spec_l20Stream.l0])
  | succ k1=>
   have H:=HA.out
   clear HA
   simp only [spec_l20Stream.l0] at H
   by_cases c4 : x4_1 > 0
   ·rw [if_pos c4] at H
    have c4b0 : decide (0 < x4_1) = true:=decide_eq_true c4
    clear c4
    obtain ⟨⟨t650,t651⟩,A5,H⟩:=bse H
    try dsimp only at H
    by_cases c6 : x3_1.size + t650.size ≤ 9223372036854775807
    ·rw [if_pos c6] at H
     have c6b0:=eq_true c6
     have c6b1 : decide (x3_1.size + t650.size ≤ 9223372036854775807) = true:=decide_eq_true c6
     try have c6b2 : (9223372036854775807 < x3_1.size + t650.size) = False:=eq_false (Nat.not_lt.2 c6)
     by_cases c7 : (x3_1 ++ t650).size + 1 ≤ 9223372036854775807
     ·rw [if_pos c7] at H
      have c7b0:=eq_true c7
      have c7b1 : decide ((x3_1 ++ t650).size + 1 ≤ 9223372036854775807) = true:=decide_eq_true c7
      try have c7b2 : (9223372036854775807 < (x3_1 ++ t650).size + 1) = False:=eq_false (Nat.not_lt.2 c7)
      try have c7b3 : (9223372036854775807 < x3_1.size + t650.size + 1) = False:=(by have z_:=c7b2;simp only [ByteArray.size_append] at z_;exact z_)
      by_cases c8 : (((x3_1 ++ t650) ++ (⟨#[59]⟩ : ByteArray)).size : Int) ≤ 120
      ·rw [if_pos c8] at H
       have c8b0 : decide ((((x3_1 ++ t650) ++ (⟨#[59]⟩ : ByteArray)).size : Int) ≤ 120) = true:=decide_eq_true c8
       have c8b1 : decide (((x3_1 ++ t650) ++ (⟨#[59]⟩ : ByteArray)).size ≤ 120) = true:=decide_eq_true (by omega)
       try have c8b3 : decide ((x3_1.size : Int) + (t650.size : Int) + 1 ≤ 120) = true:=(by have z_:=c8b0;simp only [ByteArray.size_append,Int.natCast_add] at z_;exact z_)
       clear c8
       have H':=am H
       clear H
       go_wp2_with (first | ((with_reducible refine gC 115 rfl ?_);refine gL (some 15) Tryz.func115 #[.pointer (some ⟨g,0,none⟩)] ?_;(with_reducible refine (spec_l20Line.calls k1 g s0_0 x1001_1 t650 t651 w0 _ ?side1 ?side2 A5.out).mono ?_);(case side1=>exact m8_);(case side2=>exact m9_);rintro e w9 ⟨rfl,hi,hb,hk⟩;refine ⟨_,rfl,?_⟩;replace HK:=am (KeepBut.trans m10_ hk (.inl rfl));replace HB:=am hb;replace HI0:=am hi;(try clear hb);(try clear hk);(try clear hi)))
       go_roundg k1
       case measure=>have:=HK1.out;omega
       case rel=>exact ⟨((x3_1 ++ t650) ++ (⟨#[59]⟩ : ByteArray)),(wrap64 (x4_1 - 1)),(t651),rs_,rs_,H',⟨by have:=HK1.out;omega⟩,⟨m8_⟩,⟨m10_⟩,⟨m9_⟩⟩
      ·rw [if_neg c8] at H
       have c8b0 : decide ((((x3_1 ++ t650) ++ (⟨#[59]⟩ : ByteArray)).size : Int) ≤ 120) = false:=decide_eq_false c8
       have c8b1 : decide (((x3_1 ++ t650) ++ (⟨#[59]⟩ : ByteArray)).size ≤ 120) = false:=decide_eq_false (by omega)
       try have c8b3 : decide ((x3_1.size : Int) + (t650.size : Int) + 1 ≤ 120) = false:=(by have z_:=c8b0;simp only [ByteArray.size_append,Int.natCast_add] at z_;exact z_)
       clear c8
       have H':=am H
       clear H
       go_wp2_with (first | ((with_reducible refine gC 115 rfl ?_);refine gL (some 15) Tryz.func115 #[.pointer (some ⟨g,0,none⟩)] ?_;(with_reducible refine (spec_l20Line.calls k1 g s0_0 x1001_1 t650 t651 w0 _ ?side1 ?side2 A5.out).mono ?_);(case side1=>exact m8_);(case side2=>exact m9_);rintro e w10 ⟨rfl,hi,hb,hk⟩;refine ⟨_,rfl,?_⟩;replace HK:=am (KeepBut.trans m10_ hk (.inl rfl));replace HB:=am hb;replace HI0:=am hi;(try clear hb);(try clear hk);(try clear hi)))
       go_roundg k1
       case measure=>have:=HK1.out;omega
       case rel=>exact ⟨(x3_1),(wrap64 (x4_1 - 1)),(t651),rs_,rs_,H',⟨by have:=HK1.out;omega⟩,⟨m8_⟩,⟨m10_⟩,⟨m9_⟩⟩
     ·rw [if_neg c7] at H
      exact absurd H (by simp)
    ·rw [if_neg c6] at H
     exact absurd H (by simp)
   ·rw [if_neg c4] at H
    have c4b0 : decide (0 < x4_1) = false:=decide_eq_false c4
    clear c4
    obtain ⟨⟨t652,t653⟩,A11,H⟩:=bse H
    try dsimp only at H
    by_cases c12 : t652 = 0
    ·rw [if_pos c12] at H
     have c12b0 : (t652 == 0) = true:=beq_iff_eq.mpr c12
     have c12b1 : (t652 != 0) = false:=bne_eq_false_iff_eq.mpr c12
     clear c12
     obtain ⟨⟨t654,t655⟩,A13,H⟩:=bse H
     try dsimp only at H
     by_cases c14 : (wrap64 ((x3_1.size : Int) + (t654.size : Int))) ≤ 120
     ·rw [if_pos c14] at H
      have c14b0 : decide ((wrap64 ((x3_1.size : Int) + (t654.size : Int))) ≤ 120) = true:=decide_eq_true c14
      clear c14
      by_cases c15 : x3_1.size + t654.size ≤ 9223372036854775807
      ·rw [if_pos c15] at H
       have c15b0:=eq_true c15
       have c15b1 : decide (x3_1.size + t654.size ≤ 9223372036854775807) = true:=decide_eq_true c15
       try have c15b2 : (9223372036854775807 < x3_1.size + t654.size) = False:=eq_false (Nat.not_lt.2 c15)
       try have c15b5 : decide ((x3_1.size : Int) + (t654.size : Int) ≤ 120) = true:=(by have z_:=of_decide_eq_true c14b0;have y_:=of_decide_eq_true c15b1;unfold wrap64 at z_;exact decide_eq_true (by omega))
       simp only [Option.some.injEq,Prod.mk.injEq] at H
       obtain ⟨rfl,rfl⟩:=H
       go_wp2_with (first | ((with_reducible refine gC 58 rfl ?_);refine gL (some 23) Tryz.func58 #[.pointer (some ⟨g,0,none⟩),.int .i64 3] ?_;(with_reducible refine (spec_l20Rd_pick.calls k1 g s0_0 x1001_1 3 t652 t653 w0 _ ?side1 ?side2 A11.out).mono ?_);(case side1=>exact m8_);(case side2=>exact m9_);rintro e w16 ⟨rfl,hi,hb,hk⟩;refine ⟨_,rfl,?_⟩;replace HK:=am (KeepBut.trans m10_ hk (.inl rfl));replace HB:=am hb;replace HI0:=am hi;(try clear hb);(try clear hk);(try clear hi)) | ((with_reducible refine gC 115 rfl ?_);refine gL (some 26) Tryz.func115 #[.pointer (some ⟨g,0,none⟩)] ?_;(with_reducible refine (spec_l20Line.calls k1 g s0_0 t653 t654 t655 w0 _ ?side1 ?side2 A13.out).mono ?_);(case side1=>exact m8_);(case side2=>exact m9_);rintro e w17 ⟨rfl,hi,hb,hk⟩;refine ⟨_,rfl,?_⟩;replace HK:=am (KeepBut.trans m10_ hk (.inl rfl));replace HB:=am hb;replace HI0:=am hi;(try clear hb);(try clear hk);(try clear hi)))
       go_ret
       exact ⟨fi_,m8_,m9_,m10_⟩
      ·rw [if_neg c15] at H
       exact absurd H (by simp)
     ·rw [if_neg c14] at H
      have c14b0 : decide ((wrap64 ((x3_1.size : Int) + (t654.size : Int))) ≤ 120) = false:=decide_eq_false c14
      clear c14
      simp only [Option.some.injEq,Prod.mk.injEq] at H
      obtain ⟨rfl,rfl⟩:=H
      go_wp2_with (first | ((with_reducible refine gC 58 rfl ?_);refine gL (some 23) Tryz.func58 #[.pointer (some ⟨g,0,none⟩),.int .i64 3] ?_;(with_reducible refine (spec_l20Rd_pick.calls k1 g s0_0 x1001_1 3 t652 t653 w0 _ ?side1 ?side2 A11.out).mono ?_);(case side1=>exact m8_);(case side2=>exact m9_);rintro e w18 ⟨rfl,hi,hb,hk⟩;refine ⟨_,rfl,?_⟩;replace HK:=am (KeepBut.trans m10_ hk (.inl rfl));replace HB:=am hb;replace HI0:=am hi;(try clear hb);(try clear hk);(try clear hi)) | ((with_reducible refine gC 115 rfl ?_);refine gL (some 26) Tryz.func115 #[.pointer (some ⟨g,0,none⟩)] ?_;(with_reducible refine (spec_l20Line.calls k1 g s0_0 t653 t654 t655 w0 _ ?side1 ?side2 A13.out).mono ?_);(case side1=>exact m8_);(case side2=>exact m9_);rintro e w19 ⟨rfl,hi,hb,hk⟩;refine ⟨_,rfl,?_⟩;replace HK:=am (KeepBut.trans m10_ hk (.inl rfl));replace HB:=am hb;replace HI0:=am hi;(try clear hb);(try clear hk);(try clear hi)))
      go_ret
      exact ⟨fi_,m8_,m9_,m10_⟩
    ·rw [if_neg c12] at H
     have c12b0 : (t652 == 0) = false:=beq_eq_false_iff_ne.mpr c12
     have c12b1 : (t652 != 0) = true:=bne_iff_ne.mpr c12
     simp only [Option.some.injEq,Prod.mk.injEq] at H
     obtain ⟨rfl,rfl⟩:=H
     go_wp2_with (first | ((with_reducible refine gC 58 rfl ?_);refine gL (some 23) Tryz.func58 #[.pointer (some ⟨g,0,none⟩),.int .i64 3] ?_;(with_reducible refine (spec_l20Rd_pick.calls k1 g s0_0 x1001_1 3 t652 t653 w0 _ ?side1 ?side2 A11.out).mono ?_);(case side1=>exact m8_);(case side2=>exact m9_);rintro e w20 ⟨rfl,hi,hb,hk⟩;refine ⟨_,rfl,?_⟩;replace HK:=am (KeepBut.trans m10_ hk (.inl rfl));replace HB:=am hb;replace HI0:=am hi;(try clear hb);(try clear hk);(try clear hi)))
     go_ret
     exact ⟨fi_,m8_,m9_,m10_⟩
def spec_l20Bent.f (k : Nat) (s0_0 : List Int) (s0_1 : Int) (a1 : ByteArray) : Option (ByteArray × Int):=(spec_l20Rd_pick.f k s0_0 s0_1 (wrap64 ((a1.size : Int) + 1))).bind fun bt656=>((spec_l20Rd_pick.f k s0_0 bt656.2 256).bind fun bt658=>((some (([32,48,49,57,59,97,112,bt658.1] : List Int) : List Int)).bind fun y660=>((spec_l20Rd_pick.f k s0_0 bt658.2 8).bind fun bt663=>(if 0 ≤ bt663.1 then (if bt663.1 < (y660.length : Int) then ((some (([(rd y660 bt663.1) % 256] : List Int) : List Int)).bind fun y666=>((spec_l20Rd_pick.f k s0_0 bt663.2 3).bind fun bt669=>(if bt669.1 = 0 then (if 0 ≤ bt656.1 then (if bt656.1 ≤ (a1.size : Int) then (if (a1.extract 0 (bt656.1 : Int).toNat).size + (strOfNums y666).size ≤ 9223372036854775807 then (if ((a1.extract 0 (bt656.1 : Int).toNat) ++ (strOfNums y666)).size + (a1.extract (bt656.1 : Int).toNat a1.size).size ≤ 9223372036854775807 then (some (((a1.extract 0 (bt656.1 : Int).toNat) ++ (strOfNums y666)) ++ (a1.extract (bt656.1 : Int).toNat a1.size),bt669.2)) else (none)) else (none)) else (none)) else (none)) else (if bt669.1 = 1 then (if bt656.1 < (a1.size : Int) then (if 0 ≤ bt656.1 then (if bt656.1 ≤ (a1.size : Int) then (if 0 ≤ (wrap64 (bt656.1 + 1)) then (if (wrap64 (bt656.1 + 1)) ≤ (a1.size : Int) then (if (a1.extract 0 (bt656.1 : Int).toNat).size + (a1.extract ((wrap64 (bt656.1 + 1)) : Int).toNat a1.size).size ≤ 9223372036854775807 then (some ((a1.extract 0 (bt656.1 : Int).toNat) ++ (a1.extract ((wrap64 (bt656.1 + 1)) : Int).toNat a1.size),bt669.2)) else (none)) else (none)) else (none)) else (none)) else (none)) else (some (a1,bt669.2))) else (if bt656.1 < (a1.size : Int) then (if 0 ≤ bt656.1 then (if bt656.1 ≤ (a1.size : Int) then (if (a1.extract 0 (bt656.1 : Int).toNat).size + (strOfNums y666).size ≤ 9223372036854775807 then (if 0 ≤ (wrap64 (bt656.1 + 1)) then (if (wrap64 (bt656.1 + 1)) ≤ (a1.size : Int) then (if ((a1.extract 0 (bt656.1 : Int).toNat) ++ (strOfNums y666)).size + (a1.extract ((wrap64 (bt656.1 + 1)) : Int).toNat a1.size).size ≤ 9223372036854775807 then (some (((a1.extract 0 (bt656.1 : Int).toNat) ++ (strOfNums y666)) ++ (a1.extract ((wrap64 (bt656.1 + 1)) : Int).toNat a1.size),bt669.2)) else (none)) else (none)) else (none)) else (none)) else (none)) else (none)) else (some (a1,bt669.2))))))) else (none)) else (none)))))
theorem spec_l20Bent.mono : ∀ a0 a1 a2 k,LeO (spec_l20Bent.f k a0 a1 a2) (spec_l20Bent.f (k + 1) a0 a1 a2):=by
 intro a0 a1 a2 k
 unfold spec_l20Bent.f
 repeat' first | (with_reducible first | exact spec_l20Rd_pick.mono _ _ _ _ | exact LeO.refl _ | exact LeO.none _ | refine LeO.ite ?_ ?_ | refine LeO.bind ?_ (fun _=>?_)) | exact spec_l20Rd_pick.mono _ _ _ _ | exact LeO.none _ | refine LeO.ite ?_ ?_ | refine LeO.bind ?_ (fun _=>?_)
set_option maxHeartbeats 8000000 in
set_option maxRecDepth 100000 in
theorem spec_l20Bent.calls (k : Nat) (g : Nat) (s0_0 : List Int) (s0_1 : Int) (a1 : ByteArray) (r1 : ByteArray) (r2 : Int) (w0 w : World) (hI : IsS102 w0 w g s0_0 s0_1) (hB : Below w0.heap.size w0 w) (h : spec_l20Bent.f k s0_0 s0_1 a1 = some (r1,r2)) :
  Calls Tryz.prog 97 #[.pointer (some ⟨g,0,none⟩),.string a1] w fun e w'=>e = .returned (.string r1) ∧ IsS102 w0 w' g s0_0 r2 ∧ Below w0.heap.size w0 w' ∧ KeepBut w w' g none:=by
 have HI0:=am hI
 have HK:=am (KeepBut.refl w g none)
 have HL:=am hB.size
 clear hI
 have HW0:=am hB.size
 have HB:=am hB
 clear hB
 have H : ((spec_l20Rd_pick.f k s0_0 s0_1 (wrap64 ((a1.size : Int) + 1))).bind fun bt656=>((spec_l20Rd_pick.f k s0_0 bt656.2 256).bind fun bt658=>((some (([32,48,49,57,59,97,112,bt658.1] : List Int) : List Int)).bind fun y660=>((spec_l20Rd_pick.f k s0_0 bt658.2 8).bind fun bt663=>(if 0 ≤ bt663.1 then (if bt663.1 < (y660.length : Int) then ((some (([(rd y660 bt663.1) % 256] : List Int) : List Int)).bind fun y666=>((spec_l20Rd_pick.f k s0_0 bt663.2 3).bind fun bt669=>(if bt669.1 = 0 then (if 0 ≤ bt656.1 then (if bt656.1 ≤ (a1.size : Int) then (if (a1.extract 0 (bt656.1 : Int).toNat).size + (strOfNums y666).size ≤ 9223372036854775807 then (if ((a1.extract 0 (bt656.1 : Int).toNat) ++ (strOfNums y666)).size + (a1.extract (bt656.1 : Int).toNat a1.size).size ≤ 9223372036854775807 then (some (((a1.extract 0 (bt656.1 : Int).toNat) ++ (strOfNums y666)) ++ (a1.extract (bt656.1 : Int).toNat a1.size),bt669.2)) else (none)) else (none)) else (none)) else (none)) else (if bt669.1 = 1 then (if bt656.1 < (a1.size : Int) then (if 0 ≤ bt656.1 then (if bt656.1 ≤ (a1.size : Int) then (if 0 ≤ (wrap64 (bt656.1 + 1)) then (if (wrap64 (bt656.1 + 1)) ≤ (a1.size : Int) then (if (a1.extract 0 (bt656.1 : Int).toNat).size + (a1.extract ((wrap64 (bt656.1 + 1)) : Int).toNat a1.size).size ≤ 9223372036854775807 then (some ((a1.extract 0 (bt656.1 : Int).toNat) ++ (a1.extract ((wrap64 (bt656.1 + 1)) : Int).toNat a1.size),bt669.2)) else (none)) else (none)) else (none)) else (none)) else (none)) else (some (a1,bt669.2))) else (if bt656.1 < (a1.size : Int) then (if 0 ≤ bt656.1 then (if bt656.1 ≤ (a1.size : Int) then (if (a1.extract 0 (bt656.1 : Int).toNat).size + (strOfNums y666).size ≤ 9223372036854775807 then (if 0 ≤ (wrap64 (bt656.1 + 1)) then (if (wrap64 (bt656.1 + 1)) ≤ (a1.size : Int) then (if ((a1.extract 0 (bt656.1 : Int).toNat) ++ (strOfNums y666)).size + (a1.extract ((wrap64 (bt656.1 + 1)) : Int).toNat a1.size).size ≤ 9223372036854775807 then (some (((a1.extract 0 (bt656.1 : Int).toNat) ++ (strOfNums y666)) ++ (a1.extract ((wrap64 (bt656.1 + 1)) : Int).toNat a1.size),bt669.2)) else (none)) else (none)) else (none)) else (none)) else (none)) else (none)) else (some (a1,bt669.2))))))) else (none)) else (none)))))) = some (r1,r2):=h
 clear h
 obtain ⟨⟨t656,t657⟩,A3,H⟩:=bse H
 try dsimp only at H
 obtain ⟨⟨t658,t659⟩,A4,H⟩:=bse H
 try dsimp only at H
 obtain ⟨y660,hy660⟩ : ∃ y_ : List Int,y_ = (([32,48,49,57,59,97,112,t658] : List Int)):=⟨_,rfl⟩
 replace H : ((spec_l20Rd_pick.f k s0_0 t659 8).bind fun bt663=>(if 0 ≤ bt663.1 then (if bt663.1 < (y660.length : Int) then ((some (([(rd y660 bt663.1) % 256] : List Int) : List Int)).bind fun y666=>((spec_l20Rd_pick.f k s0_0 bt663.2 3).bind fun bt669=>(if bt669.1 = 0 then (if 0 ≤ t656 then (if t656 ≤ (a1.size : Int) then (if (a1.extract 0 (t656 : Int).toNat).size + (strOfNums y666).size ≤ 9223372036854775807 then (if ((a1.extract 0 (t656 : Int).toNat) ++ (strOfNums y666)).size + (a1.extract (t656 : Int).toNat a1.size).size ≤ 9223372036854775807 then (some (((a1.extract 0 (t656 : Int).toNat) ++ (strOfNums y666)) ++ (a1.extract (t656 : Int).toNat a1.size),bt669.2)) else (none)) else (none)) else (none)) else (none)) else (if bt669.1 = 1 then (if t656 < (a1.size : Int) then (if 0 ≤ t656 then (if t656 ≤ (a1.size : Int) then (if 0 ≤ (wrap64 (t656 + 1)) then (if (wrap64 (t656 + 1)) ≤ (a1.size : Int) then (if (a1.extract 0 (t656 : Int).toNat).size + (a1.extract ((wrap64 (t656 + 1)) : Int).toNat a1.size).size ≤ 9223372036854775807 then (some ((a1.extract 0 (t656 : Int).toNat) ++ (a1.extract ((wrap64 (t656 + 1)) : Int).toNat a1.size),bt669.2)) else (none)) else (none)) else (none)) else (none)) else (none)) else (some (a1,bt669.2))) else (if t656 < (a1.size : Int) then (if 0 ≤ t656 then (if t656 ≤ (a1.size : Int) then (if (a1.extract 0 (t656 : Int).toNat).size + (strOfNums y666).size ≤ 9223372036854775807 then (if 0 ≤ (wrap64 (t656 + 1)) then (if (wrap64 (t656 + 1)) ≤ (a1.size : Int) then (if ((a1.extract 0 (t656 : Int).toNat) ++ (strOfNums y666)).size + (a1.extract ((wrap64 (t656 + 1)) : Int).toNat a1.size).size ≤ 9223372036854775807 then (some (((a1.extract 0 (t656 : Int).toNat) ++ (strOfNums y666)) ++ (a1.extract ((wrap64 (t656 + 1)) : Int).toNat a1.size),bt669.2)) else (none)) else (none)) else (none)) else (none)) else (none)) else (none)) else (some (a1,bt669.2))))))) else (none)) else (none))) = some (r1,r2):=by first | (rw [hy660];with_reducible exact H) | (have H2_:=(Option.bind_some _ _).symm.trans H;rw [hy660];with_reducible exact H2_) | (have H2_:=(Option.bind_some _ _).symm.trans H;with_reducible exact H2_) | with_reducible exact H | (rw [hy660];exact H) | exact H
 have Ny660:=am hy660
 clear hy660
 obtain ⟨⟨t663,t664⟩,A5,H⟩:=bse H
 try dsimp only at H
 by_cases c6 : 0 ≤ t663
 ·rw [if_pos c6] at H
  have c6b0 : decide (0 ≤ t663) = true:=decide_eq_true c6
  clear c6
  by_cases c7 : t663 < (y660.length : Int)
  ·rw [if_pos c7] at H
   have c7b0 : decide (t663 < (y660.length : Int)) = true:=decide_eq_true c7
   clear c7
   obtain ⟨y666,hy666⟩ : ∃ y_ : List Int,y_ = (([(rd y660 t663) % 256] : List Int)):=⟨_,rfl⟩
   replace H : ((spec_l20Rd_pick.f k s0_0 t664 3).bind fun bt669=>(if bt669.1 = 0 then (if 0 ≤ t656 then (if t656 ≤ (a1.size : Int) then (if (a1.extract 0 (t656 : Int).toNat).size + (strOfNums y666).size ≤ 9223372036854775807 then (if ((a1.extract 0 (t656 : Int).toNat) ++ (strOfNums y666)).size + (a1.extract (t656 : Int).toNat a1.size).size ≤ 9223372036854775807 then (some (((a1.extract 0 (t656 : Int).toNat) ++ (strOfNums y666)) ++ (a1.extract (t656 : Int).toNat a1.size),bt669.2)) else (none)) else (none)) else (none)) else (none)) else (if bt669.1 = 1 then (if t656 < (a1.size : Int) then (if 0 ≤ t656 then (if t656 ≤ (a1.size : Int) then (if 0 ≤ (wrap64 (t656 + 1)) then (if (wrap64 (t656 + 1)) ≤ (a1.size : Int) then (if (a1.extract 0 (t656 : Int).toNat).size + (a1.extract ((wrap64 (t656 + 1)) : Int).toNat a1.size).size ≤ 9223372036854775807 then (some ((a1.extract 0 (t656 : Int).toNat) ++ (a1.extract ((wrap64 (t656 + 1)) : Int).toNat a1.size),bt669.2)) else (none)) else (none)) else (none)) else (none)) else (none)) else (some (a1,bt669.2))) else (if t656 < (a1.size : Int) then (if 0 ≤ t656 then (if t656 ≤ (a1.size : Int) then (if (a1.extract 0 (t656 : Int).toNat).size + (strOfNums y666).size ≤ 9223372036854775807 then (if 0 ≤ (wrap64 (t656 + 1)) then (if (wrap64 (t656 + 1)) ≤ (a1.size : Int) then (if ((a1.extract 0 (t656 : Int).toNat) ++ (strOfNums y666)).size + (a1.extract ((wrap64 (t656 + 1)) : Int).toNat a1.size).size ≤ 9223372036854775807 then (some (((a1.extract 0 (t656 : Int).toNat) ++ (strOfNums y666)) ++ (a1.extract ((wrap64 (t656 + 1)) : Int).toNat a1.size),bt669.2)) else (none)) else (none)) else (none)) else (none)) else (none)) else (none)) else (some (a1,bt669.2)))))) = some (r1,r2):=by first | (rw [hy666];with_reducible exact H) | (have H2_:=(Option.bind_some _ _).symm.trans H;rw [hy666];with_reducible exact H2_) | (have H2_:=(Option.bind_some _ _).symm.trans H;with_reducible exact H2_) | with_reducible exact H | (rw [hy666];exact H) | exact H
   have Ny666:=am hy666
   clear hy666
   obtain ⟨⟨t669,t670⟩,A8,H⟩:=bse H
   try dsimp only at H
   by_cases c9 : t669 = 0
   ·rw [if_pos c9] at H
    have c9b0 : (t669 == 0) = true:=beq_iff_eq.mpr c9
    have c9b1 : (t669 != 0) = false:=bne_eq_false_iff_eq.mpr c9
    clear c9
    by_cases c10 : 0 ≤ t656
    ·rw [if_pos c10] at H
     have c10b0:=eq_true c10
     have c10b1 : decide (0 ≤ t656) = true:=decide_eq_true c10
     clear c10
     by_cases c11 : t656 ≤ (a1.size : Int)
     ·rw [if_pos c11] at H
      have c11b0:=eq_true c11
      have c11b1 : decide (t656 ≤ (a1.size : Int)) = true:=decide_eq_true c11
      clear c11
      by_cases c12 : (a1.extract 0 (t656 : Int).toNat).size + (strOfNums y666).size ≤ 9223372036854775807
      ·rw [if_pos c12] at H
       have c12b0:=eq_true c12
       have c12b1 : decide ((a1.extract 0 (t656 : Int).toNat).size + (strOfNums y666).size ≤ 9223372036854775807) = true:=decide_eq_true c12
       try have c12b2 : (9223372036854775807 < (a1.extract 0 (t656 : Int).toNat).size + (strOfNums y666).size) = False:=eq_false (Nat.not_lt.2 c12)
       have c13b0:=eq_true (of_decide_eq_true da_ : 0 ≤ t656)
       have c14b0:=eq_true (of_decide_eq_true da_ : t656 ≤ (a1.size : Int))
       by_cases c15 : ((a1.extract 0 (t656 : Int).toNat) ++ (strOfNums y666)).size + (a1.extract (t656 : Int).toNat a1.size).size ≤ 9223372036854775807
       ·rw [if_pos c15] at H
        have c15b0:=eq_true c15
        have c15b1 : decide (((a1.extract 0 (t656 : Int).toNat) ++ (strOfNums y666)).size + (a1.extract (t656 : Int).toNat a1.size).size ≤ 9223372036854775807) = true:=decide_eq_true c15
        try have c15b2 : (9223372036854775807 < ((a1.extract 0 (t656 : Int).toNat) ++ (strOfNums y666)).size + (a1.extract (t656 : Int).toNat a1.size).size) = False:=eq_false (Nat.not_lt.2 c15)
        try have c15b3 : (9223372036854775807 < (a1.extract 0 (t656 : Int).toNat).size + (strOfNums y666).size + (a1.extract (t656 : Int).toNat a1.size).size) = False:=(by have z_:=c15b2;simp only [ByteArray.size_append] at z_;exact z_)
        simp only [Option.some.injEq,Prod.mk.injEq] at H
        obtain ⟨rfl,rfl⟩:=H
        go_enter Tryz.func97,Tryz.ntmps97
        iterate 4 ((try go_quiet (fail));(try go_wp2_with (first | (go_at_call 58;(with_reducible refine (spec_l20Rd_pick.calls k g s0_0 s0_1 (wrap64 ((a1.size : Int) + 1)) t656 t657 w0 _ ?side1 ?side2 A3.out).mono ?_);(case side1=>exact m8_);(case side2=>exact m9_);rintro e w16 ⟨rfl,hi,hb,hk⟩;replace HK:=am (KeepBut.trans m10_ hk (.inl rfl));replace HB:=am hb;replace HI0:=am hi;(try clear hb);(try clear hk);(try clear hi)) | (go_at_call 58;(with_reducible refine (spec_l20Rd_pick.calls k g s0_0 t657 256 t658 t659 w0 _ ?side1 ?side2 A4.out).mono ?_);(case side1=>exact m8_);(case side2=>exact m9_);rintro e w17 ⟨rfl,hi,hb,hk⟩;replace HK:=am (KeepBut.trans m10_ hk (.inl rfl));replace HB:=am hb;replace HI0:=am hi;(try clear hb);(try clear hk);(try clear hi)) | ((with_reducible refine gD 14 rfl ?_);refine Kd.R_lit (Kd.int .i64) _ 3 rfl (N:=14) rfl (xs:=([32,48,49,57,59,97,112,t658] : List Int)) (inner:=[.int .i64 32,.int .i64 48,.int .i64 49,.int .i64 57,.int .i64 59,.int .i64 97,.int .i64 112,.int .i64 t658]) (ok:=fun _=>True) (okp:=fun _=>True) hr_ ?hp (fun _ hk=>hk) trivial (Below.refl _ _) (Nat.le_refl _) (by simp) ?_;(case hp=>exact (Reps.one (show Kd.M (Kd.int .i64) _ _ _ 32 [.int .i64 32] from rfl) (Reps.one (show Kd.M (Kd.int .i64) _ _ _ 48 [.int .i64 48] from rfl) (Reps.one (show Kd.M (Kd.int .i64) _ _ _ 49 [.int .i64 49] from rfl) (Reps.one (show Kd.M (Kd.int .i64) _ _ _ 57 [.int .i64 57] from rfl) (Reps.one (show Kd.M (Kd.int .i64) _ _ _ 59 [.int .i64 59] from rfl) (Reps.one (show Kd.M (Kd.int .i64) _ _ _ 97 [.int .i64 97] from rfl) (Reps.one (show Kd.M (Kd.int .i64) _ _ _ 112 [.int .i64 112] from rfl) (Reps.one (show Kd.M (Kd.int .i64) _ _ _ t658 [.int .i64 t658] from rfl) (Reps.none _ _))))))))));intro v661 w18 ho19 hb hg_ hnew_;clear hg_ hnew_;(first | rw [← Ny660.out] at ho19 | (simp only [Int.reduceToNat] at ho19;rw [← Ny660.out] at ho19));have HO662:=am (Kd.R_lower ho19 (keep_size (w:=w) (g:=g) (row:=none) m10_));replace HK:=am (KeepBut.trans m10_ (KeepBut.of_below hb g none) (.inl rfl));replace HB:=am (below_step m9_ hb);replace HI0:=am (IsS102.below m8_ hb);clear hb ho19) | (go_at_call 58;(with_reducible refine (spec_l20Rd_pick.calls k g s0_0 t659 8 t663 t664 w0 _ ?side1 ?side2 A5.out).mono ?_);(case side1=>exact m8_);(case side2=>exact m9_);rintro e w20 ⟨rfl,hi,hb,hk⟩;replace HO662:=am (Kd.R_mono (Kd.R_keep (IsS102.apart (show IsS102 w0 _ g s0_0 t659 from m8_) (rs HO662) (by decide)) hk (fun _ h=>h.2)) (fun _ h=>h.1));replace HK:=am (KeepBut.trans m10_ hk (.inl rfl));replace HB:=am hb;replace HI0:=am hi;(try clear hb);(try clear hk);(try clear hi);obtain ⟨Ao21,co21,eo21⟩:=Kd.R_slice HO662.out;subst eo21;have p665 : 0 ≤ (t663 : Int):=of_decide_eq_true da_;have q665 : t663 < (y660.length : Int):=of_decide_eq_true da_;obtain ⟨ad665,e665,hx665_0⟩:=Kd.at_int (Kd.R_reads' HO662.out).2.2 t663 p665 q665;cases e665;replace p665:=eq_true p665;replace q665:=eq_true q665) | ((with_reducible refine gD 20 rfl ?_);refine Kd.R_lit (Kd.int .u8) _ 5 rfl (N:=20) rfl (xs:=([(rd y660 t663) % 256] : List Int)) (inner:=[.int .u8 ((rd y660 t663) % 256)]) (ok:=fun _=>True) (okp:=fun _=>True) hr_ ?hp (fun _ hk=>hk) trivial (Below.refl _ _) (Nat.le_refl _) (by simp) ?_;(case hp=>exact (Reps.one (show Kd.M (Kd.int .u8) _ _ _ ((rd y660 t663) % 256) [.int .u8 ((rd y660 t663) % 256)] from rfl) (Reps.none _ _)));intro v667 w22 ho23 hb hg_ hnew_;clear hg_ hnew_;(first | rw [← Ny666.out] at ho23 | (simp only [Int.reduceToNat] at ho23;rw [← Ny666.out] at ho23));replace HO662:=am (Kd.R_below (rs HO662) hb);have HO668:=am (Kd.R_lower ho23 (keep_size (w:=w) (g:=g) (row:=none) m10_));replace HK:=am (KeepBut.trans m10_ (KeepBut.of_below hb g none) (.inl rfl));replace HB:=am (below_step m9_ hb);replace HI0:=am (IsS102.below m8_ hb);clear hb ho23;have hcv24:=own_string (P:=Tryz.prog) Tryz.underlying39 Tryz.underlying5 Tryz.underlying9 (Kd.own_of_R HO668.out)) | (go_at_call 58;(with_reducible refine (spec_l20Rd_pick.calls k g s0_0 t664 3 t669 t670 w0 _ ?side1 ?side2 A8.out).mono ?_);(case side1=>exact m8_);(case side2=>exact m9_);rintro e w25 ⟨rfl,hi,hb,hk⟩;replace HO662:=am (Kd.R_mono (Kd.R_keep (IsS102.apart (show IsS102 w0 _ g s0_0 t664 from m8_) (rs HO662) (by decide)) hk (fun _ h=>h.2)) (fun _ h=>h.1));replace HO668:=am (Kd.R_mono (Kd.R_keep (IsS102.apart (show IsS102 w0 _ g s0_0 t664 from m8_) (rs HO668) (by decide)) hk (fun _ h=>h.2)) (fun _ h=>h.1));replace HK:=am (KeepBut.trans m10_ hk (.inl rfl));replace HB:=am hb;replace HI0:=am hi;(try clear hb);(try clear hk);(try clear hi)))))
        go_ret
        exact ⟨fi_,m8_,m9_,m10_⟩
       ·rw [if_neg c15] at H
        exact absurd H (by simp)
      ·rw [if_neg c12] at H
       exact absurd H (by simp)
     ·rw [if_neg c11] at H
      exact absurd H (by simp)
    ·rw [if_neg c10] at H
     exact absurd H (by simp)
   ·rw [if_neg c9] at H
    have c9b0 : (t669 == 0) = false:=beq_eq_false_iff_ne.mpr c9
    have c9b1 : (t669 != 0) = true:=bne_iff_ne.mpr c9
    by_cases c26 : t669 = 1
    ·rw [if_pos c26] at H
     have c26b0 : (t669 == 1) = true:=beq_iff_eq.mpr c26
     have c26b1 : (t669 != 1) = false:=bne_eq_false_iff_eq.mpr c26
     clear c26
     by_cases c27 : t656 < (a1.size : Int)
     ·rw [if_pos c27] at H
      have c27b0 : decide (t656 < (a1.size : Int)) = true:=decide_eq_true c27
      clear c27
      by_cases c28 : 0 ≤ t656
      ·rw [if_pos c28] at H
       have c28b0:=eq_true c28
       have c28b1 : decide (0 ≤ t656) = true:=decide_eq_true c28
       clear c28
       by_cases c29 : t656 ≤ (a1.size : Int)
       ·rw [if_pos c29] at H
        have c29b0:=eq_true c29
        have c29b1 : decide (t656 ≤ (a1.size : Int)) = true:=decide_eq_true c29
        clear c29
        obtain ⟨ji30,hji30⟩ : ∃ j_ : Int,(wrap64 (t656 + 1)) = j_:=⟨_,rfl⟩
        replace H : (if 0 ≤ (ji30) then (if (ji30) ≤ (a1.size : Int) then (if (a1.extract 0 (t656 : Int).toNat).size + (a1.extract ((ji30) : Int).toNat a1.size).size ≤ 9223372036854775807 then (some ((a1.extract 0 (t656 : Int).toNat) ++ (a1.extract ((ji30) : Int).toNat a1.size),t670)) else (none)) else (none)) else (none)) = some (r1,r2):=by first | (rw [hji30] at H;exact H) | (simp only [hji30] at H ⊢;exact H)
        (try rw [hji30] at A3)
        (try rw [hji30] at A4)
        (try rw [hji30] at A5)
        (try rw [hji30] at A8)
        have hji30w : (IntKind.i64.wrap (t656 + 1)) = ji30:=(i64_w _).trans hji30
        by_cases c31 : 0 ≤ (ji30)
        ·rw [if_pos c31] at H
         have c31b0:=eq_true c31
         have c31b1 : decide (0 ≤ (ji30)) = true:=decide_eq_true c31
         clear c31
         by_cases c32 : (ji30) ≤ (a1.size : Int)
         ·rw [if_pos c32] at H
          have c32b0:=eq_true c32
          have c32b1 : decide ((ji30) ≤ (a1.size : Int)) = true:=decide_eq_true c32
          clear c32
          by_cases c33 : (a1.extract 0 (t656 : Int).toNat).size + (a1.extract ((ji30) : Int).toNat a1.size).size ≤ 9223372036854775807
          ·rw [if_pos c33] at H
           have c33b0:=eq_true c33
           have c33b1 : decide ((a1.extract 0 (t656 : Int).toNat).size + (a1.extract ((ji30) : Int).toNat a1.size).size ≤ 9223372036854775807) = true:=decide_eq_true c33
           try have c33b2 : (9223372036854775807 < (a1.extract 0 (t656 : Int).toNat).size + (a1.extract ((ji30) : Int).toNat a1.size).size) = False:=eq_false (Nat.not_lt.2 c33)
           simp only [Option.some.injEq,Prod.mk.injEq] at H
           obtain ⟨rfl,rfl⟩:=H
           go_enter Tryz.func97,Tryz.ntmps97
           iterate 4 ((try go_quiet (fail));(try go_wp2_with (first | (go_at_call 58;(with_reducible refine (spec_l20Rd_pick.calls k g s0_0 s0_1 (wrap64 ((a1.size : Int) + 1)) t656 t657 w0 _ ?side1 ?side2 A3.out).mono ?_);(case side1=>exact m8_);(case side2=>exact m9_);rintro e w34 ⟨rfl,hi,hb,hk⟩;replace HK:=am (KeepBut.trans m10_ hk (.inl rfl));replace HB:=am hb;replace HI0:=am hi;(try clear hb);(try clear hk);(try clear hi)) | (go_at_call 58;(with_reducible refine (spec_l20Rd_pick.calls k g s0_0 t657 256 t658 t659 w0 _ ?side1 ?side2 A4.out).mono ?_);(case side1=>exact m8_);(case side2=>exact m9_);rintro e w35 ⟨rfl,hi,hb,hk⟩;replace HK:=am (KeepBut.trans m10_ hk (.inl rfl));replace HB:=am hb;replace HI0:=am hi;(try clear hb);(try clear hk);(try clear hi)) | ((with_reducible refine gD 14 rfl ?_);refine Kd.R_lit (Kd.int .i64) _ 3 rfl (N:=14) rfl (xs:=([32,48,49,57,59,97,112,t658] : List Int)) (inner:=[.int .i64 32,.int .i64 48,.int .i64 49,.int .i64 57,.int .i64 59,.int .i64 97,.int .i64 112,.int .i64 t658]) (ok:=fun _=>True) (okp:=fun _=>True) hr_ ?hp (fun _ hk=>hk) trivial (Below.refl _ _) (Nat.le_refl _) (by simp) ?_;(case hp=>exact (Reps.one (show Kd.M (Kd.int .i64) _ _ _ 32 [.int .i64 32] from rfl) (Reps.one (show Kd.M (Kd.int .i64) _ _ _ 48 [.int .i64 48] from rfl) (Reps.one (show Kd.M (Kd.int .i64) _ _ _ 49 [.int .i64 49] from rfl) (Reps.one (show Kd.M (Kd.int .i64) _ _ _ 57 [.int .i64 57] from rfl) (Reps.one (show Kd.M (Kd.int .i64) _ _ _ 59 [.int .i64 59] from rfl) (Reps.one (show Kd.M (Kd.int .i64) _ _ _ 97 [.int .i64 97] from rfl) (Reps.one (show Kd.M (Kd.int .i64) _ _ _ 112 [.int .i64 112] from rfl) (Reps.one (show Kd.M (Kd.int .i64) _ _ _ t658 [.int .i64 t658] from rfl) (Reps.none _ _))))))))));intro v661 w36 ho37 hb hg_ hnew_;clear hg_ hnew_;(first | rw [← Ny660.out] at ho37 | (simp only [Int.reduceToNat] at ho37;rw [← Ny660.out] at ho37));have HO662:=am (Kd.R_lower ho37 (keep_size (w:=w) (g:=g) (row:=none) m10_));replace HK:=am (KeepBut.trans m10_ (KeepBut.of_below hb g none) (.inl rfl));replace HB:=am (below_step m9_ hb);replace HI0:=am (IsS102.below m8_ hb);clear hb ho37) | (go_at_call 58;(with_reducible refine (spec_l20Rd_pick.calls k g s0_0 t659 8 t663 t664 w0 _ ?side1 ?side2 A5.out).mono ?_);(case side1=>exact m8_);(case side2=>exact m9_);rintro e w38 ⟨rfl,hi,hb,hk⟩;replace HO662:=am (Kd.R_mono (Kd.R_keep (IsS102.apart (show IsS102 w0 _ g s0_0 t659 from m8_) (rs HO662) (by decide)) hk (fun _ h=>h.2)) (fun _ h=>h.1));replace HK:=am (KeepBut.trans m10_ hk (.inl rfl));replace HB:=am hb;replace HI0:=am hi;(try clear hb);(try clear hk);(try clear hi);obtain ⟨Ao39,co39,eo39⟩:=Kd.R_slice HO662.out;subst eo39;have p665 : 0 ≤ (t663 : Int):=of_decide_eq_true da_;have q665 : t663 < (y660.length : Int):=of_decide_eq_true da_;obtain ⟨ad665,e665,hx665_0⟩:=Kd.at_int (Kd.R_reads' HO662.out).2.2 t663 p665 q665;cases e665;replace p665:=eq_true p665;replace q665:=eq_true q665) | ((with_reducible refine gD 20 rfl ?_);refine Kd.R_lit (Kd.int .u8) _ 5 rfl (N:=20) rfl (xs:=([(rd y660 t663) % 256] : List Int)) (inner:=[.int .u8 ((rd y660 t663) % 256)]) (ok:=fun _=>True) (okp:=fun _=>True) hr_ ?hp (fun _ hk=>hk) trivial (Below.refl _ _) (Nat.le_refl _) (by simp) ?_;(case hp=>exact (Reps.one (show Kd.M (Kd.int .u8) _ _ _ ((rd y660 t663) % 256) [.int .u8 ((rd y660 t663) % 256)] from rfl) (Reps.none _ _)));intro v667 w40 ho41 hb hg_ hnew_;clear hg_ hnew_;(first | rw [← Ny666.out] at ho41 | (simp only [Int.reduceToNat] at ho41;rw [← Ny666.out] at ho41));replace HO662:=am (Kd.R_below (rs HO662) hb);have HO668:=am (Kd.R_lower ho41 (keep_size (w:=w) (g:=g) (row:=none) m10_));replace HK:=am (KeepBut.trans m10_ (KeepBut.of_below hb g none) (.inl rfl));replace HB:=am (below_step m9_ hb);replace HI0:=am (IsS102.below m8_ hb);clear hb ho41;have hcv42:=own_string (P:=Tryz.prog) Tryz.underlying39 Tryz.underlying5 Tryz.underlying9 (Kd.own_of_R HO668.out)) | (go_at_call 58;(with_reducible refine (spec_l20Rd_pick.calls k g s0_0 t664 3 t669 t670 w0 _ ?side1 ?side2 A8.out).mono ?_);(case side1=>exact m8_);(case side2=>exact m9_);rintro e w43 ⟨rfl,hi,hb,hk⟩;replace HO662:=am (Kd.R_mono (Kd.R_keep (IsS102.apart (show IsS102 w0 _ g s0_0 t664 from m8_) (rs HO662) (by decide)) hk (fun _ h=>h.2)) (fun _ h=>h.1));replace HO668:=am (Kd.R_mono (Kd.R_keep (IsS102.apart (show IsS102 w0 _ g s0_0 t664 from m8_) (rs HO668) (by decide)) hk (fun _ h=>h.2)) (fun _ h=>h.1));replace HK:=am (KeepBut.trans m10_ hk (.inl rfl));replace HB:=am hb;replace HI0:=am hi;(try clear hb);(try clear hk);(try clear hi)))))
           go_ret
           exact ⟨by first | rfl | (simp [errW_none,errW_some] <;> rfl) | (simp only [← hji30];first | rfl | (simp [errW_none,errW_some] <;> rfl)) | (simp [*,errW_none,errW_some] <;> rfl),m8_,m9_,m10_⟩
          ·rw [if_neg c33] at H
           exact absurd H (by simp)
         ·rw [if_neg c32] at H
          exact absurd H (by simp)
        ·rw [if_neg c31] at H
         exact absurd H (by simp)
       ·rw [if_neg c29] at H
        exact absurd H (by simp)
      ·rw [if_neg c28] at H
       exact absurd H (by simp)
     ·rw [if_neg c27] at H
      have c27b0 : decide (t656 < (a1.size : Int)) = false:=decide_eq_false c27
      clear c27
      simp only [Option.some.injEq,Prod.mk.injEq] at H
      obtain ⟨rfl,rfl⟩:=H
      go_enter Tryz.func97,Tryz.ntmps97
      iterate 4 ((try go_quiet (fail));(try go_wp2_with (first | (go_at_call 58;(with_reducible refine (spec_l20Rd_pick.calls k g s0_0 s0_1 (wrap64 ((a1.size : Int) + 1)) t656 t657 w0 _ ?side1 ?side2 A3.out).mono ?_);(case side1=>exact m8_);(case side2=>exact m9_);rintro e w44 ⟨rfl,hi,hb,hk⟩;replace HK:=am (KeepBut.trans m10_ hk (.inl rfl));replace HB:=am hb;replace HI0:=am hi;(try clear hb);(try clear hk);(try clear hi)) | (go_at_call 58;(with_reducible refine (spec_l20Rd_pick.calls k g s0_0 t657 256 t658 t659 w0 _ ?side1 ?side2 A4.out).mono ?_);(case side1=>exact m8_);(case side2=>exact m9_);rintro e w45 ⟨rfl,hi,hb,hk⟩;replace HK:=am (KeepBut.trans m10_ hk (.inl rfl));replace HB:=am hb;replace HI0:=am hi;(try clear hb);(try clear hk);(try clear hi)) | ((with_reducible refine gD 14 rfl ?_);refine Kd.R_lit (Kd.int .i64) _ 3 rfl (N:=14) rfl (xs:=([32,48,49,57,59,97,112,t658] : List Int)) (inner:=[.int .i64 32,.int .i64 48,.int .i64 49,.int .i64 57,.int .i64 59,.int .i64 97,.int .i64 112,.int .i64 t658]) (ok:=fun _=>True) (okp:=fun _=>True) hr_ ?hp (fun _ hk=>hk) trivial (Below.refl _ _) (Nat.le_refl _) (by simp) ?_;(case hp=>exact (Reps.one (show Kd.M (Kd.int .i64) _ _ _ 32 [.int .i64 32] from rfl) (Reps.one (show Kd.M (Kd.int .i64) _ _ _ 48 [.int .i64 48] from rfl) (Reps.one (show Kd.M (Kd.int .i64) _ _ _ 49 [.int .i64 49] from rfl) (Reps.one (show Kd.M (Kd.int .i64) _ _ _ 57 [.int .i64 57] from rfl) (Reps.one (show Kd.M (Kd.int .i64) _ _ _ 59 [.int .i64 59] from rfl) (Reps.one (show Kd.M (Kd.int .i64) _ _ _ 97 [.int .i64 97] from rfl) (Reps.one (show Kd.M (Kd.int .i64) _ _ _ 112 [.int .i64 112] from rfl) (Reps.one (show Kd.M (Kd.int .i64) _ _ _ t658 [.int .i64 t658] from rfl) (Reps.none _ _))))))))));intro v661 w46 ho47 hb hg_ hnew_;clear hg_ hnew_;(first | rw [← Ny660.out] at ho47 | (simp only [Int.reduceToNat] at ho47;rw [← Ny660.out] at ho47));have HO662:=am (Kd.R_lower ho47 (keep_size (w:=w) (g:=g) (row:=none) m10_));replace HK:=am (KeepBut.trans m10_ (KeepBut.of_below hb g none) (.inl rfl));replace HB:=am (below_step m9_ hb);replace HI0:=am (IsS102.below m8_ hb);clear hb ho47) | (go_at_call 58;(with_reducible refine (spec_l20Rd_pick.calls k g s0_0 t659 8 t663 t664 w0 _ ?side1 ?side2 A5.out).mono ?_);(case side1=>exact m8_);(case side2=>exact m9_);rintro e w48 ⟨rfl,hi,hb,hk⟩;replace HO662:=am (Kd.R_mono (Kd.R_keep (IsS102.apart (show IsS102 w0 _ g s0_0 t659 from m8_) (rs HO662) (by decide)) hk (fun _ h=>h.2)) (fun _ h=>h.1));replace HK:=am (KeepBut.trans m10_ hk (.inl rfl));replace HB:=am hb;replace HI0:=am hi;(try clear hb);(try clear hk);(try clear hi);obtain ⟨Ao49,co49,eo49⟩:=Kd.R_slice HO662.out;subst eo49;have p665 : 0 ≤ (t663 : Int):=of_decide_eq_true da_;have q665 : t663 < (y660.length : Int):=of_decide_eq_true da_;obtain ⟨ad665,e665,hx665_0⟩:=Kd.at_int (Kd.R_reads' HO662.out).2.2 t663 p665 q665;cases e665;replace p665:=eq_true p665;replace q665:=eq_true q665) | ((with_reducible refine gD 20 rfl ?_);refine Kd.R_lit (Kd.int .u8) _ 5 rfl (N:=20) rfl (xs:=([(rd y660 t663) % 256] : List Int)) (inner:=[.int .u8 ((rd y660 t663) % 256)]) (ok:=fun _=>True) (okp:=fun _=>True) hr_ ?hp (fun _ hk=>hk) trivial (Below.refl _ _) (Nat.le_refl _) (by simp) ?_;(case hp=>exact (Reps.one (show Kd.M (Kd.int .u8) _ _ _ ((rd y660 t663) % 256) [.int .u8 ((rd y660 t663) % 256)] from rfl) (Reps.none _ _)));intro v667 w50 ho51 hb hg_ hnew_;clear hg_ hnew_;(first | rw [← Ny666.out] at ho51 | (simp only [Int.reduceToNat] at ho51;rw [← Ny666.out] at ho51));replace HO662:=am (Kd.R_below (rs HO662) hb);have HO668:=am (Kd.R_lower ho51 (keep_size (w:=w) (g:=g) (row:=none) m10_));replace HK:=am (KeepBut.trans m10_ (KeepBut.of_below hb g none) (.inl rfl));replace HB:=am (below_step m9_ hb);replace HI0:=am (IsS102.below m8_ hb);clear hb ho51;have hcv52:=own_string (P:=Tryz.prog) Tryz.underlying39 Tryz.underlying5 Tryz.underlying9 (Kd.own_of_R HO668.out)) | (go_at_call 58;(with_reducible refine (spec_l20Rd_pick.calls k g s0_0 t664 3 t669 t670 w0 _ ?side1 ?side2 A8.out).mono ?_);(case side1=>exact m8_);(case side2=>exact m9_);rintro e w53 ⟨rfl,hi,hb,hk⟩;replace HO662:=am (Kd.R_mono (Kd.R_keep (IsS102.apart (show IsS102 w0 _ g s0_0 t664 from m8_) (rs HO662) (by decide)) hk (fun _ h=>h.2)) (fun _ h=>h.1));replace HO668:=am (Kd.R_mono (Kd.R_keep (IsS102.apart (show IsS102 w0 _ g s0_0 t664 from m8_) (rs HO668) (by decide)) hk (fun _ h=>h.2)) (fun _ h=>h.1));replace HK:=am (KeepBut.trans m10_ hk (.inl rfl));replace HB:=am hb;replace HI0:=am hi;(try clear hb);(try clear hk);(try clear hi)))))
      go_ret
      exact ⟨fi_,m8_,m9_,m10_⟩
    ·rw [if_neg c26] at H
     have c26b0 : (t669 == 1) = false:=beq_eq_false_iff_ne.mpr c26
     have c26b1 : (t669 != 1) = true:=bne_iff_ne.mpr c26
     by_cases c54 : t656 < (a1.size : Int)
     ·rw [if_pos c54] at H
      have c54b0 : decide (t656 < (a1.size : Int)) = true:=decide_eq_true c54
      clear c54
      by_cases c55 : 0 ≤ t656
      ·rw [if_pos c55] at H
       have c55b0:=eq_true c55
       have c55b1 : decide (0 ≤ t656) = true:=decide_eq_true c55
       clear c55
       by_cases c56 : t656 ≤ (a1.size : Int)
       ·rw [if_pos c56] at H
        have c56b0:=eq_true c56
        have c56b1 : decide (t656 ≤ (a1.size : Int)) = true:=decide_eq_true c56
        clear c56
        by_cases c57 : (a1.extract 0 (t656 : Int).toNat).size + (strOfNums y666).size ≤ 9223372036854775807
        ·rw [if_pos c57] at H
         have c57b0:=eq_true c57
         have c57b1 : decide ((a1.extract 0 (t656 : Int).toNat).size + (strOfNums y666).size ≤ 9223372036854775807) = true:=decide_eq_true c57
         try have c57b2 : (9223372036854775807 < (a1.extract 0 (t656 : Int).toNat).size + (strOfNums y666).size) = False:=eq_false (Nat.not_lt.2 c57)
         obtain ⟨ji58,hji58⟩ : ∃ j_ : Int,(wrap64 (t656 + 1)) = j_:=⟨_,rfl⟩
         replace H : (if 0 ≤ (ji58) then (if (ji58) ≤ (a1.size : Int) then (if ((a1.extract 0 (t656 : Int).toNat) ++ (strOfNums y666)).size + (a1.extract ((ji58) : Int).toNat a1.size).size ≤ 9223372036854775807 then (some (((a1.extract 0 (t656 : Int).toNat) ++ (strOfNums y666)) ++ (a1.extract ((ji58) : Int).toNat a1.size),t670)) else (none)) else (none)) else (none)) = some (r1,r2):=by first | (rw [hji58] at H;exact H) | (simp only [hji58] at H ⊢;exact H)
         (try rw [hji58] at A3)
         (try rw [hji58] at A4)
         (try rw [hji58] at A5)
         (try rw [hji58] at A8)
         have hji58w : (IntKind.i64.wrap (t656 + 1)) = ji58:=(i64_w _).trans hji58
         by_cases c59 : 0 ≤ (ji58)
         ·rw [if_pos c59] at H
          have c59b0:=eq_true c59
          have c59b1 : decide (0 ≤ (ji58)) = true:=decide_eq_true c59
          clear c59
          by_cases c60 : (ji58) ≤ (a1.size : Int)
          ·rw [if_pos c60] at H
           have c60b0:=eq_true c60
           have c60b1 : decide ((ji58) ≤ (a1.size : Int)) = true:=decide_eq_true c60
           clear c60
           by_cases c61 : ((a1.extract 0 (t656 : Int).toNat) ++ (strOfNums y666)).size + (a1.extract ((ji58) : Int).toNat a1.size).size ≤ 9223372036854775807
           ·rw [if_pos c61] at H
            have c61b0:=eq_true c61
            have c61b1 : decide (((a1.extract 0 (t656 : Int).toNat) ++ (strOfNums y666)).size + (a1.extract ((ji58) : Int).toNat a1.size).size ≤ 9223372036854775807) = true:=decide_eq_true c61
            try have c61b2 : (9223372036854775807 < ((a1.extract 0 (t656 : Int).toNat) ++ (strOfNums y666)).size + (a1.extract ((ji58) : Int).toNat a1.size).size) = False:=eq_false (Nat.not_lt.2 c61)
            try have c61b3 : (9223372036854775807 < (a1.extract 0 (t656 : Int).toNat).size + (strOfNums y666).size + (a1.extract ((ji58) : Int).toNat a1.size).size) = False:=(by have z_:=c61b2;simp only [ByteArray.size_append] at z_;exact z_)
            simp only [Option.some.injEq,Prod.mk.injEq] at H
            obtain ⟨rfl,rfl⟩:=H
            go_enter Tryz.func97,Tryz.ntmps97
            iterate 4 ((try go_quiet (fail));(try go_wp2_with (first | (go_at_call 58;(with_reducible refine (spec_l20Rd_pick.calls k g s0_0 s0_1 (wrap64 ((a1.size : Int) + 1)) t656 t657 w0 _ ?side1 ?side2 A3.out).mono ?_);(case side1=>exact m8_);(case side2=>exact m9_);rintro e w62 ⟨rfl,hi,hb,hk⟩;replace HK:=am (KeepBut.trans m10_ hk (.inl rfl));replace HB:=am hb;replace HI0:=am hi;(try clear hb);(try clear hk);(try clear hi)) | (go_at_call 58;(with_reducible refine (spec_l20Rd_pick.calls k g s0_0 t657 256 t658 t659 w0 _ ?side1 ?side2 A4.out).mono ?_);(case side1=>exact m8_);(case side2=>exact m9_);rintro e w63 ⟨rfl,hi,hb,hk⟩;replace HK:=am (KeepBut.trans m10_ hk (.inl rfl));replace HB:=am hb;replace HI0:=am hi;(try clear hb);(try clear hk);(try clear hi)) | ((with_reducible refine gD 14 rfl ?_);refine Kd.R_lit (Kd.int .i64) _ 3 rfl (N:=14) rfl (xs:=([32,48,49,57,59,97,112,t658] : List Int)) (inner:=[.int .i64 32,.int .i64 48,.int .i64 49,.int .i64 57,.int .i64 59,.int .i64 97,.int .i64 112,.int .i64 t658]) (ok:=fun _=>True) (okp:=fun _=>True) hr_ ?hp (fun _ hk=>hk) trivial (Below.refl _ _) (Nat.le_refl _) (by simp) ?_;(case hp=>exact (Reps.one (show Kd.M (Kd.int .i64) _ _ _ 32 [.int .i64 32] from rfl) (Reps.one (show Kd.M (Kd.int .i64) _ _ _ 48 [.int .i64 48] from rfl) (Reps.one (show Kd.M (Kd.int .i64) _ _ _ 49 [.int .i64 49] from rfl) (Reps.one (show Kd.M (Kd.int .i64) _ _ _ 57 [.int .i64 57] from rfl) (Reps.one (show Kd.M (Kd.int .i64) _ _ _ 59 [.int .i64 59] from rfl) (Reps.one (show Kd.M (Kd.int .i64) _ _ _ 97 [.int .i64 97] from rfl) (Reps.one (show Kd.M (Kd.int .i64) _ _ _ 112 [.int .i64 112] from rfl) (Reps.one (show Kd.M (Kd.int .i64) _ _ _ t658 [.int .i64 t658] from rfl) (Reps.none _ _))))))))));intro v661 w64 ho65 hb hg_ hnew_;clear hg_ hnew_;(first | rw [← Ny660.out] at ho65 | (simp only [Int.reduceToNat] at ho65;rw [← Ny660.out] at ho65));have HO662:=am (Kd.R_lower ho65 (keep_size (w:=w) (g:=g) (row:=none) m10_));replace HK:=am (KeepBut.trans m10_ (KeepBut.of_below hb g none) (.inl rfl));replace HB:=am (below_step m9_ hb);replace HI0:=am (IsS102.below m8_ hb);clear hb ho65) | (go_at_call 58;(with_reducible refine (spec_l20Rd_pick.calls k g s0_0 t659 8 t663 t664 w0 _ ?side1 ?side2 A5.out).mono ?_);(case side1=>exact m8_);(case side2=>exact m9_);rintro e w66 ⟨rfl,hi,hb,hk⟩;replace HO662:=am (Kd.R_mono (Kd.R_keep (IsS102.apart (show IsS102 w0 _ g s0_0 t659 from m8_) (rs HO662) (by decide)) hk (fun _ h=>h.2)) (fun _ h=>h.1));replace HK:=am (KeepBut.trans m10_ hk (.inl rfl));replace HB:=am hb;replace HI0:=am hi;(try clear hb);(try clear hk);(try clear hi);obtain ⟨Ao67,co67,eo67⟩:=Kd.R_slice HO662.out;subst eo67;have p665 : 0 ≤ (t663 : Int):=of_decide_eq_true da_;have q665 : t663 < (y660.length : Int):=of_decide_eq_true da_;obtain ⟨ad665,e665,hx665_0⟩:=Kd.at_int (Kd.R_reads' HO662.out).2.2 t663 p665 q665;cases e665;replace p665:=eq_true p665;replace q665:=eq_true q665) | ((with_reducible refine gD 20 rfl ?_);refine Kd.R_lit (Kd.int .u8) _ 5 rfl (N:=20) rfl (xs:=([(rd y660 t663) % 256] : List Int)) (inner:=[.int .u8 ((rd y660 t663) % 256)]) (ok:=fun _=>True) (okp:=fun _=>True) hr_ ?hp (fun _ hk=>hk) trivial (Below.refl _ _) (Nat.le_refl _) (by simp) ?_;(case hp=>exact (Reps.one (show Kd.M (Kd.int .u8) _ _ _ ((rd y660 t663) % 256) [.int .u8 ((rd y660 t663) % 256)] from rfl) (Reps.none _ _)));intro v667 w68 ho69 hb hg_ hnew_;clear hg_ hnew_;(first | rw [← Ny666.out] at ho69 | (simp only [Int.reduceToNat] at ho69;rw [← Ny666.out] at ho69));replace HO662:=am (Kd.R_below (rs HO662) hb);have HO668:=am (Kd.R_lower ho69 (keep_size (w:=w) (g:=g) (row:=none) m10_));replace HK:=am (KeepBut.trans m10_ (KeepBut.of_below hb g none) (.inl rfl));replace HB:=am (below_step m9_ hb);replace HI0:=am (IsS102.below m8_ hb);clear hb ho69;have hcv70:=own_string (P:=Tryz.prog) Tryz.underlying39 Tryz.underlying5 Tryz.underlying9 (Kd.own_of_R HO668.out)) | (go_at_call 58;(with_reducible refine (spec_l20Rd_pick.calls k g s0_0 t664 3 t669 t670 w0 _ ?side1 ?side2 A8.out).mono ?_);(case side1=>exact m8_);(case side2=>exact m9_);rintro e w71 ⟨rfl,hi,hb,hk⟩;replace HO662:=am (Kd.R_mono (Kd.R_keep (IsS102.apart (show IsS102 w0 _ g s0_0 t664 from m8_) (rs HO662) (by decide)) hk (fun _ h=>h.2)) (fun _ h=>h.1));replace HO668:=am (Kd.R_mono (Kd.R_keep (IsS102.apart (show IsS102 w0 _ g s0_0 t664 from m8_) (rs HO668) (by decide)) hk (fun _ h=>h.2)) (fun _ h=>h.1));replace HK:=am (KeepBut.trans m10_ hk (.inl rfl));replace HB:=am hb;replace HI0:=am hi;(try clear hb);(try clear hk);(try clear hi)))))
            go_ret
            exact ⟨by first | rfl | (simp [errW_none,errW_some] <;> rfl) | (simp only [← hji58];first | rfl | (simp [errW_none,errW_some] <;> rfl)) | (simp [*,errW_none,errW_some] <;> rfl),m8_,m9_,m10_⟩
           ·rw [if_neg c61] at H
            exact absurd H (by simp)
          ·rw [if_neg c60] at H
           exact absurd H (by simp)
         ·rw [if_neg c59] at H
          exact absurd H (by simp)
        ·rw [if_neg c57] at H
         exact absurd H (by simp)
       ·rw [if_neg c56] at H
        exact absurd H (by simp)
      ·rw [if_neg c55] at H
       exact absurd H (by simp)
     ·rw [if_neg c54] at H
      have c54b0 : decide (t656 < (a1.size : Int)) = false:=decide_eq_false c54
      clear c54
      simp only [Option.some.injEq,Prod.mk.injEq] at H
      obtain ⟨rfl,rfl⟩:=H
      go_enter Tryz.func97,Tryz.ntmps97
      iterate 4 ((try go_quiet (fail));(try go_wp2_with (first | (go_at_call 58;(with_reducible refine (spec_l20Rd_pick.calls k g s0_0 s0_1 (wrap64 ((a1.size : Int) + 1)) t656 t657 w0 _ ?side1 ?side2 A3.out).mono ?_);(case side1=>exact m8_);(case side2=>exact m9_);rintro e w72 ⟨rfl,hi,hb,hk⟩;replace HK:=am (KeepBut.trans m10_ hk (.inl rfl));replace HB:=am hb;replace HI0:=am hi;(try clear hb);(try clear hk);(try clear hi)) | (go_at_call 58;(with_reducible refine (spec_l20Rd_pick.calls k g s0_0 t657 256 t658 t659 w0 _ ?side1 ?side2 A4.out).mono ?_);(case side1=>exact m8_);(case side2=>exact m9_);rintro e w73 ⟨rfl,hi,hb,hk⟩;replace HK:=am (KeepBut.trans m10_ hk (.inl rfl));replace HB:=am hb;replace HI0:=am hi;(try clear hb);(try clear hk);(try clear hi)) | ((with_reducible refine gD 14 rfl ?_);refine Kd.R_lit (Kd.int .i64) _ 3 rfl (N:=14) rfl (xs:=([32,48,49,57,59,97,112,t658] : List Int)) (inner:=[.int .i64 32,.int .i64 48,.int .i64 49,.int .i64 57,.int .i64 59,.int .i64 97,.int .i64 112,.int .i64 t658]) (ok:=fun _=>True) (okp:=fun _=>True) hr_ ?hp (fun _ hk=>hk) trivial (Below.refl _ _) (Nat.le_refl _) (by simp) ?_;(case hp=>exact (Reps.one (show Kd.M (Kd.int .i64) _ _ _ 32 [.int .i64 32] from rfl) (Reps.one (show Kd.M (Kd.int .i64) _ _ _ 48 [.int .i64 48] from rfl) (Reps.one (show Kd.M (Kd.int .i64) _ _ _ 49 [.int .i64 49] from rfl) (Reps.one (show Kd.M (Kd.int .i64) _ _ _ 57 [.int .i64 57] from rfl) (Reps.one (show Kd.M (Kd.int .i64) _ _ _ 59 [.int .i64 59] from rfl) (Reps.one (show Kd.M (Kd.int .i64) _ _ _ 97 [.int .i64 97] from rfl) (Reps.one (show Kd.M (Kd.int .i64) _ _ _ 112 [.int .i64 112] from rfl) (Reps.one (show Kd.M (Kd.int .i64) _ _ _ t658 [.int .i64 t658] from rfl) (Reps.none _ _))))))))));intro v661 w74 ho75 hb hg_ hnew_;clear hg_ hnew_;(first | rw [← Ny660.out] at ho75 | (simp only [Int.reduceToNat] at ho75;rw [← Ny660.out] at ho75));have HO662:=am (Kd.R_lower ho75 (keep_size (w:=w) (g:=g) (row:=none) m10_));replace HK:=am (KeepBut.trans m10_ (KeepBut.of_below hb g none) (.inl rfl));replace HB:=am (below_step m9_ hb);replace HI0:=am (IsS102.below m8_ hb);clear hb ho75) | (go_at_call 58;(with_reducible refine (spec_l20Rd_pick.calls k g s0_0 t659 8 t663 t664 w0 _ ?side1 ?side2 A5.out).mono ?_);(case side1=>exact m8_);(case side2=>exact m9_);rintro e w76 ⟨rfl,hi,hb,hk⟩;replace HO662:=am (Kd.R_mono (Kd.R_keep (IsS102.apart (show IsS102 w0 _ g s0_0 t659 from m8_) (rs HO662) (by decide)) hk (fun _ h=>h.2)) (fun _ h=>h.1));replace HK:=am (KeepBut.trans m10_ hk (.inl rfl));replace HB:=am hb;replace HI0:=am hi;(try clear hb);(try clear hk);(try clear hi);obtain ⟨Ao77,co77,eo77⟩:=Kd.R_slice HO662.out;subst eo77;have p665 : 0 ≤ (t663 : Int):=of_decide_eq_true da_;have q665 : t663 < (y660.length : Int):=of_decide_eq_true da_;obtain ⟨ad665,e665,hx665_0⟩:=Kd.at_int (Kd.R_reads' HO662.out).2.2 t663 p665 q665;cases e665;replace p665:=eq_true p665;replace q665:=eq_true q665) | ((with_reducible refine gD 20 rfl ?_);refine Kd.R_lit (Kd.int .u8) _ 5 rfl (N:=20) rfl (xs:=([(rd y660 t663) % 256] : List Int)) (inner:=[.int .u8 ((rd y660 t663) % 256)]) (ok:=fun _=>True) (okp:=fun _=>True) hr_ ?hp (fun _ hk=>hk) trivial (Below.refl _ _) (Nat.le_refl _) (by simp) ?_;(case hp=>exact (Reps.one (show Kd.M (Kd.int .u8) _ _ _ ((rd y660 t663) % 256) [.int .u8 ((rd y660 t663) % 256)] from rfl) (Reps.none _ _)));intro v667 w78 ho79 hb hg_ hnew_;clear hg_ hnew_;(first | rw [← Ny666.out] at ho79 | (simp only [Int.reduceToNat] at ho79;rw [← Ny666.out] at ho79));replace HO662:=am (Kd.R_below (rs HO662) hb);have HO668:=am (Kd.R_lower ho79 (keep_size (w:=w) (g:=g) (row:=none) m10_));replace HK:=am (KeepBut.trans m10_ (KeepBut.of_below hb g none) (.inl rfl));replace HB:=am (below_step m9_ hb);replace HI0:=am (IsS102.below m8_ hb);clear hb ho79;have hcv80:=own_string (P:=Tryz.prog) Tryz.underlying39 Tryz.underlying5 Tryz.underlying9 (Kd.own_of_R HO668.out)) | (go_at_call 58;(with_reducible refine (spec_l20Rd_pick.calls k g s0_0 t664 3 t669 t670 w0 _ ?side1 ?side2 A8.out).mono ?_);(case side1=>exact m8_);(case side2=>exact m9_);rintro e w81 ⟨rfl,hi,hb,hk⟩;replace HO662:=am (Kd.R_mono (Kd.R_keep (IsS102.apart (show IsS102 w0 _ g s0_0 t664 from m8_) (rs HO662) (by decide)) hk (fun _ h=>h.2)) (fun _ h=>h.1));replace HO668:=am (Kd.R_mono (Kd.R_keep (IsS102.apart (show IsS102 w0 _ g s0_0 t664 from m8_) (rs HO668) (by decide)) hk (fun _ h=>h.2)) (fun _ h=>h.1));replace HK:=am (KeepBut.trans m10_ hk (.inl rfl));replace HB:=am hb;replace HI0:=am hi;(try clear hb);(try clear hk);(try clear hi)))))
      go_ret
      exact ⟨fi_,m8_,m9_,m10_⟩
  ·rw [if_neg c7] at H
   exact absurd H (by simp)
 ·rw [if_neg c6] at H
  exact absurd H (by simp)
def spec_l20StreamOr.l0 : Nat → ByteArray → List Int → Int → Option (ByteArray × Int)
 | 0,_,_,_=>none
 | k + 1,x5,x1000,x1001=>if (x5.size : Int) ≤ 120 then (if x5.size + 5 ≤ 9223372036854775807 then (spec_l20StreamOr.l0 k (x5 ++ (⟨#[108,105,115,116,59]⟩ : ByteArray)) x1000 x1001) else (none)) else (some (x5,x1001))
def spec_l20StreamOr.f (k : Nat) (s0_0 : List Int) (s0_1 : Int) (a1 : Int) : Option (ByteArray × Int):=(spec_l20Stream.f k s0_0 s0_1).bind fun bt671=>((spec_l20Rd_odd.f k s0_0 bt671.2 a1).bind fun bt673=>(if bt673.1 = true then ((spec_l20Rd_pick.f k s0_0 bt673.2 3).bind fun bt675=>(if bt675.1 = 0 then ((spec_l20Bent.f k s0_0 bt675.2 bt671.1).bind fun bt677=>(some (bt677.1,bt677.2))) else (if bt675.1 = 1 then (if bt671.1.size + 18 ≤ 9223372036854775807 then (some (bt671.1 ++ (⟨#[97,98,99,100,101,102,103,104,105,106,32,107,108,109,110,111,112,59]⟩ : ByteArray),bt675.2)) else (none)) else (spec_l20StreamOr.l0 k bt671.1 s0_0 bt675.2)))) else (some (bt671.1,bt673.2))))
theorem spec_l20StreamOr.mono_l : ∀ k,(∀ y0 y1 y2,LeO (spec_l20StreamOr.l0 k y0 y1 y2) (spec_l20StreamOr.l0 (k + 1) y0 y1 y2))
 | 0=>fun _ _ _ r h=>by simp [spec_l20StreamOr.l0] at h
 | k + 1=>by
  have ih0:=spec_l20StreamOr.mono_l k
  ·intro y0 y1 y2
   unfold spec_l20StreamOr.l0
   repeat' first | (with_reducible first | exact ih0 _ _ _ | exact spec_l20Bent.mono _ _ _ _ | exact spec_l20Rd_odd.mono _ _ _ _ | exact spec_l20Rd_pick.mono _ _ _ _ | exact spec_l20Stream.mono _ _ _ | exact LeO.refl _ | exact LeO.none _ | refine LeO.ite ?_ ?_ | refine LeO.bind ?_ (fun _=>?_)) | exact ih0 _ _ _ | exact spec_l20Bent.mono _ _ _ _ | exact spec_l20Rd_odd.mono _ _ _ _ | exact spec_l20Rd_pick.mono _ _ _ _ | exact spec_l20Stream.mono _ _ _ | exact LeO.none _ | refine LeO.ite ?_ ?_ | refine LeO.bind ?_ (fun _=>?_)
theorem spec_l20StreamOr.mono : ∀ a0 a1 a2 k,LeO (spec_l20StreamOr.f k a0 a1 a2) (spec_l20StreamOr.f (k + 1) a0 a1 a2):=by
 intro a0 a1 a2 k
 have ih0:=spec_l20StreamOr.mono_l k
 unfold spec_l20StreamOr.f
 repeat' first | (with_reducible first | exact ih0 _ _ _ | exact spec_l20Bent.mono _ _ _ _ | exact spec_l20Rd_odd.mono _ _ _ _ | exact spec_l20Rd_pick.mono _ _ _ _ | exact spec_l20Stream.mono _ _ _ | exact LeO.refl _ | exact LeO.none _ | refine LeO.ite ?_ ?_ | refine LeO.bind ?_ (fun _=>?_)) | exact ih0 _ _ _ | exact spec_l20Bent.mono _ _ _ _ | exact spec_l20Rd_odd.mono _ _ _ _ | exact spec_l20Rd_pick.mono _ _ _ _ | exact spec_l20Stream.mono _ _ _ | exact LeO.none _ | refine LeO.ite ?_ ?_ | refine LeO.bind ?_ (fun _=>?_)
set_option maxHeartbeats 8000000 in
set_option maxRecDepth 100000 in
theorem spec_l20StreamOr.calls (k : Nat) (g : Nat) (s0_0 : List Int) (s0_1 : Int) (a1 : Int) (r1 : ByteArray) (r2 : Int) (w0 w : World) (hI : IsS102 w0 w g s0_0 s0_1) (hB : Below w0.heap.size w0 w) (h : spec_l20StreamOr.f k s0_0 s0_1 a1 = some (r1,r2)) :
  Calls Tryz.prog 70 #[.pointer (some ⟨g,0,none⟩),.int .i64 a1] w fun e w'=>e = .returned (.string r1) ∧ IsS102 w0 w' g s0_0 r2 ∧ Below w0.heap.size w0 w' ∧ KeepBut w w' g none:=by
 have HI0:=am hI
 have HK:=am (KeepBut.refl w g none)
 have HL:=am hB.size
 clear hI
 have HW0:=am hB.size
 have HB:=am hB
 clear hB
 have H : ((spec_l20Stream.f k s0_0 s0_1).bind fun bt671=>((spec_l20Rd_odd.f k s0_0 bt671.2 a1).bind fun bt673=>(if bt673.1 = true then ((spec_l20Rd_pick.f k s0_0 bt673.2 3).bind fun bt675=>(if bt675.1 = 0 then ((spec_l20Bent.f k s0_0 bt675.2 bt671.1).bind fun bt677=>(some (bt677.1,bt677.2))) else (if bt675.1 = 1 then (if bt671.1.size + 18 ≤ 9223372036854775807 then (some (bt671.1 ++ (⟨#[97,98,99,100,101,102,103,104,105,106,32,107,108,109,110,111,112,59]⟩ : ByteArray),bt675.2)) else (none)) else (spec_l20StreamOr.l0 k bt671.1 s0_0 bt675.2)))) else (some (bt671.1,bt673.2))))) = some (r1,r2):=h
 clear h
 obtain ⟨⟨t671,t672⟩,A3,H⟩:=bse H
 try dsimp only at H
 obtain ⟨⟨t673,t674⟩,A4,H⟩:=bse H
 try dsimp only at H
 by_cases c5 : t673 = true
 ·subst c5
  have H1 : ((spec_l20Rd_pick.f k s0_0 t674 3).bind fun bt675=>(if bt675.1 = 0 then ((spec_l20Bent.f k s0_0 bt675.2 t671).bind fun bt677=>(some (bt677.1,bt677.2))) else (if bt675.1 = 1 then (if t671.size + 18 ≤ 9223372036854775807 then (some (t671 ++ (⟨#[97,98,99,100,101,102,103,104,105,106,32,107,108,109,110,111,112,59]⟩ : ByteArray),bt675.2)) else (none)) else (spec_l20StreamOr.l0 k t671 s0_0 bt675.2)))) = some (r1,r2):=by rw [if_pos rfl] at H;exact H
  clear H
  have H:=H1
  clear H1
  obtain ⟨⟨t675,t676⟩,A6,H⟩:=bse H
  try dsimp only at H
  by_cases c7 : t675 = 0
  ·rw [if_pos c7] at H
   have c7b0 : (t675 == 0) = true:=beq_iff_eq.mpr c7
   have c7b1 : (t675 != 0) = false:=bne_eq_false_iff_eq.mpr c7
   clear c7
   obtain ⟨⟨t677,t678⟩,A8,H⟩:=bse H
   try dsimp only at H
   simp only [Option.some.injEq,Prod.mk.injEq] at H
   obtain ⟨rfl,rfl⟩:=H
   go_enter Tryz.func70,Tryz.ntmps70
   go_wp2_with (first | ((with_reducible refine gC 96 rfl ?_);refine gL (some 7) Tryz.func96 #[.pointer (some ⟨g,0,none⟩)] ?_;(with_reducible refine (spec_l20Stream.calls k g s0_0 s0_1 t671 t672 w0 _ ?side1 ?side2 A3.out).mono ?_);(case side1=>exact m8_);(case side2=>exact m9_);rintro e w9 ⟨rfl,hi,hb,hk⟩;refine ⟨_,rfl,?_⟩;replace HK:=am (KeepBut.trans m10_ hk (.inl rfl));replace HB:=am hb;replace HI0:=am hi;(try clear hb);(try clear hk);(try clear hi)) | ((with_reducible refine gC 94 rfl ?_);refine gL (some 10) Tryz.func94 #[.pointer (some ⟨g,0,none⟩),.int .i64 a1] ?_;(with_reducible refine (spec_l20Rd_odd.calls k g s0_0 t672 a1 true t674 w0 _ ?side1 ?side2 A4.out).mono ?_);(case side1=>exact m8_);(case side2=>exact m9_);rintro e w10 ⟨rfl,hi,hb,hk⟩;refine ⟨_,rfl,?_⟩;replace HK:=am (KeepBut.trans m10_ hk (.inl rfl));replace HB:=am hb;replace HI0:=am hi;(try clear hb);(try clear hk);(try clear hi)) | ((with_reducible refine gC 58 rfl ?_);refine gL (some 12) Tryz.func58 #[.pointer (some ⟨g,0,none⟩),.int .i64 3] ?_;(with_reducible refine (spec_l20Rd_pick.calls k g s0_0 t674 3 t675 t676 w0 _ ?side1 ?side2 A6.out).mono ?_);(case side1=>exact m8_);(case side2=>exact m9_);rintro e w11 ⟨rfl,hi,hb,hk⟩;refine ⟨_,rfl,?_⟩;replace HK:=am (KeepBut.trans m10_ hk (.inl rfl));replace HB:=am hb;replace HI0:=am hi;(try clear hb);(try clear hk);(try clear hi)) | ((with_reducible refine gC 97 rfl ?_);refine gL (some 17) Tryz.func97 #[.pointer (some ⟨g,0,none⟩),.string t671] ?_;(with_reducible refine (spec_l20Bent.calls k g s0_0 t676 t671 t677 t678 w0 _ ?side1 ?side2 A8.out).mono ?_);(case side1=>exact m8_);(case side2=>exact m9_);rintro e w12 ⟨rfl,hi,hb,hk⟩;refine ⟨_,rfl,?_⟩;replace HK:=am (KeepBut.trans m10_ hk (.inl rfl));replace HB:=am hb;replace HI0:=am hi;(try clear hb);(try clear hk);(try clear hi)))
   go_ret
   exact ⟨fi_,m8_,m9_,m10_⟩
  ·rw [if_neg c7] at H
   have c7b0 : (t675 == 0) = false:=beq_eq_false_iff_ne.mpr c7
   have c7b1 : (t675 != 0) = true:=bne_iff_ne.mpr c7
   by_cases c13 : t675 = 1
   ·rw [if_pos c13] at H
    have c13b0 : (t675 == 1) = true:=beq_iff_eq.mpr c13
    have c13b1 : (t675 != 1) = false:=bne_eq_false_iff_eq.mpr c13
    clear c13
    by_cases c14 : t671.size + 18 ≤ 9223372036854775807
    ·rw [if_pos c14] at H
     have c14b0:=eq_true c14
     have c14b1 : decide (t671.size + 18 ≤ 9223372036854775807) = true:=decide_eq_true c14
     try have c14b2 : (9223372036854775807 < t671.size + 18) = False:=eq_false (Nat.not_lt.2 c14)
     simp only [Option.some.injEq,Prod.mk.injEq] at H
     obtain ⟨rfl,rfl⟩:=H
     go_enter Tryz.func70,Tryz.ntmps70
     go_wp2_with (first | ((with_reducible refine gC 96 rfl ?_);refine gL (some 7) Tryz.func96 #[.pointer (some ⟨g,0,none⟩)] ?_;(with_reducible refine (spec_l20Stream.calls k g s0_0 s0_1 t671 t672 w0 _ ?side1 ?side2 A3.out).mono ?_);(case side1=>exact m8_);(case side2=>exact m9_);rintro e w15 ⟨rfl,hi,hb,hk⟩;refine ⟨_,rfl,?_⟩;replace HK:=am (KeepBut.trans m10_ hk (.inl rfl));replace HB:=am hb;replace HI0:=am hi;(try clear hb);(try clear hk);(try clear hi)) | ((with_reducible refine gC 94 rfl ?_);refine gL (some 10) Tryz.func94 #[.pointer (some ⟨g,0,none⟩),.int .i64 a1] ?_;(with_reducible refine (spec_l20Rd_odd.calls k g s0_0 t672 a1 true t674 w0 _ ?side1 ?side2 A4.out).mono ?_);(case side1=>exact m8_);(case side2=>exact m9_);rintro e w16 ⟨rfl,hi,hb,hk⟩;refine ⟨_,rfl,?_⟩;replace HK:=am (KeepBut.trans m10_ hk (.inl rfl));replace HB:=am hb;replace HI0:=am hi;(try clear hb);(try clear hk);(try clear hi)) | ((with_reducible refine gC 58 rfl ?_);refine gL (some 12) Tryz.func58 #[.pointer (some ⟨g,0,none⟩),.int .i64 3] ?_;(with_reducible refine (spec_l20Rd_pick.calls k g s0_0 t674 3 t675 t676 w0 _ ?side1 ?side2 A6.out).mono ?_);(case side1=>exact m8_);(case side2=>exact m9_);rintro e w17 ⟨rfl,hi,hb,hk⟩;refine ⟨_,rfl,?_⟩;replace HK:=am (KeepBut.trans m10_ hk (.inl rfl));replace HB:=am hb;replace HI0:=am hi;(try clear hb);(try clear hk);(try clear hi)))
     go_ret
     exact ⟨fi_,m8_,m9_,m10_⟩
    ·rw [if_neg c14] at H
     exact absurd H (by simp)
   ·rw [if_neg c13] at H
    have c13b0 : (t675 == 1) = false:=beq_eq_false_iff_ne.mpr c13
    have c13b1 : (t675 != 1) = true:=bne_iff_ne.mpr c13
    have H':=am H
    clear H
    go_enter Tryz.func70,Tryz.ntmps70
    go_wp2_with (first | ((with_reducible refine gC 96 rfl ?_);refine gL (some 7) Tryz.func96 #[.pointer (some ⟨g,0,none⟩)] ?_;(with_reducible refine (spec_l20Stream.calls k g s0_0 s0_1 t671 t672 w0 _ ?side1 ?side2 A3.out).mono ?_);(case side1=>exact m8_);(case side2=>exact m9_);rintro e w18 ⟨rfl,hi,hb,hk⟩;refine ⟨_,rfl,?_⟩;replace HK:=am (KeepBut.trans m10_ hk (.inl rfl));replace HB:=am hb;replace HI0:=am hi;(try clear hb);(try clear hk);(try clear hi)) | ((with_reducible refine gC 94 rfl ?_);refine gL (some 10) Tryz.func94 #[.pointer (some ⟨g,0,none⟩),.int .i64 a1] ?_;(with_reducible refine (spec_l20Rd_odd.calls k g s0_0 t672 a1 true t674 w0 _ ?side1 ?side2 A4.out).mono ?_);(case side1=>exact m8_);(case side2=>exact m9_);rintro e w19 ⟨rfl,hi,hb,hk⟩;refine ⟨_,rfl,?_⟩;replace HK:=am (KeepBut.trans m10_ hk (.inl rfl));replace HB:=am hb;replace HI0:=am hi;(try clear hb);(try clear hk);(try clear hi)) | ((with_reducible refine gC 58 rfl ?_);refine gL (some 12) Tryz.func58 #[.pointer (some ⟨g,0,none⟩),.int .i64 3] ?_;(with_reducible refine (spec_l20Rd_pick.calls k g s0_0 t674 3 t675 t676 w0 _ ?side1 ?side2 A6.out).mono ?_);(case side1=>exact m8_);(case side2=>exact m9_);rintro e w20 ⟨rfl,hi,hb,hk⟩;refine ⟨_,rfl,?_⟩;replace HK:=am (KeepBut.trans m10_ hk (.inl rfl));replace HB:=am hb;replace HI0:=am hi;(try clear hb);(try clear hk);(try clear hi)))
    go_loopg [5] k (fun kq v5 w'=>∃ (x5_1 : ByteArray),v5 = .string x5_1 ∧ Aside0 (spec_l20StreamOr.l0 kq x5_1 s0_0 t676 = some (r1,r2)) ∧ Aside0 (kq ≤ k) ∧ Aside0 (IsS102 w0 w' g s0_0 t676) ∧ Aside0 (KeepBut w w' g none) ∧ Aside0 (Below w0.heap.size w0 w'))
    case atStart=>exact ⟨(t671),rs_,H',⟨Nat.le_refl _⟩,⟨m8_⟩,⟨m10_⟩,⟨m9_⟩⟩
    case round=>
     clear H'
     try clear c1
     try clear p2
     try clear c5
     try clear c7
     try clear c7b0
     try clear c7b1
     try clear c9
     try clear c13
     try clear c13b0
     try clear c13b1
     try clear c14
     try clear c14b0
     try clear c14b1
     try clear c14b2
     obtain ⟨x5_1,rfl,HA,HK1,HI0,HK,HB⟩:=hrel
     cases gk with
     | zero=>exact absurd HA.out (by simp [spec_l20StreamOr.l0])
     | succ k1=>
      have H:=HA.out
      clear HA
      simp only [spec_l20StreamOr.l0] at H
      by_cases c21 : (x5_1.size : Int) ≤ 120
      ·rw [if_pos c21] at H
       have c21b0 : decide ((x5_1.size : Int) ≤ 120) = true:=decide_eq_true c21
       have c21b1 : decide (x5_1.size ≤ 120) = true:=decide_eq_true (by omega)
       clear c21
       by_cases c22 : x5_1.size + 5 ≤ 9223372036854775807
       ·rw [if_pos c22] at H
        have c22b0:=eq_true c22
        have c22b1 : decide (x5_1.size + 5 ≤ 9223372036854775807) = true:=decide_eq_true c22
        try have c22b2 : (9223372036854775807 < x5_1.size + 5) = False:=eq_false (Nat.not_lt.2 c22)
        have H':=am H
        clear H
        go_wp2
        go_roundg k1
        case measure=>have:=HK1.out;omega
        case rel=>exact ⟨(x5_1 ++ (⟨#[108,105,115,116,59]⟩ : ByteArray)),rs_,H',⟨by have:=HK1.out;omega⟩,⟨m8_⟩,⟨m10_⟩,⟨m9_⟩⟩
       ·rw [if_neg c22] at H
        exact absurd H (by simp)
      ·rw [if_neg c21] at H
       have c21b0 : decide ((x5_1.size : Int) ≤ 120) = false:=decide_eq_false c21
       have c21b1 : decide (x5_1.size ≤ 120) = false:=decide_eq_false (by omega)
       clear c21
       simp only [Option.some.injEq,Prod.mk.injEq] at H
       obtain ⟨rfl,rfl⟩:=H
       go_wp2
       go_ret
       exact ⟨fi_,m8_,m9_,m10_⟩
 ·replace c5:=Bool.eq_false_iff.mpr c5
  subst c5
  have H1 : (some (t671,t674)) = some (r1,r2):=by rw [if_neg (show ¬ (false = true) by decide)] at H;exact H
  clear H
  have H:=H1
  clear H1
  simp only [Option.some.injEq,Prod.mk.injEq] at H
  obtain ⟨rfl,rfl⟩:=H
  go_enter Tryz.func70,Tryz.ntmps70
  go_wp2_with (first | ((with_reducible refine gC 96 rfl ?_);refine gL (some 7) Tryz.func96 #[.pointer (some ⟨g,0,none⟩)] ?_;(with_reducible refine (spec_l20Stream.calls k g s0_0 s0_1 t671 t672 w0 _ ?side1 ?side2 A3.out).mono ?_);(case side1=>exact m8_);(case side2=>exact m9_);rintro e w23 ⟨rfl,hi,hb,hk⟩;refine ⟨_,rfl,?_⟩;replace HK:=am (KeepBut.trans m10_ hk (.inl rfl));replace HB:=am hb;replace HI0:=am hi;(try clear hb);(try clear hk);(try clear hi)) | ((with_reducible refine gC 94 rfl ?_);refine gL (some 10) Tryz.func94 #[.pointer (some ⟨g,0,none⟩),.int .i64 a1] ?_;(with_reducible refine (spec_l20Rd_odd.calls k g s0_0 t672 a1 false t674 w0 _ ?side1 ?side2 A4.out).mono ?_);(case side1=>exact m8_);(case side2=>exact m9_);rintro e w24 ⟨rfl,hi,hb,hk⟩;refine ⟨_,rfl,?_⟩;replace HK:=am (KeepBut.trans m10_ hk (.inl rfl));replace HB:=am hb;replace HI0:=am hi;(try clear hb);(try clear hk);(try clear hi)))
  go_ret
  exact ⟨fi_,m8_,m9_,m10_⟩
def spec_DrawRwrStream.f (k : Nat) (l0 : List Int) : Option ((List (S55)) × ByteArray):=(spec_l20Open.f l0).bind fun bt680=>((spec_l20Table.f k bt680.1 bt680.2 14).bind fun bt683=>((spec_l20StreamOr.f k bt680.1 bt683.2 9).bind fun bt687=>(some (bt683.1,bt687.1))))
theorem spec_DrawRwrStream.mono : ∀ a0 k,LeO (spec_DrawRwrStream.f k a0) (spec_DrawRwrStream.f (k + 1) a0):=by
 intro a0 k
 unfold spec_DrawRwrStream.f
 repeat' first | (with_reducible first | exact spec_l20StreamOr.mono _ _ _ _ | exact spec_l20Table.mono _ _ _ _ | exact LeO.refl _ | exact LeO.none _ | refine LeO.ite ?_ ?_ | refine LeO.bind ?_ (fun _=>?_)) | exact spec_l20StreamOr.mono _ _ _ _ | exact spec_l20Table.mono _ _ _ _ | exact LeO.none _ | refine LeO.ite ?_ ?_ | refine LeO.bind ?_ (fun _=>?_)
set_option maxHeartbeats 8000000 in
set_option maxRecDepth 100000 in
theorem spec_DrawRwrStream.calls (k : Nat) (A0 : Option Addr) (c0 : Nat) (l0 : List Int) (r1 : List (S55)) (r2 : ByteArray) (w : World) (hr0 : Kd.C (Kd.int .u8) w A0 l0.length l0) (hc0 : l0.length ≤ c0) (h : spec_DrawRwrStream.f k l0 = some (r1,r2)) :
  Calls Tryz.prog 45 #[.slice A0 l0.length c0] w fun e w'=>∃ v0_ : Value,e = .returned (.tuple #[.agg #[v0_],.string r2]) ∧ Kd.R k55 55 w' w.heap.size (fun _=>True) v0_ r1 ∧ Below w.heap.size w w':=by
 have hu29:=Tryz.underlying29
 have HR0:=am hr0
 have HC0:=am hc0
 clear hr0 hc0
 have HB:=am (Below.refl w.heap.size w)
 have H : ((spec_l20Open.f l0).bind fun bt680=>((spec_l20Table.f k bt680.1 bt680.2 14).bind fun bt683=>((spec_l20StreamOr.f k bt680.1 bt683.2 9).bind fun bt687=>(some (bt683.1,bt687.1))))) = some (r1,r2):=h
 clear h
 obtain ⟨⟨t680,t681⟩,A2,H⟩:=bse H
 try dsimp only at H
 obtain ⟨⟨t683,t686⟩,A3,H⟩:=bse H
 try dsimp only at H
 obtain ⟨⟨t687,t688⟩,A4,H⟩:=bse H
 try dsimp only at H
 simp only [Option.some.injEq,Prod.mk.injEq] at H
 obtain ⟨rfl,rfl⟩:=H
 go_enter Tryz.func45,Tryz.ntmps45
 go_wp2_with (first | ((with_reducible refine gD 2 rfl ?_);refine box_event rfl (N:=2) rfl (cs:=#[.slice none 0 0]) (t:=29) hr_ ?_;intro gb679 hg w5 hbox hb;have BK679:=am hbox;have GW679:=gwE HB hg;have GE679:=gwE HB hg;replace HB:=hbS HB hb;clear hb hbox hg) | ((with_reducible refine gC 57 rfl ?_);refine gL (some 6) Tryz.func57 #[.slice A0 l0.length c0] ?_;(with_reducible refine (spec_l20Open.calls _ _ l0 t680 t681 w _ ?side1 ?side2 ?side3 A2.out).mono ?_);(case side1=>exact m2_);(case side2=>exact HR0.out);(case side3=>exact HC0.out);rintro e w6 ⟨g682,rfl,hi,hb,hb2⟩;refine ⟨_,rfl,?_⟩;replace HB:=am hb;have HI682:=am hi;have NB682_679:=am (IsS102.ne_blk hi (blk_below (g:=gb679) (o:=.cells #[.slice none 0 0] 29 (0,0)) (bk BK679) hb2) (by decide));have NB679_682:=am (Ne.symm (IsS102.ne_blk hi (blk_below (g:=gb679) (o:=.cells #[.slice none 0 0] 29 (0,0)) (bk BK679) hb2) (by decide)));replace BK679:=am (blk_below (g:=gb679) (o:=.cells #[.slice none 0 0] 29 (0,0)) (bk BK679) hb2);(try clear hb);(try clear hb2);(try clear hi)) | ((with_reducible refine gC 69 rfl ?_);refine gL (some 8) Tryz.func69 #[.pointer (some ⟨g682,0,none⟩),.int .i64 14] ?_;(with_reducible refine (spec_l20Table.calls k g682 t680 t681 14 t683 t686 w _ ?side1 ?side2 A3.out).mono ?_);(case side1=>exact m31_);(case side2=>exact m32_);rintro e w7 ⟨v684,rfl,ho0,hi,hb,hk⟩;refine ⟨_,rfl,?_⟩;replace BK679:=am (KeepBut.blk hk (g':=gb679) (o:=.cells #[.slice none 0 0] 29 (0,0)) (bk BK679) NB679_682.out (by simp));have HO685:=am (Kd.R_lower ho0 (below_size m32_));replace HB:=am hb;replace HI682:=am hi;(try clear hb);(try clear hk);(try clear hi);(try clear ho0)) | ((with_reducible refine gC 70 rfl ?_);refine gL (some 10) Tryz.func70 #[.pointer (some ⟨g682,0,none⟩),.int .i64 9] ?_;(with_reducible refine (spec_l20StreamOr.calls k g682 t680 t686 9 t687 t688 w _ ?side1 ?side2 A4.out).mono ?_);(case side1=>exact m31_);(case side2=>exact m32_);rintro e w8 ⟨rfl,hi,hb,hk⟩;refine ⟨_,rfl,?_⟩;replace BK679:=am (KeepBut.blk hk (g':=gb679) (o:=.cells #[.slice none 0 0] 29 (0,0)) (bk BK679) NB679_682.out (by simp));replace HO685:=am (Kd.R_mono (Kd.R_keep (IsS102.apart (show IsS102 w _ g682 t680 t686 from m31_) (rs HO685) (by decide)) hk (fun _ h=>h.2)) (fun _ h=>h.1));replace HB:=am hb;replace HI682:=am hi;(try clear hb);(try clear hk);(try clear hi);obtain ⟨Ao9,co9,eo9⟩:=Kd.R_slice HO685.out;subst eo9;have:=NB679_682.out;have:=NB682_679.out;have:=bcell BK679 0;have:=bfz BK679 0))
 refine bodyPost_ret (results_ct rfl _ _ gb679 29 #[.slice Ao9 t683.length co9] (0,0) _ rfl (by (with_reducible repeat refine bu ?_);refine blk_put (cs:=#[.slice none 0 0]) ?_ 0 _ rfl;(with_reducible repeat refine bu ?_);exact BK679.out) Tryz.underlying29 rfl (by kernel_rfl)) rfl ?_
 exact ⟨_,fi_,by (with_reducible repeat apply ru);exact Kd.R_mono (Kd.R_far (p:=⟨gb679,0,none⟩) (Kd.R_types HO685.out BK679.out (by decide)) (fun _ hk=>hk.2) (.slice Ao9 t683.length co9)) (fun _ hk=>trivial),m32_⟩
def spec_DrawPosOut.f (k : Nat) (l0 : List Int) : Option ((List (S55)) × ByteArray × Int):=(spec_l20Open.f l0).bind fun bt734=>((spec_DrawRwrStream.f k l0).bind fun bt737=>((spec_l20Rd_pick.f k bt734.1 bt734.2 130).bind fun bt742=>((spec_l20Rd_pick.f k bt734.1 bt742.2 40).bind fun bt744=>((some (([bt742.1,bt744.1,(-1),9223372036854775807,0] : List Int) : List Int)).bind fun y746=>((some (([0,0,1,1,2,3,4] : List Int) : List Int)).bind fun y749=>((spec_l20Rd_pick.f k bt734.1 bt744.2 7).bind fun bt752=>(if 0 ≤ bt752.1 then (if bt752.1 < (y749.length : Int) then (if 0 ≤ (rd y749 bt752.1) then (if (rd y749 bt752.1) < (y746.length : Int) then (some (bt737.1,bt737.2,rd y746 (rd y749 bt752.1))) else (none)) else (none)) else (none)) else (none))))))))
theorem spec_DrawPosOut.mono : ∀ a0 k,LeO (spec_DrawPosOut.f k a0) (spec_DrawPosOut.f (k + 1) a0):=by
 intro a0 k
 unfold spec_DrawPosOut.f
 repeat' first | (with_reducible first | exact spec_DrawRwrStream.mono _ _ | exact spec_l20Rd_pick.mono _ _ _ _ | exact LeO.refl _ | exact LeO.none _ | refine LeO.ite ?_ ?_ | refine LeO.bind ?_ (fun _=>?_)) | exact spec_DrawRwrStream.mono _ _ | exact spec_l20Rd_pick.mono _ _ _ _ | exact LeO.none _ | refine LeO.ite ?_ ?_ | refine LeO.bind ?_ (fun _=>?_)
def spec_DrawPosOut.T3 : Bool × List (List Nat × List Nat):=(true,[([],[]),([],[]),([],[]),([2],[2]),([],[]),([4,3],[4]),([3,5],[3,5]),([],[]),([],[]),([8,5],[8]),([7,9],[7,9]),([10],[10]),([6,11],[6,11]),([12],[12]),([0,9,0],[0]),([1,14,0,1,14],[1]),([13,15,0,1,2,3,4,5,6,7,8,9,10,11,12,13,14,15],[13])])
def spec_DrawPosOut.B3 : List Nat:=[0,0,0,4,0,28,60,0,0,316,956,1980,4092,8188,829,17215,65535]
theorem spec_DrawPosOut.tab3 : rtab .any (opsOf Tryz.f31 3) = spec_DrawPosOut.T3:=by kernel_rfl
theorem spec_DrawPosOut.bits3 : waitsOk spec_DrawPosOut.T3.2 spec_DrawPosOut.B3 = true:=by kernel_rfl
set_option maxHeartbeats 8000000 in
set_option maxRecDepth 100000 in
theorem spec_DrawPosOut.calls (k : Nat) (A0 : Option Addr) (c0 : Nat) (l0 : List Int) (r1 : List (S55)) (r2 : ByteArray) (r3 : Int) (w : World) (hr0 : Kd.C (Kd.int .u8) w A0 l0.length l0) (hc0 : l0.length ≤ c0) (h : spec_DrawPosOut.f k l0 = some (r1,r2,r3)) :
  Calls Tryz.prog 31 #[.slice A0 l0.length c0] w fun e w'=>∃ v0_ : Value,e = .returned (.tuple #[.agg #[v0_],.string r2,.int .i64 r3]) ∧ Kd.R k55 55 w' w.heap.size (fun _=>True) v0_ r1 ∧ Below w.heap.size w w':=by
 have hu29:=Tryz.underlying29
 have HR0:=am hr0
 have HC0:=am hc0
 clear hr0 hc0
 have HB:=am (Below.refl w.heap.size w)
 have H : ((spec_l20Open.f l0).bind fun bt734=>((spec_DrawRwrStream.f k l0).bind fun bt737=>((spec_l20Rd_pick.f k bt734.1 bt734.2 130).bind fun bt742=>((spec_l20Rd_pick.f k bt734.1 bt742.2 40).bind fun bt744=>((some (([bt742.1,bt744.1,(-1),9223372036854775807,0] : List Int) : List Int)).bind fun y746=>((some (([0,0,1,1,2,3,4] : List Int) : List Int)).bind fun y749=>((spec_l20Rd_pick.f k bt734.1 bt744.2 7).bind fun bt752=>(if 0 ≤ bt752.1 then (if bt752.1 < (y749.length : Int) then (if 0 ≤ (rd y749 bt752.1) then (if (rd y749 bt752.1) < (y746.length : Int) then (some (bt737.1,bt737.2,rd y746 (rd y749 bt752.1))) else (none)) else (none)) else (none)) else (none))))))))) = some (r1,r2,r3):=h
 clear h
 obtain ⟨⟨t734,t735⟩,A2,H⟩:=bse H
 try dsimp only at H
 obtain ⟨⟨t737,t740⟩,A3,H⟩:=bse H
 try dsimp only at H
 obtain ⟨⟨t742,t743⟩,A4,H⟩:=bse H
 try dsimp only at H
 obtain ⟨⟨t744,t745⟩,A5,H⟩:=bse H
 try dsimp only at H
 obtain ⟨y746,hy746⟩ : ∃ y_ : List Int,y_ = (([t742,t744,(-1),9223372036854775807,0] : List Int)):=⟨_,rfl⟩
 replace H : ((some (([0,0,1,1,2,3,4] : List Int) : List Int)).bind fun y749=>((spec_l20Rd_pick.f k t734 t745 7).bind fun bt752=>(if 0 ≤ bt752.1 then (if bt752.1 < (y749.length : Int) then (if 0 ≤ (rd y749 bt752.1) then (if (rd y749 bt752.1) < (y746.length : Int) then (some (t737,t740,rd y746 (rd y749 bt752.1))) else (none)) else (none)) else (none)) else (none)))) = some (r1,r2,r3):=by first | (rw [hy746];with_reducible exact H) | (have H2_:=(Option.bind_some _ _).symm.trans H;rw [hy746];with_reducible exact H2_) | (have H2_:=(Option.bind_some _ _).symm.trans H;with_reducible exact H2_) | with_reducible exact H | (rw [hy746];exact H) | exact H
 have Ny746:=am hy746
 clear hy746
 obtain ⟨y749,hy749⟩ : ∃ y_ : List Int,y_ = (([0,0,1,1,2,3,4] : List Int)):=⟨_,rfl⟩
 replace H : ((spec_l20Rd_pick.f k t734 t745 7).bind fun bt752=>(if 0 ≤ bt752.1 then (if bt752.1 < (y749.length : Int) then (if 0 ≤ (rd y749 bt752.1) then (if (rd y749 bt752.1) < (y746.length : Int) then (some (t737,t740,rd y746 (rd y749 bt752.1))) else (none)) else (none)) else (none)) else (none))) = some (r1,r2,r3):=by first | (rw [hy749];with_reducible exact H) | (have H2_:=(Option.bind_some _ _).symm.trans H;rw [hy749];with_reducible exact H2_) | (have H2_:=(Option.bind_some _ _).symm.trans H;with_reducible exact H2_) | with_reducible exact H | (rw [hy749];exact H) | exact H
 have Ny749:=am hy749
 clear hy749
 obtain ⟨⟨t752,t753⟩,A6,H⟩:=bse H
 try dsimp only at H
 by_cases c7 : 0 ≤ t752
 ·rw [if_pos c7] at H
  have c7b0 : decide (0 ≤ t752) = true:=decide_eq_true c7
  clear c7
  by_cases c8 : t752 < (y749.length : Int)
  ·rw [if_pos c8] at H
   have c8b0 : decide (t752 < (y749.length : Int)) = true:=decide_eq_true c8
   clear c8
   by_cases c9 : 0 ≤ (rd y749 t752)
   ·rw [if_pos c9] at H
    have c9b0 : decide (0 ≤ (rd y749 t752)) = true:=decide_eq_true c9
    clear c9
    by_cases c10 : (rd y749 t752) < (y746.length : Int)
    ·rw [if_pos c10] at H
     have c10b0 : decide ((rd y749 t752) < (y746.length : Int)) = true:=decide_eq_true c10
     clear c10
     simp only [Option.some.injEq,Prod.mk.injEq] at H
     obtain ⟨rfl,rfl,rfl⟩:=H
     go_enter Tryz.func31,Tryz.ntmps31
     try go_wp2_with (first | ((with_reducible refine gD 2 rfl ?_);refine box_event rfl (N:=2) rfl (cs:=#[.slice none 0 0]) (t:=29) hr_ ?_;intro gb733 hg w11 hbox hb;have BK733:=am hbox;have GW733:=gwE HB hg;have GE733:=gwE HB hg;replace HB:=hbS HB hb;clear hb hbox hg) | ((with_reducible refine gC 57 rfl ?_);refine gL (some 9) Tryz.func57 #[.slice A0 l0.length c0] ?_;(with_reducible refine (spec_l20Open.calls _ _ l0 t734 t735 w _ ?side1 ?side2 ?side3 A2.out).mono ?_);(case side1=>exact m2_);(case side2=>exact HR0.out);(case side3=>exact HC0.out);rintro e w12 ⟨g736,rfl,hi,hb,hb2⟩;refine ⟨_,rfl,?_⟩;replace HB:=am hb;have HI736:=am hi;have NB736_733:=am (IsS102.ne_blk hi (blk_below (g:=gb733) (o:=.cells #[.slice none 0 0] 29 (0,0)) (bk BK733) hb2) (by decide));have NB733_736:=am (Ne.symm (IsS102.ne_blk hi (blk_below (g:=gb733) (o:=.cells #[.slice none 0 0] 29 (0,0)) (bk BK733) hb2) (by decide)));replace BK733:=am (blk_below (g:=gb733) (o:=.cells #[.slice none 0 0] 29 (0,0)) (bk BK733) hb2);(try clear hb);(try clear hb2);(try clear hi)) | ((with_reducible refine gC 45 rfl ?_);refine gL (some 12) Tryz.func45 #[.slice A0 l0.length c0] ?_;(with_reducible refine (spec_DrawRwrStream.calls k _ _ l0 t737 t740 _ ?side1 ?side2 A3.out).mono ?_);(case side1=>exact m13_);(case side2=>exact HC0.out);rintro e w13 ⟨v738,rfl,ho0,hb⟩;refine ⟨_,rfl,?_⟩;have HO739:=am (Kd.R_lower ho0 (below_size m29_));replace BK733:=bkB BK733 hb;replace HB:=am (below_step m29_ hb);replace HI736:=am (IsS102.below m30_ hb);(try clear hb);(try clear ho0)) | ((with_reducible refine gD 6 rfl ?_);refine box_event rfl (N:=6) rfl (cs:=#[.slice none 0 0]) (t:=29) hr_ ?_;intro gb741 hg w14 hbox hb;replace HO739:=am (Kd.R_below (rs HO739) hb);have BK741:=am hbox;have GW741:=am ((by rw [hg];exact (below_size m29_) : w.heap.size ≤ gb741));have GE741:=am ((by rw [hg];exact (below_size m29_) : w.heap.size ≤ gb741));replace HB:=am (below_step m29_ hb);have NB733_741:=neL BK733 hg;have NB741_733:=neG BK733 hg;replace BK733:=bkB BK733 hb;have NB736_741:=am ((by rw [hg];exact Nat.ne_of_lt (IsS102.lt (show IsS102 w _ g736 t734 t735 from m30_)) : g736 ≠ gb741));have NB741_736:=am ((by rw [hg];exact Nat.ne_of_gt (IsS102.lt (show IsS102 w _ g736 t734 t735 from m30_)) : gb741 ≠ g736));replace HI736:=am (IsS102.below m30_ hb);clear hb hbox hg;obtain ⟨Ao15,co15,eo15⟩:=Kd.R_slice HO739.out;subst eo15;have:=NB741_733.out;have:=NB733_741.out;have:=NB741_736.out;have:=NB736_741.out;have:=bcell BK741 0;have:=bfz BK741 0))
     have pi754 : (0 ≤ (t752 : Int)) = True:=eq_true (of_decide_eq_true da_)
     have qi754 : (t752 < (y749.length : Int)) = True:=eq_true (of_decide_eq_true da_)
     have pi755 : (0 ≤ ((rd y749 t752) : Int)) = True:=eq_true (of_decide_eq_true da_)
     have qi755 : ((rd y749 t752) < (y746.length : Int)) = True:=eq_true (of_decide_eq_true da_)
     have n0_ : Aside0 (Kd.R k55 55 (w14.setCell ⟨gb741,0,none⟩ (.slice Ao15 t737.length co15)) w.heap.size (fun _=>True) (.slice Ao15 t737.length co15) t737):=⟨by (with_reducible repeat apply ru);exact Kd.R_mono (Kd.R_far (p:=⟨gb741,0,none⟩) (Kd.R_types HO739.out BK741.out (by decide)) (fun _ hk=>hk.2) (.slice Ao15 t737.length co15)) (fun _ hk=>trivial)⟩
     have n1_ : Aside0 ((w14.setCell ⟨gb741,0,none⟩ (.slice Ao15 t737.length co15)).heap[gb733]? = some (.cells #[.slice none 0 0] 29 (0,0))):=bf_ BK733
     have n2_ : Aside0 ((w14.setCell ⟨gb741,0,none⟩ (.slice Ao15 t737.length co15)).heap[gb741]? = some (.cells #[.slice Ao15 t737.length co15] 29 (0,0))):=⟨by (with_reducible repeat refine bu ?_);refine blk_put (cs:=#[.slice none 0 0]) ?_ 0 _ rfl;(with_reducible repeat refine bu ?_);exact BK741.out⟩
     have n3_ : Aside0 (IsS102 w (w14.setCell ⟨gb741,0,none⟩ (.slice Ao15 t737.length co15)) g736 t734 t735):=⟨m30_⟩
     have n4_ : Aside0 (Below w.heap.size w (w14.setCell ⟨gb741,0,none⟩ (.slice Ao15 t737.length co15))):=⟨m29_⟩
     (try clear HO739)
     (try clear BK733)
     (try clear BK741)
     (try clear HI736)
     (try clear HB)
     generalize (w14.setCell ⟨gb741,0,none⟩ (.slice Ao15 t737.length co15)) = w19 at n0_ n1_ n2_ n3_ n4_ ⊢
     have HO739:=n0_
     have BK733:=n1_
     have BK741:=n2_
     have HI736:=n3_
     have HB:=n4_
     clear n0_ n1_ n2_ n3_ n4_
     replace HO739:=am (Kd.R_drew HO739.out)
     replace BK733:=am (blk_drew BK733.out)
     replace BK741:=am (blk_drew BK741.out)
     replace HI736:=am (IsS102.drew HI736.out)
     replace HB:=am (below_drew1 HB.out)
     refine start_ (n:=17) (S:=fun w'=>True) (ds:=[]) #[false,false,false,false,false,false,false,false,false,false,false,false,false,false,false,false,false] (by kernel_rfl) rfl rfl trivial (fun hHeld=>?_);refine with_tabW spec_DrawPosOut.tab3 spec_DrawPosOut.bits3 (fun HT_ HW_=>?_)
     generalize w19.drew = w20 at HO739 BK733 BK741 HI736 HB hHeld ⊢
     refine pu_ 1 (some 16) (bm 17 2) ?_
     refine pu_ 2 (some 17) (bm 17 6) ?_
     refine pu_ 4 (some 19) (bm 17 22) ?_
     refine pu_ 8 (some 23) (bm 17 278) ?_
     refine inv_at [0,3,5,6,7,9,10,11,12,13,14,15,16] (fun a0_ b a w'=>∃ (v747 : Value) (adz_v747 : Addr) (v750 : Value) (adz_v750 : Addr) (m10_ : Value) (m12_ : Value),a = putSel a0_ b [(0,15,.agg #[.slice Ao15 t737.length co15]),(3,18,.int .i64 t742),(5,20,.int .i64 t744),(6,21,v747),(7,22,v750),(9,24,.int .i64 t752),(10,25,m10_),(11,26,.int .i64 (rd y749 t752)),(12,27,m12_),(13,28,.int .i64 (rd y746 (rd y749 t752))),(15,3,.string t740),(16,4,.int .i64 (rd y746 (rd y749 t752)))] ∧ (Kd.R k55 55 w' w.heap.size (fun _=>True) (.slice Ao15 t737.length co15) t737) ∧ (b 14 = false → w'.heap[gb733]? = some (.cells #[.slice none 0 0] 29 (0,0))) ∧ (w'.heap[gb741]? = some (.cells #[.slice Ao15 t737.length co15] 29 (0,0))) ∧ (b 3 = false → IsS102 w w' g736 t734 t735) ∧ (Below w.heap.size w w') ∧ (b 3 = true → b 5 = false → IsS102 w w' g736 t734 t743) ∧ (b 5 = true → b 9 = false → IsS102 w w' g736 t734 t745) ∧ (b 6 = true → Kd.R (Kd.int .i64) 3 w' w.heap.size (fun _=>True) v747 y746) ∧ (b 6 = true → ∃ c_,(v747 : Value) = .slice (some adz_v747) y746.length c_) ∧ (b 7 = true → Kd.R (Kd.int .i64) 3 w' w.heap.size (fun _=>True) v750 y749) ∧ (b 7 = true → ∃ c_,(v750 : Value) = .slice (some adz_v750) y749.length c_) ∧ (b 9 = true → IsS102 w w' g736 t734 t753) ∧ (b 14 = true → w'.heap[gb733]? = some (.cells #[.slice Ao15 t737.length co15] 29 (0,0))) ∧ (b 10 = true → (m10_ : Value) = .pointer (some (adz_v750.add (t752).toNat))) ∧ (b 12 = true → (m12_ : Value) = .pointer (some (adz_v747.add ((rd y749 t752)).toNat)))) HT_.out HW_.out (by kernel_rfl) (by kernel_rfl) ?_ ?_ ?_
     ·exact ⟨.bool false,⟨0,0,none⟩,.bool false,⟨0,0,none⟩,.bool false,.bool false,by simp only [putSel,Bool.false_eq_true,if_false],HO739.out,fun _=>BK733.out,BK741.out,fun _=>HI736.out,HB.out,fun h_=>absurd h_ (by decide),fun h_=>absurd h_ (by decide),fun h_=>absurd h_ (by decide),fun h_=>absurd h_ (by decide),fun h_=>absurd h_ (by decide),fun h_=>absurd h_ (by decide),fun h_=>absurd h_ (by decide),fun h_=>absurd h_ (by decide),fun h_=>absurd h_ (by decide),fun h_=>absurd h_ (by decide)⟩
     ·skip
      clear BK733 BK741 HB HI736 HO739
      refine steps_cons ?_ ?_
      ·rintro b a w' ⟨v747,adz_v747,v750,adz_v750,m10_,m12_,ha,Q_HO739,Q_BK733,Q_BK741,Q_HI736,Q_HB,Q_HI736_e3,Q_HI736_e5,Q_HO748,Q_HA_HO748,Q_HO751,Q_HA_HO751,Q_HI736_e9,Q_BK733_e14,Q_X10_,Q_X12_⟩ hb_ hon hoff
       refine ⟨_,rfl,fun K hK=>?_⟩
       have e6 : a.tmps[6]? = some (.pointer (some ⟨gb741,0,none⟩)):=by rw [ha];exact (putSel_off rfl).trans rfl
       replace ha:=am ha
       have HO739:=am Q_HO739
       have BK733:=am (Q_BK733 (hoff 14 (by kernel_rfl)))
       have BK741:=am Q_BK741
       have HB:=am Q_HB
       have hc0_ : w'.cell? ⟨gb741,0,none⟩ = some (.slice Ao15 t737.length co15):=bcell BK741 0
       refine value_ (w1:=w') (v:=.agg #[.slice Ao15 t737.length co15]) (by rfl) rfl ?_ ?_
       ·go_simp
        (try simp only [i64_w])
        try rfl
       refine hK.out _ _ ⟨v747,adz_v747,v750,adz_v750,m10_,m12_,(by rw [ha.out];exact putSel_upk 0 hb_ rfl rfl rfl),Q_HO739,Q_BK733,Q_BK741,Q_HI736,Q_HB,Q_HI736_e3,Q_HI736_e5,Q_HO748,Q_HA_HO748,Q_HO751,Q_HA_HO751,Q_HI736_e9,fun h0_=>absurd ((hoff 14 (by kernel_rfl)).symm.trans h0_) (by decide),Q_X10_,Q_X12_⟩
      refine steps_cons ?_ ?_
      ·rintro b a w' ⟨v747,adz_v747,v750,adz_v750,m10_,m12_,ha,Q_HO739,Q_BK733,Q_BK741,Q_HI736,Q_HB,Q_HI736_e3,Q_HI736_e5,Q_HO748,Q_HA_HO748,Q_HO751,Q_HA_HO751,Q_HI736_e9,Q_BK733_e14,Q_X10_,Q_X12_⟩ hb_ hon hoff
       refine ⟨_,rfl,fun K hK=>?_⟩
       have e17 : a.tmps[17]? = some (.pointer (some ⟨g736,0,none⟩)):=by rw [ha];exact (putSel_off rfl).trans rfl
       replace ha:=am ha
       have HO739:=am Q_HO739
       have BK733:=am (Q_BK733 (hoff 14 (by kernel_rfl)))
       have BK741:=am Q_BK741
       have HI736:=am (Q_HI736 hb_)
       have HB:=am Q_HB
       refine goes_ Tryz.func58 (by kernel_rfl) rfl #[.pointer (some ⟨g736,0,none⟩),.int .i64 130] (by rfl) rfl rfl (by first | (simp only [List.map_toArray,List.map_cons,List.map_nil,Act.eval,Array.getD_eq_getD_getElem?,Option.getD_some,e17];done) | (simp only [List.map_toArray,List.map_cons,List.map_nil,Act.eval,Array.getD_eq_getD_getElem?,Option.getD_some,e17];rfl)) ?_
       with_reducible refine (spec_l20Rd_pick.calls k g736 t734 t735 130 t742 t743 w _ ?side1 ?side2 A4.out).mono ?_
       (case side1=>exact m30_)
       (case side2=>exact m29_)
       rintro e w21 ⟨rfl,hi,hb,hk⟩
       refine ⟨_,rfl,?_⟩
       have n0_:=am (KeepBut.blk hk (g':=gb733) (o:=.cells #[.slice none 0 0] 29 (0,0)) (bk BK733) NB733_736.out (by simp))
       have n1_:=am (Kd.R_mono (Kd.R_keep (IsS102.apart (show IsS102 w _ g736 t734 t735 from m30_) (rs HO739) (by decide)) hk (fun _ h=>h.2)) (fun _ h=>h.1))
       have n2_:=am (KeepBut.blk hk (g':=gb741) (o:=.cells #[.slice Ao15 t737.length co15] 29 (0,0)) (bk BK741) NB741_736.out (by simp))
       have n3_:=am hb
       have n4_:=am hi
       have z_HO751:=fun (h0_ : b 7 = true)=>(show Kd.R (Kd.int .i64) 3 w21 w.heap.size (fun _=>True) v750 y749 from by first | exact (Kd.R_mono (Kd.R_keep (IsS102.apart (show IsS102 w _ g736 t734 t735 from m30_) (by (with_reducible repeat apply ru);exact (Q_HO751 h0_)) (by decide)) hk (fun _ h=>h.2)) (fun _ h=>h.1)) | exact Kd.R_mono (Kd.R_mono (Kd.R_keep (IsS102.apart (show IsS102 w _ g736 t734 t735 from m30_) (by (with_reducible repeat apply ru);exact (Q_HO751 h0_)) (by decide)) hk (fun _ h=>h.2)) (fun _ h=>h.1)) (fun _ h_=>by first | trivial | exact h_ | exact h_.1))
       clear BK733
       clear HO739
       clear BK741
       clear HB
       clear HI736
       have BK733:=n0_
       have HO739:=n1_
       have BK741:=n2_
       have HB:=n3_
       have HI736:=n4_
       clear n0_ n1_ n2_ n3_ n4_
       (try clear hb)
       (try clear hb2)
       (try clear hk)
       (try clear hi)
       refine hK.out _ _ ⟨v747,adz_v747,v750,adz_v750,m10_,m12_,(by rw [ha.out];exact putSel_upk 1 hb_ rfl rfl rfl),(rs HO739),fun _=>(bk BK733),(bk BK741),fun h0_=>absurd ((up_self b 3).symm.trans h0_) (by decide),m29_,fun _ _=>m30_,fun h0_ _=>absurd ((hoff 5 (by kernel_rfl)).symm.trans h0_) (by decide),fun h0_=>absurd ((hoff 6 (by kernel_rfl)).symm.trans h0_) (by decide),fun h0_=>absurd ((hoff 6 (by kernel_rfl)).symm.trans h0_) (by decide),z_HO751,Q_HA_HO751,fun h0_=>absurd ((hoff 9 (by kernel_rfl)).symm.trans h0_) (by decide),fun h0_=>absurd ((hoff 14 (by kernel_rfl)).symm.trans h0_) (by decide),fun h0_=>absurd ((hoff 10 (by kernel_rfl)).symm.trans h0_) (by decide),fun h0_=>absurd ((hoff 12 (by kernel_rfl)).symm.trans h0_) (by decide)⟩
      refine steps_cons ?_ ?_
      ·rintro b a w' ⟨v747,adz_v747,v750,adz_v750,m10_,m12_,ha,Q_HO739,Q_BK733,Q_BK741,Q_HI736,Q_HB,Q_HI736_e3,Q_HI736_e5,Q_HO748,Q_HA_HO748,Q_HO751,Q_HA_HO751,Q_HI736_e9,Q_BK733_e14,Q_X10_,Q_X12_⟩ hb_ hon hoff
       refine ⟨_,rfl,fun K hK=>?_⟩
       have e19 : a.tmps[19]? = some (.pointer (some ⟨g736,0,none⟩)):=by rw [ha];exact (putSel_off rfl).trans rfl
       replace ha:=am ha
       have HO739:=am Q_HO739
       have BK733:=am (Q_BK733 (hoff 14 (by kernel_rfl)))
       have BK741:=am Q_BK741
       have HB:=am Q_HB
       have HI736:=am (Q_HI736_e3 (hon 3 (by kernel_rfl)) hb_)
       refine goes_ Tryz.func58 (by kernel_rfl) rfl #[.pointer (some ⟨g736,0,none⟩),.int .i64 40] (by rfl) rfl rfl (by first | (simp only [List.map_toArray,List.map_cons,List.map_nil,Act.eval,Array.getD_eq_getD_getElem?,Option.getD_some,e19];done) | (simp only [List.map_toArray,List.map_cons,List.map_nil,Act.eval,Array.getD_eq_getD_getElem?,Option.getD_some,e19];rfl)) ?_
       with_reducible refine (spec_l20Rd_pick.calls k g736 t734 t743 40 t744 t745 w _ ?side1 ?side2 A5.out).mono ?_
       (case side1=>exact m30_)
       (case side2=>exact m29_)
       rintro e w23 ⟨rfl,hi,hb,hk⟩
       refine ⟨_,rfl,?_⟩
       have n0_:=am (KeepBut.blk hk (g':=gb733) (o:=.cells #[.slice none 0 0] 29 (0,0)) (bk BK733) NB733_736.out (by simp))
       have n1_:=am (Kd.R_mono (Kd.R_keep (IsS102.apart (show IsS102 w _ g736 t734 t743 from m30_) (rs HO739) (by decide)) hk (fun _ h=>h.2)) (fun _ h=>h.1))
       have n2_:=am (KeepBut.blk hk (g':=gb741) (o:=.cells #[.slice Ao15 t737.length co15] 29 (0,0)) (bk BK741) NB741_736.out (by simp))
       have n3_:=am hb
       have n4_:=am hi
       have z_HO751:=fun (h0_ : b 7 = true)=>(show Kd.R (Kd.int .i64) 3 w23 w.heap.size (fun _=>True) v750 y749 from by first | exact (Kd.R_mono (Kd.R_keep (IsS102.apart (show IsS102 w _ g736 t734 t743 from m30_) (by (with_reducible repeat apply ru);exact (Q_HO751 h0_)) (by decide)) hk (fun _ h=>h.2)) (fun _ h=>h.1)) | exact Kd.R_mono (Kd.R_mono (Kd.R_keep (IsS102.apart (show IsS102 w _ g736 t734 t743 from m30_) (by (with_reducible repeat apply ru);exact (Q_HO751 h0_)) (by decide)) hk (fun _ h=>h.2)) (fun _ h=>h.1)) (fun _ h_=>by first | trivial | exact h_ | exact h_.1))
       clear BK733
       clear HO739
       clear BK741
       clear HB
       clear HI736
       have BK733:=n0_
       have HO739:=n1_
       have BK741:=n2_
       have HB:=n3_
       have HI736:=n4_
       clear n0_ n1_ n2_ n3_ n4_
       (try clear hb)
       (try clear hb2)
       (try clear hk)
       (try clear hi)
       refine hK.out _ _ ⟨v747,adz_v747,v750,adz_v750,m10_,m12_,(by rw [ha.out];exact putSel_upk 2 hb_ rfl rfl rfl),(rs HO739),fun _=>(bk BK733),(bk BK741),fun h0_=>absurd ((hon 3 (by kernel_rfl)).symm.trans h0_) (by decide),m29_,fun _ h1_=>absurd ((up_self b 5).symm.trans h1_) (by decide),fun _ _=>m30_,fun h0_=>absurd ((hoff 6 (by kernel_rfl)).symm.trans h0_) (by decide),fun h0_=>absurd ((hoff 6 (by kernel_rfl)).symm.trans h0_) (by decide),z_HO751,Q_HA_HO751,fun h0_=>absurd ((hoff 9 (by kernel_rfl)).symm.trans h0_) (by decide),fun h0_=>absurd ((hoff 14 (by kernel_rfl)).symm.trans h0_) (by decide),fun h0_=>absurd ((hoff 10 (by kernel_rfl)).symm.trans h0_) (by decide),fun h0_=>absurd ((hoff 12 (by kernel_rfl)).symm.trans h0_) (by decide)⟩
      refine steps_cons ?_ ?_
      ·rintro b a w' ⟨v747,adz_v747,v750,adz_v750,m10_,m12_,ha,Q_HO739,Q_BK733,Q_BK741,Q_HI736,Q_HB,Q_HI736_e3,Q_HI736_e5,Q_HO748,Q_HA_HO748,Q_HO751,Q_HA_HO751,Q_HI736_e9,Q_BK733_e14,Q_X10_,Q_X12_⟩ hb_ hon hoff
       refine ⟨_,rfl,fun K hK=>?_⟩
       have e18 : a.tmps[18]? = some (.int .i64 t742):=by rw [ha];exact putSel_on (e:=(3,18,.int .i64 t742)) 1 rfl rfl (hon 3 (by kernel_rfl)) rfl
       have e20 : a.tmps[20]? = some (.int .i64 t744):=by rw [ha];exact putSel_on (e:=(5,20,.int .i64 t744)) 2 rfl rfl (hon 5 (by kernel_rfl)) rfl
       replace ha:=am ha
       have HO739:=am Q_HO739
       have BK741:=am Q_BK741
       have HB:=am Q_HB
       refine Kd.R_lit_step (Kd.int .i64) _ 3 rfl (N:=21) rfl (xs:=([t742,t744,(-1),9223372036854775807,0] : List Int)) (inner:=[.int .i64 t742,.int .i64 t744,.int .i64 (-1),.int .i64 9223372036854775807,.int .i64 0]) (ok:=fun _=>True) (okp:=fun _=>True) hr_ ?hp (fun _ hk=>hk) trivial (Below.refl _ _) (Nat.le_refl _) (by simp) ?_;(case hp=>exact (Reps.one (show Kd.M (Kd.int .i64) _ _ _ t742 [.int .i64 t742] from rfl) (Reps.one (show Kd.M (Kd.int .i64) _ _ _ t744 [.int .i64 t744] from rfl) (Reps.one (show Kd.M (Kd.int .i64) _ _ _ (-1) [.int .i64 (-1)] from rfl) (Reps.one (show Kd.M (Kd.int .i64) _ _ _ 9223372036854775807 [.int .i64 9223372036854775807] from rfl) (Reps.one (show Kd.M (Kd.int .i64) _ _ _ 0 [.int .i64 0] from rfl) (Reps.none _ _)))))))
       intro v747 w24 ho25 hb hg_ hnew_
       clear hg_ hnew_
       (first | rw [← Ny746.out] at ho25 | (simp only [Int.reduceToNat] at ho25;rw [← Ny746.out] at ho25))
       have n0_:=am (Kd.R_below (rs HO739) hb)
       have n1_:=am (Kd.R_lower ho25 (below_size (bl HB)))
       have n4_:=bkB BK741 hb
       have n5_:=hbS HB hb
       have z_BK733:=fun (h0_ : b 14 = false)=>(show w24.heap[gb733]? = some (.cells #[.slice none 0 0] 29 (0,0)) from by first | exact (blk_below (g:=gb733) (o:=.cells #[.slice none 0 0] 29 (0,0)) (by (with_reducible repeat refine bu ?_);exact (Q_BK733 h0_)) hb))
       have z_HI736_e5:=fun (h0_ : b 5 = true) (h1_ : b 9 = false)=>(show IsS102 w w24 g736 t734 t745 from by first | exact (IsS102.below (by repeat (first | (with_reducible first | exact (Q_HI736_e5 h0_ h1_) | apply IsS102.alloc | apply IsS102.drewN | apply IsS102.drew | apply IsS102.set_1 | refine IsS102.far ?_ NB736_733.out _ | refine IsS102.far ?_ NB736_741.out _) | exact (Q_HI736_e5 h0_ h1_))) hb))
       have z_HO751:=fun (h0_ : b 7 = true)=>(show Kd.R (Kd.int .i64) 3 w24 w.heap.size (fun _=>True) v750 y749 from by first | exact (Kd.R_elder' (by (with_reducible repeat apply ru);exact (Q_HO751 h0_)) (Kd.R_base ho25) hb) | exact Kd.R_mono (Kd.R_elder' (by (with_reducible repeat apply ru);exact (Q_HO751 h0_)) (Kd.R_base ho25) hb) (fun _ h_=>by first | trivial | exact h_ | exact h_.1))
       have z_HI736_e9:=fun (h0_ : b 9 = true)=>(show IsS102 w w24 g736 t734 t753 from by first | exact (IsS102.below (by repeat (first | (with_reducible first | exact (Q_HI736_e9 h0_) | apply IsS102.alloc | apply IsS102.drewN | apply IsS102.drew | apply IsS102.set_1 | refine IsS102.far ?_ NB736_733.out _ | refine IsS102.far ?_ NB736_741.out _) | exact (Q_HI736_e9 h0_))) hb))
       have z_BK733_e14:=fun (h0_ : b 14 = true)=>(show w24.heap[gb733]? = some (.cells #[.slice Ao15 t737.length co15] 29 (0,0)) from by first | exact (blk_below (g:=gb733) (o:=.cells #[.slice Ao15 t737.length co15] 29 (0,0)) (by (with_reducible repeat refine bu ?_);exact (Q_BK733_e14 h0_)) hb))
       clear HO739
       clear BK741
       clear HB
       have HO739:=n0_
       have HO748:=n1_
       have BK741:=n4_
       have HB:=n5_
       clear n0_ n1_ n4_ n5_
       clear hb ho25
       obtain ⟨Ao26,co26,eo26⟩:=Kd.R_slice HO748.out
       subst eo26
       obtain ⟨ado26,fo26,_⟩:=Kd.at_int (Kd.R_reads' HO748.out).2.2 0 (by decide) (by rw [Ny746.out];simp)
       cases fo26
       refine hK.out _ _ ⟨.slice (some ado26) y746.length co26,ado26,v750,adz_v750,m10_,m12_,(by rw [ha.out];exact putSel_upk 3 hb_ rfl rfl rfl),(rs HO739),z_BK733,(bk BK741),fun h0_=>absurd ((hon 3 (by kernel_rfl)).symm.trans h0_) (by decide),(bl HB),fun _ h1_=>absurd ((hon 5 (by kernel_rfl)).symm.trans h1_) (by decide),z_HI736_e5,fun _=>(rs HO748),fun _=>⟨_,rfl⟩,z_HO751,Q_HA_HO751,z_HI736_e9,z_BK733_e14,Q_X10_,fun h0_=>absurd ((hoff 12 (by kernel_rfl)).symm.trans h0_) (by decide)⟩
      refine steps_cons ?_ ?_
      ·rintro b a w' ⟨v747,adz_v747,v750,adz_v750,m10_,m12_,ha,Q_HO739,Q_BK733,Q_BK741,Q_HI736,Q_HB,Q_HI736_e3,Q_HI736_e5,Q_HO748,Q_HA_HO748,Q_HO751,Q_HA_HO751,Q_HI736_e9,Q_BK733_e14,Q_X10_,Q_X12_⟩ hb_ hon hoff
       refine ⟨_,rfl,fun K hK=>?_⟩
       replace ha:=am ha
       have HO739:=am Q_HO739
       have BK741:=am Q_BK741
       have HB:=am Q_HB
       refine Kd.R_lit_step (Kd.int .i64) _ 3 rfl (N:=22) rfl (xs:=([0,0,1,1,2,3,4] : List Int)) (inner:=[.int .i64 0,.int .i64 0,.int .i64 1,.int .i64 1,.int .i64 2,.int .i64 3,.int .i64 4]) (ok:=fun _=>True) (okp:=fun _=>True) hr_ ?hp (fun _ hk=>hk) trivial (Below.refl _ _) (Nat.le_refl _) (by simp) ?_;(case hp=>exact (Reps.one (show Kd.M (Kd.int .i64) _ _ _ 0 [.int .i64 0] from rfl) (Reps.one (show Kd.M (Kd.int .i64) _ _ _ 0 [.int .i64 0] from rfl) (Reps.one (show Kd.M (Kd.int .i64) _ _ _ 1 [.int .i64 1] from rfl) (Reps.one (show Kd.M (Kd.int .i64) _ _ _ 1 [.int .i64 1] from rfl) (Reps.one (show Kd.M (Kd.int .i64) _ _ _ 2 [.int .i64 2] from rfl) (Reps.one (show Kd.M (Kd.int .i64) _ _ _ 3 [.int .i64 3] from rfl) (Reps.one (show Kd.M (Kd.int .i64) _ _ _ 4 [.int .i64 4] from rfl) (Reps.none _ _)))))))))
       intro v750 w21 ho22 hb hg_ hnew_
       clear hg_ hnew_
       (first | rw [← Ny749.out] at ho22 | (simp only [Int.reduceToNat] at ho22;rw [← Ny749.out] at ho22))
       have n0_:=am (Kd.R_below (rs HO739) hb)
       have n1_:=am (Kd.R_lower ho22 (below_size (bl HB)))
       have n4_:=bkB BK741 hb
       have n5_:=hbS HB hb
       have z_BK733:=fun (h0_ : b 14 = false)=>(show w21.heap[gb733]? = some (.cells #[.slice none 0 0] 29 (0,0)) from by first | exact (blk_below (g:=gb733) (o:=.cells #[.slice none 0 0] 29 (0,0)) (by (with_reducible repeat refine bu ?_);exact (Q_BK733 h0_)) hb))
       have z_HI736:=fun (h0_ : b 3 = false)=>(show IsS102 w w21 g736 t734 t735 from by first | exact (IsS102.below (by repeat (first | (with_reducible first | exact (Q_HI736 h0_) | apply IsS102.alloc | apply IsS102.drewN | apply IsS102.drew | apply IsS102.set_1 | refine IsS102.far ?_ NB736_733.out _ | refine IsS102.far ?_ NB736_741.out _) | exact (Q_HI736 h0_))) hb))
       have z_HI736_e3:=fun (h0_ : b 3 = true) (h1_ : b 5 = false)=>(show IsS102 w w21 g736 t734 t743 from by first | exact (IsS102.below (by repeat (first | (with_reducible first | exact (Q_HI736_e3 h0_ h1_) | apply IsS102.alloc | apply IsS102.drewN | apply IsS102.drew | apply IsS102.set_1 | refine IsS102.far ?_ NB736_733.out _ | refine IsS102.far ?_ NB736_741.out _) | exact (Q_HI736_e3 h0_ h1_))) hb))
       have z_HI736_e5:=fun (h0_ : b 5 = true) (h1_ : b 9 = false)=>(show IsS102 w w21 g736 t734 t745 from by first | exact (IsS102.below (by repeat (first | (with_reducible first | exact (Q_HI736_e5 h0_ h1_) | apply IsS102.alloc | apply IsS102.drewN | apply IsS102.drew | apply IsS102.set_1 | refine IsS102.far ?_ NB736_733.out _ | refine IsS102.far ?_ NB736_741.out _) | exact (Q_HI736_e5 h0_ h1_))) hb))
       have z_HO748:=fun (h0_ : b 6 = true)=>(show Kd.R (Kd.int .i64) 3 w21 w.heap.size (fun _=>True) v747 y746 from by first | exact (Kd.R_elder' (by (with_reducible repeat apply ru);exact (Q_HO748 h0_)) (Kd.R_base ho22) hb) | exact Kd.R_mono (Kd.R_elder' (by (with_reducible repeat apply ru);exact (Q_HO748 h0_)) (Kd.R_base ho22) hb) (fun _ h_=>by first | trivial | exact h_ | exact h_.1))
       have z_HI736_e9:=fun (h0_ : b 9 = true)=>(show IsS102 w w21 g736 t734 t753 from by first | exact (IsS102.below (by repeat (first | (with_reducible first | exact (Q_HI736_e9 h0_) | apply IsS102.alloc | apply IsS102.drewN | apply IsS102.drew | apply IsS102.set_1 | refine IsS102.far ?_ NB736_733.out _ | refine IsS102.far ?_ NB736_741.out _) | exact (Q_HI736_e9 h0_))) hb))
       have z_BK733_e14:=fun (h0_ : b 14 = true)=>(show w21.heap[gb733]? = some (.cells #[.slice Ao15 t737.length co15] 29 (0,0)) from by first | exact (blk_below (g:=gb733) (o:=.cells #[.slice Ao15 t737.length co15] 29 (0,0)) (by (with_reducible repeat refine bu ?_);exact (Q_BK733_e14 h0_)) hb))
       clear HO739
       clear BK741
       clear HB
       have HO739:=n0_
       have HO751:=n1_
       have BK741:=n4_
       have HB:=n5_
       clear n0_ n1_ n4_ n5_
       clear hb ho22
       obtain ⟨Ao23,co23,eo23⟩:=Kd.R_slice HO751.out
       subst eo23
       obtain ⟨ado23,fo23,_⟩:=Kd.at_int (Kd.R_reads' HO751.out).2.2 0 (by decide) (by rw [Ny749.out];simp)
       cases fo23
       refine hK.out _ _ ⟨v747,adz_v747,.slice (some ado23) y749.length co23,ado23,m10_,m12_,(by rw [ha.out];exact putSel_upk 4 hb_ rfl rfl rfl),(rs HO739),z_BK733,(bk BK741),z_HI736,(bl HB),z_HI736_e3,z_HI736_e5,z_HO748,Q_HA_HO748,fun _=>(rs HO751),fun _=>⟨_,rfl⟩,z_HI736_e9,z_BK733_e14,fun h0_=>absurd ((hoff 10 (by kernel_rfl)).symm.trans h0_) (by decide),fun h0_=>absurd ((hoff 12 (by kernel_rfl)).symm.trans h0_) (by decide)⟩
      refine steps_cons ?_ ?_
      ·rintro b a w' ⟨v747,adz_v747,v750,adz_v750,m10_,m12_,ha,Q_HO739,Q_BK733,Q_BK741,Q_HI736,Q_HB,Q_HI736_e3,Q_HI736_e5,Q_HO748,Q_HA_HO748,Q_HO751,Q_HA_HO751,Q_HI736_e9,Q_BK733_e14,Q_X10_,Q_X12_⟩ hb_ hon hoff
       refine ⟨_,rfl,fun K hK=>?_⟩
       have e23 : a.tmps[23]? = some (.pointer (some ⟨g736,0,none⟩)):=by rw [ha];exact (putSel_off rfl).trans rfl
       replace ha:=am ha
       have HO739:=am Q_HO739
       have BK733:=am (Q_BK733 (hoff 14 (by kernel_rfl)))
       have BK741:=am Q_BK741
       have HB:=am Q_HB
       have HI736:=am (Q_HI736_e5 (hon 5 (by kernel_rfl)) hb_)
       refine goes_ Tryz.func58 (by kernel_rfl) rfl #[.pointer (some ⟨g736,0,none⟩),.int .i64 7] (by rfl) rfl rfl (by first | (simp only [List.map_toArray,List.map_cons,List.map_nil,Act.eval,Array.getD_eq_getD_getElem?,Option.getD_some,e23];done) | (simp only [List.map_toArray,List.map_cons,List.map_nil,Act.eval,Array.getD_eq_getD_getElem?,Option.getD_some,e23];rfl)) ?_
       with_reducible refine (spec_l20Rd_pick.calls k g736 t734 t745 7 t752 t753 w _ ?side1 ?side2 A6.out).mono ?_
       (case side1=>exact m30_)
       (case side2=>exact m29_)
       rintro e w24 ⟨rfl,hi,hb,hk⟩
       refine ⟨_,rfl,?_⟩
       have n0_:=am (KeepBut.blk hk (g':=gb733) (o:=.cells #[.slice none 0 0] 29 (0,0)) (bk BK733) NB733_736.out (by simp))
       have n1_:=am (Kd.R_mono (Kd.R_keep (IsS102.apart (show IsS102 w _ g736 t734 t745 from m30_) (rs HO739) (by decide)) hk (fun _ h=>h.2)) (fun _ h=>h.1))
       have n2_:=am (KeepBut.blk hk (g':=gb741) (o:=.cells #[.slice Ao15 t737.length co15] 29 (0,0)) (bk BK741) NB741_736.out (by simp))
       have n3_:=am hb
       have n4_:=am hi
       have z_HO748:=fun (h0_ : b 6 = true)=>(show Kd.R (Kd.int .i64) 3 w24 w.heap.size (fun _=>True) v747 y746 from by first | exact (Kd.R_mono (Kd.R_keep (IsS102.apart (show IsS102 w _ g736 t734 t745 from m30_) (by (with_reducible repeat apply ru);exact (Q_HO748 h0_)) (by decide)) hk (fun _ h=>h.2)) (fun _ h=>h.1)) | exact Kd.R_mono (Kd.R_mono (Kd.R_keep (IsS102.apart (show IsS102 w _ g736 t734 t745 from m30_) (by (with_reducible repeat apply ru);exact (Q_HO748 h0_)) (by decide)) hk (fun _ h=>h.2)) (fun _ h=>h.1)) (fun _ h_=>by first | trivial | exact h_ | exact h_.1))
       have z_HO751:=fun (h0_ : b 7 = true)=>(show Kd.R (Kd.int .i64) 3 w24 w.heap.size (fun _=>True) v750 y749 from by first | exact (Kd.R_mono (Kd.R_keep (IsS102.apart (show IsS102 w _ g736 t734 t745 from m30_) (by (with_reducible repeat apply ru);exact (Q_HO751 h0_)) (by decide)) hk (fun _ h=>h.2)) (fun _ h=>h.1)) | exact Kd.R_mono (Kd.R_mono (Kd.R_keep (IsS102.apart (show IsS102 w _ g736 t734 t745 from m30_) (by (with_reducible repeat apply ru);exact (Q_HO751 h0_)) (by decide)) hk (fun _ h=>h.2)) (fun _ h=>h.1)) (fun _ h_=>by first | trivial | exact h_ | exact h_.1))
       clear BK733
       clear HO739
       clear BK741
       clear HB
       clear HI736
       have BK733:=n0_
       have HO739:=n1_
       have BK741:=n2_
       have HB:=n3_
       have HI736:=n4_
       clear n0_ n1_ n2_ n3_ n4_
       (try clear hb)
       (try clear hb2)
       (try clear hk)
       (try clear hi)
       refine hK.out _ _ ⟨v747,adz_v747,v750,adz_v750,m10_,m12_,(by rw [ha.out];exact putSel_upk 5 hb_ rfl rfl rfl),(rs HO739),fun _=>(bk BK733),(bk BK741),fun h0_=>absurd ((hon 3 (by kernel_rfl)).symm.trans h0_) (by decide),m29_,fun _ h1_=>absurd ((hon 5 (by kernel_rfl)).symm.trans h1_) (by decide),fun _ h1_=>absurd ((up_self b 9).symm.trans h1_) (by decide),z_HO748,Q_HA_HO748,z_HO751,Q_HA_HO751,fun _=>m30_,fun h0_=>absurd ((hoff 14 (by kernel_rfl)).symm.trans h0_) (by decide),fun h0_=>absurd ((hoff 10 (by kernel_rfl)).symm.trans h0_) (by decide),fun h0_=>absurd ((hoff 12 (by kernel_rfl)).symm.trans h0_) (by decide)⟩
      refine steps_cons ?_ ?_
      ·rintro b a w' ⟨v747,adz_v747,v750,adz_v750,m10_,m12_,ha,Q_HO739,Q_BK733,Q_BK741,Q_HI736,Q_HB,Q_HI736_e3,Q_HI736_e5,Q_HO748,Q_HA_HO748,Q_HO751,Q_HA_HO751,Q_HI736_e9,Q_BK733_e14,Q_X10_,Q_X12_⟩ hb_ hon hoff
       refine ⟨_,rfl,fun K hK=>?_⟩
       have e22 : a.tmps[22]? = some (v750):=by rw [ha];exact putSel_on (e:=(7,22,v750)) 4 rfl rfl (hon 7 (by kernel_rfl)) rfl
       have e24 : a.tmps[24]? = some (.int .i64 t752):=by rw [ha];exact putSel_on (e:=(9,24,.int .i64 t752)) 5 rfl rfl (hon 9 (by kernel_rfl)) rfl
       replace ha:=am ha
       have HO739:=am Q_HO739
       have BK741:=am Q_BK741
       have HB:=am Q_HB
       have HO751:=am (Q_HO751 (hon 7 (by kernel_rfl)))
       have HA_HO751:=am (Q_HA_HO751 (hon 7 (by kernel_rfl)))
       have HI736:=am (Q_HI736_e9 (hon 9 (by kernel_rfl)))
       obtain ⟨c_,hv_⟩:=HA_HO751.out
       rw [hv_] at e22
       refine value_ (w1:=w') (v:=.pointer (some (adz_v750.add (t752).toNat))) (by rfl) rfl ?_ ?_
       ·go_simp
        (try simp only [i64_w])
        try rfl
       refine hK.out _ _ ⟨v747,adz_v747,v750,adz_v750,(.pointer (some (adz_v750.add (t752).toNat))),m12_,(by rw [ha.out];exact putSel_upk 6 hb_ rfl rfl rfl),Q_HO739,Q_BK733,Q_BK741,fun h0_=>absurd ((hon 3 (by kernel_rfl)).symm.trans h0_) (by decide),Q_HB,fun _ h1_=>absurd ((hon 5 (by kernel_rfl)).symm.trans h1_) (by decide),fun _ h1_=>absurd ((hon 9 (by kernel_rfl)).symm.trans h1_) (by decide),Q_HO748,Q_HA_HO748,Q_HO751,Q_HA_HO751,Q_HI736_e9,Q_BK733_e14,fun _=>rfl,fun h0_=>absurd ((hoff 12 (by kernel_rfl)).symm.trans h0_) (by decide)⟩
      refine steps_cons ?_ ?_
      ·rintro b a w' ⟨v747,adz_v747,v750,adz_v750,m10_,m12_,ha,Q_HO739,Q_BK733,Q_BK741,Q_HI736,Q_HB,Q_HI736_e3,Q_HI736_e5,Q_HO748,Q_HA_HO748,Q_HO751,Q_HA_HO751,Q_HI736_e9,Q_BK733_e14,Q_X10_,Q_X12_⟩ hb_ hon hoff
       refine ⟨_,rfl,fun K hK=>?_⟩
       have e25 : a.tmps[25]? = some (m10_):=by rw [ha];exact putSel_on (e:=(10,25,m10_)) 6 rfl rfl (hon 10 (by kernel_rfl)) rfl
       rw [Q_X10_ (hon 10 (by kernel_rfl))] at e25
       replace ha:=am ha
       have HO739:=am Q_HO739
       have BK741:=am Q_BK741
       have HB:=am Q_HB
       have HO751:=am (Q_HO751 (hon 7 (by kernel_rfl)))
       have HA_HO751:=am (Q_HA_HO751 (hon 7 (by kernel_rfl)))
       have HI736:=am (Q_HI736_e9 (hon 9 (by kernel_rfl)))
       obtain ⟨c_,hv_⟩:=HA_HO751.out
       have hF_:=HO751.out
       rw [hv_] at hF_
       obtain ⟨ad_,ea_,hx_⟩:=Kd.at_int (Kd.R_reads' hF_).2.2 t752 (of_eq_true pi754) (of_eq_true qi754)
       cases ea_
       refine value_ (w1:=w') (v:=.int .i64 (rd y749 t752)) (by rfl) rfl ?_ ?_
       ·go_simp
        (try simp only [i64_w])
        try rfl
       refine hK.out _ _ ⟨v747,adz_v747,v750,adz_v750,m10_,m12_,(by rw [ha.out];exact putSel_upk 7 hb_ rfl rfl rfl),Q_HO739,Q_BK733,Q_BK741,fun h0_=>absurd ((hon 3 (by kernel_rfl)).symm.trans h0_) (by decide),Q_HB,fun _ h1_=>absurd ((hon 5 (by kernel_rfl)).symm.trans h1_) (by decide),fun _ h1_=>absurd ((hon 9 (by kernel_rfl)).symm.trans h1_) (by decide),Q_HO748,Q_HA_HO748,Q_HO751,Q_HA_HO751,Q_HI736_e9,Q_BK733_e14,Q_X10_,fun h0_=>absurd ((hoff 12 (by kernel_rfl)).symm.trans h0_) (by decide)⟩
      refine steps_cons ?_ ?_
      ·rintro b a w' ⟨v747,adz_v747,v750,adz_v750,m10_,m12_,ha,Q_HO739,Q_BK733,Q_BK741,Q_HI736,Q_HB,Q_HI736_e3,Q_HI736_e5,Q_HO748,Q_HA_HO748,Q_HO751,Q_HA_HO751,Q_HI736_e9,Q_BK733_e14,Q_X10_,Q_X12_⟩ hb_ hon hoff
       refine ⟨_,rfl,fun K hK=>?_⟩
       have e21 : a.tmps[21]? = some (v747):=by rw [ha];exact putSel_on (e:=(6,21,v747)) 3 rfl rfl (hon 6 (by kernel_rfl)) rfl
       have e26 : a.tmps[26]? = some (.int .i64 (rd y749 t752)):=by rw [ha];exact putSel_on (e:=(11,26,.int .i64 (rd y749 t752))) 7 rfl rfl (hon 11 (by kernel_rfl)) rfl
       replace ha:=am ha
       have HO739:=am Q_HO739
       have BK741:=am Q_BK741
       have HB:=am Q_HB
       have HO748:=am (Q_HO748 (hon 6 (by kernel_rfl)))
       have HA_HO748:=am (Q_HA_HO748 (hon 6 (by kernel_rfl)))
       have HO751:=am (Q_HO751 (hon 7 (by kernel_rfl)))
       have HA_HO751:=am (Q_HA_HO751 (hon 7 (by kernel_rfl)))
       have HI736:=am (Q_HI736_e9 (hon 9 (by kernel_rfl)))
       obtain ⟨c_,hv_⟩:=HA_HO748.out
       rw [hv_] at e21
       refine value_ (w1:=w') (v:=.pointer (some (adz_v747.add ((rd y749 t752)).toNat))) (by rfl) rfl ?_ ?_
       ·go_simp
        (try simp only [i64_w])
        try rfl
       refine hK.out _ _ ⟨v747,adz_v747,v750,adz_v750,m10_,(.pointer (some (adz_v747.add ((rd y749 t752)).toNat))),(by rw [ha.out];exact putSel_upk 8 hb_ rfl rfl rfl),Q_HO739,Q_BK733,Q_BK741,fun h0_=>absurd ((hon 3 (by kernel_rfl)).symm.trans h0_) (by decide),Q_HB,fun _ h1_=>absurd ((hon 5 (by kernel_rfl)).symm.trans h1_) (by decide),fun _ h1_=>absurd ((hon 9 (by kernel_rfl)).symm.trans h1_) (by decide),Q_HO748,Q_HA_HO748,Q_HO751,Q_HA_HO751,Q_HI736_e9,Q_BK733_e14,Q_X10_,fun _=>rfl⟩
      refine steps_cons ?_ ?_
      ·rintro b a w' ⟨v747,adz_v747,v750,adz_v750,m10_,m12_,ha,Q_HO739,Q_BK733,Q_BK741,Q_HI736,Q_HB,Q_HI736_e3,Q_HI736_e5,Q_HO748,Q_HA_HO748,Q_HO751,Q_HA_HO751,Q_HI736_e9,Q_BK733_e14,Q_X10_,Q_X12_⟩ hb_ hon hoff
       refine ⟨_,rfl,fun K hK=>?_⟩
       have e27 : a.tmps[27]? = some (m12_):=by rw [ha];exact putSel_on (e:=(12,27,m12_)) 8 rfl rfl (hon 12 (by kernel_rfl)) rfl
       rw [Q_X12_ (hon 12 (by kernel_rfl))] at e27
       replace ha:=am ha
       have HO739:=am Q_HO739
       have BK741:=am Q_BK741
       have HB:=am Q_HB
       have HO748:=am (Q_HO748 (hon 6 (by kernel_rfl)))
       have HA_HO748:=am (Q_HA_HO748 (hon 6 (by kernel_rfl)))
       have HO751:=am (Q_HO751 (hon 7 (by kernel_rfl)))
       have HA_HO751:=am (Q_HA_HO751 (hon 7 (by kernel_rfl)))
       have HI736:=am (Q_HI736_e9 (hon 9 (by kernel_rfl)))
       obtain ⟨c_,hv_⟩:=HA_HO748.out
       have hF_:=HO748.out
       rw [hv_] at hF_
       obtain ⟨ad_,ea_,hx_⟩:=Kd.at_int (Kd.R_reads' hF_).2.2 (rd y749 t752) (of_eq_true pi755) (of_eq_true qi755)
       cases ea_
       refine value_ (w1:=w') (v:=.int .i64 (rd y746 (rd y749 t752))) (by rfl) rfl ?_ ?_
       ·go_simp
        (try simp only [i64_w])
        try rfl
       refine hK.out _ _ ⟨v747,adz_v747,v750,adz_v750,m10_,m12_,(by rw [ha.out];exact putSel_upk 9 hb_ rfl rfl rfl),Q_HO739,Q_BK733,Q_BK741,fun h0_=>absurd ((hon 3 (by kernel_rfl)).symm.trans h0_) (by decide),Q_HB,fun _ h1_=>absurd ((hon 5 (by kernel_rfl)).symm.trans h1_) (by decide),fun _ h1_=>absurd ((hon 9 (by kernel_rfl)).symm.trans h1_) (by decide),Q_HO748,Q_HA_HO748,Q_HO751,Q_HA_HO751,Q_HI736_e9,Q_BK733_e14,Q_X10_,Q_X12_⟩
      refine steps_cons ?_ ?_
      ·rintro b a w' ⟨v747,adz_v747,v750,adz_v750,m10_,m12_,ha,Q_HO739,Q_BK733,Q_BK741,Q_HI736,Q_HB,Q_HI736_e3,Q_HI736_e5,Q_HO748,Q_HA_HO748,Q_HO751,Q_HA_HO751,Q_HI736_e9,Q_BK733_e14,Q_X10_,Q_X12_⟩ hb_ hon hoff
       refine ⟨_,rfl,fun K hK=>?_⟩
       have e2 : a.tmps[2]? = some (.pointer (some ⟨gb733,0,none⟩)):=by rw [ha];exact (putSel_off rfl).trans rfl
       have e15 : a.tmps[15]? = some (.agg #[.slice Ao15 t737.length co15]):=by rw [ha];exact putSel_on (e:=(0,15,.agg #[.slice Ao15 t737.length co15])) 0 rfl rfl (hon 0 (by kernel_rfl)) rfl
       replace ha:=am ha
       have HO739:=am Q_HO739
       have BK733:=am (Q_BK733 hb_)
       have BK741:=am Q_BK741
       have HB:=am Q_HB
       have HI736:=am (Q_HI736_e9 (hon 9 (by kernel_rfl)))
       have : w'.cell? ⟨gb733,0,none⟩ = some (.slice none 0 0):=bcell BK733 0
       have:=bfz BK733 0
       have:=NB741_733.out
       have:=NB733_741.out
       refine skip_ (w1:=?_) (by rfl) rfl ?_ ?_
       rotate_left
       ·go_simp
        rfl
       refine hK.out _ _ ⟨v747,adz_v747,v750,adz_v750,m10_,m12_,(by rw [ha.out];exact putSel_none (v:=undef) rfl),(by (with_reducible repeat apply ru);exact Kd.R_mono (Kd.R_far (p:=⟨gb733,0,none⟩) (Kd.R_types HO739.out BK733.out (by decide)) (fun _ hk=>hk.2) (.slice Ao15 t737.length co15)) (fun _ hk=>trivial)),fun h0_=>absurd ((up_self b 14).symm.trans h0_) (by decide),(by (with_reducible repeat refine bu ?_);refine blk_far ?_ NB741_733.out _;(with_reducible repeat refine bu ?_);exact BK741.out),fun h0_=>absurd ((hon 3 (by kernel_rfl)).symm.trans h0_) (by decide),m29_,fun _ h1_=>absurd ((hon 5 (by kernel_rfl)).symm.trans h1_) (by decide),fun _ h1_=>absurd ((hon 9 (by kernel_rfl)).symm.trans h1_) (by decide),fun h0_=>(by (with_reducible repeat apply ru);exact Kd.R_mono (Kd.R_far (p:=⟨gb733,0,none⟩) (Kd.R_types (Q_HO748 h0_) BK733.out (by decide)) (fun _ hk=>hk.2) (.slice Ao15 t737.length co15)) (fun _ hk=>trivial)),Q_HA_HO748,fun h0_=>(by (with_reducible repeat apply ru);exact Kd.R_mono (Kd.R_far (p:=⟨gb733,0,none⟩) (Kd.R_types (Q_HO751 h0_) BK733.out (by decide)) (fun _ hk=>hk.2) (.slice Ao15 t737.length co15)) (fun _ hk=>trivial)),Q_HA_HO751,fun _=>m30_,fun _=>(by (with_reducible repeat refine bu ?_);refine blk_put (cs:=#[.slice none 0 0]) ?_ 0 _ rfl;(with_reducible repeat refine bu ?_);exact BK733.out),Q_X10_,Q_X12_⟩
      refine steps_cons ?_ ?_
      ·rintro b a w' ⟨v747,adz_v747,v750,adz_v750,m10_,m12_,ha,Q_HO739,Q_BK733,Q_BK741,Q_HI736,Q_HB,Q_HI736_e3,Q_HI736_e5,Q_HO748,Q_HA_HO748,Q_HO751,Q_HA_HO751,Q_HI736_e9,Q_BK733_e14,Q_X10_,Q_X12_⟩ hb_ hon hoff
       refine ⟨_,rfl,fun K hK=>?_⟩
       have e16 : a.tmps[16]? = some (.string t740):=by rw [ha];exact (putSel_off rfl).trans rfl
       replace ha:=am ha
       have HO739:=am Q_HO739
       have BK741:=am Q_BK741
       have HB:=am Q_HB
       have HI736:=am (Q_HI736_e9 (hon 9 (by kernel_rfl)))
       have BK733:=am (Q_BK733_e14 (hon 14 (by kernel_rfl)))
       refine value_ (w1:=w') (v:=.string t740) (by rfl) rfl ?_ ?_
       ·go_simp
        (try simp only [i64_w])
        try rfl
       refine hK.out _ _ ⟨v747,adz_v747,v750,adz_v750,m10_,m12_,(by rw [ha.out];exact putSel_upk 10 hb_ rfl rfl rfl),Q_HO739,fun h0_=>absurd ((hon 14 (by kernel_rfl)).symm.trans h0_) (by decide),Q_BK741,fun h0_=>absurd ((hon 3 (by kernel_rfl)).symm.trans h0_) (by decide),Q_HB,fun _ h1_=>absurd ((hon 5 (by kernel_rfl)).symm.trans h1_) (by decide),fun _ h1_=>absurd ((hon 9 (by kernel_rfl)).symm.trans h1_) (by decide),Q_HO748,Q_HA_HO748,Q_HO751,Q_HA_HO751,Q_HI736_e9,Q_BK733_e14,Q_X10_,Q_X12_⟩
      refine steps_cons ?_ ?_
      ·rintro b a w' ⟨v747,adz_v747,v750,adz_v750,m10_,m12_,ha,Q_HO739,Q_BK733,Q_BK741,Q_HI736,Q_HB,Q_HI736_e3,Q_HI736_e5,Q_HO748,Q_HA_HO748,Q_HO751,Q_HA_HO751,Q_HI736_e9,Q_BK733_e14,Q_X10_,Q_X12_⟩ hb_ hon hoff
       refine ⟨_,rfl,fun K hK=>?_⟩
       have e28 : a.tmps[28]? = some (.int .i64 (rd y746 (rd y749 t752))):=by rw [ha];exact putSel_on (e:=(13,28,.int .i64 (rd y746 (rd y749 t752)))) 9 rfl rfl (hon 13 (by kernel_rfl)) rfl
       replace ha:=am ha
       have HO739:=am Q_HO739
       have BK741:=am Q_BK741
       have HB:=am Q_HB
       have HO748:=am (Q_HO748 (hon 6 (by kernel_rfl)))
       have HA_HO748:=am (Q_HA_HO748 (hon 6 (by kernel_rfl)))
       have HO751:=am (Q_HO751 (hon 7 (by kernel_rfl)))
       have HA_HO751:=am (Q_HA_HO751 (hon 7 (by kernel_rfl)))
       have HI736:=am (Q_HI736_e9 (hon 9 (by kernel_rfl)))
       have BK733:=am (Q_BK733_e14 (hon 14 (by kernel_rfl)))
       refine value_ (w1:=w') (v:=.int .i64 (rd y746 (rd y749 t752))) (by rfl) rfl ?_ ?_
       ·go_simp
        (try simp only [i64_w])
        try rfl
       refine hK.out _ _ ⟨v747,adz_v747,v750,adz_v750,m10_,m12_,(by rw [ha.out];exact putSel_upk 11 hb_ rfl rfl rfl),Q_HO739,fun h0_=>absurd ((hon 14 (by kernel_rfl)).symm.trans h0_) (by decide),Q_BK741,fun h0_=>absurd ((hon 3 (by kernel_rfl)).symm.trans h0_) (by decide),Q_HB,fun _ h1_=>absurd ((hon 5 (by kernel_rfl)).symm.trans h1_) (by decide),fun _ h1_=>absurd ((hon 9 (by kernel_rfl)).symm.trans h1_) (by decide),Q_HO748,Q_HA_HO748,Q_HO751,Q_HA_HO751,Q_HI736_e9,Q_BK733_e14,Q_X10_,Q_X12_⟩
      exact steps_nil
     rintro b a w31 hall ⟨v747,adz_v747,v750,adz_v750,m10_,m12_,ha,Q_HO739,Q_BK733,Q_BK741,Q_HI736,Q_HB,Q_HI736_e3,Q_HI736_e5,Q_HO748,Q_HA_HO748,Q_HO751,Q_HA_HO751,Q_HI736_e9,Q_BK733_e14,Q_X10_,Q_X12_⟩
     clear BK733 BK741 HB HI736 HO739
     have hb0_:=hall 0 (by kernel_rfl)
     have hb3_:=hall 3 (by kernel_rfl)
     have hb5_:=hall 5 (by kernel_rfl)
     have hb6_:=hall 6 (by kernel_rfl)
     have hb7_:=hall 7 (by kernel_rfl)
     have hb9_:=hall 9 (by kernel_rfl)
     have hb10_:=hall 10 (by kernel_rfl)
     have hb11_:=hall 11 (by kernel_rfl)
     have hb12_:=hall 12 (by kernel_rfl)
     have hb13_:=hall 13 (by kernel_rfl)
     have hb14_:=hall 14 (by kernel_rfl)
     have hb15_:=hall 15 (by kernel_rfl)
     have hb16_:=hall 16 (by kernel_rfl)
     subst ha
     obtain rfl:=Q_X10_ hb10_
     obtain rfl:=Q_X12_ hb12_
     simp only [putSel,hb0_,hb3_,hb5_,hb6_,hb7_,hb9_,hb10_,hb11_,hb12_,hb13_,hb14_,hb15_,hb16_,if_true,Act.put,List.setIfInBounds_toArray,List.set_cons_zero,List.set_cons_succ]
     have HO739:=am Q_HO739
     clear Q_HO739
     clear Q_BK733
     have BK741:=am Q_BK741
     clear Q_BK741
     clear Q_HI736
     have HB:=am Q_HB
     clear Q_HB
     clear Q_HI736_e3
     clear Q_HI736_e5
     have HO748:=am (Q_HO748 hb6_)
     clear Q_HO748
     have HA_HO748:=am (Q_HA_HO748 hb6_)
     clear Q_HA_HO748
     have HO751:=am (Q_HO751 hb7_)
     clear Q_HO751
     have HA_HO751:=am (Q_HA_HO751 hb7_)
     clear Q_HA_HO751
     have HI736:=am (Q_HI736_e9 hb9_)
     clear Q_HI736_e9
     have BK733:=am (Q_BK733_e14 hb14_)
     clear Q_BK733_e14
     clear hall hb0_ hb3_ hb5_ hb6_ hb7_ hb9_ hb10_ hb11_ hb12_ hb13_ hb14_ hb15_ hb16_
     obtain ⟨co32,eo32⟩:=HA_HO748.out
     clear HA_HO748
     subst eo32
     obtain ⟨co33,eo33⟩:=HA_HO751.out
     clear HA_HO751
     subst eo33
     try go_wp2
     refine bodyPost_ret (results_ctt rfl _ _ gb733 29 #[.slice Ao15 t737.length co15] (0,0) _ rfl (bk BK733) Tryz.underlying29 rfl (by kernel_rfl)) rfl ?_
     exact ⟨_,fi_,by (with_reducible repeat apply ru);exact HO739.out,m29_⟩
    ·rw [if_neg c10] at H
     exact absurd H (by simp)
   ·rw [if_neg c9] at H
    exact absurd H (by simp)
  ·rw [if_neg c8] at H
   exact absurd H (by simp)
 ·rw [if_neg c7] at H
  exact absurd H (by simp)
def spec_l3Line.f (k : Nat) (l0_0 : List (S55)) (a1 : ByteArray) : Option ((List (S55)) × ByteArray):=(spec_LinSays.f k a1).bind fun bt199=>(if bt199.2.2 = true then ((spec_l3Put.f k l0_0 bt199.1 bt199.2.1).bind fun bt203=>(if bt203.2 = 0 then (some (bt203.1,(⟨#[110,111,110,101]⟩ : ByteArray))) else ((spec_LinPort.f k 50 bt203.2).bind fun t208=>(some (bt203.1,t208))))) else (some (l0_0,a1)))
def spec_l3Stream.l0 : Nat → List ByteArray → ByteArray → Int → List (S55) → Option ((List (S55)) × ByteArray)
 | 0,_,_,_,_=>none
 | k + 1,x6,x8,x9,x210000=>if x9 < (x6.length : Int) then (if 0 ≤ x9 then ((spec_l3Line.f k x210000 (rdOf ByteArray.empty x6 x9)).bind fun bt216=>(if x8.size + bt216.2.size ≤ 9223372036854775807 then (if (x8 ++ bt216.2).size + 1 ≤ 9223372036854775807 then (spec_l3Stream.l0 k x6 ((x8 ++ bt216.2) ++ (⟨#[59]⟩ : ByteArray)) (wrap64 (x9 + 1)) bt216.1) else (none)) else (none))) else (none)) else (some (x210000,x8))
def spec_l3Stream.f (k : Nat) (l0_0 : List (S55)) (a1 : ByteArray) : Option ((List (S55)) × ByteArray):=(spec_StrLines.f k a1).bind fun bt211=>(spec_l3Stream.l0 k bt211.1 (⟨#[]⟩ : ByteArray) 0 l0_0)
end
theorem i64_xor_nat (a b : Nat) (ha : a < 2 ^ 62) (hb : b < 2 ^ 62) : Go.bits .xor .i64 (a : Int) (b : Int) = ((a ^^^ b : Nat) : Int):=by
  have hx : a ^^^ b < 2 ^ 62:=Nat.xor_lt_two_pow ha hb
  show IntKind.i64.wrap ((BitVec.ofInt 64 (a : Int) ^^^ BitVec.ofInt 64 (b : Int)).toNat : Int) = _
  have e : ∀ n : Nat,n < 2 ^ 62 → (BitVec.ofInt 64 (n : Int)).toNat = n:=by
    intro n hn
    rw [BitVec.ofInt_natCast,BitVec.toNat_ofNat];exact Nat.mod_eq_of_lt (by omega)
  rw [BitVec.toNat_xor,e a ha,e b hb]
  rw [i64_w];unfold wrap64;omega
theorem i64_xor_nonneg (a b : Int) (h1 : 0 ≤ a) (h2 : a < 2 ^ 62) (h3 : 0 ≤ b) (h4 : b < 2 ^ 62) : 0 ≤ Go.bits .xor .i64 a b:=by
  obtain ⟨A,rfl⟩:=Int.eq_ofNat_of_zero_le h1
  obtain ⟨B,rfl⟩:=Int.eq_ofNat_of_zero_le h3
  rw [i64_xor_nat A B (by omega) (by omega)]
  omega
theorem w64 (n : Int) (h : -9223372036854775808 ≤ n ∧ n ≤ 9223372036854775807) : wrap64 n = n:=by unfold wrap64;omega
def Bys (l : List Int) : Prop:=∀ x ∈ l,0 ≤ x ∧ x ≤ 255
theorem rd_bys {l : List Int} (h : Bys l) (i : Int) : 0 ≤ rd l i ∧ rd l i ≤ 255:=by
  unfold rd
  by_cases hi : i.toNat < l.length
  · have e : l.getD i.toNat 0 = l[i.toNat]:=by simp [List.getD,hi]
    rw [e];exact h _ (List.getElem_mem hi)
  · have e : l.getD i.toNat 0 = 0:=by simp [List.getD,Nat.not_lt.mp hi]
    rw [e];omega
theorem tmod_in {a n : Int} (ha : 0 ≤ a) (hn : 1 ≤ n) : 0 ≤ Int.tmod a n ∧ Int.tmod a n < n:=by
  rw [Int.tmod_eq_emod_of_nonneg ha]
  exact ⟨Int.emod_nonneg _ (by omega),Int.emod_lt_of_pos _ (by omega)⟩
theorem tdiv_in {a n : Int} (ha : 0 ≤ a) (hn : 1 ≤ n) : 0 ≤ Int.tdiv a n ∧ Int.tdiv a n ≤ a:=by
  rw [Int.tdiv_eq_ediv_of_nonneg ha]
  exact ⟨Int.ediv_nonneg ha (by omega),Int.ediv_le_self _ ha⟩
theorem pick_f {l : List Int} (hl : Bys l) (s n : Int) (k : Nat) (hs : 0 ≤ s) (hs' : s < 1000000) : ∃ v,spec_l20Rd_pick.f (k + 1) l s n = some (v,s + 1) ∧ 0 ≤ v ∧ (v < n ∨ v = 0):=by
  unfold spec_l20Rd_pick.f spec_l20Rd_pick.j0
  dsimp only
  have e1 : wrap64 (s + 1) = s + 1:=w64 _ (by omega)
  have e2 : wrap64 (s + 1 - 1) = s:=by rw [show s + 1 - 1 = s by omega];exact w64 _ (by omega)
  by_cases c : n < 1
  · exact ⟨0,by simp [c,e1],by omega,.inr rfl⟩
  · rw [if_neg c,e1]
    simp only [e2]
    by_cases c0 : (l.length : Int) = 0
    · exact ⟨0,by simp [c0],by omega,.inr rfl⟩
    · have cb : ¬ (((l.length : Int) == 0) = true):=by simpa using c0
      have cn : ¬ (n = 0):=by omega
      rw [if_neg cb]
      by_cases c1 : s < (l.length : Int)
      · have hb:=rd_bys hl s
        have hm:=tmod_in hb.1 (show 1 ≤ n by omega)
        refine ⟨_,by rw [if_pos c1,if_pos hs,if_neg cn,w64 (rd l s) (by omega)],hm.1,.inl hm.2⟩
      · have hL : 1 ≤ (l.length : Int):=by omega
        have m1:=tmod_in hs hL
        have f1 : wrap64 (s * 7) = s * 7:=w64 _ (by omega)
        have f2 : wrap64 (s * 7 + 3) = s * 7 + 3:=w64 _ (by omega)
        have m2:=tmod_in (show 0 ≤ s * 7 + 3 by omega) hL
        rw [if_neg c1,if_neg c0,if_pos m1.1,if_pos m1.2]
        simp only [f1,f2]
        rw [if_pos m2.1,if_pos m2.2,if_neg cn]
        have r1:=rd_bys hl (Int.tmod s (l.length : Int))
        have r2:=rd_bys hl (Int.tmod (s * 7 + 3) (l.length : Int))
        have d1:=tdiv_in hs hL
        generalize rd l (Int.tmod s (l.length : Int)) = u1 at *
        generalize rd l (Int.tmod (s * 7 + 3) (l.length : Int)) = u2 at *
        generalize Int.tdiv s (l.length : Int) = u3 at *
        have g1 : wrap64 u1 = u1:=w64 _ (by omega)
        have g2 : wrap64 u2 = u2:=w64 _ (by omega)
        have g3 : wrap64 u3 = u3:=w64 _ (by omega)
        have g4 : wrap64 (u1 * 131) = u1 * 131:=w64 _ (by omega)
        have g5 : wrap64 (u2 * 1117) = u2 * 1117:=w64 _ (by omega)
        have g6 : wrap64 (s * 29) = s * 29:=w64 _ (by omega)
        have g7 : wrap64 (u3 * 53) = u3 * 53:=w64 _ (by omega)
        simp only [g1,g2,g3,g4,g5,g6,g7]
        have g8 : wrap64 (u1 * 131 + u2 * 1117) = u1 * 131 + u2 * 1117:=w64 _ (by omega)
        rw [g8]
        have g9 : wrap64 (u1 * 131 + u2 * 1117 + s * 29) = u1 * 131 + u2 * 1117 + s * 29:=w64 _ (by omega)
        rw [g9]
        have g10 : wrap64 (u1 * 131 + u2 * 1117 + s * 29 + u3 * 53) = u1 * 131 + u2 * 1117 + s * 29 + u3 * 53:=w64 _ (by omega)
        rw [g10]
        have hX0 : 0 ≤ u1 * 131 + u2 * 1117 + s * 29 + u3 * 53:=by omega
        have hX1 : u1 * 131 + u2 * 1117 + s * 29 + u3 * 53 < 1000000000:=by omega
        generalize u1 * 131 + u2 * 1117 + s * 29 + u3 * 53 = X at *
        have d2:=tdiv_in hX0 (show (1:Int) ≤ 64 by omega)
        have g11 : wrap64 (Int.tdiv X 64) = Int.tdiv X 64:=w64 _ (by omega)
        rw [g11]
        have hz:=i64_xor_nonneg X (Int.tdiv X 64) hX0 (by omega) d2.1 (by omega)
        have hm:=tmod_in hz (show 1 ≤ n by omega)
        exact ⟨_,rfl,hm.1,.inl hm.2⟩
theorem open_f (l : List Int) (hl : Bys l) : ∃ l',spec_l20Open.f l = some (l',0) ∧ Bys l':=by
  unfold spec_l20Open.f
  by_cases c : (l.length : Int) > 2000
  · exact ⟨l.take 2000,by rw [if_pos c,if_pos (by omega)],fun x h=>hl x (List.mem_of_mem_take h)⟩
  · exact ⟨l,by rw [if_neg c],hl⟩
def Sm (n : Int) : Prop:=-10 ≤ n ∧ n ≤ 1200
end Go.Proofs.YtakfmcpjnkagmaaGreatDoor.P
namespace Go.Proofs.YtakfmcpjnkagmaaGreatDoor.P
open Go.RowKit Go.Proofs.YtakfmcpjnkagmaaGreatDoorUPosAll.PrintWords Go.Proofs.YtakfmcpjnkagmaaGreatDoorUPosAll.PrintLast Go.Proofs.YtakfmcpjnkagmaaGreatDoorUPosAll.PrintMore
set_option linter.unusedVariables false
set_option linter.unusedSimpArgs false
def Ans {α : Type} (f : Nat → Option α) (P : α → Prop) : Prop:=∃ K v,P v ∧ ∀ k,K ≤ k → f k = some v
namespace Ans
variable {α β : Type} {f g : Nat → Option α} {P Q : α → Prop}
theorem of {v : α} (h : ∀ k,f k = some v) (p : P v) : Ans f P:=⟨0,v,p,fun k _=>h k⟩
theorem pure {v : α} (p : P v) : Ans (fun _=>some v) P:=⟨0,v,p,fun k _=>rfl⟩
theorem mono (h : Ans f P) (hq : ∀ v,P v → Q v) : Ans f Q:=by obtain ⟨K,v,p,e⟩:=h;exact ⟨K,v,hq v p,e⟩
theorem succ (h : Ans (fun k=>f (k + 1)) P) : Ans f P:=by
  obtain ⟨K,v,p,e⟩:=h
  refine ⟨K + 1,v,p,fun k hk=>?_⟩
  obtain ⟨k',rfl⟩ : ∃ k',k = k' + 1:=⟨k - 1,by omega⟩
  exact e k' (by omega)
theorem bind {a : Nat → Option β} {R : β → Prop} {b : Nat → β → Option α} (h : Ans a R) (hb : ∀ v,R v → Ans (fun k=>b k v) P) : Ans (fun k=>(a k).bind (b k)) P:=by
  obtain ⟨K,v,p,e⟩:=h
  obtain ⟨K',u,q,e'⟩:=hb v p
  exact ⟨max K K',u,q,fun k hk=>by show (a k).bind (b k) = some u;rw [e k (by omega)];exact e' k (by omega)⟩
theorem bsome {v : β} {b : Nat → β → Option α} (h : Ans (fun k=>b k v) P) : Ans (fun k=>(some v).bind (b k)) P:=h
theorem congr (h : Ans g P) (e : ∀ k,f k = g k) : Ans f P:=by obtain ⟨K,v,p,e'⟩:=h;exact ⟨K,v,p,fun k hk=>(e k).trans (e' k hk)⟩
theorem got (h : Ans f P) : ∃ k v,P v ∧ f k = some v:=by obtain ⟨K,v,p,e⟩:=h;exact ⟨K,v,p,e K (Nat.le_refl _)⟩
theorem pos {c : Prop} [Decidable c] (h : c) (ht : Ans f P) : Ans (fun k=>if c then f k else g k) P:=congr ht (fun k=>if_pos h)
theorem neg {c : Prop} [Decidable c] (h : ¬ c) (ht : Ans g P) : Ans (fun k=>if c then f k else g k) P:=congr ht (fun k=>if_neg h)
theorem ite {c : Prop} [Decidable c] (ht : c → Ans f P) (he : ¬ c → Ans g P) : Ans (fun k=>if c then f k else g k) P:=by
  by_cases h : c
  · exact pos h (ht h)
  · exact neg h (he h)
end Ans
def At (n s : Int) : Prop:=0 ≤ s ∧ s ≤ n
theorem pick_a {l : List Int} (hl : Bys l) {s B : Int} (hs : At B s) (hB : B < 900000) (n : Int) : Ans (fun k=>spec_l20Rd_pick.f k l s n) (fun r=>At (B + 1) r.2 ∧ 0 ≤ r.1 ∧ (r.1 < n ∨ r.1 = 0)):=by
  obtain ⟨h0,h1⟩:=hs
  refine Ans.succ ?_
  obtain ⟨v,h,p⟩:=pick_f hl s n 0 h0 (by omega)
  refine Ans.of (v:=(v,s + 1)) (fun k=>?_) ⟨⟨by omega,by first | omega | (dsimp only;omega)⟩,p⟩
  obtain ⟨v',h',_⟩:=pick_f hl s n k h0 (by omega)
  have e : spec_l20Rd_pick.f (k + 1) l s n = spec_l20Rd_pick.f (0 + 1) l s n:=by
    unfold spec_l20Rd_pick.f spec_l20Rd_pick.j0
    rfl
  rw [e,h]
theorem odd_a {l : List Int} (hl : Bys l) {s B : Int} (hs : At B s) (hB : B < 900000) (n : Int) : Ans (fun k=>spec_l20Rd_odd.f k l s n) (fun r=>At (B + 1) r.2):=by
  unfold spec_l20Rd_odd.f
  refine Ans.ite (fun _=>?_) (fun _=>Ans.pure ⟨hs.1,by have:=hs.2;dsimp only;omega⟩)
  refine Ans.bind (pick_a hl hs hB n) ?_
  rintro ⟨v,s'⟩ ⟨h,_⟩
  exact Ans.pure h
theorem at_le {B B' s : Int} (h : At B s) (hb : B ≤ B') : At B' s:=⟨h.1,by have:=h.2;omega⟩
theorem sm_rd {xs : List Int} (h : ∀ x ∈ xs,Sm x) (i : Int) : Sm (rd xs i):=by
  unfold rd
  by_cases hi : i.toNat < xs.length
  · have e : xs.getD i.toNat 0 = xs[i.toNat]:=by simp [List.getD,hi]
    rw [e];exact h _ (List.getElem_mem hi)
  · have e : xs.getD i.toNat 0 = 0:=by simp [List.getD,Nat.not_lt.mp hi]
    rw [e];unfold Sm;omega
end Go.Proofs.YtakfmcpjnkagmaaGreatDoor.P
namespace Go.Proofs.YtakfmcpjnkagmaaGreatDoor.P
open Go.Proofs.YtakfmcpjnkagmaaGreatDoorUPosAll.PrintLast Go.Proofs.YtakfmcpjnkagmaaGreatDoorUPosAll.PrintMore Go.Proofs.YtakfmcpjnkagmaaGreatDoorUPosAll.PrintWords Go.RowKit
set_option linter.unusedVariables false
set_option linter.unusedSimpArgs false
theorem bys_of {l : List Int} (hw : ∀ x ∈ l,(Lit.int .u8 x).wf = true) : Bys l:=fun x hx=>by
  have:=hw x hx
  simp [Lit.wf,IntKind.min,IntKind.max,IntKind.signed,IntKind.bits] at this
  omega
theorem l1In_f (n lo hi : Int) : spec_l1In.f n lo hi = some (inB n lo hi):=by
  unfold spec_l1In.f inB
  by_cases h : lo ≤ n <;> simp [h]
theorem haOk_f : laws_haOk.f = some true:=by
  unfold laws_haOk.f impl_LinOk.f
  rfl
theorem wi (i : Nat) (h : i ≤ 100000000) : wrap64 ((i : Int) + 1) = ((i + 1 : Nat) : Int):=by rw [w64 _ (by omega)];push_cast;rfl
theorem specEndInside_f (a p : Int) : spec_EndInside.f a p = some (endIn a p):=by
  unfold spec_EndInside.f endIn
  simp only [l1In_f,Option.bind_some]
  cases inB a 1 9 <;> simp
theorem specEndOutside_f (a p : Int) : spec_EndOutside.f a p = some (endOut a p):=by
  unfold spec_EndOutside.f endOut
  simp only [l1In_f,Option.bind_some]
  cases inB a 100 109 <;> simp
theorem fnd_nil (a b : Int) : fnd [] a b = none:=rfl
theorem fnd_cons (x : S55) (r : List S55) (a b : Int) : fnd (x :: r) a b = if x.f0 = a ∧ x.f1 = b then some 0 else (fnd r a b).map (· + 1):=by
  unfold fnd
  rw [List.findIdx?_cons]
  by_cases h : x.f0 = a ∧ x.f1 = b
  · simp [h]
  · rw [if_neg h]
    have : (x.f0 == a && x.f1 == b) = false:=by
      rw [Bool.eq_false_iff]
      simpa using h
    simp [this]
theorem fnd_lt {l : List S55} {a b : Int} {i : Nat} (h : fnd l a b = some i) : i < l.length ∧ ∀ hi : i < l.length,l[i].f0 = a ∧ l[i].f1 = b:=by
  unfold fnd at h
  rw [List.findIdx?_eq_some_iff_getElem] at h
  obtain ⟨h1,h2,_⟩:=h
  exact ⟨h1,fun _=>by simpa using h2⟩
theorem fnd_app (l r : List S55) (a b : Int) : fnd (l ++ r) a b = (match fnd l a b with | some i=>some i | none=>(fnd r a b).map (· + l.length)):=by
  unfold fnd
  rw [List.findIdx?_append]
  cases l.findIdx? (fun x=>x.f0 == a && x.f1 == b) <;> simp
def sign (o : Option Nat) : Int:=match o with | none=>-1 | some i=>(i : Int)
theorem rd29_take {l : List S55} {i : Nat} (h : i < l.length) : l.take (i + 1) = l.take i ++ [rd_T55 l (i : Int)]:=by
  rw [rd29_get h]
  exact List.take_succ_eq_append_getElem h
theorem l3Find_a (l : List S55) (hl : l.length ≤ 2000000) (a b : Int) : Ans (fun k=>spec_l3Find.f k l a b) (fun r=>r = sign (fnd l a b)):=by
  have L : ∀ (m i : Nat),i + m = l.length → fnd (l.take i) a b = none → Ans (fun k=>spec_l3Find.l0 k (i : Int) l a b) (fun r=>r = sign (fnd l a b)):=by
    intro m
    induction m with
    | zero=>
      intro i hi hn
      refine Ans.succ ?_
      unfold spec_l3Find.l0
      rw [List.take_of_length_le (by omega)] at hn
      exact Ans.neg (by omega) (Ans.pure (by rw [hn];rfl))
    | succ m ih=>
      intro i hi hn
      refine Ans.succ ?_
      unfold spec_l3Find.l0
      refine Ans.pos (by omega) (Ans.pos (by omega) ?_)
      have ht : fnd (l.take (i + 1)) a b = if (rd_T55 l (i : Int)).f0 = a ∧ (rd_T55 l (i : Int)).f1 = b then some i else none:=by
        rw [rd29_take (by omega : i < l.length),fnd_app,hn,fnd_cons]
        have : (l.take i).length = i:=by rw [List.length_take];omega
        dsimp only
        by_cases hc : (rd_T55 l (i : Int)).f0 = a ∧ (rd_T55 l (i : Int)).f1 = b <;> simp [hc,this,fnd_nil]
      refine Ans.ite (fun c=>Ans.pure ?_) (fun c=>?_)
      · have c' : (rd_T55 l (i : Int)).f0 = a ∧ (rd_T55 l (i : Int)).f1 = b:=by simpa using c
        rw [if_pos c'] at ht
        have:=List.take_append_drop (i + 1) l
        rw [← this,fnd_app,ht]
        rfl
      · have c' : ¬ ((rd_T55 l (i : Int)).f0 = a ∧ (rd_T55 l (i : Int)).f1 = b):=by simpa using c
        rw [if_neg c'] at ht
        rw [wi i (by omega)]
        exact ih (i + 1) (by omega) ht
  exact L l.length 0 (by omega) rfl
theorem contains_a (l : List S55) (hl : l.length ≤ 2000000) (a b : Int) : Ans (fun k=>impl_EndPoint_81.f k l a b) (fun r=>r = (fnd l a b).isSome):=by
  unfold impl_EndPoint_81.f impl_EndPoint_101.f
  have L : ∀ (m i : Nat),i + m = l.length → fnd (l.take i) a b = none → Ans (fun k=>impl_EndPoint_101.l0 k l (l.length : Int) (i : Int) a b) (fun r=>r = sign (fnd l a b)):=by
    intro m
    induction m with
    | zero=>
      intro i hi hn
      refine Ans.succ ?_
      unfold impl_EndPoint_101.l0
      rw [List.take_of_length_le (by omega)] at hn
      exact Ans.neg (by omega) (Ans.pure (by rw [hn];rfl))
    | succ m ih=>
      intro i hi hn
      refine Ans.succ ?_
      unfold impl_EndPoint_101.l0
      refine Ans.pos (by omega) (Ans.pos (by omega) (Ans.pos (by omega) ?_))
      have ht : fnd (l.take (i + 1)) a b = if (rd_T55 l (i : Int)).f0 = a ∧ (rd_T55 l (i : Int)).f1 = b then some i else none:=by
        rw [rd29_take (by omega : i < l.length),fnd_app,hn,fnd_cons]
        have : (l.take i).length = i:=by rw [List.length_take];omega
        dsimp only
        by_cases hc : (rd_T55 l (i : Int)).f0 = a ∧ (rd_T55 l (i : Int)).f1 = b <;> simp [hc,this,fnd_nil]
      refine Ans.ite (fun c=>Ans.pure ?_) (fun c=>?_)
      · have c' : (rd_T55 l (i : Int)).f0 = a ∧ (rd_T55 l (i : Int)).f1 = b:=by
          simp only [Bool.and_eq_true,beq_iff_eq] at c
          exact ⟨c.1.symm,c.2.symm⟩
        rw [if_pos c'] at ht
        have:=List.take_append_drop (i + 1) l
        rw [← this,fnd_app,ht]
        rfl
      · have c' : ¬ ((rd_T55 l (i : Int)).f0 = a ∧ (rd_T55 l (i : Int)).f1 = b):=by
          rintro ⟨h1,h2⟩
          exact c (by rw [h1,h2];simp)
        rw [if_neg c'] at ht
        rw [wi i (by omega)]
        exact ih (i + 1) (by omega) ht
  refine Ans.bind (L l.length 0 (by omega) rfl) ?_
  rintro _ rfl
  refine Ans.pure ?_
  cases fnd l a b with
  | none=>rfl
  | some i=>simp [sign]
def goodFrom (l : List S55) (i : Nat) : Bool:=(List.range' i (l.length - i)).all fun j=>endIn (rd_T55 l (j : Int)).f0 (rd_T55 l (j : Int)).f1 && !(fnd (l.take j) (rd_T55 l (j : Int)).f0 (rd_T55 l (j : Int)).f1).isSome
def okT (l : List S55) : Bool:=decide ((l.length : Int) ≤ 6) && goodFrom l 0
theorem good_end {l : List S55} {i : Nat} (h : l.length ≤ i) : goodFrom l i = true:=by
  unfold goodFrom
  rw [Nat.sub_eq_zero_of_le h]
  rfl
theorem good_step {l : List S55} {i : Nat} (h : i < l.length) : goodFrom l i = (endIn (rd_T55 l (i : Int)).f0 (rd_T55 l (i : Int)).f1 && !(fnd (l.take i) (rd_T55 l (i : Int)).f0 (rd_T55 l (i : Int)).f1).isSome && goodFrom l (i + 1)):=by
  unfold goodFrom
  obtain ⟨d,hd⟩ : ∃ d,l.length - i = d + 1:=⟨l.length - i - 1,by omega⟩
  have hd' : l.length - (i + 1) = d:=by omega
  rw [hd,hd',List.range'_succ,List.all_cons]
theorem specMapOk_a (l : List S55) (hl : l.length ≤ 2000000) : Ans (fun k=>spec_MapOk.f k l) (fun r=>r = okT l):=by
  unfold spec_MapOk.f okT
  refine Ans.ite (fun c=>Ans.pure ?_) (fun c=>?_)
  · have : ¬ ((l.length : Int) ≤ 6):=by omega
    simp [this]
  · have e : decide ((l.length : Int) ≤ 6) = true:=by simp;omega
    rw [e]
    have L : ∀ (m i : Nat),i + m = l.length → Ans (fun k=>spec_MapOk.l0 k (i : Int) l) (fun r=>r = goodFrom l i):=by
      intro m
      induction m with
      | zero=>
        intro i hi
        refine Ans.succ ?_
        unfold spec_MapOk.l0
        exact Ans.neg (by omega) (Ans.pure (good_end (by omega)).symm)
      | succ m ih=>
        intro i hi
        refine Ans.succ ?_
        unfold spec_MapOk.l0
        refine Ans.pos (by omega) (Ans.pos (by omega) ?_)
        rw [good_step (by omega : i < l.length)]
        simp only [specEndInside_f,Option.bind_some]
        have e1 : ((i : Int)).toNat = i:=by omega
        cases h1 : endIn (rd_T55 l (i : Int)).f0 (rd_T55 l (i : Int)).f1
        · exact Ans.neg (by simp) (Ans.pure (by simp))
        refine Ans.pos rfl (Ans.pos (by omega) ?_)
        rw [e1,wi i (by omega)]
        refine Ans.bind (l3Find_a (l.take i) (by rw [List.length_take];omega) _ _) ?_
        rintro _ rfl
        cases hf : fnd (l.take i) (rd_T55 l (i : Int)).f0 (rd_T55 l (i : Int)).f1 with
        | none=>
          refine Ans.neg (by simp [sign]) ?_
          simpa using ih (i + 1) (by omega)
        | some j=>exact Ans.pos (by simp [sign]) (Ans.pure (by simp))
    simpa using L l.length 0 (by omega)
theorem implMapOk_a (l : List S55) (hl : l.length ≤ 2000000) : Ans (fun k=>impl_MapOk.f k l) (fun r=>r = okT l):=by
  unfold impl_MapOk.f
  have L : ∀ (m i : Nat),i + m = l.length → Ans (fun k=>impl_MapOk.l0 k l (l.length : Int) (i : Int) l) (fun r=>r = (decide ((l.length : Int) ≤ 6) && goodFrom l i)):=by
    intro m
    induction m with
    | zero=>
      intro i hi
      refine Ans.succ ?_
      unfold impl_MapOk.l0
      exact Ans.neg (by omega) (Ans.pure (by rw [good_end (by omega)];simp))
    | succ m ih=>
      intro i hi
      refine Ans.succ ?_
      unfold impl_MapOk.l0
      refine Ans.pos (by omega) (Ans.pos (by omega) (Ans.pos (by omega) ?_))
      rw [good_step (by omega : i < l.length)]
      simp only [EndInside_f,Option.bind_some]
      have e1 : ((i : Int)).toNat = i:=by omega
      cases h1 : endIn (rd_T55 l (i : Int)).f0 (rd_T55 l (i : Int)).f1
      · exact Ans.neg (by simp) (Ans.pure (by simp))
      refine Ans.pos rfl (Ans.pos (by omega) ?_)
      rw [e1,wi i (by omega)]
      refine Ans.bind (contains_a (l.take i) (by rw [List.length_take];omega) _ _) ?_
      rintro _ rfl
      cases hf : fnd (l.take i) (rd_T55 l (i : Int)).f0 (rd_T55 l (i : Int)).f1 with
      | none=>
        refine Ans.neg (by simp) ?_
        simpa using ih (i + 1) (by omega)
      | some j=>exact Ans.pos (by simp) (Ans.pure (by simp))
  exact L l.length 0 (by omega)
def putV (l : List S55) (a b : Int) : List S55 × Int:=if portV l a b ≠ 0 then (l,portV l a b) else if l.length = 6 then (l,0) else (l ++ [⟨a,b⟩],500 + l.length)
def tabPut (l : List S55) (a b : Int) : List S55 × Int:=if okT l && endIn a b then putV l a b else ([],0)
theorem portV_sign (l : List S55) (a b : Int) : portV l a b = if sign (fnd l a b) < 0 then 0 else 500 + sign (fnd l a b):=by
  unfold portV sign
  cases fnd l a b with
  | none=>simp
  | some i=>
    have : ¬ ((i : Int) < 0):=by omega
    simp [this]
theorem sign_lt {l : List S55} (hl : l.length ≤ 2000000) (a b : Int) : -1 ≤ sign (fnd l a b) ∧ sign (fnd l a b) < 2000000:=by
  cases h : fnd l a b with
  | none=>simp [sign]
  | some i=>have:=(fnd_lt h).1;simp only [sign];omega
theorem portV_range {l : List S55} (hl : l.length ≤ 2000000) (a b : Int) : portV l a b = 0 ∨ (500 ≤ portV l a b ∧ portV l a b < 500 + l.length):=by
  unfold portV
  cases h : fnd l a b with
  | none=>exact .inl rfl
  | some i=>have:=(fnd_lt h).1;dsimp only;omega
theorem specMapPort_a (l : List S55) (hl : l.length ≤ 2000000) (a b : Int) : Ans (fun k=>spec_MapPort.f k l a b) (fun r=>r = portV l a b):=by
  unfold spec_MapPort.f
  refine Ans.bind (l3Find_a l hl a b) ?_
  rintro _ rfl
  have hs:=sign_lt hl a b
  rw [portV_sign]
  refine Ans.ite (fun c=>Ans.pure (by rw [if_pos c])) (fun c=>Ans.pure ?_)
  rw [if_neg c,w64 _ (by omega)]
theorem okT_le {l : List S55} (h : okT l = true) : l.length ≤ 6:=by
  simp only [okT,Bool.and_eq_true,decide_eq_true_eq] at h
  omega
theorem good_all {l : List S55} (h : goodFrom l 0 = true) : ∀ x ∈ l,endIn x.f0 x.f1 = true:=by
  intro x hx
  obtain ⟨j,hj,rfl⟩:=List.getElem_of_mem hx
  unfold goodFrom at h
  have:=List.all_eq_true.mp h j (by simp [List.mem_range'];omega)
  rw [rd29_get hj] at this
  simp only [Bool.and_eq_true] at this
  exact this.1
theorem okT_all {l : List S55} (h : okT l = true) : ∀ x ∈ l,endIn x.f0 x.f1 = true:=by
  simp only [okT,Bool.and_eq_true] at h
  exact good_all h.2
theorem endIn_wf {a b : Int} (h : endIn a b = true) : wfB a = true ∧ wfB b = true:=by
  simp only [endIn,inB,Bool.and_eq_true,decide_eq_true_eq] at h
  unfold wfB
  exact ⟨(i64_iff a).mpr (by omega),(i64_iff b).mpr (by omega)⟩
theorem all_wf {l : List S55} (h : ∀ x ∈ l,endIn x.f0 x.f1 = true) : l.all wfE = true:=by
  rw [List.all_eq_true]
  intro x hx
  have:=endIn_wf (h x hx)
  simp [wfE,this.1,this.2]
theorem implMapPort_f {l : List S55} (hl : l.length ≤ 1000) (h : ∀ x ∈ l,endIn x.f0 x.f1 = true) {a b : Int} (he : endIn a b = true) : impl_MapPort.f l a b = some (portV l a b):=by
  unfold impl_MapPort.f
  have:=endIn_wf he
  rw [if_pos ⟨by omega,all_wf h,this.1,this.2⟩]
theorem l3Put_a (l : List S55) (hl : l.length ≤ 2000000) (a b : Int) : Ans (fun k=>spec_l3Put.f k l a b) (fun r=>r = putV l a b):=by
  unfold spec_l3Put.f
  refine Ans.bind (specMapPort_a l hl a b) ?_
  rintro _ rfl
  have hr:=portV_range hl a b
  refine Ans.ite (fun c1=>Ans.pure ?_) (fun c1=>?_)
  · have v0 : putV l a b = (l,portV l a b):=by unfold putV;rw [if_pos (by omega)]
    rw [v0]
  · have e0 : portV l a b = 0:=by omega
    refine Ans.ite (fun c2=>Ans.pure ?_) (fun c2=>?_)
    · have v0 : putV l a b = (l,0):=by unfold putV;rw [if_neg (by simp [e0]),if_pos (by omega)]
      rw [v0]
    · have v0 : putV l a b = (l ++ [⟨a,b⟩],(500 + l.length : Int)):=by unfold putV;rw [if_neg (by simp [e0]),if_neg (by omega)]
      rw [v0]
      refine Ans.bsome (Ans.pos (by simp;omega) (Ans.bsome (Ans.bsome (Ans.pos (by simp;omega) (Ans.bsome (Ans.pure ?_))))))
      have e1 : (([] ++ l ++ [⟨a,b⟩] : List S55).length : Int) = l.length + 1:=by simp
      rw [e1,w64 (500 + ((l.length : Int) + 1)) (by omega),w64 _ (by omega)]
      simp
      omega
theorem implPut_f {l : List S55} (c : okT l = true) {a b : Int} (he : endIn a b = true) : impl_MapTab_put.f l a b = some (putV l a b):=by
  have hl6:=okT_le c
  have hr:=portV_range (l:=l) (by omega) a b
  unfold impl_MapTab_put.f impl_MapTab_copied.f impl_EndPoint_103.f impl_EndPoint_102.f
  rw [if_pos (by omega),Option.bind_some,Option.bind_some,Option.bind_some,implMapPort_f (by omega) (okT_all c) he,Option.bind_some]
  unfold putV
  by_cases c1 : portV l a b = 0
  · by_cases c2 : (l.length : Int) ≥ 6
    · have c2' : l.length = 6:=by omega
      simp [c1,c2']
    · have c2' : ¬ l.length = 6:=by omega
      have c3 : l.length < 8796093022208:=by omega
      have c4 : ¬ (6 ≤ l.length):=by omega
      have e : wrap64 (500 + (l.length : Int)) = 500 + l.length:=w64 _ (by omega)
      simp [c1,c2',c3,c4,e]
      omega
  · simp [c1]
theorem in_a {l : List Int} (hl : Bys l) {s B : Int} (hs : At B s) (hB : B < 800000) : Ans (fun k=>spec_l20In.f k l s) (fun r=>At (B + 3) r.2.2 ∧ Sm r.1 ∧ Sm r.2.1):=by
  unfold spec_l20In.f
  refine Ans.bind (pick_a hl hs (by omega) 4) ?_
  rintro ⟨v1,s1⟩ ⟨h1,p1⟩
  refine Ans.bind (pick_a hl h1 (by omega) 40) ?_
  rintro ⟨v2,s2⟩ ⟨h2,p2⟩
  dsimp only at *
  simp only [Option.bind_some]
  refine Ans.bind (pick_a hl h2 (by omega) 5) ?_
  rintro ⟨v3,s3⟩ ⟨h3,p3⟩
  dsimp only at *
  refine Ans.pos p3.1 (Ans.pos (by simp;omega) (Ans.pure ⟨at_le h3 (by omega),?_,sm_rd ?_ _⟩))
  · rw [w64 _ (by omega)];unfold Sm;omega
  · intro x hx
    have e : wrap64 (1 + v2) = 1 + v2:=w64 _ (by omega)
    rw [e] at hx
    simp at hx
    unfold Sm
    omega
theorem out_a {l : List Int} (hl : Bys l) {s B : Int} (hs : At B s) (hB : B < 800000) : Ans (fun k=>spec_l20Out.f k l s) (fun r=>At (B + 2) r.2.2 ∧ Sm r.1 ∧ Sm r.2.1):=by
  unfold spec_l20Out.f
  refine Ans.bind (pick_a hl hs (by omega) 3) ?_
  rintro ⟨v1,s1⟩ ⟨h1,p1⟩
  simp only [Option.bind_some]
  dsimp only at *
  refine Ans.bind (pick_a hl h1 (by omega) 4) ?_
  rintro ⟨v3,s3⟩ ⟨h3,p3⟩
  dsimp only at *
  refine Ans.pos p3.1 (Ans.pos (by simp;omega) (Ans.pure ⟨at_le h3 (by omega),?_,sm_rd ?_ _⟩))
  · rw [w64 _ (by omega)];unfold Sm;omega
  · intro x hx
    simp at hx
    unfold Sm
    omega
theorem specMapPut_a (l : List S55) (hl : l.length ≤ 2000000) (a b : Int) : Ans (fun k=>spec_MapPut.f k l a b) (fun r=>r = tabPut l a b):=by
  unfold spec_MapPut.f tabPut
  refine Ans.bind (specMapOk_a l hl) ?_
  rintro _ rfl
  simp only [specEndInside_f,Option.bind_some]
  have J0 : Ans (fun k=>spec_MapPut.j0 k true l a b) (fun r=>r = ([],0)):=by
    refine Ans.succ ?_
    unfold spec_MapPut.j0
    exact Ans.pos rfl (Ans.pure rfl)
  refine Ans.ite (fun c=>?_) (fun c=>by simpa [c] using J0)
  rw [c]
  cases he : endIn a b
  · simpa using J0
  have hl6:=okT_le c
  refine Ans.succ ?_
  unfold spec_MapPut.j0
  refine Ans.neg (by simp) ?_
  have hc : spec_l3Copy.f l = some l:=by
    unfold spec_l3Copy.f
    rw [Option.bind_some,if_pos (by simp;omega)]
    rfl
  rw [hc]
  refine Ans.bsome ?_
  refine Ans.bind (R:=fun r=>r = putV l a b) ?_ (fun v hv=>by subst hv;exact Ans.pure (by simp))
  exact l3Put_a l hl a b
instance decS29 : DecidableEq S55:=fun a b=>decidable_of_iff (a.f0 = b.f0 ∧ a.f1 = b.f1) (by cases a;cases b;simp)
theorem tabPut_len (l : List S55) (a b : Int) : (tabPut l a b).1.length ≤ l.length + 1:=by
  unfold tabPut putV
  split
  · split
    · simp
    · split <;> simp
  · simp
theorem table_a {l : List Int} (hl : Bys l) {s B : Int} (hs : At B s) (hB : B < 500000) (n : Int) : Ans (fun k=>spec_l20Table.f k l s n) (fun r=>At (B + 200) r.2 ∧ r.1.length ≤ 20):=by
  have L1 : ∀ (m : Nat) (x : List S55) (s B : Int),At B s → x.length + m = 20 → Ans (fun k=>spec_l20Table.l1 k l s x) (fun r=>At B r.2 ∧ r.1.length ≤ 20):=by
    intro m
    induction m with
    | zero=>
      intro x s B hs hm
      refine Ans.succ ?_
      unfold spec_l20Table.l1
      exact Ans.neg (by omega) (Ans.pure ⟨hs,by dsimp only;omega⟩)
    | succ m ih=>
      intro x s B hs hm
      refine Ans.succ ?_
      unfold spec_l20Table.l1
      refine Ans.ite (fun c=>Ans.pos (by omega) (ih _ s B hs (by simp;omega))) (fun c=>Ans.pure ⟨hs,by dsimp only;omega⟩)
  have L0 : ∀ (m : Nat) (x : List S55) (x6 s B : Int),At B s → B + 3 * (m : Int) < 600000 → x.length + m ≤ 10 → x6 ≤ m → m ≤ 10 → Ans (fun k=>spec_l20Table.l0 k n x6 l s x) (fun r=>At (B + 3 * m + 10) r.2 ∧ r.1.length ≤ 20):=by
    intro m
    have J : ∀ (x : List S55) (s B : Int),At B s → B < 700000 → x.length ≤ 10 → Ans (fun k=>(spec_l20Rd_odd.f k l s n).bind fun bt566=>(if bt566.1 = true then ((spec_l20Rd_pick.f k l bt566.2 3).bind fun bt568=>(if bt568.1 = 0 then ((spec_l20Out.f k l bt568.2).bind fun bt570=>(if x.length < 8796093022208 then (some ((x ++ [(⟨bt570.1,bt570.2.1⟩ : S55)]),bt570.2.2)) else (none))) else (if bt568.1 = 1 then (if x.length < 8796093022208 then ((some (x ++ [(⟨9,9⟩ : S55)] : List (S55))).bind fun y576=>(if y576.length < 8796093022208 then (some ((y576 ++ [(⟨9,9⟩ : S55)]),bt568.2)) else (none))) else (none)) else (spec_l20Table.l1 k l bt568.2 x)))) else (some (x,bt566.2)))) (fun r=>At (B + 10) r.2 ∧ r.1.length ≤ 20):=by
      intro x s B hs hB hx
      refine Ans.bind (odd_a hl hs (by omega) n) ?_
      rintro ⟨b,s1⟩ h1
      dsimp only at *
      refine Ans.ite (fun _=>?_) (fun _=>Ans.pure ⟨at_le h1 (by omega),by dsimp only;omega⟩)
      refine Ans.bind (pick_a hl h1 (by omega) 3) ?_
      rintro ⟨v2,s2⟩ ⟨h2,p2⟩
      dsimp only at *
      refine Ans.ite (fun _=>?_) (fun _=>Ans.ite (fun _=>?_) (fun _=>?_))
      · refine Ans.bind (out_a hl h2 (by omega)) ?_
        rintro ⟨a1,a2,s3⟩ ⟨h3,_⟩
        dsimp only at *
        exact Ans.pos (by omega) (Ans.pure ⟨at_le h3 (by omega),by simp;omega⟩)
      · exact Ans.pos (by omega) (Ans.bsome (Ans.pos (by simp;omega) (Ans.pure ⟨at_le h2 (by omega),by simp;omega⟩)))
      · refine (L1 (20 - x.length) x s2 _ h2 (by omega)).mono ?_
        rintro r ⟨a,b⟩
        exact ⟨at_le a (by omega),b⟩
    induction m with
    | zero=>
      intro x x6 s B hs hB hm hx hq
      refine Ans.succ ?_
      unfold spec_l20Table.l0
      refine Ans.neg (by omega) ((J x s B hs (by omega) (by omega)).mono ?_)
      rintro r ⟨a,b⟩
      exact ⟨at_le a (by omega),b⟩
    | succ m ih=>
      intro x x6 s B hs hB hm hx hq
      refine Ans.succ ?_
      unfold spec_l20Table.l0
      refine Ans.ite (fun c=>?_) (fun c=>?_)
      · refine Ans.bind (in_a hl hs (by omega)) ?_
        rintro ⟨a1,a2,s1⟩ ⟨h1,_⟩
        dsimp only at *
        refine Ans.bind (specMapPut_a x (by omega) a1 a2) ?_
        rintro _ rfl
        have hp:=tabPut_len x a1 a2
        have e : wrap64 (x6 - 1) = x6 - 1:=w64 _ (by omega)
        rw [e]
        refine (ih _ _ s1 _ h1 (by omega) (by omega) (by omega) (by omega)).mono ?_
        rintro r ⟨a,b⟩
        exact ⟨at_le a (by push_cast;omega),b⟩
      · refine (J x s B hs (by omega) (by omega)).mono ?_
        rintro r ⟨a,b⟩
        exact ⟨at_le a (by omega),b⟩
  unfold spec_l20Table.f
  refine Ans.bind (pick_a hl hs (by omega) 8) ?_
  rintro ⟨v1,s1⟩ ⟨h1,p1⟩
  dsimp only at *
  refine (L0 10 [] v1 s1 _ h1 (by omega) (by simp) (by omega) (by omega)).mono ?_
  rintro r ⟨a,b⟩
  exact ⟨at_le a (by omega),b⟩
theorem fnd_none {l : List S55} {a b : Int} (h : portV l a b = 0) : fnd l a b = none:=by
  unfold portV at h
  cases hf : fnd l a b with
  | none=>rfl
  | some i=>rw [hf] at h;simp at h;omega
theorem ok_snoc {l : List S55} {a b : Int} (h : okT l = true) (hl : l.length < 6) (he : endIn a b = true) (hn : fnd l a b = none) : okT (l ++ [⟨a,b⟩]) = true:=by
  unfold okT at *
  simp only [Bool.and_eq_true,decide_eq_true_eq] at *
  refine ⟨by simp;omega,?_⟩
  unfold goodFrom
  rw [List.all_eq_true]
  intro j hj
  simp [List.mem_range'] at hj
  by_cases hjl : j < l.length
  · have h2:=h.2
    unfold goodFrom at h2
    have:=List.all_eq_true.mp h2 j (by simp [List.mem_range'];omega)
    have e1 : rd_T55 (l ++ [⟨a,b⟩]) (j : Int) = rd_T55 l (j : Int):=by
      rw [rd29_get (by simp;omega),rd29_get hjl,List.getElem_append_left]
    have e2 : List.take j (l ++ [(⟨a,b⟩ : S55)]) = l.take j:=by rw [List.take_append_of_le_length (by omega)]
    rw [e1,e2]
    exact this
  · have hjj : j = l.length:=by omega
    subst hjj
    have e1 : rd_T55 (l ++ [⟨a,b⟩]) (l.length : Int) = ⟨a,b⟩:=by
      rw [rd29_get (by simp)]
      simp
    rw [e1,List.take_left]
    simp [he,hn]
theorem put_ok {l : List S55} {a b : Int} (h : okT l = true) (he : endIn a b = true) : okT (putV l a b).1 = true:=by
  have:=okT_le h
  unfold putV
  by_cases c1 : portV l a b = 0
  · rw [if_neg (by simp [c1])]
    by_cases c2 : l.length = 6
    · rw [if_pos c2];exact h
    · rw [if_neg c2];exact ok_snoc h (by omega) he (fnd_none c1)
  · rw [if_pos c1];exact h
end Go.Proofs.YtakfmcpjnkagmaaGreatDoor.P
namespace Go.Proofs.YtakfmcpjnkagmaaGreatDoor.P
open Go Go.Proofs.YtakfmcpjnkagmaaGreatDoorUPosAll.PrintLast Go.Proofs.YtakfmcpjnkagmaaGreatDoorUPosAll.PrintMore Go.Proofs.YtakfmcpjnkagmaaGreatDoorUPosAll.PrintWords Go.RowKit
set_option linter.unusedVariables false
def wordsB (s : ByteArray) : List ByteArray:=Lib.splitB (⟨#[32]⟩ : ByteArray) 0 (Lib.countB s (⟨#[32]⟩ : ByteArray)) s
end Go.Proofs.YtakfmcpjnkagmaaGreatDoor.P
namespace Go.Proofs.YtakfmcpjnkagmaaGreatDoor.P
open Go.Proofs.YtakfmcpjnkagmaaGreatDoorUPosAll.PrintLast Go.Proofs.YtakfmcpjnkagmaaGreatDoorUPosAll.PrintMore Go.Proofs.YtakfmcpjnkagmaaGreatDoorUPosAll.PrintWords Go.RowKit
set_option linter.unusedVariables false
set_option linter.unusedSimpArgs false
theorem ba_ext {a b : ByteArray} (h : a.data.toList = b.data.toList) : a = b:=by
  cases a;cases b;simp at h;rw [h]
theorem numB_small {n : Nat} (h : n < 10) : numB n = strOfNums [((48 + n : Nat) : Int)]:=by
  apply ba_ext
  unfold numB Lib.itoa
  rw [if_neg (by omega)]
  simp only [Int.toNat_natCast,Lib.decDigits_one h,strOfNums]
  rfl
theorem numB_big {n : Nat} (h : ¬ n < 10) : numB n = numB (n / 10 : Nat) ++ strOfNums [((48 + n % 10 : Nat) : Int)]:=by
  apply ba_ext
  unfold numB Lib.itoa
  rw [if_neg (by omega),if_neg (by omega)]
  simp only [Int.toNat_natCast,ByteArray.data_append,Array.toList_append]
  rw [Lib.decDigits,dif_neg h]
  simp only [Int.toNat_natCast,strOfNums]
  rfl
theorem strOfNums_size (l : List Int) : (strOfNums l).size = l.length:=by simp [strOfNums,ByteArray.size]
theorem plain_l0 : ∀ (N n : Nat),n < N → n < 1000000 → ∀ x3 : ByteArray,x3.size + N ≤ 1000000000 → Ans (fun k=>spec_l1Plain.l0 k n x3) (fun b=>b = numB n ++ x3)
  | 0,n,h,_,_,_=>by omega
  | N + 1,n,h,hn,x3,hx=>by
    refine Ans.succ ?_
    unfold spec_l1Plain.l0
    by_cases h9 : n < 10
    · refine Ans.neg (by omega) ?_
      have e : (wrap64 (48 + (n : Int))) % 256 = ((48 + n : Nat) : Int):=by unfold wrap64;omega
      rw [e]
      refine Ans.bsome (Ans.pos (by rw [strOfNums_size];simp;omega) (Ans.pure ?_))
      rw [numB_small h9]
    · refine Ans.pos (by omega) ?_
      have e1 : Int.tmod (n : Int) 10 = ((n % 10 : Nat) : Int):=by rw [Int.tmod_eq_emod_of_nonneg (by omega)];rfl
      have e2 : Int.tdiv (n : Int) 10 = ((n / 10 : Nat) : Int):=by rw [Int.tdiv_eq_ediv_of_nonneg (by omega)];rfl
      have e : (wrap64 (48 + Int.tmod (n : Int) 10)) % 256 = ((48 + n % 10 : Nat) : Int):=by rw [e1];unfold wrap64;omega
      have e3 : wrap64 (Int.tdiv (n : Int) 10) = ((n / 10 : Nat) : Int):=by rw [e2];unfold wrap64;omega
      rw [e,e3]
      have hs : (strOfNums [((48 + n % 10 : Nat) : Int)]).size = 1:=by rw [strOfNums_size];rfl
      refine Ans.bsome (Ans.pos (by rw [hs];omega) ?_)
      refine (plain_l0 N (n / 10) (by omega) (by omega) (strOfNums [((48 + n % 10 : Nat) : Int)] ++ x3) (by rw [ByteArray.size_append,hs];omega)).mono ?_
      rintro v rfl
      rw [numB_big h9,ByteArray.append_assoc]
theorem plain_a {n : Nat} (hn : n < 1000000) : Ans (fun k=>spec_l1Plain.f k n) (fun b=>b = numB n):=by
  refine (plain_l0 (n + 1) n (by omega) hn (⟨#[]⟩ : ByteArray) (by simp [ByteArray.size];omega)).mono ?_
  rintro v rfl
  exact ba_ext (by simp)
theorem len_size (s : ByteArray) : s.data.toList.length = s.size:=by rw [Array.length_toList];rfl
def wlpB : ByteArray → List UInt8 → List ByteArray
  | w,[]=>[w]
  | w,c :: r=>if c = 32 then w :: wlpB ⟨#[]⟩ r else wlpB (w ++ ⟨#[c]⟩) r
theorem bt_get (s : ByteArray) (i : Nat) (h : i < s.size) : bt s i = ((s.data.toList[i]'(by rw [len_size];exact h)).toNat : Int):=by
  unfold bt
  simp only [Int.toNat_natCast,dif_pos h]
  rfl
theorem extract_get (s : ByteArray) (i : Nat) (h : i < s.size) : s.extract i (i + 1) = ⟨#[s.data.toList[i]'(by rw [len_size];exact h)]⟩:=by
  apply ba_ext
  have hl : i < s.data.toList.length:=by rw [len_size];exact h
  rw [Lib.extract_data]
  have e : s.data.toList.drop i = s.data.toList[i] :: s.data.toList.drop (i + 1):=List.drop_eq_getElem_cons hl
  rw [e,show i + 1 - i = 1 by omega]
  rfl
theorem words_l0 (s : ByteArray) (hs : s.size ≤ 1048576) : ∀ (m i : Nat),s.size - i = m → i ≤ s.size → ∀ (x3 : List ByteArray) (x4 : ByteArray),x3.length ≤ i → x4.size ≤ i →
    Ans (fun k=>spec_l1Words.l0 k s x3 x4 i) (fun r=>r = x3 ++ wlpB x4 (s.data.toList.drop i))
  | 0,i,hm,hi,x3,x4,h3,h4=>by
    refine Ans.succ ?_
    unfold spec_l1Words.l0
    refine Ans.neg (by omega) (Ans.pos (by omega) (Ans.pure ?_))
    rw [List.drop_eq_nil_of_le (by rw [len_size];omega)]
    rfl
  | m + 1,i,hm,hi,x3,x4,h3,h4=>by
    have hlt : i < s.size:=by omega
    have hl : i < s.data.toList.length:=by rw [len_size];exact hlt
    have hw : wrap64 ((i : Int) + 1) = ((i + 1 : Nat) : Int):=by unfold wrap64;omega
    have e : s.data.toList.drop i = s.data.toList[i] :: s.data.toList.drop (i + 1):=List.drop_eq_getElem_cons hl
    refine Ans.succ ?_
    unfold spec_l1Words.l0
    refine Ans.pos (by omega) (Ans.pos (by omega) ?_)
    rw [bt_get s i hlt,hw,e]
    by_cases hc : s.data.toList[i] = 32
    · refine Ans.pos (by rw [hc];rfl) (Ans.pos (by omega) ?_)
      refine (words_l0 s hs m (i + 1) (by omega) (by omega) (x3 ++ [x4]) (⟨#[]⟩ : ByteArray) (by simp;omega) (Nat.zero_le _)).mono ?_
      rintro v rfl
      rw [wlpB,if_pos hc]
      simp
    · refine Ans.neg (fun h=>hc (UInt8.toNat_inj.mp (by have : ((32 : UInt8).toNat : Int) = 32:=rfl;omega))) (Ans.pos (by omega) (Ans.pos (by omega) ?_))
      have ex : s.extract ((i : Int)).toNat ((((i + 1 : Nat) : Int))).toNat = ⟨#[s.data.toList[i]]⟩:=by simp only [Int.toNat_natCast];exact extract_get s i hlt
      rw [ex]
      have h1 : (⟨#[s.data.toList[i]]⟩ : ByteArray).size = 1:=rfl
      refine Ans.pos (by rw [h1];omega) ?_
      refine (words_l0 s hs m (i + 1) (by omega) (by omega) x3 (x4 ++ ⟨#[s.data.toList[i]]⟩) (by omega) (by rw [ByteArray.size_append,h1];omega)).mono ?_
      rintro v rfl
      rw [wlpB,if_neg hc]
theorem wlpB_data : ∀ (l : List UInt8) (w : ByteArray),wlpB w l = match wlpB ⟨#[]⟩ l with
    | []=>[]
    | h :: t=>(w ++ h) :: t
  | [],w=>by simp only [wlpB];congr 1;exact ba_ext (by simp)
  | c :: r,w=>by
    by_cases hc : c = 32
    · subst hc
      simp only [wlpB,if_true]
      congr 1;exact ba_ext (by simp)
    · simp only [wlpB,if_neg hc]
      rw [wlpB_data r (w ++ ⟨#[c]⟩),wlpB_data r (⟨#[]⟩ ++ ⟨#[c]⟩)]
      cases wlpB ⟨#[]⟩ r with
      | nil=>rfl
      | cons h t=>simp only [List.cons.injEq,and_true];exact ba_ext (by simp)
theorem wlp_eq : ∀ (l : List UInt8),Lib.splitK [32] 0 (Lib.count l [32]) l = (wlpB ⟨#[]⟩ l).map (·.data.toList)
  | []=>by rw [Lib.count_miss (by simp [Lib.index])];rfl
  | b :: l=>by
    by_cases h : b = 32
    · subst h
      rw [Lib.count_cons_eq,Nat.add_comm]
      have hix : Lib.index (32 :: l) [32] = 0:=by rw [Lib.index];simp [List.isPrefixOf]
      unfold Lib.splitK
      rw [hix]
      simp only [wlpB,if_true,List.map_cons]
      simp [wlp_eq l]
    · rw [Lib.count_cons_ne b 32 l h]
      have hp : ([32] : List UInt8).isPrefixOf (b :: l) = false:=by simp [List.isPrefixOf,Ne.symm h]
      have hix : Lib.index (b :: l) [32] = if Lib.index l [32] == -1 then -1 else Lib.index l [32] + 1:=by rw [Lib.index,hp];simp
      have ih:=wlp_eq l
      simp only [wlpB,if_neg h]
      rw [wlpB_data l (⟨#[]⟩ ++ ⟨#[b]⟩)]
      by_cases hm : Lib.index l [32] = -1
      · rw [Lib.count_miss hm] at ih ⊢
        simp only [Lib.splitK] at ih ⊢
        cases hw : wlpB ⟨#[]⟩ l with
        | nil=>rw [hw] at ih;simp at ih
        | cons x t=>rw [hw] at ih;simp at ih ⊢;exact ⟨ih.1,ih.2⟩
      · have hge:=Lib.index_ge l [32]
        obtain ⟨j,hj⟩ : ∃ j : Nat,Lib.index l [32] = j:=⟨(Lib.index l [32]).toNat,by omega⟩
        have hix' : Lib.index (b :: l) [32] = ((j + 1 : Nat) : Int):=by rw [hix,if_neg (fun e=>hm (beq_iff_eq.1 e)),hj];omega
        rw [Lib.count_hit (by simp) hj,Nat.add_comm] at ih ⊢
        unfold Lib.splitK at ih ⊢
        rw [hix',if_neg (fun h=>by have:=beq_iff_eq.1 h;omega)]
        rw [hj,if_neg (fun h=>by have:=beq_iff_eq.1 h;omega)] at ih
        cases hw : wlpB ⟨#[]⟩ l with
        | nil=>rw [hw] at ih;simp at ih
        | cons x t=>rw [hw] at ih;simp at ih ⊢;exact ⟨ih.1,ih.2⟩
theorem map_inj_data : ∀ {a b : List ByteArray},a.map (·.data.toList) = b.map (·.data.toList) → a = b
  | [],[],_=>rfl
  | [],_ :: _,h=>by simp at h
  | _ :: _,[],h=>by simp at h
  | x :: a,y :: b,h=>by
    simp only [List.map_cons,List.cons.injEq] at h
    rw [ba_ext h.1,map_inj_data h.2]
theorem wordsB_eq (s : ByteArray) : wordsB s = wlpB ⟨#[]⟩ s.data.toList:=by
  apply map_inj_data
  unfold wordsB
  rw [Lib.splitB_data,← wlp_eq]
  try rfl
theorem words_a (s : ByteArray) (hs : s.size ≤ 1048576) : Ans (fun k=>spec_l1Words.f k s) (fun r=>r = wordsB s):=by
  refine (words_l0 s hs _ 0 rfl (Nat.zero_le _) [] ⟨#[]⟩ (Nat.le_refl _) (Nat.le_refl _)).mono ?_
  rintro v rfl
  rw [wordsB_eq];rfl
def joinB (w : ByteArray) (l : List ByteArray) : ByteArray:=l.foldl (fun s x=>s ++ ((⟨#[32]⟩ : ByteArray) ++ x)) w
def noBlank (b : ByteArray) : Prop:=∀ c ∈ b.data.toList,c ≠ 32
theorem wlpB_noBlank : ∀ (l : List UInt8) (w : ByteArray) (r : List UInt8),(∀ c ∈ l,c ≠ 32) → wlpB w (l ++ r) = wlpB (w ++ ⟨l.toArray⟩) r
  | [],w,r,_=>by simp only [List.nil_append];congr 1;exact ba_ext (by simp)
  | c :: l,w,r,h=>by
    have hc : c ≠ 32:=h c (by simp)
    simp only [List.cons_append,wlpB,if_neg hc]
    rw [wlpB_noBlank l (w ++ ⟨#[c]⟩) r (fun x hx=>h x (by simp [hx]))]
    congr 1;exact ba_ext (by simp)
theorem wlpB_join : ∀ (l : List ByteArray) (w u : ByteArray),noBlank w → (∀ x ∈ l,noBlank x) → wlpB u (joinB w l).data.toList = (u ++ w) :: l
  | [],w,u,hw,_=>by
    have:=wlpB_noBlank w.data.toList u [] hw
    rw [List.append_nil] at this
    show wlpB u w.data.toList = _
    rw [this]
    rfl
  | x :: l,w,u,hw,hl=>by
    have e : ∀ (l : List ByteArray) (w x : ByteArray),(joinB (w ++ ((⟨#[32]⟩ : ByteArray) ++ x)) l).data.toList = w.data.toList ++ 32 :: (joinB x l).data.toList:=by
      intro l
      induction l with
      | nil=>intro w x;simp [joinB]
      | cons y l ih=>
        intro w x
        have h1:=ih (w ++ ((⟨#[32]⟩ : ByteArray) ++ x)) y
        have h2:=ih x y
        simp only [joinB,List.foldl_cons] at h1 h2 ⊢
        rw [h1,h2]
        simp
    have h0 : joinB w (x :: l) = joinB (w ++ ((⟨#[32]⟩ : ByteArray) ++ x)) l:=rfl
    rw [h0,e,wlpB_noBlank w.data.toList u _ hw]
    simp only [wlpB,if_true]
    rw [wlpB_join l x ⟨#[]⟩ (hl x (by simp)) (fun y hy=>hl y (by simp [hy]))]
    have e2 : (⟨#[]⟩ : ByteArray) ++ x = x:=ba_ext (by simp)
    have e3 : u ++ ⟨w.data.toList.toArray⟩ = u ++ w:=ba_ext (by simp)
    rw [e2]
theorem words_join (w : ByteArray) (l : List ByteArray) (hw : noBlank w) (hl : ∀ x ∈ l,noBlank x) : wordsB (joinB w l) = w :: l:=by
  have e2 : (⟨#[]⟩ : ByteArray) ++ w = w:=ba_ext (by simp)
  rw [wordsB_eq,wlpB_join l w ⟨#[]⟩ hw hl,e2]
theorem wlpB_ne : ∀ (r : List UInt8) (w : ByteArray),wlpB w r ≠ []
  | [],w=>by simp [wlpB]
  | c :: r,w=>by
    unfold wlpB
    split
    · simp
    · exact wlpB_ne r _
theorem join_wlpB : ∀ (r : List UInt8) (w : ByteArray),(match wlpB w r with | []=>(⟨#[]⟩ : ByteArray) | h :: t=>joinB h t).data.toList = w.data.toList ++ r
  | [],w=>by simp [wlpB,joinB]
  | c :: r,w=>by
    by_cases hc : c = 32
    · subst hc
      simp only [wlpB,if_true]
      have ih:=join_wlpB r ⟨#[]⟩
      cases hw : wlpB ⟨#[]⟩ r with
      | nil=>exact absurd hw (wlpB_ne r _)
      | cons x t=>
        rw [hw] at ih
        have e : ∀ (t : List ByteArray) (w x : ByteArray),(joinB w (x :: t)).data.toList = w.data.toList ++ 32 :: (joinB x t).data.toList:=by
          intro t
          induction t with
          | nil=>intro w x;simp [joinB]
          | cons y t ih=>
            intro w x
            have h1:=ih (w ++ ((⟨#[32]⟩ : ByteArray) ++ x)) y
            have h2:=ih x y
            simp only [joinB,List.foldl_cons] at h1 h2 ⊢
            rw [h1,h2]
            simp
        show (joinB w (x :: t)).data.toList = _
        rw [e]
        simp only [List.append_cancel_left_eq,List.cons.injEq,true_and]
        simpa using ih
    · simp only [wlpB,if_neg hc]
      have ih:=join_wlpB r (w ++ ⟨#[c]⟩)
      rw [ih]
      simp
theorem join_words (s w : ByteArray) (l : List ByteArray) (h : wordsB s = w :: l) : joinB w l = s:=by
  have:=join_wlpB s.data.toList ⟨#[]⟩
  rw [← wordsB_eq,h] at this
  exact ba_ext (by simpa using this)
def isDg (c : UInt8) : Prop:=48 ≤ c.toNat ∧ c.toNat ≤ 57
def valF (a : Nat) (l : List UInt8) : Nat:=l.foldl (fun a b=>a * 10 + (b.toNat - 48)) a
theorem dg_of {d : Nat} (h : d < 10) : isDg (UInt8.ofNat (48 + d)) ∧ (UInt8.ofNat (48 + d)).toNat - 48 = d:=by
  have e : (UInt8.ofNat (48 + d)).toNat = 48 + d:=by simp;omega
  unfold isDg;rw [e];omega
theorem numB_data_small {n : Nat} (h : n < 10) : (numB n).data.toList = [UInt8.ofNat (48 + n)]:=by
  rw [numB_small h];rfl
theorem numB_data_big {n : Nat} (h : ¬ n < 10) : (numB n).data.toList = (numB (n / 10 : Nat)).data.toList ++ [UInt8.ofNat (48 + n % 10)]:=by
  rw [numB_big h,ByteArray.data_append,Array.toList_append];rfl
theorem numB_dg : ∀ (N n : Nat),n < N → (∀ c ∈ (numB n).data.toList,isDg c) ∧ valF 0 (numB n).data.toList = n ∧ (numB n).data.toList ≠ []
  | 0,n,h=>by omega
  | N + 1,n,h=>by
    by_cases h9 : n < 10
    · rw [numB_data_small h9]
      refine ⟨fun c hc=>?_,?_,by simp⟩
      · simp at hc;subst hc;have:=(dg_of h9).1;simpa using this
      · have:=(dg_of h9).2;simp only [valF,List.foldl_cons,List.foldl_nil];omega
    · rw [numB_data_big h9]
      obtain ⟨i1,i2,i3⟩:=numB_dg N (n / 10) (by omega)
      have hd : n % 10 < 10:=by omega
      refine ⟨fun c hc=>?_,?_,by simp⟩
      · rcases List.mem_append.1 hc with hc | hc
        · exact i1 c hc
        · have e:=List.mem_singleton.1 hc;subst e;exact (dg_of hd).1
      · have:=(dg_of hd).2
        unfold valF at i2 ⊢
        rw [List.foldl_append,i2]
        simp only [List.foldl_cons,List.foldl_nil]
        omega
theorem numB_inj {a b : Nat} (h : numB a = numB b) : a = b:=by
  have h1:=(numB_dg (a + 1) a (by omega)).2.1
  have h2:=(numB_dg (b + 1) b (by omega)).2.1
  rw [h] at h1;omega
theorem numB_size4 {n : Nat} (h : n ≤ 9999) : (numB n).size ≤ 4 ∧ 1 ≤ (numB n).size:=by
  have e : (numB n).size = Lib.nDigits n:=by
    unfold numB Lib.itoa
    rw [if_neg (by omega)]
    show (Lib.decDigits (n : Int).toNat).toArray.size = _
    rw [List.size_toArray,Lib.decDigits_length];rfl
  rw [e]
  by_cases a : n < 10
  · rw [Lib.nDigits_small a];omega
  · rw [Lib.nDigits_big a]
    by_cases b : n / 10 < 10
    · rw [Lib.nDigits_small b];omega
    · rw [Lib.nDigits_big b]
      by_cases c : n / 10 / 10 < 10
      · rw [Lib.nDigits_small c];omega
      · rw [Lib.nDigits_big c,Lib.nDigits_small (by omega)];omega
theorem numB_noBlank (n : Nat) : noBlank (numB n):=by
  intro c hc e
  have:=(numB_dg (n + 1) n (by omega)).1 c hc
  subst e
  unfold isDg at this
  simp at this
theorem valF_lt : ∀ (l : List UInt8) (a : Nat),(∀ c ∈ l,isDg c) → valF a l + 1 ≤ (a + 1) * 10 ^ l.length
  | [],a,_=>by simp [valF]
  | c :: l,a,h=>by
    have hc:=h c (by simp)
    have ih:=valF_lt l (a * 10 + (c.toNat - 48)) (fun x hx=>h x (by simp [hx]))
    unfold isDg at hc
    have : (a * 10 + (c.toNat - 48) + 1) * 10 ^ l.length ≤ ((a + 1) * 10) * 10 ^ l.length:=Nat.mul_le_mul_right _ (by omega)
    simp only [valF,List.foldl_cons,List.length_cons,Nat.pow_succ] at ih ⊢
    rw [Nat.mul_assoc,Nat.mul_comm 10] at this
    omega
theorem parse_dg : ∀ (l : List UInt8) (a : Nat),(∀ c ∈ l,isDg c) → (a + 1) * 10 ^ l.length ≤ 10 ^ 18 → Lib.parseUint10 a l = .ok (valF a l)
  | [],a,_,_=>rfl
  | c :: l,a,h,hb=>by
    have hc:=h c (by simp)
    unfold isDg at hc
    have hp : 1 ≤ 10 ^ l.length:=Nat.one_le_pow _ _ (by decide)
    have h1 : ((a + 1) * 10) * 1 ≤ ((a + 1) * 10) * 10 ^ l.length:=Nat.mul_le_mul_left _ hp
    have h2 : (a + 1) * 10 ^ (l.length + 1) = ((a + 1) * 10) * 10 ^ l.length:=by rw [Nat.pow_succ,Nat.mul_comm (10 ^ l.length) 10,Nat.mul_assoc]
    simp only [List.length_cons] at hb
    have h3 : (a * 10 + (c.toNat - 48) + 1) * 10 ^ l.length ≤ ((a + 1) * 10) * 10 ^ l.length:=Nat.mul_le_mul_right _ (by omega)
    unfold Lib.parseUint10
    rw [if_pos hc,if_neg (by omega),if_neg (by omega),parse_dg l _ (fun x hx=>h x (by simp [hx])) (by omega)]
    rfl
theorem atoiO_num {n : Nat} (h : n ≤ 9999) : atoiO (numB n) = some (n : Int):=by
  obtain ⟨h1,h2,h3⟩:=numB_dg (n + 1) n (by omega)
  have hs : (numB n).data.toList.length ≤ 4:=by rw [len_size];exact (numB_size4 h).1
  have hp:=parse_dg (numB n).data.toList 0 h1 (by
    have : 10 ^ (numB n).data.toList.length ≤ 10 ^ 4:=Nat.pow_le_pow_right (by decide) hs
    omega)
  rw [h2] at hp
  have e : Lib.atoiAll (numB n).data.toList = .ok (n : Int):=by
    generalize (numB n).data.toList = l at h1 h3 hp
    match l,h3 with
    | c :: r,_=>
      have hc:=h1 c (by simp)
      unfold isDg at hc
      unfold Lib.atoiAll
      simp only
      rw [if_neg (by omega)]
      unfold Lib.parseMag
      rw [if_neg (by simp),hp]
      simp only
      rw [if_neg (by omega),if_neg (by omega),if_neg (by omega)]
  unfold atoiO
  rw [e]
def NumIs (s : ByteArray) (v : Int) : Prop:=(∃ n : Nat,n ≤ 9999 ∧ s = numB n ∧ v = n) ∨ (v = -1 ∧ ∀ n : Nat,n ≤ 9999 → s ≠ numB n)
theorem num_step (V c : Nat) (hV : V ≤ 9999) (h0 : 48 ≤ c) (h1 : c ≤ 57) : wrap64 (wrap64 ((V : Int) * 10) + ((c : Int) - 48) % 256) = ((V * 10 + (c - 48) : Nat) : Int):=by
  have e1 : wrap64 ((V : Int) * 10) = (V : Int) * 10:=w64 _ (by omega)
  have e2 : ((c : Int) - 48) % 256 = (c : Int) - 48:=by omega
  rw [e1,e2,w64 _ (by omega)]
  omega
theorem num_l0 (s : ByteArray) (hs : s.size ≤ 4) : ∀ (m i : Nat),s.size - i = m → i ≤ s.size → (∀ c ∈ s.data.toList.take i,isDg c) →
    Ans (fun k=>spec_l1Num.l0 k s (valF 0 (s.data.toList.take i) : Nat) i) (NumIs s)
  | 0,i,hm,hi,hd=>by
    have hl : s.data.toList.length ≤ i:=by rw [len_size];omega
    rw [List.take_of_length_le hl] at hd ⊢
    have hv:=valF_lt s.data.toList 0 hd
    have hp : 10 ^ s.data.toList.length ≤ 10 ^ 4:=Nat.pow_le_pow_right (by decide) (by rw [len_size];exact hs)
    refine Ans.succ ?_
    unfold spec_l1Num.l0
    refine Ans.neg (by omega) ?_
    refine Ans.bind (plain_a (n:=valF 0 s.data.toList) (by omega)) ?_
    rintro v rfl
    refine Ans.ite (fun h=>Ans.pure (.inl ⟨_,by omega,(toList_inj h).symm,rfl⟩)) (fun h=>Ans.pure (.inr ⟨rfl,?_⟩))
    intro n hn e
    refine h ?_
    have:=(numB_dg (n + 1) n (by omega)).2.1
    rw [← e] at this
    rw [this,← e]
  | m + 1,i,hm,hi,hd=>by
    have hlt : i < s.size:=by omega
    have hl : i < s.data.toList.length:=by rw [len_size];exact hlt
    have hw : wrap64 ((i : Int) + 1) = ((i + 1 : Nat) : Int):=by unfold wrap64;omega
    have hno : ∀ (h : ¬ isDg s.data.toList[i]) (n : Nat),n ≤ 9999 → s ≠ numB n:=by
      intro h n hn e
      have:=(numB_dg (n + 1) n (by omega)).1 (s.data.toList[i]) (by rw [← e];exact List.getElem_mem hl)
      exact h this
    refine Ans.succ ?_
    unfold spec_l1Num.l0
    refine Ans.pos (by omega) (Ans.pos (by omega) ?_)
    rw [bt_get s i hlt,hw]
    have hc8:=(s.data.toList[i]).toNat_lt
    refine Ans.ite (fun h=>Ans.pure (.inr ⟨rfl,hno (fun q=>by unfold isDg at q;omega)⟩)) (fun h1=>?_)
    refine Ans.ite (fun h=>Ans.pure (.inr ⟨rfl,hno (fun q=>by unfold isDg at q;omega)⟩)) (fun h2=>?_)
    have hdi : isDg s.data.toList[i]:=by unfold isDg;omega
    have ht : s.data.toList.take (i + 1) = s.data.toList.take i ++ [s.data.toList[i]]:=List.take_succ_eq_append_getElem hl
    have hd' : ∀ c ∈ s.data.toList.take (i + 1),isDg c:=by
      rw [ht]
      intro c hc
      rcases List.mem_append.1 hc with hc | hc
      · exact hd c hc
      · have e:=List.mem_singleton.1 hc;subst e;exact hdi
    have hv:=valF_lt _ 0 hd
    have hp : 10 ^ (s.data.toList.take i).length ≤ 10 ^ 4:=Nat.pow_le_pow_right (by decide) (by rw [List.length_take];omega)
    have e : wrap64 (wrap64 ((valF 0 (s.data.toList.take i) : Nat) * 10) + (((s.data.toList[i]).toNat : Int) - 48) % 256) = (valF 0 (s.data.toList.take (i + 1)) : Nat):=by
      have e1 : valF 0 (s.data.toList.take (i + 1)) = valF 0 (s.data.toList.take i) * 10 + ((s.data.toList[i]).toNat - 48):=by
        rw [ht];unfold valF;rw [List.foldl_append];rfl
      rw [e1]
      unfold isDg at hdi
      exact num_step _ _ (by omega) hdi.1 hdi.2
    rw [e]
    exact num_l0 s hs m (i + 1) (by omega) (by omega) hd'
theorem num_a (s : ByteArray) : Ans (fun k=>spec_l1Num.f k s) (NumIs s):=by
  unfold spec_l1Num.f
  refine Ans.ite (fun h=>?_) (fun h=>?_)
  · refine Ans.succ ?_
    unfold spec_l1Num.j0
    refine Ans.pos rfl (Ans.pure (.inr ⟨rfl,fun n hn e=>?_⟩))
    have:=(numB_size4 hn).2
    rw [← e] at this;omega
  · refine Ans.succ ?_
    unfold spec_l1Num.j0
    refine Ans.ite (fun h4=>Ans.pure (.inr ⟨rfl,fun n hn e=>?_⟩)) (fun h4=>?_)
    · have:=(numB_size4 hn).1
      rw [← e] at this
      have:=of_decide_eq_true h4
      omega
    · have h4' : ¬ ((s.size : Int) > 4):=fun q=>h4 (decide_eq_true q)
      exact num_l0 s (by omega) _ 0 rfl (Nat.zero_le _) (by simp)
theorem index_at : ∀ (x y : List UInt8),(∀ c ∈ x,c ≠ 32) → Lib.index (x ++ 32 :: y) [32] = x.length
  | [],y,_=>by rw [List.nil_append,Lib.index];simp [List.isPrefixOf]
  | b :: x,y,h=>by
    have hb : b ≠ 32:=h b (by simp)
    have hp : ([32] : List UInt8).isPrefixOf (b :: (x ++ 32 :: y)) = false:=by simp [List.isPrefixOf,Ne.symm hb]
    have ih:=index_at x y (fun c hc=>h c (by simp [hc]))
    rw [List.cons_append,Lib.index,hp,ih]
    simp
theorem cut_at {x y : ByteArray} (h : noBlank x) : cutW ((x ++ (⟨#[32]⟩ : ByteArray)) ++ y) = (x,y):=by
  have e : ((x ++ (⟨#[32]⟩ : ByteArray)) ++ y).data.toList = x.data.toList ++ 32 :: y.data.toList:=by simp
  have hi:=index_at x.data.toList y.data.toList h
  unfold cutW
  rw [e]
  unfold Lib.cut
  rw [hi,if_pos (by omega)]
  have e1 : (x.data.toList ++ 32 :: y.data.toList).take x.data.toList.length = x.data.toList:=List.take_left
  have e2 : (x.data.toList ++ 32 :: y.data.toList).drop (x.data.toList.length + 1) = y.data.toList:=by
    have : x.data.toList ++ 32 :: y.data.toList = (x.data.toList ++ [32]) ++ y.data.toList:=by simp
    rw [this]
    exact List.drop_left' (by simp)
  simp only [Int.toNat_natCast,List.length_cons,List.length_nil,Nat.zero_add,e1,e2]
theorem readEndW_some {t : ByteArray} {a p : Int} (h : readEndW t = some (a,p)) : endOkB a p = true ∧ t = etext a p:=by
  unfold readEndW at h
  simp only [Option.bind_eq_some_iff] at h
  obtain ⟨a',h1,p',h2,h3⟩:=h
  by_cases ht : etext a' p' = t
  · rw [if_pos ht] at h3
    cases h3
    refine ⟨?_,ht.symm⟩
    cases hk : endOkB a p with
    | true=>rfl
    | false=>
      unfold etext at ht
      rw [hk] at ht
      rw [← ht,if_neg (by simp)] at h1
      have : atoiO (cutW (⟨#[]⟩ : ByteArray)).1 = none:=by decide
      rw [this] at h1;cases h1
  · rw [if_neg ht] at h3;cases h3
theorem readEndW_of {a p : Int} (h : endOkB a p = true) : readEndW (etext a p) = some (a,p):=by
  have hb:=endOkB_le h
  obtain ⟨m,rfl⟩ : ∃ m : Nat,a = m:=⟨a.toNat,by omega⟩
  obtain ⟨n,rfl⟩ : ∃ n : Nat,p = n:=⟨p.toNat,by omega⟩
  have e : etext (m : Int) n = (numB m ++ (⟨#[32]⟩ : ByteArray)) ++ numB n:=by unfold etext;rw [if_pos h]
  unfold readEndW
  rw [e,cut_at (numB_noBlank m),atoiO_num (by omega),atoiO_num (by omega)]
  simp only [Option.bind_some]
  rw [if_pos e]
theorem etext_join {a p : Int} (h : endOkB a p = true) : etext a p = joinB (numB a) [numB p]:=by
  unfold etext joinB;rw [if_pos h];simp [ByteArray.append_assoc]
theorem etext_words {a p : Int} (h : endOkB a p = true) : wordsB (etext a p) = [numB a,numB p]:=by
  have hb:=endOkB_le h
  obtain ⟨m,rfl⟩ : ∃ m : Nat,a = m:=⟨a.toNat,by omega⟩
  obtain ⟨n,rfl⟩ : ∃ n : Nat,p = n:=⟨p.toNat,by omega⟩
  rw [etext_join h]
  exact words_join _ _ (numB_noBlank m) (by intro x hx;rw [List.mem_singleton.1 hx];exact numB_noBlank n)
theorem numE_same {b : ByteArray} {n x : Int} (h : b = numB n) (h0 : 0 ≤ n) (h1 : n ≤ 999) (hx : NumIs b x) : x = n:=by
  obtain ⟨k,rfl⟩ : ∃ k : Nat,n = k:=⟨n.toNat,by omega⟩
  rcases hx with ⟨m,hm,e,rfl⟩ | ⟨_,hno⟩
  · have:=numB_inj (e.symm.trans h);omega
  · exact absurd h (hno k (by omega))
theorem endW_len {s : ByteArray} (h : (wordsB s).length ≠ 2) : readEndW s = none:=by
  cases hr : readEndW s with
  | none=>rfl
  | some r=>
    obtain ⟨a,p⟩:=r
    obtain ⟨hk,e⟩:=readEndW_some hr
    rw [e,etext_words hk] at h
    exact absurd rfl h
theorem endW_key {s b1 b2 : ByteArray} (hw : wordsB s = [b1,b2]) {x1 x2 : Int} (h1 : NumIs b1 x1) (h2 : NumIs b2 x2) : readEndW s = if endOkB x1 x2 then some (x1,x2) else none:=by
  cases hk : endOkB x1 x2 with
  | true=>
    have hb:=endOkB_le hk
    have q1 : b1 = numB x1:=by
      rcases h1 with ⟨m,hm,e,rfl⟩ | ⟨e,_⟩
      · exact e
      · omega
    have q2 : b2 = numB x2:=by
      rcases h2 with ⟨m,hm,e,rfl⟩ | ⟨e,_⟩
      · exact e
      · omega
    have e : s = etext x1 x2:=by rw [etext_join hk,← q1,← q2];exact (join_words s b1 _ hw).symm
    rw [e]
    exact readEndW_of hk
  | false=>
    cases hr : readEndW s with
    | none=>simp
    | some r=>
      obtain ⟨a,p⟩:=r
      obtain ⟨hk',e⟩:=readEndW_some hr
      have hb:=endOkB_le hk'
      rw [e,etext_words hk'] at hw
      simp only [List.cons.injEq,and_true] at hw
      have g1:=numE_same hw.1.symm (by omega) (by omega) h1
      have g2:=numE_same hw.2.symm (by omega) (by omega) h2
      rw [g1,g2,hk'] at hk
      cases hk
end Go.Proofs.YtakfmcpjnkagmaaGreatDoor.P
