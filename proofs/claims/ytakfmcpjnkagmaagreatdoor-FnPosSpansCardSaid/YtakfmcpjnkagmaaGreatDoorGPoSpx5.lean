import Derived.Test.YtakfmcpjnkagmaaGreatDoorGPoSpx4
namespace Go.Proofs.YtakfmcpjnkagmaaGreatDoor.P
open Go.Proofs.YtakfmcpjnkagmaaGreatDoorUPoSp.PrintLast Go.Proofs.YtakfmcpjnkagmaaGreatDoorUPoSp.PrintMore Go.Proofs.YtakfmcpjnkagmaaGreatDoorUPoSp.PrintWords Go.RowKit
set_option linter.unusedVariables false
set_option linter.unusedSimpArgs false
section
attribute [local go_sem] max2_int min2_int max_two min_two max_three min_three max_four min_four
def spec_l20Bent.f (k : Nat) (s0_0 : List Int) (s0_1 : Int) (a1 : ByteArray) : Option (ByteArray × Int):=(spec_l20Rd_pick.f k s0_0 s0_1 (wrap64 ((a1.size : Int) + 1))).bind fun bt656=>((spec_l20Rd_pick.f k s0_0 bt656.2 256).bind fun bt658=>((some (([32,48,49,57,59,97,112,bt658.1] : List Int) : List Int)).bind fun y660=>((spec_l20Rd_pick.f k s0_0 bt658.2 8).bind fun bt663=>(if 0 ≤ bt663.1 then (if bt663.1 < (y660.length : Int) then ((some (([(rd y660 bt663.1) % 256] : List Int) : List Int)).bind fun y666=>((spec_l20Rd_pick.f k s0_0 bt663.2 3).bind fun bt669=>(if bt669.1 = 0 then (if 0 ≤ bt656.1 then (if bt656.1 ≤ (a1.size : Int) then (if (a1.extract 0 (bt656.1 : Int).toNat).size + (strOfNums y666).size ≤ 9223372036854775807 then (if ((a1.extract 0 (bt656.1 : Int).toNat) ++ (strOfNums y666)).size + (a1.extract (bt656.1 : Int).toNat a1.size).size ≤ 9223372036854775807 then (some (((a1.extract 0 (bt656.1 : Int).toNat) ++ (strOfNums y666)) ++ (a1.extract (bt656.1 : Int).toNat a1.size),bt669.2)) else (none)) else (none)) else (none)) else (none)) else (if bt669.1 = 1 then (if bt656.1 < (a1.size : Int) then (if 0 ≤ bt656.1 then (if bt656.1 ≤ (a1.size : Int) then (if 0 ≤ (wrap64 (bt656.1 + 1)) then (if (wrap64 (bt656.1 + 1)) ≤ (a1.size : Int) then (if (a1.extract 0 (bt656.1 : Int).toNat).size + (a1.extract ((wrap64 (bt656.1 + 1)) : Int).toNat a1.size).size ≤ 9223372036854775807 then (some ((a1.extract 0 (bt656.1 : Int).toNat) ++ (a1.extract ((wrap64 (bt656.1 + 1)) : Int).toNat a1.size),bt669.2)) else (none)) else (none)) else (none)) else (none)) else (none)) else (some (a1,bt669.2))) else (if bt656.1 < (a1.size : Int) then (if 0 ≤ bt656.1 then (if bt656.1 ≤ (a1.size : Int) then (if (a1.extract 0 (bt656.1 : Int).toNat).size + (strOfNums y666).size ≤ 9223372036854775807 then (if 0 ≤ (wrap64 (bt656.1 + 1)) then (if (wrap64 (bt656.1 + 1)) ≤ (a1.size : Int) then (if ((a1.extract 0 (bt656.1 : Int).toNat) ++ (strOfNums y666)).size + (a1.extract ((wrap64 (bt656.1 + 1)) : Int).toNat a1.size).size ≤ 9223372036854775807 then (some (((a1.extract 0 (bt656.1 : Int).toNat) ++ (strOfNums y666)) ++ (a1.extract ((wrap64 (bt656.1 + 1)) : Int).toNat a1.size),bt669.2)) else (none)) else (none)) else (none)) else (none)) else (none)) else (none)) else (some (a1,bt669.2))))))) else (none)) else (none)))))
theorem spec_l20Bent.mono : ∀ a0 a1 a2 k,LeO (spec_l20Bent.f k a0 a1 a2) (spec_l20Bent.f (k + 1) a0 a1 a2):=by
 intro a0 a1 a2 k
 unfold spec_l20Bent.f
 repeat' first | (with_reducible first | exact spec_l20Rd_pick.mono _ _ _ _ | exact LeO.refl _ | exact LeO.none _ | refine LeO.ite ?_ ?_ | refine LeO.bind ?_ (fun _=>?_)) | exact spec_l20Rd_pick.mono _ _ _ _ | exact LeO.none _ | refine LeO.ite ?_ ?_ | refine LeO.bind ?_ (fun _=>?_)
set_option maxHeartbeats 8000000 in
set_option maxRecDepth 100000 in
theorem spec_l20Bent.calls (k : Nat) (g : Nat) (s0_0 : List Int) (s0_1 : Int) (a1 : ByteArray) (r1 : ByteArray) (r2 : Int) (w0 w : World) (hI : IsS102 w0 w g s0_0 s0_1) (hB : Below w0.heap.size w0 w) (h : spec_l20Bent.f k s0_0 s0_1 a1 = some (r1,r2)) :
  Calls Tryz.prog 97 #[.pointer (some ⟨g,0,none⟩),.string a1] w fun e w'=>e = .returned (.string r1) ∧ IsS102 w0 w' g s0_0 r2 ∧ Below w0.heap.size w0 w' ∧ KeepBut w w' g none:=by
 have HI0:=am hI
 have HK:=am (KeepBut.refl w g none)
 have HL:=am hB.size
 clear hI
 have HW0:=am hB.size
 have HB:=am hB
 clear hB
 have H : ((spec_l20Rd_pick.f k s0_0 s0_1 (wrap64 ((a1.size : Int) + 1))).bind fun bt656=>((spec_l20Rd_pick.f k s0_0 bt656.2 256).bind fun bt658=>((some (([32,48,49,57,59,97,112,bt658.1] : List Int) : List Int)).bind fun y660=>((spec_l20Rd_pick.f k s0_0 bt658.2 8).bind fun bt663=>(if 0 ≤ bt663.1 then (if bt663.1 < (y660.length : Int) then ((some (([(rd y660 bt663.1) % 256] : List Int) : List Int)).bind fun y666=>((spec_l20Rd_pick.f k s0_0 bt663.2 3).bind fun bt669=>(if bt669.1 = 0 then (if 0 ≤ bt656.1 then (if bt656.1 ≤ (a1.size : Int) then (if (a1.extract 0 (bt656.1 : Int).toNat).size + (strOfNums y666).size ≤ 9223372036854775807 then (if ((a1.extract 0 (bt656.1 : Int).toNat) ++ (strOfNums y666)).size + (a1.extract (bt656.1 : Int).toNat a1.size).size ≤ 9223372036854775807 then (some (((a1.extract 0 (bt656.1 : Int).toNat) ++ (strOfNums y666)) ++ (a1.extract (bt656.1 : Int).toNat a1.size),bt669.2)) else (none)) else (none)) else (none)) else (none)) else (if bt669.1 = 1 then (if bt656.1 < (a1.size : Int) then (if 0 ≤ bt656.1 then (if bt656.1 ≤ (a1.size : Int) then (if 0 ≤ (wrap64 (bt656.1 + 1)) then (if (wrap64 (bt656.1 + 1)) ≤ (a1.size : Int) then (if (a1.extract 0 (bt656.1 : Int).toNat).size + (a1.extract ((wrap64 (bt656.1 + 1)) : Int).toNat a1.size).size ≤ 9223372036854775807 then (some ((a1.extract 0 (bt656.1 : Int).toNat) ++ (a1.extract ((wrap64 (bt656.1 + 1)) : Int).toNat a1.size),bt669.2)) else (none)) else (none)) else (none)) else (none)) else (none)) else (some (a1,bt669.2))) else (if bt656.1 < (a1.size : Int) then (if 0 ≤ bt656.1 then (if bt656.1 ≤ (a1.size : Int) then (if (a1.extract 0 (bt656.1 : Int).toNat).size + (strOfNums y666).size ≤ 9223372036854775807 then (if 0 ≤ (wrap64 (bt656.1 + 1)) then (if (wrap64 (bt656.1 + 1)) ≤ (a1.size : Int) then (if ((a1.extract 0 (bt656.1 : Int).toNat) ++ (strOfNums y666)).size + (a1.extract ((wrap64 (bt656.1 + 1)) : Int).toNat a1.size).size ≤ 9223372036854775807 then (some (((a1.extract 0 (bt656.1 : Int).toNat) ++ (strOfNums y666)) ++ (a1.extract ((wrap64 (bt656.1 + 1)) : Int).toNat a1.size),bt669.2)) else (none)) else (none)) else (none)) else (none)) else (none)) else (none)) else (some (a1,bt669.2))))))) else (none)) else (none)))))) = some (r1,r2):=h
 clear h
 obtain ⟨⟨t656,t657⟩,A3,H⟩:=bse H
 try dsimp only at H
 obtain ⟨⟨t658,t659⟩,A4,H⟩:=bse H
 try dsimp only at H
 obtain ⟨y660,hy660⟩ : ∃ y_ : List Int,y_ = (([32,48,49,57,59,97,112,t658] : List Int)):=⟨_,rfl⟩
 replace H : ((spec_l20Rd_pick.f k s0_0 t659 8).bind fun bt663=>(if 0 ≤ bt663.1 then (if bt663.1 < (y660.length : Int) then ((some (([(rd y660 bt663.1) % 256] : List Int) : List Int)).bind fun y666=>((spec_l20Rd_pick.f k s0_0 bt663.2 3).bind fun bt669=>(if bt669.1 = 0 then (if 0 ≤ t656 then (if t656 ≤ (a1.size : Int) then (if (a1.extract 0 (t656 : Int).toNat).size + (strOfNums y666).size ≤ 9223372036854775807 then (if ((a1.extract 0 (t656 : Int).toNat) ++ (strOfNums y666)).size + (a1.extract (t656 : Int).toNat a1.size).size ≤ 9223372036854775807 then (some (((a1.extract 0 (t656 : Int).toNat) ++ (strOfNums y666)) ++ (a1.extract (t656 : Int).toNat a1.size),bt669.2)) else (none)) else (none)) else (none)) else (none)) else (if bt669.1 = 1 then (if t656 < (a1.size : Int) then (if 0 ≤ t656 then (if t656 ≤ (a1.size : Int) then (if 0 ≤ (wrap64 (t656 + 1)) then (if (wrap64 (t656 + 1)) ≤ (a1.size : Int) then (if (a1.extract 0 (t656 : Int).toNat).size + (a1.extract ((wrap64 (t656 + 1)) : Int).toNat a1.size).size ≤ 9223372036854775807 then (some ((a1.extract 0 (t656 : Int).toNat) ++ (a1.extract ((wrap64 (t656 + 1)) : Int).toNat a1.size),bt669.2)) else (none)) else (none)) else (none)) else (none)) else (none)) else (some (a1,bt669.2))) else (if t656 < (a1.size : Int) then (if 0 ≤ t656 then (if t656 ≤ (a1.size : Int) then (if (a1.extract 0 (t656 : Int).toNat).size + (strOfNums y666).size ≤ 9223372036854775807 then (if 0 ≤ (wrap64 (t656 + 1)) then (if (wrap64 (t656 + 1)) ≤ (a1.size : Int) then (if ((a1.extract 0 (t656 : Int).toNat) ++ (strOfNums y666)).size + (a1.extract ((wrap64 (t656 + 1)) : Int).toNat a1.size).size ≤ 9223372036854775807 then (some (((a1.extract 0 (t656 : Int).toNat) ++ (strOfNums y666)) ++ (a1.extract ((wrap64 (t656 + 1)) : Int).toNat a1.size),bt669.2)) else (none)) else (none)) else (none)) else (none)) else (none)) else (none)) else (some (a1,bt669.2))))))) else (none)) else (none))) = some (r1,r2):=by first | (rw [hy660];with_reducible exact H) | (have H2_:=(Option.bind_some _ _).symm.trans H;rw [hy660];with_reducible exact H2_) | (have H2_:=(Option.bind_some _ _).symm.trans H;with_reducible exact H2_) | with_reducible exact H | (rw [hy660];exact H) | exact H
 have Ny660:=am hy660
 clear hy660
 obtain ⟨⟨t663,t664⟩,A5,H⟩:=bse H
 try dsimp only at H
 by_cases c6 : 0 ≤ t663
 ·rw [if_pos c6] at H
  have c6b0 : decide (0 ≤ t663) = true:=decide_eq_true c6
  clear c6
  by_cases c7 : t663 < (y660.length : Int)
  ·rw [if_pos c7] at H
   have c7b0 : decide (t663 < (y660.length : Int)) = true:=decide_eq_true c7
   clear c7
   obtain ⟨y666,hy666⟩ : ∃ y_ : List Int,y_ = (([(rd y660 t663) % 256] : List Int)):=⟨_,rfl⟩
   replace H : ((spec_l20Rd_pick.f k s0_0 t664 3).bind fun bt669=>(if bt669.1 = 0 then (if 0 ≤ t656 then (if t656 ≤ (a1.size : Int) then (if (a1.extract 0 (t656 : Int).toNat).size + (strOfNums y666).size ≤ 9223372036854775807 then (if ((a1.extract 0 (t656 : Int).toNat) ++ (strOfNums y666)).size + (a1.extract (t656 : Int).toNat a1.size).size ≤ 9223372036854775807 then (some (((a1.extract 0 (t656 : Int).toNat) ++ (strOfNums y666)) ++ (a1.extract (t656 : Int).toNat a1.size),bt669.2)) else (none)) else (none)) else (none)) else (none)) else (if bt669.1 = 1 then (if t656 < (a1.size : Int) then (if 0 ≤ t656 then (if t656 ≤ (a1.size : Int) then (if 0 ≤ (wrap64 (t656 + 1)) then (if (wrap64 (t656 + 1)) ≤ (a1.size : Int) then (if (a1.extract 0 (t656 : Int).toNat).size + (a1.extract ((wrap64 (t656 + 1)) : Int).toNat a1.size).size ≤ 9223372036854775807 then (some ((a1.extract 0 (t656 : Int).toNat) ++ (a1.extract ((wrap64 (t656 + 1)) : Int).toNat a1.size),bt669.2)) else (none)) else (none)) else (none)) else (none)) else (none)) else (some (a1,bt669.2))) else (if t656 < (a1.size : Int) then (if 0 ≤ t656 then (if t656 ≤ (a1.size : Int) then (if (a1.extract 0 (t656 : Int).toNat).size + (strOfNums y666).size ≤ 9223372036854775807 then (if 0 ≤ (wrap64 (t656 + 1)) then (if (wrap64 (t656 + 1)) ≤ (a1.size : Int) then (if ((a1.extract 0 (t656 : Int).toNat) ++ (strOfNums y666)).size + (a1.extract ((wrap64 (t656 + 1)) : Int).toNat a1.size).size ≤ 9223372036854775807 then (some (((a1.extract 0 (t656 : Int).toNat) ++ (strOfNums y666)) ++ (a1.extract ((wrap64 (t656 + 1)) : Int).toNat a1.size),bt669.2)) else (none)) else (none)) else (none)) else (none)) else (none)) else (none)) else (some (a1,bt669.2)))))) = some (r1,r2):=by first | (rw [hy666];with_reducible exact H) | (have H2_:=(Option.bind_some _ _).symm.trans H;rw [hy666];with_reducible exact H2_) | (have H2_:=(Option.bind_some _ _).symm.trans H;with_reducible exact H2_) | with_reducible exact H | (rw [hy666];exact H) | exact H
   have Ny666:=am hy666
   clear hy666
   obtain ⟨⟨t669,t670⟩,A8,H⟩:=bse H
   try dsimp only at H
   by_cases c9 : t669 = 0
   ·rw [if_pos c9] at H
    have c9b0 : (t669 == 0) = true:=beq_iff_eq.mpr c9
    have c9b1 : (t669 != 0) = false:=bne_eq_false_iff_eq.mpr c9
    clear c9
    by_cases c10 : 0 ≤ t656
    ·rw [if_pos c10] at H
     have c10b0:=eq_true c10
     have c10b1 : decide (0 ≤ t656) = true:=decide_eq_true c10
     clear c10
     by_cases c11 : t656 ≤ (a1.size : Int)
     ·rw [if_pos c11] at H
      have c11b0:=eq_true c11
      have c11b1 : decide (t656 ≤ (a1.size : Int)) = true:=decide_eq_true c11
      clear c11
      by_cases c12 : (a1.extract 0 (t656 : Int).toNat).size + (strOfNums y666).size ≤ 9223372036854775807
      ·rw [if_pos c12] at H
       have c12b0:=eq_true c12
       have c12b1 : decide ((a1.extract 0 (t656 : Int).toNat).size + (strOfNums y666).size ≤ 9223372036854775807) = true:=decide_eq_true c12
       try have c12b2 : (9223372036854775807 < (a1.extract 0 (t656 : Int).toNat).size + (strOfNums y666).size) = False:=eq_false (Nat.not_lt.2 c12)
       have c13b0:=eq_true (of_decide_eq_true da_ : 0 ≤ t656)
       have c14b0:=eq_true (of_decide_eq_true da_ : t656 ≤ (a1.size : Int))
       by_cases c15 : ((a1.extract 0 (t656 : Int).toNat) ++ (strOfNums y666)).size + (a1.extract (t656 : Int).toNat a1.size).size ≤ 9223372036854775807
       ·rw [if_pos c15] at H
        have c15b0:=eq_true c15
        have c15b1 : decide (((a1.extract 0 (t656 : Int).toNat) ++ (strOfNums y666)).size + (a1.extract (t656 : Int).toNat a1.size).size ≤ 9223372036854775807) = true:=decide_eq_true c15
        try have c15b2 : (9223372036854775807 < ((a1.extract 0 (t656 : Int).toNat) ++ (strOfNums y666)).size + (a1.extract (t656 : Int).toNat a1.size).size) = False:=eq_false (Nat.not_lt.2 c15)
        try have c15b3 : (9223372036854775807 < (a1.extract 0 (t656 : Int).toNat).size + (strOfNums y666).size + (a1.extract (t656 : Int).toNat a1.size).size) = False:=(by have z_:=c15b2;simp only [ByteArray.size_append] at z_;exact z_)
        simp only [Option.some.injEq,Prod.mk.injEq] at H
        obtain ⟨rfl,rfl⟩:=H
        go_enter Tryz.func97,Tryz.ntmps97
        iterate 4 ((try go_quiet (fail));(try go_wp2_with (first | (go_at_call 58;(with_reducible refine (spec_l20Rd_pick.calls k g s0_0 s0_1 (wrap64 ((a1.size : Int) + 1)) t656 t657 w0 _ ?side1 ?side2 A3.out).mono ?_);(case side1=>exact m8_);(case side2=>exact m9_);rintro e w16 ⟨rfl,hi,hb,hk⟩;replace HK:=am (KeepBut.trans m10_ hk (.inl rfl));replace HB:=am hb;replace HI0:=am hi;(try clear hb);(try clear hk);(try clear hi)) | (go_at_call 58;(with_reducible refine (spec_l20Rd_pick.calls k g s0_0 t657 256 t658 t659 w0 _ ?side1 ?side2 A4.out).mono ?_);(case side1=>exact m8_);(case side2=>exact m9_);rintro e w17 ⟨rfl,hi,hb,hk⟩;replace HK:=am (KeepBut.trans m10_ hk (.inl rfl));replace HB:=am hb;replace HI0:=am hi;(try clear hb);(try clear hk);(try clear hi)) | ((with_reducible refine gD 14 rfl ?_);refine Kd.R_lit (Kd.int .i64) _ 3 rfl (N:=14) rfl (xs:=([32,48,49,57,59,97,112,t658] : List Int)) (inner:=[.int .i64 32,.int .i64 48,.int .i64 49,.int .i64 57,.int .i64 59,.int .i64 97,.int .i64 112,.int .i64 t658]) (ok:=fun _=>True) (okp:=fun _=>True) hr_ ?hp (fun _ hk=>hk) trivial (Below.refl _ _) (Nat.le_refl _) (by simp) ?_;(case hp=>exact (Reps.one (show Kd.M (Kd.int .i64) _ _ _ 32 [.int .i64 32] from rfl) (Reps.one (show Kd.M (Kd.int .i64) _ _ _ 48 [.int .i64 48] from rfl) (Reps.one (show Kd.M (Kd.int .i64) _ _ _ 49 [.int .i64 49] from rfl) (Reps.one (show Kd.M (Kd.int .i64) _ _ _ 57 [.int .i64 57] from rfl) (Reps.one (show Kd.M (Kd.int .i64) _ _ _ 59 [.int .i64 59] from rfl) (Reps.one (show Kd.M (Kd.int .i64) _ _ _ 97 [.int .i64 97] from rfl) (Reps.one (show Kd.M (Kd.int .i64) _ _ _ 112 [.int .i64 112] from rfl) (Reps.one (show Kd.M (Kd.int .i64) _ _ _ t658 [.int .i64 t658] from rfl) (Reps.none _ _))))))))));intro v661 w18 ho19 hb hg_ hnew_;clear hg_ hnew_;(first | rw [← Ny660.out] at ho19 | (simp only [Int.reduceToNat] at ho19;rw [← Ny660.out] at ho19));have HO662:=am (Kd.R_lower ho19 (keep_size (w:=w) (g:=g) (row:=none) m10_));replace HK:=am (KeepBut.trans m10_ (KeepBut.of_below hb g none) (.inl rfl));replace HB:=am (below_step m9_ hb);replace HI0:=am (IsS102.below m8_ hb);clear hb ho19) | (go_at_call 58;(with_reducible refine (spec_l20Rd_pick.calls k g s0_0 t659 8 t663 t664 w0 _ ?side1 ?side2 A5.out).mono ?_);(case side1=>exact m8_);(case side2=>exact m9_);rintro e w20 ⟨rfl,hi,hb,hk⟩;replace HO662:=am (Kd.R_mono (Kd.R_keep (IsS102.apart (show IsS102 w0 _ g s0_0 t659 from m8_) (rs HO662) (by decide)) hk (fun _ h=>h.2)) (fun _ h=>h.1));replace HK:=am (KeepBut.trans m10_ hk (.inl rfl));replace HB:=am hb;replace HI0:=am hi;(try clear hb);(try clear hk);(try clear hi);obtain ⟨Ao21,co21,eo21⟩:=Kd.R_slice HO662.out;subst eo21;have p665 : 0 ≤ (t663 : Int):=of_decide_eq_true da_;have q665 : t663 < (y660.length : Int):=of_decide_eq_true da_;obtain ⟨ad665,e665,hx665_0⟩:=Kd.at_int (Kd.R_reads' HO662.out).2.2 t663 p665 q665;cases e665;replace p665:=eq_true p665;replace q665:=eq_true q665) | ((with_reducible refine gD 20 rfl ?_);refine Kd.R_lit (Kd.int .u8) _ 5 rfl (N:=20) rfl (xs:=([(rd y660 t663) % 256] : List Int)) (inner:=[.int .u8 ((rd y660 t663) % 256)]) (ok:=fun _=>True) (okp:=fun _=>True) hr_ ?hp (fun _ hk=>hk) trivial (Below.refl _ _) (Nat.le_refl _) (by simp) ?_;(case hp=>exact (Reps.one (show Kd.M (Kd.int .u8) _ _ _ ((rd y660 t663) % 256) [.int .u8 ((rd y660 t663) % 256)] from rfl) (Reps.none _ _)));intro v667 w22 ho23 hb hg_ hnew_;clear hg_ hnew_;(first | rw [← Ny666.out] at ho23 | (simp only [Int.reduceToNat] at ho23;rw [← Ny666.out] at ho23));replace HO662:=am (Kd.R_below (rs HO662) hb);have HO668:=am (Kd.R_lower ho23 (keep_size (w:=w) (g:=g) (row:=none) m10_));replace HK:=am (KeepBut.trans m10_ (KeepBut.of_below hb g none) (.inl rfl));replace HB:=am (below_step m9_ hb);replace HI0:=am (IsS102.below m8_ hb);clear hb ho23;have hcv24:=own_string (P:=Tryz.prog) Tryz.underlying39 Tryz.underlying5 Tryz.underlying9 (Kd.own_of_R HO668.out)) | (go_at_call 58;(with_reducible refine (spec_l20Rd_pick.calls k g s0_0 t664 3 t669 t670 w0 _ ?side1 ?side2 A8.out).mono ?_);(case side1=>exact m8_);(case side2=>exact m9_);rintro e w25 ⟨rfl,hi,hb,hk⟩;replace HO662:=am (Kd.R_mono (Kd.R_keep (IsS102.apart (show IsS102 w0 _ g s0_0 t664 from m8_) (rs HO662) (by decide)) hk (fun _ h=>h.2)) (fun _ h=>h.1));replace HO668:=am (Kd.R_mono (Kd.R_keep (IsS102.apart (show IsS102 w0 _ g s0_0 t664 from m8_) (rs HO668) (by decide)) hk (fun _ h=>h.2)) (fun _ h=>h.1));replace HK:=am (KeepBut.trans m10_ hk (.inl rfl));replace HB:=am hb;replace HI0:=am hi;(try clear hb);(try clear hk);(try clear hi)))))
        go_ret
        exact ⟨fi_,m8_,m9_,m10_⟩
       ·rw [if_neg c15] at H
        exact absurd H (by simp)
      ·rw [if_neg c12] at H
       exact absurd H (by simp)
     ·rw [if_neg c11] at H
      exact absurd H (by simp)
    ·rw [if_neg c10] at H
     exact absurd H (by simp)
   ·rw [if_neg c9] at H
    have c9b0 : (t669 == 0) = false:=beq_eq_false_iff_ne.mpr c9
    have c9b1 : (t669 != 0) = true:=bne_iff_ne.mpr c9
    by_cases c26 : t669 = 1
    ·rw [if_pos c26] at H
     have c26b0 : (t669 == 1) = true:=beq_iff_eq.mpr c26
     have c26b1 : (t669 != 1) = false:=bne_eq_false_iff_eq.mpr c26
     clear c26
     by_cases c27 : t656 < (a1.size : Int)
     ·rw [if_pos c27] at H
      have c27b0 : decide (t656 < (a1.size : Int)) = true:=decide_eq_true c27
      clear c27
      by_cases c28 : 0 ≤ t656
      ·rw [if_pos c28] at H
       have c28b0:=eq_true c28
       have c28b1 : decide (0 ≤ t656) = true:=decide_eq_true c28
       clear c28
       by_cases c29 : t656 ≤ (a1.size : Int)
       ·rw [if_pos c29] at H
        have c29b0:=eq_true c29
        have c29b1 : decide (t656 ≤ (a1.size : Int)) = true:=decide_eq_true c29
        clear c29
        obtain ⟨ji30,hji30⟩ : ∃ j_ : Int,(wrap64 (t656 + 1)) = j_:=⟨_,rfl⟩
        replace H : (if 0 ≤ (ji30) then (if (ji30) ≤ (a1.size : Int) then (if (a1.extract 0 (t656 : Int).toNat).size + (a1.extract ((ji30) : Int).toNat a1.size).size ≤ 9223372036854775807 then (some ((a1.extract 0 (t656 : Int).toNat) ++ (a1.extract ((ji30) : Int).toNat a1.size),t670)) else (none)) else (none)) else (none)) = some (r1,r2):=by first | (rw [hji30] at H;exact H) | (simp only [hji30] at H ⊢;exact H)
        (try rw [hji30] at A3)
        (try rw [hji30] at A4)
        (try rw [hji30] at A5)
        (try rw [hji30] at A8)
        have hji30w : (IntKind.i64.wrap (t656 + 1)) = ji30:=(i64_w _).trans hji30
        by_cases c31 : 0 ≤ (ji30)
        ·rw [if_pos c31] at H
         have c31b0:=eq_true c31
         have c31b1 : decide (0 ≤ (ji30)) = true:=decide_eq_true c31
         clear c31
         by_cases c32 : (ji30) ≤ (a1.size : Int)
         ·rw [if_pos c32] at H
          have c32b0:=eq_true c32
          have c32b1 : decide ((ji30) ≤ (a1.size : Int)) = true:=decide_eq_true c32
          clear c32
          by_cases c33 : (a1.extract 0 (t656 : Int).toNat).size + (a1.extract ((ji30) : Int).toNat a1.size).size ≤ 9223372036854775807
          ·rw [if_pos c33] at H
           have c33b0:=eq_true c33
           have c33b1 : decide ((a1.extract 0 (t656 : Int).toNat).size + (a1.extract ((ji30) : Int).toNat a1.size).size ≤ 9223372036854775807) = true:=decide_eq_true c33
           try have c33b2 : (9223372036854775807 < (a1.extract 0 (t656 : Int).toNat).size + (a1.extract ((ji30) : Int).toNat a1.size).size) = False:=eq_false (Nat.not_lt.2 c33)
           simp only [Option.some.injEq,Prod.mk.injEq] at H
           obtain ⟨rfl,rfl⟩:=H
           go_enter Tryz.func97,Tryz.ntmps97
           iterate 4 ((try go_quiet (fail));(try go_wp2_with (first | (go_at_call 58;(with_reducible refine (spec_l20Rd_pick.calls k g s0_0 s0_1 (wrap64 ((a1.size : Int) + 1)) t656 t657 w0 _ ?side1 ?side2 A3.out).mono ?_);(case side1=>exact m8_);(case side2=>exact m9_);rintro e w34 ⟨rfl,hi,hb,hk⟩;replace HK:=am (KeepBut.trans m10_ hk (.inl rfl));replace HB:=am hb;replace HI0:=am hi;(try clear hb);(try clear hk);(try clear hi)) | (go_at_call 58;(with_reducible refine (spec_l20Rd_pick.calls k g s0_0 t657 256 t658 t659 w0 _ ?side1 ?side2 A4.out).mono ?_);(case side1=>exact m8_);(case side2=>exact m9_);rintro e w35 ⟨rfl,hi,hb,hk⟩;replace HK:=am (KeepBut.trans m10_ hk (.inl rfl));replace HB:=am hb;replace HI0:=am hi;(try clear hb);(try clear hk);(try clear hi)) | ((with_reducible refine gD 14 rfl ?_);refine Kd.R_lit (Kd.int .i64) _ 3 rfl (N:=14) rfl (xs:=([32,48,49,57,59,97,112,t658] : List Int)) (inner:=[.int .i64 32,.int .i64 48,.int .i64 49,.int .i64 57,.int .i64 59,.int .i64 97,.int .i64 112,.int .i64 t658]) (ok:=fun _=>True) (okp:=fun _=>True) hr_ ?hp (fun _ hk=>hk) trivial (Below.refl _ _) (Nat.le_refl _) (by simp) ?_;(case hp=>exact (Reps.one (show Kd.M (Kd.int .i64) _ _ _ 32 [.int .i64 32] from rfl) (Reps.one (show Kd.M (Kd.int .i64) _ _ _ 48 [.int .i64 48] from rfl) (Reps.one (show Kd.M (Kd.int .i64) _ _ _ 49 [.int .i64 49] from rfl) (Reps.one (show Kd.M (Kd.int .i64) _ _ _ 57 [.int .i64 57] from rfl) (Reps.one (show Kd.M (Kd.int .i64) _ _ _ 59 [.int .i64 59] from rfl) (Reps.one (show Kd.M (Kd.int .i64) _ _ _ 97 [.int .i64 97] from rfl) (Reps.one (show Kd.M (Kd.int .i64) _ _ _ 112 [.int .i64 112] from rfl) (Reps.one (show Kd.M (Kd.int .i64) _ _ _ t658 [.int .i64 t658] from rfl) (Reps.none _ _))))))))));intro v661 w36 ho37 hb hg_ hnew_;clear hg_ hnew_;(first | rw [← Ny660.out] at ho37 | (simp only [Int.reduceToNat] at ho37;rw [← Ny660.out] at ho37));have HO662:=am (Kd.R_lower ho37 (keep_size (w:=w) (g:=g) (row:=none) m10_));replace HK:=am (KeepBut.trans m10_ (KeepBut.of_below hb g none) (.inl rfl));replace HB:=am (below_step m9_ hb);replace HI0:=am (IsS102.below m8_ hb);clear hb ho37) | (go_at_call 58;(with_reducible refine (spec_l20Rd_pick.calls k g s0_0 t659 8 t663 t664 w0 _ ?side1 ?side2 A5.out).mono ?_);(case side1=>exact m8_);(case side2=>exact m9_);rintro e w38 ⟨rfl,hi,hb,hk⟩;replace HO662:=am (Kd.R_mono (Kd.R_keep (IsS102.apart (show IsS102 w0 _ g s0_0 t659 from m8_) (rs HO662) (by decide)) hk (fun _ h=>h.2)) (fun _ h=>h.1));replace HK:=am (KeepBut.trans m10_ hk (.inl rfl));replace HB:=am hb;replace HI0:=am hi;(try clear hb);(try clear hk);(try clear hi);obtain ⟨Ao39,co39,eo39⟩:=Kd.R_slice HO662.out;subst eo39;have p665 : 0 ≤ (t663 : Int):=of_decide_eq_true da_;have q665 : t663 < (y660.length : Int):=of_decide_eq_true da_;obtain ⟨ad665,e665,hx665_0⟩:=Kd.at_int (Kd.R_reads' HO662.out).2.2 t663 p665 q665;cases e665;replace p665:=eq_true p665;replace q665:=eq_true q665) | ((with_reducible refine gD 20 rfl ?_);refine Kd.R_lit (Kd.int .u8) _ 5 rfl (N:=20) rfl (xs:=([(rd y660 t663) % 256] : List Int)) (inner:=[.int .u8 ((rd y660 t663) % 256)]) (ok:=fun _=>True) (okp:=fun _=>True) hr_ ?hp (fun _ hk=>hk) trivial (Below.refl _ _) (Nat.le_refl _) (by simp) ?_;(case hp=>exact (Reps.one (show Kd.M (Kd.int .u8) _ _ _ ((rd y660 t663) % 256) [.int .u8 ((rd y660 t663) % 256)] from rfl) (Reps.none _ _)));intro v667 w40 ho41 hb hg_ hnew_;clear hg_ hnew_;(first | rw [← Ny666.out] at ho41 | (simp only [Int.reduceToNat] at ho41;rw [← Ny666.out] at ho41));replace HO662:=am (Kd.R_below (rs HO662) hb);have HO668:=am (Kd.R_lower ho41 (keep_size (w:=w) (g:=g) (row:=none) m10_));replace HK:=am (KeepBut.trans m10_ (KeepBut.of_below hb g none) (.inl rfl));replace HB:=am (below_step m9_ hb);replace HI0:=am (IsS102.below m8_ hb);clear hb ho41;have hcv42:=own_string (P:=Tryz.prog) Tryz.underlying39 Tryz.underlying5 Tryz.underlying9 (Kd.own_of_R HO668.out)) | (go_at_call 58;(with_reducible refine (spec_l20Rd_pick.calls k g s0_0 t664 3 t669 t670 w0 _ ?side1 ?side2 A8.out).mono ?_);(case side1=>exact m8_);(case side2=>exact m9_);rintro e w43 ⟨rfl,hi,hb,hk⟩;replace HO662:=am (Kd.R_mono (Kd.R_keep (IsS102.apart (show IsS102 w0 _ g s0_0 t664 from m8_) (rs HO662) (by decide)) hk (fun _ h=>h.2)) (fun _ h=>h.1));replace HO668:=am (Kd.R_mono (Kd.R_keep (IsS102.apart (show IsS102 w0 _ g s0_0 t664 from m8_) (rs HO668) (by decide)) hk (fun _ h=>h.2)) (fun _ h=>h.1));replace HK:=am (KeepBut.trans m10_ hk (.inl rfl));replace HB:=am hb;replace HI0:=am hi;(try clear hb);(try clear hk);(try clear hi)))))
           go_ret
           exact ⟨by first | rfl | (simp [errW_none,errW_some] <;> rfl) | (simp only [← hji30];first | rfl | (simp [errW_none,errW_some] <;> rfl)) | (simp [*,errW_none,errW_some] <;> rfl),m8_,m9_,m10_⟩
          ·rw [if_neg c33] at H
           exact absurd H (by simp)
         ·rw [if_neg c32] at H
          exact absurd H (by simp)
        ·rw [if_neg c31] at H
         exact absurd H (by simp)
       ·rw [if_neg c29] at H
        exact absurd H (by simp)
      ·rw [if_neg c28] at H
       exact absurd H (by simp)
     ·rw [if_neg c27] at H
      have c27b0 : decide (t656 < (a1.size : Int)) = false:=decide_eq_false c27
      clear c27
      simp only [Option.some.injEq,Prod.mk.injEq] at H
      obtain ⟨rfl,rfl⟩:=H
      go_enter Tryz.func97,Tryz.ntmps97
      iterate 4 ((try go_quiet (fail));(try go_wp2_with (first | (go_at_call 58;(with_reducible refine (spec_l20Rd_pick.calls k g s0_0 s0_1 (wrap64 ((a1.size : Int) + 1)) t656 t657 w0 _ ?side1 ?side2 A3.out).mono ?_);(case side1=>exact m8_);(case side2=>exact m9_);rintro e w44 ⟨rfl,hi,hb,hk⟩;replace HK:=am (KeepBut.trans m10_ hk (.inl rfl));replace HB:=am hb;replace HI0:=am hi;(try clear hb);(try clear hk);(try clear hi)) | (go_at_call 58;(with_reducible refine (spec_l20Rd_pick.calls k g s0_0 t657 256 t658 t659 w0 _ ?side1 ?side2 A4.out).mono ?_);(case side1=>exact m8_);(case side2=>exact m9_);rintro e w45 ⟨rfl,hi,hb,hk⟩;replace HK:=am (KeepBut.trans m10_ hk (.inl rfl));replace HB:=am hb;replace HI0:=am hi;(try clear hb);(try clear hk);(try clear hi)) | ((with_reducible refine gD 14 rfl ?_);refine Kd.R_lit (Kd.int .i64) _ 3 rfl (N:=14) rfl (xs:=([32,48,49,57,59,97,112,t658] : List Int)) (inner:=[.int .i64 32,.int .i64 48,.int .i64 49,.int .i64 57,.int .i64 59,.int .i64 97,.int .i64 112,.int .i64 t658]) (ok:=fun _=>True) (okp:=fun _=>True) hr_ ?hp (fun _ hk=>hk) trivial (Below.refl _ _) (Nat.le_refl _) (by simp) ?_;(case hp=>exact (Reps.one (show Kd.M (Kd.int .i64) _ _ _ 32 [.int .i64 32] from rfl) (Reps.one (show Kd.M (Kd.int .i64) _ _ _ 48 [.int .i64 48] from rfl) (Reps.one (show Kd.M (Kd.int .i64) _ _ _ 49 [.int .i64 49] from rfl) (Reps.one (show Kd.M (Kd.int .i64) _ _ _ 57 [.int .i64 57] from rfl) (Reps.one (show Kd.M (Kd.int .i64) _ _ _ 59 [.int .i64 59] from rfl) (Reps.one (show Kd.M (Kd.int .i64) _ _ _ 97 [.int .i64 97] from rfl) (Reps.one (show Kd.M (Kd.int .i64) _ _ _ 112 [.int .i64 112] from rfl) (Reps.one (show Kd.M (Kd.int .i64) _ _ _ t658 [.int .i64 t658] from rfl) (Reps.none _ _))))))))));intro v661 w46 ho47 hb hg_ hnew_;clear hg_ hnew_;(first | rw [← Ny660.out] at ho47 | (simp only [Int.reduceToNat] at ho47;rw [← Ny660.out] at ho47));have HO662:=am (Kd.R_lower ho47 (keep_size (w:=w) (g:=g) (row:=none) m10_));replace HK:=am (KeepBut.trans m10_ (KeepBut.of_below hb g none) (.inl rfl));replace HB:=am (below_step m9_ hb);replace HI0:=am (IsS102.below m8_ hb);clear hb ho47) | (go_at_call 58;(with_reducible refine (spec_l20Rd_pick.calls k g s0_0 t659 8 t663 t664 w0 _ ?side1 ?side2 A5.out).mono ?_);(case side1=>exact m8_);(case side2=>exact m9_);rintro e w48 ⟨rfl,hi,hb,hk⟩;replace HO662:=am (Kd.R_mono (Kd.R_keep (IsS102.apart (show IsS102 w0 _ g s0_0 t659 from m8_) (rs HO662) (by decide)) hk (fun _ h=>h.2)) (fun _ h=>h.1));replace HK:=am (KeepBut.trans m10_ hk (.inl rfl));replace HB:=am hb;replace HI0:=am hi;(try clear hb);(try clear hk);(try clear hi);obtain ⟨Ao49,co49,eo49⟩:=Kd.R_slice HO662.out;subst eo49;have p665 : 0 ≤ (t663 : Int):=of_decide_eq_true da_;have q665 : t663 < (y660.length : Int):=of_decide_eq_true da_;obtain ⟨ad665,e665,hx665_0⟩:=Kd.at_int (Kd.R_reads' HO662.out).2.2 t663 p665 q665;cases e665;replace p665:=eq_true p665;replace q665:=eq_true q665) | ((with_reducible refine gD 20 rfl ?_);refine Kd.R_lit (Kd.int .u8) _ 5 rfl (N:=20) rfl (xs:=([(rd y660 t663) % 256] : List Int)) (inner:=[.int .u8 ((rd y660 t663) % 256)]) (ok:=fun _=>True) (okp:=fun _=>True) hr_ ?hp (fun _ hk=>hk) trivial (Below.refl _ _) (Nat.le_refl _) (by simp) ?_;(case hp=>exact (Reps.one (show Kd.M (Kd.int .u8) _ _ _ ((rd y660 t663) % 256) [.int .u8 ((rd y660 t663) % 256)] from rfl) (Reps.none _ _)));intro v667 w50 ho51 hb hg_ hnew_;clear hg_ hnew_;(first | rw [← Ny666.out] at ho51 | (simp only [Int.reduceToNat] at ho51;rw [← Ny666.out] at ho51));replace HO662:=am (Kd.R_below (rs HO662) hb);have HO668:=am (Kd.R_lower ho51 (keep_size (w:=w) (g:=g) (row:=none) m10_));replace HK:=am (KeepBut.trans m10_ (KeepBut.of_below hb g none) (.inl rfl));replace HB:=am (below_step m9_ hb);replace HI0:=am (IsS102.below m8_ hb);clear hb ho51;have hcv52:=own_string (P:=Tryz.prog) Tryz.underlying39 Tryz.underlying5 Tryz.underlying9 (Kd.own_of_R HO668.out)) | (go_at_call 58;(with_reducible refine (spec_l20Rd_pick.calls k g s0_0 t664 3 t669 t670 w0 _ ?side1 ?side2 A8.out).mono ?_);(case side1=>exact m8_);(case side2=>exact m9_);rintro e w53 ⟨rfl,hi,hb,hk⟩;replace HO662:=am (Kd.R_mono (Kd.R_keep (IsS102.apart (show IsS102 w0 _ g s0_0 t664 from m8_) (rs HO662) (by decide)) hk (fun _ h=>h.2)) (fun _ h=>h.1));replace HO668:=am (Kd.R_mono (Kd.R_keep (IsS102.apart (show IsS102 w0 _ g s0_0 t664 from m8_) (rs HO668) (by decide)) hk (fun _ h=>h.2)) (fun _ h=>h.1));replace HK:=am (KeepBut.trans m10_ hk (.inl rfl));replace HB:=am hb;replace HI0:=am hi;(try clear hb);(try clear hk);(try clear hi)))))
      go_ret
      exact ⟨fi_,m8_,m9_,m10_⟩
    ·rw [if_neg c26] at H
     have c26b0 : (t669 == 1) = false:=beq_eq_false_iff_ne.mpr c26
     have c26b1 : (t669 != 1) = true:=bne_iff_ne.mpr c26
     by_cases c54 : t656 < (a1.size : Int)
     ·rw [if_pos c54] at H
      have c54b0 : decide (t656 < (a1.size : Int)) = true:=decide_eq_true c54
      clear c54
      by_cases c55 : 0 ≤ t656
      ·rw [if_pos c55] at H
       have c55b0:=eq_true c55
       have c55b1 : decide (0 ≤ t656) = true:=decide_eq_true c55
       clear c55
       by_cases c56 : t656 ≤ (a1.size : Int)
       ·rw [if_pos c56] at H
        have c56b0:=eq_true c56
        have c56b1 : decide (t656 ≤ (a1.size : Int)) = true:=decide_eq_true c56
        clear c56
        by_cases c57 : (a1.extract 0 (t656 : Int).toNat).size + (strOfNums y666).size ≤ 9223372036854775807
        ·rw [if_pos c57] at H
         have c57b0:=eq_true c57
         have c57b1 : decide ((a1.extract 0 (t656 : Int).toNat).size + (strOfNums y666).size ≤ 9223372036854775807) = true:=decide_eq_true c57
         try have c57b2 : (9223372036854775807 < (a1.extract 0 (t656 : Int).toNat).size + (strOfNums y666).size) = False:=eq_false (Nat.not_lt.2 c57)
         obtain ⟨ji58,hji58⟩ : ∃ j_ : Int,(wrap64 (t656 + 1)) = j_:=⟨_,rfl⟩
         replace H : (if 0 ≤ (ji58) then (if (ji58) ≤ (a1.size : Int) then (if ((a1.extract 0 (t656 : Int).toNat) ++ (strOfNums y666)).size + (a1.extract ((ji58) : Int).toNat a1.size).size ≤ 9223372036854775807 then (some (((a1.extract 0 (t656 : Int).toNat) ++ (strOfNums y666)) ++ (a1.extract ((ji58) : Int).toNat a1.size),t670)) else (none)) else (none)) else (none)) = some (r1,r2):=by first | (rw [hji58] at H;exact H) | (simp only [hji58] at H ⊢;exact H)
         (try rw [hji58] at A3)
         (try rw [hji58] at A4)
         (try rw [hji58] at A5)
         (try rw [hji58] at A8)
         have hji58w : (IntKind.i64.wrap (t656 + 1)) = ji58:=(i64_w _).trans hji58
         by_cases c59 : 0 ≤ (ji58)
         ·rw [if_pos c59] at H
          have c59b0:=eq_true c59
          have c59b1 : decide (0 ≤ (ji58)) = true:=decide_eq_true c59
          clear c59
          by_cases c60 : (ji58) ≤ (a1.size : Int)
          ·rw [if_pos c60] at H
           have c60b0:=eq_true c60
           have c60b1 : decide ((ji58) ≤ (a1.size : Int)) = true:=decide_eq_true c60
           clear c60
           by_cases c61 : ((a1.extract 0 (t656 : Int).toNat) ++ (strOfNums y666)).size + (a1.extract ((ji58) : Int).toNat a1.size).size ≤ 9223372036854775807
           ·rw [if_pos c61] at H
            have c61b0:=eq_true c61
            have c61b1 : decide (((a1.extract 0 (t656 : Int).toNat) ++ (strOfNums y666)).size + (a1.extract ((ji58) : Int).toNat a1.size).size ≤ 9223372036854775807) = true:=decide_eq_true c61
            try have c61b2 : (9223372036854775807 < ((a1.extract 0 (t656 : Int).toNat) ++ (strOfNums y666)).size + (a1.extract ((ji58) : Int).toNat a1.size).size) = False:=eq_false (Nat.not_lt.2 c61)
            try have c61b3 : (9223372036854775807 < (a1.extract 0 (t656 : Int).toNat).size + (strOfNums y666).size + (a1.extract ((ji58) : Int).toNat a1.size).size) = False:=(by have z_:=c61b2;simp only [ByteArray.size_append] at z_;exact z_)
            simp only [Option.some.injEq,Prod.mk.injEq] at H
            obtain ⟨rfl,rfl⟩:=H
            go_enter Tryz.func97,Tryz.ntmps97
            iterate 4 ((try go_quiet (fail));(try go_wp2_with (first | (go_at_call 58;(with_reducible refine (spec_l20Rd_pick.calls k g s0_0 s0_1 (wrap64 ((a1.size : Int) + 1)) t656 t657 w0 _ ?side1 ?side2 A3.out).mono ?_);(case side1=>exact m8_);(case side2=>exact m9_);rintro e w62 ⟨rfl,hi,hb,hk⟩;replace HK:=am (KeepBut.trans m10_ hk (.inl rfl));replace HB:=am hb;replace HI0:=am hi;(try clear hb);(try clear hk);(try clear hi)) | (go_at_call 58;(with_reducible refine (spec_l20Rd_pick.calls k g s0_0 t657 256 t658 t659 w0 _ ?side1 ?side2 A4.out).mono ?_);(case side1=>exact m8_);(case side2=>exact m9_);rintro e w63 ⟨rfl,hi,hb,hk⟩;replace HK:=am (KeepBut.trans m10_ hk (.inl rfl));replace HB:=am hb;replace HI0:=am hi;(try clear hb);(try clear hk);(try clear hi)) | ((with_reducible refine gD 14 rfl ?_);refine Kd.R_lit (Kd.int .i64) _ 3 rfl (N:=14) rfl (xs:=([32,48,49,57,59,97,112,t658] : List Int)) (inner:=[.int .i64 32,.int .i64 48,.int .i64 49,.int .i64 57,.int .i64 59,.int .i64 97,.int .i64 112,.int .i64 t658]) (ok:=fun _=>True) (okp:=fun _=>True) hr_ ?hp (fun _ hk=>hk) trivial (Below.refl _ _) (Nat.le_refl _) (by simp) ?_;(case hp=>exact (Reps.one (show Kd.M (Kd.int .i64) _ _ _ 32 [.int .i64 32] from rfl) (Reps.one (show Kd.M (Kd.int .i64) _ _ _ 48 [.int .i64 48] from rfl) (Reps.one (show Kd.M (Kd.int .i64) _ _ _ 49 [.int .i64 49] from rfl) (Reps.one (show Kd.M (Kd.int .i64) _ _ _ 57 [.int .i64 57] from rfl) (Reps.one (show Kd.M (Kd.int .i64) _ _ _ 59 [.int .i64 59] from rfl) (Reps.one (show Kd.M (Kd.int .i64) _ _ _ 97 [.int .i64 97] from rfl) (Reps.one (show Kd.M (Kd.int .i64) _ _ _ 112 [.int .i64 112] from rfl) (Reps.one (show Kd.M (Kd.int .i64) _ _ _ t658 [.int .i64 t658] from rfl) (Reps.none _ _))))))))));intro v661 w64 ho65 hb hg_ hnew_;clear hg_ hnew_;(first | rw [← Ny660.out] at ho65 | (simp only [Int.reduceToNat] at ho65;rw [← Ny660.out] at ho65));have HO662:=am (Kd.R_lower ho65 (keep_size (w:=w) (g:=g) (row:=none) m10_));replace HK:=am (KeepBut.trans m10_ (KeepBut.of_below hb g none) (.inl rfl));replace HB:=am (below_step m9_ hb);replace HI0:=am (IsS102.below m8_ hb);clear hb ho65) | (go_at_call 58;(with_reducible refine (spec_l20Rd_pick.calls k g s0_0 t659 8 t663 t664 w0 _ ?side1 ?side2 A5.out).mono ?_);(case side1=>exact m8_);(case side2=>exact m9_);rintro e w66 ⟨rfl,hi,hb,hk⟩;replace HO662:=am (Kd.R_mono (Kd.R_keep (IsS102.apart (show IsS102 w0 _ g s0_0 t659 from m8_) (rs HO662) (by decide)) hk (fun _ h=>h.2)) (fun _ h=>h.1));replace HK:=am (KeepBut.trans m10_ hk (.inl rfl));replace HB:=am hb;replace HI0:=am hi;(try clear hb);(try clear hk);(try clear hi);obtain ⟨Ao67,co67,eo67⟩:=Kd.R_slice HO662.out;subst eo67;have p665 : 0 ≤ (t663 : Int):=of_decide_eq_true da_;have q665 : t663 < (y660.length : Int):=of_decide_eq_true da_;obtain ⟨ad665,e665,hx665_0⟩:=Kd.at_int (Kd.R_reads' HO662.out).2.2 t663 p665 q665;cases e665;replace p665:=eq_true p665;replace q665:=eq_true q665) | ((with_reducible refine gD 20 rfl ?_);refine Kd.R_lit (Kd.int .u8) _ 5 rfl (N:=20) rfl (xs:=([(rd y660 t663) % 256] : List Int)) (inner:=[.int .u8 ((rd y660 t663) % 256)]) (ok:=fun _=>True) (okp:=fun _=>True) hr_ ?hp (fun _ hk=>hk) trivial (Below.refl _ _) (Nat.le_refl _) (by simp) ?_;(case hp=>exact (Reps.one (show Kd.M (Kd.int .u8) _ _ _ ((rd y660 t663) % 256) [.int .u8 ((rd y660 t663) % 256)] from rfl) (Reps.none _ _)));intro v667 w68 ho69 hb hg_ hnew_;clear hg_ hnew_;(first | rw [← Ny666.out] at ho69 | (simp only [Int.reduceToNat] at ho69;rw [← Ny666.out] at ho69));replace HO662:=am (Kd.R_below (rs HO662) hb);have HO668:=am (Kd.R_lower ho69 (keep_size (w:=w) (g:=g) (row:=none) m10_));replace HK:=am (KeepBut.trans m10_ (KeepBut.of_below hb g none) (.inl rfl));replace HB:=am (below_step m9_ hb);replace HI0:=am (IsS102.below m8_ hb);clear hb ho69;have hcv70:=own_string (P:=Tryz.prog) Tryz.underlying39 Tryz.underlying5 Tryz.underlying9 (Kd.own_of_R HO668.out)) | (go_at_call 58;(with_reducible refine (spec_l20Rd_pick.calls k g s0_0 t664 3 t669 t670 w0 _ ?side1 ?side2 A8.out).mono ?_);(case side1=>exact m8_);(case side2=>exact m9_);rintro e w71 ⟨rfl,hi,hb,hk⟩;replace HO662:=am (Kd.R_mono (Kd.R_keep (IsS102.apart (show IsS102 w0 _ g s0_0 t664 from m8_) (rs HO662) (by decide)) hk (fun _ h=>h.2)) (fun _ h=>h.1));replace HO668:=am (Kd.R_mono (Kd.R_keep (IsS102.apart (show IsS102 w0 _ g s0_0 t664 from m8_) (rs HO668) (by decide)) hk (fun _ h=>h.2)) (fun _ h=>h.1));replace HK:=am (KeepBut.trans m10_ hk (.inl rfl));replace HB:=am hb;replace HI0:=am hi;(try clear hb);(try clear hk);(try clear hi)))))
            go_ret
            exact ⟨by first | rfl | (simp [errW_none,errW_some] <;> rfl) | (simp only [← hji58];first | rfl | (simp [errW_none,errW_some] <;> rfl)) | (simp [*,errW_none,errW_some] <;> rfl),m8_,m9_,m10_⟩
           ·rw [if_neg c61] at H
            exact absurd H (by simp)
          ·rw [if_neg c60] at H
           exact absurd H (by simp)
         ·rw [if_neg c59] at H
          exact absurd H (by simp)
        ·rw [if_neg c57] at H
         exact absurd H (by simp)
       ·rw [if_neg c56] at H
        exact absurd H (by simp)
      ·rw [if_neg c55] at H
       exact absurd H (by simp)
     ·rw [if_neg c54] at H
      have c54b0 : decide (t656 < (a1.size : Int)) = false:=decide_eq_false c54
      clear c54
      simp only [Option.some.injEq,Prod.mk.injEq] at H
      obtain ⟨rfl,rfl⟩:=H
      go_enter Tryz.func97,Tryz.ntmps97
      iterate 4 ((try go_quiet (fail));(try go_wp2_with (first | (go_at_call 58;(with_reducible refine (spec_l20Rd_pick.calls k g s0_0 s0_1 (wrap64 ((a1.size : Int) + 1)) t656 t657 w0 _ ?side1 ?side2 A3.out).mono ?_);(case side1=>exact m8_);(case side2=>exact m9_);rintro e w72 ⟨rfl,hi,hb,hk⟩;replace HK:=am (KeepBut.trans m10_ hk (.inl rfl));replace HB:=am hb;replace HI0:=am hi;(try clear hb);(try clear hk);(try clear hi)) | (go_at_call 58;(with_reducible refine (spec_l20Rd_pick.calls k g s0_0 t657 256 t658 t659 w0 _ ?side1 ?side2 A4.out).mono ?_);(case side1=>exact m8_);(case side2=>exact m9_);rintro e w73 ⟨rfl,hi,hb,hk⟩;replace HK:=am (KeepBut.trans m10_ hk (.inl rfl));replace HB:=am hb;replace HI0:=am hi;(try clear hb);(try clear hk);(try clear hi)) | ((with_reducible refine gD 14 rfl ?_);refine Kd.R_lit (Kd.int .i64) _ 3 rfl (N:=14) rfl (xs:=([32,48,49,57,59,97,112,t658] : List Int)) (inner:=[.int .i64 32,.int .i64 48,.int .i64 49,.int .i64 57,.int .i64 59,.int .i64 97,.int .i64 112,.int .i64 t658]) (ok:=fun _=>True) (okp:=fun _=>True) hr_ ?hp (fun _ hk=>hk) trivial (Below.refl _ _) (Nat.le_refl _) (by simp) ?_;(case hp=>exact (Reps.one (show Kd.M (Kd.int .i64) _ _ _ 32 [.int .i64 32] from rfl) (Reps.one (show Kd.M (Kd.int .i64) _ _ _ 48 [.int .i64 48] from rfl) (Reps.one (show Kd.M (Kd.int .i64) _ _ _ 49 [.int .i64 49] from rfl) (Reps.one (show Kd.M (Kd.int .i64) _ _ _ 57 [.int .i64 57] from rfl) (Reps.one (show Kd.M (Kd.int .i64) _ _ _ 59 [.int .i64 59] from rfl) (Reps.one (show Kd.M (Kd.int .i64) _ _ _ 97 [.int .i64 97] from rfl) (Reps.one (show Kd.M (Kd.int .i64) _ _ _ 112 [.int .i64 112] from rfl) (Reps.one (show Kd.M (Kd.int .i64) _ _ _ t658 [.int .i64 t658] from rfl) (Reps.none _ _))))))))));intro v661 w74 ho75 hb hg_ hnew_;clear hg_ hnew_;(first | rw [← Ny660.out] at ho75 | (simp only [Int.reduceToNat] at ho75;rw [← Ny660.out] at ho75));have HO662:=am (Kd.R_lower ho75 (keep_size (w:=w) (g:=g) (row:=none) m10_));replace HK:=am (KeepBut.trans m10_ (KeepBut.of_below hb g none) (.inl rfl));replace HB:=am (below_step m9_ hb);replace HI0:=am (IsS102.below m8_ hb);clear hb ho75) | (go_at_call 58;(with_reducible refine (spec_l20Rd_pick.calls k g s0_0 t659 8 t663 t664 w0 _ ?side1 ?side2 A5.out).mono ?_);(case side1=>exact m8_);(case side2=>exact m9_);rintro e w76 ⟨rfl,hi,hb,hk⟩;replace HO662:=am (Kd.R_mono (Kd.R_keep (IsS102.apart (show IsS102 w0 _ g s0_0 t659 from m8_) (rs HO662) (by decide)) hk (fun _ h=>h.2)) (fun _ h=>h.1));replace HK:=am (KeepBut.trans m10_ hk (.inl rfl));replace HB:=am hb;replace HI0:=am hi;(try clear hb);(try clear hk);(try clear hi);obtain ⟨Ao77,co77,eo77⟩:=Kd.R_slice HO662.out;subst eo77;have p665 : 0 ≤ (t663 : Int):=of_decide_eq_true da_;have q665 : t663 < (y660.length : Int):=of_decide_eq_true da_;obtain ⟨ad665,e665,hx665_0⟩:=Kd.at_int (Kd.R_reads' HO662.out).2.2 t663 p665 q665;cases e665;replace p665:=eq_true p665;replace q665:=eq_true q665) | ((with_reducible refine gD 20 rfl ?_);refine Kd.R_lit (Kd.int .u8) _ 5 rfl (N:=20) rfl (xs:=([(rd y660 t663) % 256] : List Int)) (inner:=[.int .u8 ((rd y660 t663) % 256)]) (ok:=fun _=>True) (okp:=fun _=>True) hr_ ?hp (fun _ hk=>hk) trivial (Below.refl _ _) (Nat.le_refl _) (by simp) ?_;(case hp=>exact (Reps.one (show Kd.M (Kd.int .u8) _ _ _ ((rd y660 t663) % 256) [.int .u8 ((rd y660 t663) % 256)] from rfl) (Reps.none _ _)));intro v667 w78 ho79 hb hg_ hnew_;clear hg_ hnew_;(first | rw [← Ny666.out] at ho79 | (simp only [Int.reduceToNat] at ho79;rw [← Ny666.out] at ho79));replace HO662:=am (Kd.R_below (rs HO662) hb);have HO668:=am (Kd.R_lower ho79 (keep_size (w:=w) (g:=g) (row:=none) m10_));replace HK:=am (KeepBut.trans m10_ (KeepBut.of_below hb g none) (.inl rfl));replace HB:=am (below_step m9_ hb);replace HI0:=am (IsS102.below m8_ hb);clear hb ho79;have hcv80:=own_string (P:=Tryz.prog) Tryz.underlying39 Tryz.underlying5 Tryz.underlying9 (Kd.own_of_R HO668.out)) | (go_at_call 58;(with_reducible refine (spec_l20Rd_pick.calls k g s0_0 t664 3 t669 t670 w0 _ ?side1 ?side2 A8.out).mono ?_);(case side1=>exact m8_);(case side2=>exact m9_);rintro e w81 ⟨rfl,hi,hb,hk⟩;replace HO662:=am (Kd.R_mono (Kd.R_keep (IsS102.apart (show IsS102 w0 _ g s0_0 t664 from m8_) (rs HO662) (by decide)) hk (fun _ h=>h.2)) (fun _ h=>h.1));replace HO668:=am (Kd.R_mono (Kd.R_keep (IsS102.apart (show IsS102 w0 _ g s0_0 t664 from m8_) (rs HO668) (by decide)) hk (fun _ h=>h.2)) (fun _ h=>h.1));replace HK:=am (KeepBut.trans m10_ hk (.inl rfl));replace HB:=am hb;replace HI0:=am hi;(try clear hb);(try clear hk);(try clear hi)))))
      go_ret
      exact ⟨fi_,m8_,m9_,m10_⟩
  ·rw [if_neg c7] at H
   exact absurd H (by simp)
 ·rw [if_neg c6] at H
  exact absurd H (by simp)
def spec_l20StreamOr.l0 : Nat → ByteArray → List Int → Int → Option (ByteArray × Int)
 | 0,_,_,_=>none
 | k + 1,x5,x1000,x1001=>if (x5.size : Int) ≤ 120 then (if x5.size + 5 ≤ 9223372036854775807 then (spec_l20StreamOr.l0 k (x5 ++ (⟨#[108,105,115,116,59]⟩ : ByteArray)) x1000 x1001) else (none)) else (some (x5,x1001))
def spec_l20StreamOr.f (k : Nat) (s0_0 : List Int) (s0_1 : Int) (a1 : Int) : Option (ByteArray × Int):=(spec_l20Stream.f k s0_0 s0_1).bind fun bt671=>((spec_l20Rd_odd.f k s0_0 bt671.2 a1).bind fun bt673=>(if bt673.1 = true then ((spec_l20Rd_pick.f k s0_0 bt673.2 3).bind fun bt675=>(if bt675.1 = 0 then ((spec_l20Bent.f k s0_0 bt675.2 bt671.1).bind fun bt677=>(some (bt677.1,bt677.2))) else (if bt675.1 = 1 then (if bt671.1.size + 18 ≤ 9223372036854775807 then (some (bt671.1 ++ (⟨#[97,98,99,100,101,102,103,104,105,106,32,107,108,109,110,111,112,59]⟩ : ByteArray),bt675.2)) else (none)) else (spec_l20StreamOr.l0 k bt671.1 s0_0 bt675.2)))) else (some (bt671.1,bt673.2))))
theorem spec_l20StreamOr.mono_l : ∀ k,(∀ y0 y1 y2,LeO (spec_l20StreamOr.l0 k y0 y1 y2) (spec_l20StreamOr.l0 (k + 1) y0 y1 y2))
 | 0=>fun _ _ _ r h=>by simp [spec_l20StreamOr.l0] at h
 | k + 1=>by
  have ih0:=spec_l20StreamOr.mono_l k
  ·intro y0 y1 y2
   unfold spec_l20StreamOr.l0
   repeat' first | (with_reducible first | exact ih0 _ _ _ | exact spec_l20Bent.mono _ _ _ _ | exact spec_l20Rd_odd.mono _ _ _ _ | exact spec_l20Rd_pick.mono _ _ _ _ | exact spec_l20Stream.mono _ _ _ | exact LeO.refl _ | exact LeO.none _ | refine LeO.ite ?_ ?_ | refine LeO.bind ?_ (fun _=>?_)) | exact ih0 _ _ _ | exact spec_l20Bent.mono _ _ _ _ | exact spec_l20Rd_odd.mono _ _ _ _ | exact spec_l20Rd_pick.mono _ _ _ _ | exact spec_l20Stream.mono _ _ _ | exact LeO.none _ | refine LeO.ite ?_ ?_ | refine LeO.bind ?_ (fun _=>?_)
theorem spec_l20StreamOr.mono : ∀ a0 a1 a2 k,LeO (spec_l20StreamOr.f k a0 a1 a2) (spec_l20StreamOr.f (k + 1) a0 a1 a2):=by
 intro a0 a1 a2 k
 have ih0:=spec_l20StreamOr.mono_l k
 unfold spec_l20StreamOr.f
 repeat' first | (with_reducible first | exact ih0 _ _ _ | exact spec_l20Bent.mono _ _ _ _ | exact spec_l20Rd_odd.mono _ _ _ _ | exact spec_l20Rd_pick.mono _ _ _ _ | exact spec_l20Stream.mono _ _ _ | exact LeO.refl _ | exact LeO.none _ | refine LeO.ite ?_ ?_ | refine LeO.bind ?_ (fun _=>?_)) | exact ih0 _ _ _ | exact spec_l20Bent.mono _ _ _ _ | exact spec_l20Rd_odd.mono _ _ _ _ | exact spec_l20Rd_pick.mono _ _ _ _ | exact spec_l20Stream.mono _ _ _ | exact LeO.none _ | refine LeO.ite ?_ ?_ | refine LeO.bind ?_ (fun _=>?_)
set_option maxHeartbeats 8000000 in
set_option maxRecDepth 100000 in
theorem spec_l20StreamOr.calls (k : Nat) (g : Nat) (s0_0 : List Int) (s0_1 : Int) (a1 : Int) (r1 : ByteArray) (r2 : Int) (w0 w : World) (hI : IsS102 w0 w g s0_0 s0_1) (hB : Below w0.heap.size w0 w) (h : spec_l20StreamOr.f k s0_0 s0_1 a1 = some (r1,r2)) :
  Calls Tryz.prog 70 #[.pointer (some ⟨g,0,none⟩),.int .i64 a1] w fun e w'=>e = .returned (.string r1) ∧ IsS102 w0 w' g s0_0 r2 ∧ Below w0.heap.size w0 w' ∧ KeepBut w w' g none:=by
 have HI0:=am hI
 have HK:=am (KeepBut.refl w g none)
 have HL:=am hB.size
 clear hI
 have HW0:=am hB.size
 have HB:=am hB
 clear hB
 have H : ((spec_l20Stream.f k s0_0 s0_1).bind fun bt671=>((spec_l20Rd_odd.f k s0_0 bt671.2 a1).bind fun bt673=>(if bt673.1 = true then ((spec_l20Rd_pick.f k s0_0 bt673.2 3).bind fun bt675=>(if bt675.1 = 0 then ((spec_l20Bent.f k s0_0 bt675.2 bt671.1).bind fun bt677=>(some (bt677.1,bt677.2))) else (if bt675.1 = 1 then (if bt671.1.size + 18 ≤ 9223372036854775807 then (some (bt671.1 ++ (⟨#[97,98,99,100,101,102,103,104,105,106,32,107,108,109,110,111,112,59]⟩ : ByteArray),bt675.2)) else (none)) else (spec_l20StreamOr.l0 k bt671.1 s0_0 bt675.2)))) else (some (bt671.1,bt673.2))))) = some (r1,r2):=h
 clear h
 obtain ⟨⟨t671,t672⟩,A3,H⟩:=bse H
 try dsimp only at H
 obtain ⟨⟨t673,t674⟩,A4,H⟩:=bse H
 try dsimp only at H
 by_cases c5 : t673 = true
 ·subst c5
  have H1 : ((spec_l20Rd_pick.f k s0_0 t674 3).bind fun bt675=>(if bt675.1 = 0 then ((spec_l20Bent.f k s0_0 bt675.2 t671).bind fun bt677=>(some (bt677.1,bt677.2))) else (if bt675.1 = 1 then (if t671.size + 18 ≤ 9223372036854775807 then (some (t671 ++ (⟨#[97,98,99,100,101,102,103,104,105,106,32,107,108,109,110,111,112,59]⟩ : ByteArray),bt675.2)) else (none)) else (spec_l20StreamOr.l0 k t671 s0_0 bt675.2)))) = some (r1,r2):=by rw [if_pos rfl] at H;exact H
  clear H
  have H:=H1
  clear H1
  obtain ⟨⟨t675,t676⟩,A6,H⟩:=bse H
  try dsimp only at H
  by_cases c7 : t675 = 0
  ·rw [if_pos c7] at H
   have c7b0 : (t675 == 0) = true:=beq_iff_eq.mpr c7
   have c7b1 : (t675 != 0) = false:=bne_eq_false_iff_eq.mpr c7
   clear c7
   obtain ⟨⟨t677,t678⟩,A8,H⟩:=bse H
   try dsimp only at H
   simp only [Option.some.injEq,Prod.mk.injEq] at H
   obtain ⟨rfl,rfl⟩:=H
   go_enter Tryz.func70,Tryz.ntmps70
   go_wp2_with (first | ((with_reducible refine gC 96 rfl ?_);refine gL (some 7) Tryz.func96 #[.pointer (some ⟨g,0,none⟩)] ?_;(with_reducible refine (spec_l20Stream.calls k g s0_0 s0_1 t671 t672 w0 _ ?side1 ?side2 A3.out).mono ?_);(case side1=>exact m8_);(case side2=>exact m9_);rintro e w9 ⟨rfl,hi,hb,hk⟩;refine ⟨_,rfl,?_⟩;replace HK:=am (KeepBut.trans m10_ hk (.inl rfl));replace HB:=am hb;replace HI0:=am hi;(try clear hb);(try clear hk);(try clear hi)) | ((with_reducible refine gC 94 rfl ?_);refine gL (some 10) Tryz.func94 #[.pointer (some ⟨g,0,none⟩),.int .i64 a1] ?_;(with_reducible refine (spec_l20Rd_odd.calls k g s0_0 t672 a1 true t674 w0 _ ?side1 ?side2 A4.out).mono ?_);(case side1=>exact m8_);(case side2=>exact m9_);rintro e w10 ⟨rfl,hi,hb,hk⟩;refine ⟨_,rfl,?_⟩;replace HK:=am (KeepBut.trans m10_ hk (.inl rfl));replace HB:=am hb;replace HI0:=am hi;(try clear hb);(try clear hk);(try clear hi)) | ((with_reducible refine gC 58 rfl ?_);refine gL (some 12) Tryz.func58 #[.pointer (some ⟨g,0,none⟩),.int .i64 3] ?_;(with_reducible refine (spec_l20Rd_pick.calls k g s0_0 t674 3 t675 t676 w0 _ ?side1 ?side2 A6.out).mono ?_);(case side1=>exact m8_);(case side2=>exact m9_);rintro e w11 ⟨rfl,hi,hb,hk⟩;refine ⟨_,rfl,?_⟩;replace HK:=am (KeepBut.trans m10_ hk (.inl rfl));replace HB:=am hb;replace HI0:=am hi;(try clear hb);(try clear hk);(try clear hi)) | ((with_reducible refine gC 97 rfl ?_);refine gL (some 17) Tryz.func97 #[.pointer (some ⟨g,0,none⟩),.string t671] ?_;(with_reducible refine (spec_l20Bent.calls k g s0_0 t676 t671 t677 t678 w0 _ ?side1 ?side2 A8.out).mono ?_);(case side1=>exact m8_);(case side2=>exact m9_);rintro e w12 ⟨rfl,hi,hb,hk⟩;refine ⟨_,rfl,?_⟩;replace HK:=am (KeepBut.trans m10_ hk (.inl rfl));replace HB:=am hb;replace HI0:=am hi;(try clear hb);(try clear hk);(try clear hi)))
   go_ret
   exact ⟨fi_,m8_,m9_,m10_⟩
  ·rw [if_neg c7] at H
   have c7b0 : (t675 == 0) = false:=beq_eq_false_iff_ne.mpr c7
   have c7b1 : (t675 != 0) = true:=bne_iff_ne.mpr c7
   by_cases c13 : t675 = 1
   ·rw [if_pos c13] at H
    have c13b0 : (t675 == 1) = true:=beq_iff_eq.mpr c13
    have c13b1 : (t675 != 1) = false:=bne_eq_false_iff_eq.mpr c13
    clear c13
    by_cases c14 : t671.size + 18 ≤ 9223372036854775807
    ·rw [if_pos c14] at H
     have c14b0:=eq_true c14
     have c14b1 : decide (t671.size + 18 ≤ 9223372036854775807) = true:=decide_eq_true c14
     try have c14b2 : (9223372036854775807 < t671.size + 18) = False:=eq_false (Nat.not_lt.2 c14)
     simp only [Option.some.injEq,Prod.mk.injEq] at H
     obtain ⟨rfl,rfl⟩:=H
     go_enter Tryz.func70,Tryz.ntmps70
     go_wp2_with (first | ((with_reducible refine gC 96 rfl ?_);refine gL (some 7) Tryz.func96 #[.pointer (some ⟨g,0,none⟩)] ?_;(with_reducible refine (spec_l20Stream.calls k g s0_0 s0_1 t671 t672 w0 _ ?side1 ?side2 A3.out).mono ?_);(case side1=>exact m8_);(case side2=>exact m9_);rintro e w15 ⟨rfl,hi,hb,hk⟩;refine ⟨_,rfl,?_⟩;replace HK:=am (KeepBut.trans m10_ hk (.inl rfl));replace HB:=am hb;replace HI0:=am hi;(try clear hb);(try clear hk);(try clear hi)) | ((with_reducible refine gC 94 rfl ?_);refine gL (some 10) Tryz.func94 #[.pointer (some ⟨g,0,none⟩),.int .i64 a1] ?_;(with_reducible refine (spec_l20Rd_odd.calls k g s0_0 t672 a1 true t674 w0 _ ?side1 ?side2 A4.out).mono ?_);(case side1=>exact m8_);(case side2=>exact m9_);rintro e w16 ⟨rfl,hi,hb,hk⟩;refine ⟨_,rfl,?_⟩;replace HK:=am (KeepBut.trans m10_ hk (.inl rfl));replace HB:=am hb;replace HI0:=am hi;(try clear hb);(try clear hk);(try clear hi)) | ((with_reducible refine gC 58 rfl ?_);refine gL (some 12) Tryz.func58 #[.pointer (some ⟨g,0,none⟩),.int .i64 3] ?_;(with_reducible refine (spec_l20Rd_pick.calls k g s0_0 t674 3 t675 t676 w0 _ ?side1 ?side2 A6.out).mono ?_);(case side1=>exact m8_);(case side2=>exact m9_);rintro e w17 ⟨rfl,hi,hb,hk⟩;refine ⟨_,rfl,?_⟩;replace HK:=am (KeepBut.trans m10_ hk (.inl rfl));replace HB:=am hb;replace HI0:=am hi;(try clear hb);(try clear hk);(try clear hi)))
     go_ret
     exact ⟨fi_,m8_,m9_,m10_⟩
    ·rw [if_neg c14] at H
     exact absurd H (by simp)
   ·rw [if_neg c13] at H
    have c13b0 : (t675 == 1) = false:=beq_eq_false_iff_ne.mpr c13
    have c13b1 : (t675 != 1) = true:=bne_iff_ne.mpr c13
    have H':=am H
    clear H
    go_enter Tryz.func70,Tryz.ntmps70
    go_wp2_with (first | ((with_reducible refine gC 96 rfl ?_);refine gL (some 7) Tryz.func96 #[.pointer (some ⟨g,0,none⟩)] ?_;(with_reducible refine (spec_l20Stream.calls k g s0_0 s0_1 t671 t672 w0 _ ?side1 ?side2 A3.out).mono ?_);(case side1=>exact m8_);(case side2=>exact m9_);rintro e w18 ⟨rfl,hi,hb,hk⟩;refine ⟨_,rfl,?_⟩;replace HK:=am (KeepBut.trans m10_ hk (.inl rfl));replace HB:=am hb;replace HI0:=am hi;(try clear hb);(try clear hk);(try clear hi)) | ((with_reducible refine gC 94 rfl ?_);refine gL (some 10) Tryz.func94 #[.pointer (some ⟨g,0,none⟩),.int .i64 a1] ?_;(with_reducible refine (spec_l20Rd_odd.calls k g s0_0 t672 a1 true t674 w0 _ ?side1 ?side2 A4.out).mono ?_);(case side1=>exact m8_);(case side2=>exact m9_);rintro e w19 ⟨rfl,hi,hb,hk⟩;refine ⟨_,rfl,?_⟩;replace HK:=am (KeepBut.trans m10_ hk (.inl rfl));replace HB:=am hb;replace HI0:=am hi;(try clear hb);(try clear hk);(try clear hi)) | ((with_reducible refine gC 58 rfl ?_);refine gL (some 12) Tryz.func58 #[.pointer (some ⟨g,0,none⟩),.int .i64 3] ?_;(with_reducible refine (spec_l20Rd_pick.calls k g s0_0 t674 3 t675 t676 w0 _ ?side1 ?side2 A6.out).mono ?_);(case side1=>exact m8_);(case side2=>exact m9_);rintro e w20 ⟨rfl,hi,hb,hk⟩;refine ⟨_,rfl,?_⟩;replace HK:=am (KeepBut.trans m10_ hk (.inl rfl));replace HB:=am hb;replace HI0:=am hi;(try clear hb);(try clear hk);(try clear hi)))
    go_loopg [5] k (fun kq v5 w'=>∃ (x5_1 : ByteArray),v5 = .string x5_1 ∧ Aside0 (spec_l20StreamOr.l0 kq x5_1 s0_0 t676 = some (r1,r2)) ∧ Aside0 (kq ≤ k) ∧ Aside0 (IsS102 w0 w' g s0_0 t676) ∧ Aside0 (KeepBut w w' g none) ∧ Aside0 (Below w0.heap.size w0 w'))
    case atStart=>exact ⟨(t671),rs_,H',⟨Nat.le_refl _⟩,⟨m8_⟩,⟨m10_⟩,⟨m9_⟩⟩
    case round=>
     clear H'
     try clear c1
     try clear p2
     try clear c5
     try clear c7
     try clear c7b0
     try clear c7b1
     try clear c9
     try clear c13
     try clear c13b0
     try clear c13b1
     try clear c14
     try clear c14b0
     try clear c14b1
     try clear c14b2
     obtain ⟨x5_1,rfl,HA,HK1,HI0,HK,HB⟩:=hrel
     cases gk with
     | zero=>exact absurd HA.out (by simp [spec_l20StreamOr.l0])
     | succ k1=>
      have H:=HA.out
      clear HA
      simp only [spec_l20StreamOr.l0] at H
      by_cases c21 : (x5_1.size : Int) ≤ 120
      ·rw [if_pos c21] at H
       have c21b0 : decide ((x5_1.size : Int) ≤ 120) = true:=decide_eq_true c21
       have c21b1 : decide (x5_1.size ≤ 120) = true:=decide_eq_true (by omega)
       clear c21
       by_cases c22 : x5_1.size + 5 ≤ 9223372036854775807
       ·rw [if_pos c22] at H
        have c22b0:=eq_true c22
        have c22b1 : decide (x5_1.size + 5 ≤ 9223372036854775807) = true:=decide_eq_true c22
        try have c22b2 : (9223372036854775807 < x5_1.size + 5) = False:=eq_false (Nat.not_lt.2 c22)
        have H':=am H
        clear H
        go_wp2
        go_roundg k1
        case measure=>have:=HK1.out;omega
        case rel=>exact ⟨(x5_1 ++ (⟨#[108,105,115,116,59]⟩ : ByteArray)),rs_,H',⟨by have:=HK1.out;omega⟩,⟨m8_⟩,⟨m10_⟩,⟨m9_⟩⟩
       ·rw [if_neg c22] at H
        exact absurd H (by simp)
      ·rw [if_neg c21] at H
       have c21b0 : decide ((x5_1.size : Int) ≤ 120) = false:=decide_eq_false c21
       have c21b1 : decide (x5_1.size ≤ 120) = false:=decide_eq_false (by omega)
       clear c21
       simp only [Option.some.injEq,Prod.mk.injEq] at H
       obtain ⟨rfl,rfl⟩:=H
       go_wp2
       go_ret
       exact ⟨fi_,m8_,m9_,m10_⟩
 ·replace c5:=Bool.eq_false_iff.mpr c5
  subst c5
  have H1 : (some (t671,t674)) = some (r1,r2):=by rw [if_neg (show ¬ (false = true) by decide)] at H;exact H
  clear H
  have H:=H1
  clear H1
  simp only [Option.some.injEq,Prod.mk.injEq] at H
  obtain ⟨rfl,rfl⟩:=H
  go_enter Tryz.func70,Tryz.ntmps70
  go_wp2_with (first | ((with_reducible refine gC 96 rfl ?_);refine gL (some 7) Tryz.func96 #[.pointer (some ⟨g,0,none⟩)] ?_;(with_reducible refine (spec_l20Stream.calls k g s0_0 s0_1 t671 t672 w0 _ ?side1 ?side2 A3.out).mono ?_);(case side1=>exact m8_);(case side2=>exact m9_);rintro e w23 ⟨rfl,hi,hb,hk⟩;refine ⟨_,rfl,?_⟩;replace HK:=am (KeepBut.trans m10_ hk (.inl rfl));replace HB:=am hb;replace HI0:=am hi;(try clear hb);(try clear hk);(try clear hi)) | ((with_reducible refine gC 94 rfl ?_);refine gL (some 10) Tryz.func94 #[.pointer (some ⟨g,0,none⟩),.int .i64 a1] ?_;(with_reducible refine (spec_l20Rd_odd.calls k g s0_0 t672 a1 false t674 w0 _ ?side1 ?side2 A4.out).mono ?_);(case side1=>exact m8_);(case side2=>exact m9_);rintro e w24 ⟨rfl,hi,hb,hk⟩;refine ⟨_,rfl,?_⟩;replace HK:=am (KeepBut.trans m10_ hk (.inl rfl));replace HB:=am hb;replace HI0:=am hi;(try clear hb);(try clear hk);(try clear hi)))
  go_ret
  exact ⟨fi_,m8_,m9_,m10_⟩
def spec_DrawRwrStream.f (k : Nat) (l0 : List Int) : Option ((List (S55)) × ByteArray):=(spec_l20Open.f l0).bind fun bt680=>((spec_l20Table.f k bt680.1 bt680.2 14).bind fun bt683=>((spec_l20StreamOr.f k bt680.1 bt683.2 9).bind fun bt687=>(some (bt683.1,bt687.1))))
theorem spec_DrawRwrStream.mono : ∀ a0 k,LeO (spec_DrawRwrStream.f k a0) (spec_DrawRwrStream.f (k + 1) a0):=by
 intro a0 k
 unfold spec_DrawRwrStream.f
 repeat' first | (with_reducible first | exact spec_l20StreamOr.mono _ _ _ _ | exact spec_l20Table.mono _ _ _ _ | exact LeO.refl _ | exact LeO.none _ | refine LeO.ite ?_ ?_ | refine LeO.bind ?_ (fun _=>?_)) | exact spec_l20StreamOr.mono _ _ _ _ | exact spec_l20Table.mono _ _ _ _ | exact LeO.none _ | refine LeO.ite ?_ ?_ | refine LeO.bind ?_ (fun _=>?_)
set_option maxHeartbeats 8000000 in
set_option maxRecDepth 100000 in
theorem spec_DrawRwrStream.calls (k : Nat) (A0 : Option Addr) (c0 : Nat) (l0 : List Int) (r1 : List (S55)) (r2 : ByteArray) (w : World) (hr0 : Kd.C (Kd.int .u8) w A0 l0.length l0) (hc0 : l0.length ≤ c0) (h : spec_DrawRwrStream.f k l0 = some (r1,r2)) :
  Calls Tryz.prog 45 #[.slice A0 l0.length c0] w fun e w'=>∃ v0_ : Value,e = .returned (.tuple #[.agg #[v0_],.string r2]) ∧ Kd.R k55 55 w' w.heap.size (fun _=>True) v0_ r1 ∧ Below w.heap.size w w':=by
 have hu29:=Tryz.underlying29
 have HR0:=am hr0
 have HC0:=am hc0
 clear hr0 hc0
 have HB:=am (Below.refl w.heap.size w)
 have H : ((spec_l20Open.f l0).bind fun bt680=>((spec_l20Table.f k bt680.1 bt680.2 14).bind fun bt683=>((spec_l20StreamOr.f k bt680.1 bt683.2 9).bind fun bt687=>(some (bt683.1,bt687.1))))) = some (r1,r2):=h
 clear h
 obtain ⟨⟨t680,t681⟩,A2,H⟩:=bse H
 try dsimp only at H
 obtain ⟨⟨t683,t686⟩,A3,H⟩:=bse H
 try dsimp only at H
 obtain ⟨⟨t687,t688⟩,A4,H⟩:=bse H
 try dsimp only at H
 simp only [Option.some.injEq,Prod.mk.injEq] at H
 obtain ⟨rfl,rfl⟩:=H
 go_enter Tryz.func45,Tryz.ntmps45
 go_wp2_with (first | ((with_reducible refine gD 2 rfl ?_);refine box_event rfl (N:=2) rfl (cs:=#[.slice none 0 0]) (t:=29) hr_ ?_;intro gb679 hg w5 hbox hb;have BK679:=am hbox;have GW679:=gwE HB hg;have GE679:=gwE HB hg;replace HB:=hbS HB hb;clear hb hbox hg) | ((with_reducible refine gC 57 rfl ?_);refine gL (some 6) Tryz.func57 #[.slice A0 l0.length c0] ?_;(with_reducible refine (spec_l20Open.calls _ _ l0 t680 t681 w _ ?side1 ?side2 ?side3 A2.out).mono ?_);(case side1=>exact m2_);(case side2=>exact HR0.out);(case side3=>exact HC0.out);rintro e w6 ⟨g682,rfl,hi,hb,hb2⟩;refine ⟨_,rfl,?_⟩;replace HB:=am hb;have HI682:=am hi;have NB682_679:=am (IsS102.ne_blk hi (blk_below (g:=gb679) (o:=.cells #[.slice none 0 0] 29 (0,0)) (bk BK679) hb2) (by decide));have NB679_682:=am (Ne.symm (IsS102.ne_blk hi (blk_below (g:=gb679) (o:=.cells #[.slice none 0 0] 29 (0,0)) (bk BK679) hb2) (by decide)));replace BK679:=am (blk_below (g:=gb679) (o:=.cells #[.slice none 0 0] 29 (0,0)) (bk BK679) hb2);(try clear hb);(try clear hb2);(try clear hi)) | ((with_reducible refine gC 69 rfl ?_);refine gL (some 8) Tryz.func69 #[.pointer (some ⟨g682,0,none⟩),.int .i64 14] ?_;(with_reducible refine (spec_l20Table.calls k g682 t680 t681 14 t683 t686 w _ ?side1 ?side2 A3.out).mono ?_);(case side1=>exact m31_);(case side2=>exact m32_);rintro e w7 ⟨v684,rfl,ho0,hi,hb,hk⟩;refine ⟨_,rfl,?_⟩;replace BK679:=am (KeepBut.blk hk (g':=gb679) (o:=.cells #[.slice none 0 0] 29 (0,0)) (bk BK679) NB679_682.out (by simp));have HO685:=am (Kd.R_lower ho0 (below_size m32_));replace HB:=am hb;replace HI682:=am hi;(try clear hb);(try clear hk);(try clear hi);(try clear ho0)) | ((with_reducible refine gC 70 rfl ?_);refine gL (some 10) Tryz.func70 #[.pointer (some ⟨g682,0,none⟩),.int .i64 9] ?_;(with_reducible refine (spec_l20StreamOr.calls k g682 t680 t686 9 t687 t688 w _ ?side1 ?side2 A4.out).mono ?_);(case side1=>exact m31_);(case side2=>exact m32_);rintro e w8 ⟨rfl,hi,hb,hk⟩;refine ⟨_,rfl,?_⟩;replace BK679:=am (KeepBut.blk hk (g':=gb679) (o:=.cells #[.slice none 0 0] 29 (0,0)) (bk BK679) NB679_682.out (by simp));replace HO685:=am (Kd.R_mono (Kd.R_keep (IsS102.apart (show IsS102 w _ g682 t680 t686 from m31_) (rs HO685) (by decide)) hk (fun _ h=>h.2)) (fun _ h=>h.1));replace HB:=am hb;replace HI682:=am hi;(try clear hb);(try clear hk);(try clear hi);obtain ⟨Ao9,co9,eo9⟩:=Kd.R_slice HO685.out;subst eo9;have:=NB679_682.out;have:=NB682_679.out;have:=bcell BK679 0;have:=bfz BK679 0))
 refine bodyPost_ret (results_ct rfl _ _ gb679 29 #[.slice Ao9 t683.length co9] (0,0) _ rfl (by (with_reducible repeat refine bu ?_);refine blk_put (cs:=#[.slice none 0 0]) ?_ 0 _ rfl;(with_reducible repeat refine bu ?_);exact BK679.out) Tryz.underlying29 rfl (by kernel_rfl)) rfl ?_
 exact ⟨_,fi_,by (with_reducible repeat apply ru);exact Kd.R_mono (Kd.R_far (p:=⟨gb679,0,none⟩) (Kd.R_types HO685.out BK679.out (by decide)) (fun _ hk=>hk.2) (.slice Ao9 t683.length co9)) (fun _ hk=>trivial),m32_⟩
def spec_DrawPosSpans.f (k : Nat) (l0 : List Int) : Option ((List (S55)) × ByteArray):=(spec_DrawRwrStream.f k l0).bind fun bt690=>(some (bt690.1,bt690.2))
theorem spec_DrawPosSpans.mono : ∀ a0 k,LeO (spec_DrawPosSpans.f k a0) (spec_DrawPosSpans.f (k + 1) a0):=by
 intro a0 k
 unfold spec_DrawPosSpans.f
 repeat' first | (with_reducible first | exact spec_DrawRwrStream.mono _ _ | exact LeO.refl _ | exact LeO.none _ | refine LeO.ite ?_ ?_ | refine LeO.bind ?_ (fun _=>?_)) | exact spec_DrawRwrStream.mono _ _ | exact LeO.none _ | refine LeO.ite ?_ ?_ | refine LeO.bind ?_ (fun _=>?_)
set_option maxHeartbeats 8000000 in
set_option maxRecDepth 100000 in
theorem spec_DrawPosSpans.calls (k : Nat) (A0 : Option Addr) (c0 : Nat) (l0 : List Int) (r1 : List (S55)) (r2 : ByteArray) (w : World) (hr0 : Kd.C (Kd.int .u8) w A0 l0.length l0) (hc0 : l0.length ≤ c0) (h : spec_DrawPosSpans.f k l0 = some (r1,r2)) :
  Calls Tryz.prog 24 #[.slice A0 l0.length c0] w fun e w'=>∃ v0_ : Value,e = .returned (.tuple #[.agg #[v0_],.string r2]) ∧ Kd.R k55 55 w' w.heap.size (fun _=>True) v0_ r1 ∧ Below w.heap.size w w':=by
 have hu29:=Tryz.underlying29
 have HR0:=am hr0
 have HC0:=am hc0
 clear hr0 hc0
 have HB:=am (Below.refl w.heap.size w)
 have H : ((spec_DrawRwrStream.f k l0).bind fun bt690=>(some (bt690.1,bt690.2))) = some (r1,r2):=h
 clear h
 obtain ⟨⟨t690,t693⟩,A2,H⟩:=bse H
 try dsimp only at H
 simp only [Option.some.injEq,Prod.mk.injEq] at H
 obtain ⟨rfl,rfl⟩:=H
 go_enter Tryz.func24,Tryz.ntmps24
 go_wp2_with (first | ((with_reducible refine gD 2 rfl ?_);refine box_event rfl (N:=2) rfl (cs:=#[.slice none 0 0]) (t:=29) hr_ ?_;intro gb689 hg w3 hbox hb;have BK689:=am hbox;have GW689:=gwE HB hg;have GE689:=gwE HB hg;replace HB:=hbS HB hb;clear hb hbox hg) | ((with_reducible refine gC 45 rfl ?_);refine gL (some 5) Tryz.func45 #[.slice A0 l0.length c0] ?_;(with_reducible refine (spec_DrawRwrStream.calls k _ _ l0 t690 t693 _ ?side1 ?side2 A2.out).mono ?_);(case side1=>exact m13_);(case side2=>exact HC0.out);rintro e w4 ⟨v691,rfl,ho0,hb⟩;refine ⟨_,rfl,?_⟩;have HO692:=am (Kd.R_lower ho0 (below_size (bl HB)));replace BK689:=bkB BK689 hb;replace HB:=hbS HB hb;(try clear hb);(try clear ho0);obtain ⟨Ao5,co5,eo5⟩:=Kd.R_slice HO692.out;subst eo5;have:=bcell BK689 0;have:=bfz BK689 0))
 refine bodyPost_ret (results_ct rfl _ _ gb689 29 #[.slice Ao5 t690.length co5] (0,0) _ rfl (by (with_reducible repeat refine bu ?_);refine blk_put (cs:=#[.slice none 0 0]) ?_ 0 _ rfl;(with_reducible repeat refine bu ?_);exact BK689.out) Tryz.underlying29 rfl (by kernel_rfl)) rfl ?_
 exact ⟨_,fi_,by (with_reducible repeat apply ru);exact Kd.R_mono (Kd.R_far (p:=⟨gb689,0,none⟩) (Kd.R_types HO692.out BK689.out (by decide)) (fun _ hk=>hk.2) (.slice Ao5 t690.length co5)) (fun _ hk=>trivial),m2_⟩
end
section
attribute [local go_sem] max2_int min2_int max_two min_two max_three min_three max_four min_four
attribute [local go_sem high] eqA50
def laws_haSpans.l0 : Nat → List (S50) → List (S50) → Int → Option (Bool)
 | 0,_,_,_=>none
 | k + 1,x0,x1,x5=>if x5 < (x0.length : Int) then (if 0 ≤ x5 then (if x5 < (x1.length : Int) then (if (!(((rd_T50 x0 x5).f0) == ((rd_T50 x1 x5).f0)) || (!(((rd_T50 x0 x5).f1) == ((rd_T50 x1 x5).f1)) || (!(((rd_T50 x0 x5).f2) == ((rd_T50 x1 x5).f2)) || (!(((rd_T50 x0 x5).f3) == ((rd_T50 x1 x5).f3)) || (!(((rd_T50 x0 x5).f4) == ((rd_T50 x1 x5).f4))))))) = true then (some false) else (laws_haSpans.l0 k x0 x1 (wrap64 (x5 + 1)))) else (none)) else (none)) else (some true)
def laws_haSpans.f (k : Nat) (l0 : List (S50)) (l1 : List (S50)) : Option (Bool):=if (l0.length : Int) = (l1.length : Int) then (laws_haSpans.l0 k l0 l1 0) else (some false)
theorem laws_haSpans.mono_l : ∀ k,(∀ y0 y1 y2,LeO (laws_haSpans.l0 k y0 y1 y2) (laws_haSpans.l0 (k + 1) y0 y1 y2))
 | 0=>fun _ _ _ r h=>by simp [laws_haSpans.l0] at h
 | k + 1=>by
  have ih0:=laws_haSpans.mono_l k
  ·intro y0 y1 y2
   unfold laws_haSpans.l0
   repeat' first | (with_reducible first | exact ih0 _ _ _ | exact LeO.refl _ | exact LeO.none _ | refine LeO.ite ?_ ?_ | refine LeO.bind ?_ (fun _=>?_)) | exact ih0 _ _ _ | exact LeO.none _ | refine LeO.ite ?_ ?_ | refine LeO.bind ?_ (fun _=>?_)
theorem laws_haSpans.mono : ∀ a0 a1 k,LeO (laws_haSpans.f k a0 a1) (laws_haSpans.f (k + 1) a0 a1):=by
 intro a0 a1 k
 have ih0:=laws_haSpans.mono_l k
 unfold laws_haSpans.f
 repeat' first | (with_reducible first | exact ih0 _ _ _ | exact LeO.refl _ | exact LeO.none _ | refine LeO.ite ?_ ?_ | refine LeO.bind ?_ (fun _=>?_)) | exact ih0 _ _ _ | exact LeO.none _ | refine LeO.ite ?_ ?_ | refine LeO.bind ?_ (fun _=>?_)
set_option maxHeartbeats 8000000 in
set_option maxRecDepth 100000 in
theorem laws_haSpans.calls (k : Nat) (A0 : Option Addr) (c0 : Nat) (l0 : List (S50)) (A1 : Option Addr) (c1 : Nat) (l1 : List (S50)) (r : Bool) (w : World) (hr0 : Kd.C k50 w A0 l0.length l0) (hc0 : l0.length ≤ c0) (hr1 : Kd.C k50 w A1 l1.length l1) (hc1 : l1.length ≤ c1) (h : laws_haSpans.f k l0 l1 = some r) :
  Calls Tryz.prog 25 #[.slice A0 l0.length c0,.slice A1 l1.length c1] w fun e w'=>e = .returned (.bool r) ∧ Drawn0 w w':=by
 have hu50:=Tryz.underlying50
 have HR0:=am hr0
 have HC0:=am hc0
 clear hr0 hc0
 have HR1:=am hr1
 have HC1:=am hc1
 clear hr1 hc1
 have H : (if (l0.length : Int) = (l1.length : Int) then (laws_haSpans.l0 k l0 l1 0) else (some false)) = some r:=h
 clear h
 by_cases c3 : (l0.length : Int) = (l1.length : Int)
 ·rw [if_pos c3] at H
  have c3b0 : ((l0.length : Int) == (l1.length : Int)) = true:=beq_iff_eq.mpr c3
  have c3b1 : ((l0.length : Int) != (l1.length : Int)) = false:=bne_eq_false_iff_eq.mpr c3
  have c3b2 : (l0.length == l1.length) = true:=by first | simpa using c3 | (simp at c3 ⊢;omega)
  clear c3
  have H':=am H
  clear H
  go_enter Tryz.func25,Tryz.ntmps25
  go_wp2
  repeat (go_quiet (fail);try go_wp2)
  go_loopg [5] k (fun kq v5 w'=>∃ (x5_1 : Int),v5 = .int .i64 x5_1 ∧ Aside0 (laws_haSpans.l0 kq l0 l1 x5_1 = some r) ∧ Aside0 (kq ≤ k) ∧ Drawn0 w w')
  case atStart=>exact ⟨(0),rs_,H',⟨Nat.le_refl _⟩,by repeat (first | exact Drawn0.refl _ | apply Drawn0.step)⟩
  case round=>
   clear H'
   try clear c1
   try clear c2
   try clear p2
   try clear c3
   try clear c3b0
   try clear c3b1
   try clear c3b2
   obtain ⟨x5_1,rfl,HA,HK1,⟨m1,rfl⟩⟩:=hrel
   cases gk with
   | zero=>exact absurd HA.out (by simp [laws_haSpans.l0])
   | succ k1=>
    have H:=HA.out
    clear HA
    simp only [laws_haSpans.l0] at H
    by_cases c4 : x5_1 < (l0.length : Int)
    ·rw [if_pos c4] at H
     have c4b0 : decide (x5_1 < (l0.length : Int)) = true:=decide_eq_true c4
     clear c4
     by_cases c5 : 0 ≤ x5_1
     ·rw [if_pos c5] at H
      have c5b0 : decide (0 ≤ x5_1) = true:=decide_eq_true c5
      clear c5
      by_cases c6 : x5_1 < (l1.length : Int)
      ·rw [if_pos c6] at H
       have c6b0 : decide (x5_1 < (l1.length : Int)) = true:=decide_eq_true c6
       clear c6
       by_cases c7 : (!(((rd_T50 l0 x5_1).f0) == ((rd_T50 l1 x5_1).f0)) || (!(((rd_T50 l0 x5_1).f1) == ((rd_T50 l1 x5_1).f1)) || (!(((rd_T50 l0 x5_1).f2) == ((rd_T50 l1 x5_1).f2)) || (!(((rd_T50 l0 x5_1).f3) == ((rd_T50 l1 x5_1).f3)) || (!(((rd_T50 l0 x5_1).f4) == ((rd_T50 l1 x5_1).f4))))))) = true
       ·rw [if_pos c7] at H
        have c7b0 : (!(((rd_T50 l0 x5_1).f0) == ((rd_T50 l1 x5_1).f0)) || (!(((rd_T50 l0 x5_1).f1) == ((rd_T50 l1 x5_1).f1)) || (!(((rd_T50 l0 x5_1).f2) == ((rd_T50 l1 x5_1).f2)) || (!(((rd_T50 l0 x5_1).f3) == ((rd_T50 l1 x5_1).f3)) || (!(((rd_T50 l0 x5_1).f4) == ((rd_T50 l1 x5_1).f4))))))) = true:=c7
        clear c7
        obtain rfl:=Option.some.inj H
        have p694 : 0 ≤ (x5_1 : Int):=of_decide_eq_true da_
        have q694 : x5_1 < (l0.length : Int):=of_decide_eq_true da_
        obtain ⟨ad694,e694,hx694_0,hx694_1,hx694_2,hx694_3,hx694_4⟩:=at_T50 HR0.out x5_1 p694 q694
        cases e694
        replace p694:=eq_true p694
        replace q694:=eq_true q694
        have p695 : 0 ≤ (x5_1 : Int):=of_decide_eq_true da_
        have q695 : x5_1 < (l1.length : Int):=of_decide_eq_true da_
        obtain ⟨ad695,e695,hx695_0,hx695_1,hx695_2,hx695_3,hx695_4⟩:=at_T50 HR1.out x5_1 p695 q695
        cases e695
        replace p695:=eq_true p695
        replace q695:=eq_true q695
        go_wp2
        repeat (go_quiet (fail);try go_wp2)
        go_ret
        exact ⟨fr_,dn_⟩
       ·rw [if_neg c7] at H
        have c7b0 : (!(((rd_T50 l0 x5_1).f0) == ((rd_T50 l1 x5_1).f0)) || (!(((rd_T50 l0 x5_1).f1) == ((rd_T50 l1 x5_1).f1)) || (!(((rd_T50 l0 x5_1).f2) == ((rd_T50 l1 x5_1).f2)) || (!(((rd_T50 l0 x5_1).f3) == ((rd_T50 l1 x5_1).f3)) || (!(((rd_T50 l0 x5_1).f4) == ((rd_T50 l1 x5_1).f4))))))) = false:=by simpa using c7
        clear c7
        have H':=am H
        clear H
        have p694 : 0 ≤ (x5_1 : Int):=of_decide_eq_true da_
        have q694 : x5_1 < (l0.length : Int):=of_decide_eq_true da_
        obtain ⟨ad694,e694,hx694_0,hx694_1,hx694_2,hx694_3,hx694_4⟩:=at_T50 HR0.out x5_1 p694 q694
        cases e694
        replace p694:=eq_true p694
        replace q694:=eq_true q694
        have p695 : 0 ≤ (x5_1 : Int):=of_decide_eq_true da_
        have q695 : x5_1 < (l1.length : Int):=of_decide_eq_true da_
        obtain ⟨ad695,e695,hx695_0,hx695_1,hx695_2,hx695_3,hx695_4⟩:=at_T50 HR1.out x5_1 p695 q695
        cases e695
        replace p695:=eq_true p695
        replace q695:=eq_true q695
        go_wp2
        repeat (go_quiet (fail);try go_wp2)
        go_roundg k1
        case measure=>have:=HK1.out;omega
        case rel=>exact ⟨(wrap64 (x5_1 + 1)),rs_,H',⟨by have:=HK1.out;omega⟩,by repeat (first | exact Drawn0.refl _ | apply Drawn0.step)⟩
      ·rw [if_neg c6] at H
       exact absurd H (by simp)
     ·rw [if_neg c5] at H
      exact absurd H (by simp)
    ·rw [if_neg c4] at H
     have c4b0 : decide (x5_1 < (l0.length : Int)) = false:=decide_eq_false c4
     clear c4
     obtain rfl:=Option.some.inj H
     go_wp2
     repeat (go_quiet (fail);try go_wp2)
     go_ret
     exact ⟨fr_,dn_⟩
 ·rw [if_neg c3] at H
  have c3b0 : ((l0.length : Int) == (l1.length : Int)) = false:=beq_eq_false_iff_ne.mpr c3
  have c3b1 : ((l0.length : Int) != (l1.length : Int)) = true:=bne_iff_ne.mpr c3
  have c3b2 : (l0.length == l1.length) = false:=by first | simpa using c3 | (simp at c3 ⊢;omega)
  obtain rfl:=Option.some.inj H
  go_enter Tryz.func25,Tryz.ntmps25
  go_wp2
  repeat (go_quiet (fail);try go_wp2)
  go_ret
  exact ⟨fr_,dn_⟩
end
section
attribute [local go_sem] max2_int min2_int max_two min_two max_three min_three max_four min_four
def laws_haOk.f  : Option (Bool):=(impl_LinOk.f (⟨#[97]⟩ : ByteArray)).bind fun t696=>(some t696)
set_option maxHeartbeats 8000000 in
set_option maxRecDepth 100000 in
theorem laws_haOk.calls  (r : Bool) (w : World) (h : laws_haOk.f  = some r) :
  Calls Tryz.prog 28 #[] w fun e w'=>e = .returned (.bool r) ∧ Below w.heap.size w w':=by
 have HB:=am (Below.refl w.heap.size w)
 have H : ((impl_LinOk.f (⟨#[97]⟩ : ByteArray)).bind fun t696=>(some t696)) = some r:=h
 clear h
 obtain ⟨t696,A1,H⟩:=bse H
 try dsimp only at H
 obtain rfl:=Option.some.inj H
 go_enter Tryz.func28,Tryz.ntmps28
 go_wp2_with (first | ((with_reducible refine gC 50 rfl ?_);refine gL (some 1) Tryz.func50 #[.string (⟨#[97]⟩ : ByteArray)] ?_;(with_reducible refine (impl_LinOk.calls (⟨#[97]⟩ : ByteArray) t696 _ A1.out).mono ?_);rintro e w2 ⟨rfl,hb⟩;refine ⟨_,rfl,?_⟩;replace HB:=hbS HB hb;(try clear hb)))
 go_ret
 exact ⟨fi_,m0_⟩
def impl_RwrStream.f (k : Nat) (l0_0 : List (S55)) (a1 : ByteArray) : Option ((List (S55)) × ByteArray):=(impl_MapOk.f k l0_0).bind fun t699=>(if t699 = true then ((impl_StrOk.f k a1).bind fun t700=>(if t700 = true then ((impl_MapTab_streamOut.f l0_0 a1).bind fun bt701=>(some (bt701.1,bt701.2))) else (some (([] : List (S55)),(⟨#[]⟩ : ByteArray))))) else (some (([] : List (S55)),(⟨#[]⟩ : ByteArray))))
theorem impl_RwrStream.mono : ∀ a0 a1 k,LeO (impl_RwrStream.f k a0 a1) (impl_RwrStream.f (k + 1) a0 a1):=by
 intro a0 a1 k
 unfold impl_RwrStream.f
 repeat' first | (with_reducible first | exact impl_MapOk.mono _ _ | exact impl_StrOk.mono _ _ | exact LeO.refl _ | exact LeO.none _ | refine LeO.ite ?_ ?_ | refine LeO.bind ?_ (fun _=>?_)) | exact impl_MapOk.mono _ _ | exact impl_StrOk.mono _ _ | exact LeO.none _ | refine LeO.ite ?_ ?_ | refine LeO.bind ?_ (fun _=>?_)
set_option maxHeartbeats 8000000 in
set_option maxRecDepth 100000 in
theorem impl_RwrStream.calls (k : Nat) (A0_0 : Option Addr) (c0_0 : Nat) (l0_0 : List (S55)) (a1 : ByteArray) (r1 : List (S55)) (r2 : ByteArray) (w : World) (hr0_0 : Kd.C k55 w A0_0 l0_0.length l0_0) (hc0_0 : l0_0.length ≤ c0_0) (h : impl_RwrStream.f k l0_0 a1 = some (r1,r2)) (hE : EnvE w) :
  Calls Tryz.prog 30 #[.agg #[.slice A0_0 l0_0.length c0_0],.string a1] w fun e w'=>∃ v0_ : Value,e = .returned (.tuple #[.agg #[v0_],.string r2]) ∧ Kd.R k55 55 w' w.heap.size (fun _=>True) v0_ r1 ∧ Below w.heap.size w w':=by
 have hu29:=Tryz.underlying29
 have HR0_0:=am hr0_0
 have HC0_0:=am hc0_0
 clear hr0_0 hc0_0
 have HB:=am (Below.refl w.heap.size w)
 have H : ((impl_MapOk.f k l0_0).bind fun t699=>(if t699 = true then ((impl_StrOk.f k a1).bind fun t700=>(if t700 = true then ((impl_MapTab_streamOut.f l0_0 a1).bind fun bt701=>(some (bt701.1,bt701.2))) else (some (([] : List (S55)),(⟨#[]⟩ : ByteArray))))) else (some (([] : List (S55)),(⟨#[]⟩ : ByteArray))))) = some (r1,r2):=h
 clear h
 obtain ⟨t699,A3,H⟩:=bse H
 try dsimp only at H
 by_cases c4 : t699 = true
 ·subst c4
  have H1 : ((impl_StrOk.f k a1).bind fun t700=>(if t700 = true then ((impl_MapTab_streamOut.f l0_0 a1).bind fun bt701=>(some (bt701.1,bt701.2))) else (some (([] : List (S55)),(⟨#[]⟩ : ByteArray))))) = some (r1,r2):=by rw [if_pos rfl] at H;exact H
  clear H
  have H:=H1
  clear H1
  obtain ⟨t700,A5,H⟩:=bse H
  try dsimp only at H
  by_cases c6 : t700 = true
  ·subst c6
   have H1 : ((impl_MapTab_streamOut.f l0_0 a1).bind fun bt701=>(some (bt701.1,bt701.2))) = some (r1,r2):=by rw [if_pos rfl] at H;exact H
   clear H
   have H:=H1
   clear H1
   obtain ⟨⟨t701,t704⟩,A7,H⟩:=bse H
   try dsimp only at H
   simp only [Option.some.injEq,Prod.mk.injEq] at H
   obtain ⟨rfl,rfl⟩:=H
   go_enter Tryz.func30,Tryz.ntmps30
   go_wp2_with (first | ((with_reducible refine gD 2 rfl ?_);refine box_event rfl (N:=2) rfl (cs:=#[.slice A0_0 l0_0.length c0_0]) (t:=29) hr_ ?_;intro gb697 hg w8 hbox hb;have BK697:=am hbox;have GW697:=gwE HB hg;have GE697:=gwE HB hg;replace HB:=hbS HB hb;clear hb hbox hg) | ((with_reducible refine gD 4 rfl ?_);refine box_event rfl (N:=4) rfl (cs:=#[.slice none 0 0]) (t:=29) hr_ ?_;intro gb698 hg w9 hbox hb;have BK698:=am hbox;have GW698:=gwE HB hg;have GE698:=gwE HB hg;replace HB:=hbS HB hb;have NB697_698:=neL BK697 hg;have NB698_697:=neG BK697 hg;replace BK697:=bkB BK697 hb;clear hb hbox hg;have:=NB697_698.out;have:=NB698_697.out;have:=bcell BK697 0;have:=bfz BK697 0) | ((with_reducible refine gC 54 rfl ?_);refine gL (some 7) Tryz.func54 #[.agg #[.slice A0_0 l0_0.length c0_0]] ?_;(with_reducible refine (impl_MapOk.calls k _ _ l0_0 true _ ?side1 ?side2 A3.out).mono ?_);(case side1=>exact m3_);(case side2=>exact HC0_0.out);rintro e w12 ⟨rfl,hb⟩;refine ⟨_,rfl,?_⟩;replace BK697:=bkB BK697 hb;replace BK698:=bkB BK698 hb;replace HB:=hbS HB hb;(try clear hb)) | (go_at_call 55;(with_reducible refine (impl_StrOk.calls k a1 true _ A5.out (Env.below hE.e (bl HB))).mono ?_);rintro e w13 ⟨rfl,hb⟩;replace BK697:=bkB BK697 hb;replace BK698:=bkB BK698 hb;replace HB:=hbS HB hb;(try clear hb);have:=bcell BK697 0;have:=bfz BK697 0) | ((with_reducible refine gC 56 rfl ?_);refine gL (some 17) Tryz.func56 #[.agg #[.slice A0_0 l0_0.length c0_0],.string a1] ?_;(with_reducible refine (impl_MapTab_streamOut.calls _ _ l0_0 a1 t701 t704 _ ?side1 ?side2 A7.out (EnvE.below hE (bl HB))).mono ?_);(case side1=>exact m3_);(case side2=>exact HC0_0.out);rintro e w15 ⟨v702,rfl,ho0,hb⟩;refine ⟨_,rfl,?_⟩;have HO703:=am (Kd.R_lower ho0 (below_size (bl HB)));replace BK697:=bkB BK697 hb;replace BK698:=bkB BK698 hb;replace HB:=hbS HB hb;(try clear hb);(try clear ho0);obtain ⟨Ao16,co16,eo16⟩:=Kd.R_slice HO703.out;subst eo16;have:=bcell BK698 0;have:=bfz BK698 0))
   refine bodyPost_ret (results_ct rfl _ _ gb698 29 #[.slice Ao16 t701.length co16] (0,0) _ rfl (by (with_reducible repeat refine bu ?_);refine blk_put (cs:=#[.slice none 0 0]) ?_ 0 _ rfl;(with_reducible repeat refine bu ?_);exact BK698.out) Tryz.underlying29 rfl (by kernel_rfl)) rfl ?_
   exact ⟨_,fi_,by (with_reducible repeat apply ru);exact Kd.R_mono (Kd.R_far (p:=⟨gb698,0,none⟩) (Kd.R_types HO703.out BK698.out (by decide)) (fun _ hk=>hk.2) (.slice Ao16 t701.length co16)) (fun _ hk=>trivial),m2_⟩
  ·replace c6:=Bool.eq_false_iff.mpr c6
   subst c6
   have H1 : (some (([] : List (S55)),(⟨#[]⟩ : ByteArray))) = some (r1,r2):=by rw [if_neg (show ¬ (false = true) by decide)] at H;exact H
   clear H
   have H:=H1
   clear H1
   simp only [Option.some.injEq,Prod.mk.injEq] at H
   obtain ⟨rfl,rfl⟩:=H
   go_enter Tryz.func30,Tryz.ntmps30
   go_wp2_with (first | ((with_reducible refine gD 2 rfl ?_);refine box_event rfl (N:=2) rfl (cs:=#[.slice A0_0 l0_0.length c0_0]) (t:=29) hr_ ?_;intro gb697 hg w18 hbox hb;have BK697:=am hbox;have GW697:=gwE HB hg;have GE697:=gwE HB hg;replace HB:=hbS HB hb;clear hb hbox hg) | ((with_reducible refine gD 4 rfl ?_);refine box_event rfl (N:=4) rfl (cs:=#[.slice none 0 0]) (t:=29) hr_ ?_;intro gb698 hg w19 hbox hb;have BK698:=am hbox;have GW698:=gwE HB hg;have GE698:=gwE HB hg;replace HB:=hbS HB hb;have NB697_698:=neL BK697 hg;have NB698_697:=neG BK697 hg;replace BK697:=bkB BK697 hb;clear hb hbox hg;have:=NB697_698.out;have:=NB698_697.out;have:=bcell BK697 0;have:=bfz BK697 0) | ((with_reducible refine gC 54 rfl ?_);refine gL (some 7) Tryz.func54 #[.agg #[.slice A0_0 l0_0.length c0_0]] ?_;(with_reducible refine (impl_MapOk.calls k _ _ l0_0 true _ ?side1 ?side2 A3.out).mono ?_);(case side1=>exact m3_);(case side2=>exact HC0_0.out);rintro e w22 ⟨rfl,hb⟩;refine ⟨_,rfl,?_⟩;replace BK697:=bkB BK697 hb;replace BK698:=bkB BK698 hb;replace HB:=hbS HB hb;(try clear hb)) | (go_at_call 55;(with_reducible refine (impl_StrOk.calls k a1 false _ A5.out (Env.below hE.e (bl HB))).mono ?_);rintro e w23 ⟨rfl,hb⟩;replace BK697:=bkB BK697 hb;replace BK698:=bkB BK698 hb;replace HB:=hbS HB hb;(try clear hb);have:=bcell BK698 0;have:=bfz BK698 0))
   refine bodyPost_ret (results_ct rfl _ _ gb698 29 #[.slice none 0 0] (0,0) _ rfl (by (with_reducible repeat refine bu ?_);refine blk_put (cs:=#[.slice none 0 0]) ?_ 0 _ rfl;(with_reducible repeat refine bu ?_);exact BK698.out) Tryz.underlying29 rfl (by kernel_rfl)) rfl ?_
   exact ⟨_,fi_,by first | exact Kd.R_nil _ _ _ _ _ | exact Kd.N_nil _ _ _ _ _ | exact Kd.V_nil _ _ _ _ _ | exact Kd.Q_nil _ _ _ _ _ | exact Kd.S_nil _ _ _ _ _,m2_⟩
 ·replace c4:=Bool.eq_false_iff.mpr c4
  subst c4
  have H1 : (some (([] : List (S55)),(⟨#[]⟩ : ByteArray))) = some (r1,r2):=by rw [if_neg (show ¬ (false = true) by decide)] at H;exact H
  clear H
  have H:=H1
  clear H1
  simp only [Option.some.injEq,Prod.mk.injEq] at H
  obtain ⟨rfl,rfl⟩:=H
  go_enter Tryz.func30,Tryz.ntmps30
  go_wp2_with (first | ((with_reducible refine gD 2 rfl ?_);refine box_event rfl (N:=2) rfl (cs:=#[.slice A0_0 l0_0.length c0_0]) (t:=29) hr_ ?_;intro gb697 hg w25 hbox hb;have BK697:=am hbox;have GW697:=gwE HB hg;have GE697:=gwE HB hg;replace HB:=hbS HB hb;clear hb hbox hg) | ((with_reducible refine gD 4 rfl ?_);refine box_event rfl (N:=4) rfl (cs:=#[.slice none 0 0]) (t:=29) hr_ ?_;intro gb698 hg w26 hbox hb;have BK698:=am hbox;have GW698:=gwE HB hg;have GE698:=gwE HB hg;replace HB:=hbS HB hb;have NB697_698:=neL BK697 hg;have NB698_697:=neG BK697 hg;replace BK697:=bkB BK697 hb;clear hb hbox hg;have:=NB697_698.out;have:=NB698_697.out;have:=bcell BK697 0;have:=bfz BK697 0) | ((with_reducible refine gC 54 rfl ?_);refine gL (some 7) Tryz.func54 #[.agg #[.slice A0_0 l0_0.length c0_0]] ?_;(with_reducible refine (impl_MapOk.calls k _ _ l0_0 false _ ?side1 ?side2 A3.out).mono ?_);(case side1=>exact m3_);(case side2=>exact HC0_0.out);rintro e w29 ⟨rfl,hb⟩;refine ⟨_,rfl,?_⟩;replace BK697:=bkB BK697 hb;replace BK698:=bkB BK698 hb;replace HB:=hbS HB hb;(try clear hb);have:=bcell BK698 0;have:=bfz BK698 0))
  refine bodyPost_ret (results_ct rfl _ _ gb698 29 #[.slice none 0 0] (0,0) _ rfl (by (with_reducible repeat refine bu ?_);refine blk_put (cs:=#[.slice none 0 0]) ?_ 0 _ rfl;(with_reducible repeat refine bu ?_);exact BK698.out) Tryz.underlying29 rfl (by kernel_rfl)) rfl ?_
  exact ⟨_,fi_,by first | exact Kd.R_nil _ _ _ _ _ | exact Kd.N_nil _ _ _ _ _ | exact Kd.V_nil _ _ _ _ _ | exact Kd.Q_nil _ _ _ _ _ | exact Kd.S_nil _ _ _ _ _,m2_⟩
end
end Go.Proofs.YtakfmcpjnkagmaaGreatDoor.P
