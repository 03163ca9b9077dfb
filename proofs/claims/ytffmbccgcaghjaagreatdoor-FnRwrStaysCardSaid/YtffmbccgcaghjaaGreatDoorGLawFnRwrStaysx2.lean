import Derived.Test.YtffmbccgcaghjaaGreatDoorGLawFnRwrStaysx1
namespace Go.Proofs.YtffmbccgcaghjaaGreatDoor.P
open Go.Proofs.YtffmbccgcaghjaaGreatDoorUFnRwrStays.PrintLast Go.Proofs.YtffmbccgcaghjaaGreatDoorUFnRwrStays.PrintMore Go.Proofs.YtffmbccgcaghjaaGreatDoorUFnRwrStays.PrintWords Go.RowKit
set_option linter.unusedVariables false
set_option linter.unusedSimpArgs false
section
attribute [local go_sem] max2_int min2_int max_two min_two max_three min_three max_four min_four
def spec_l20Bent.f (k : Nat) (s0_0 : List Int) (s0_1 : Int) (a1 : ByteArray) : Option (ByteArray × Int):=(spec_l20Rd_pick.f k s0_0 s0_1 (wrap64 ((a1.size : Int) + 1))).bind fun bt252=>((spec_l20Rd_pick.f k s0_0 bt252.2 256).bind fun bt254=>((some (([32,48,49,57,59,97,112,bt254.1] : List Int) : List Int)).bind fun y256=>((spec_l20Rd_pick.f k s0_0 bt254.2 8).bind fun bt259=>(if 0 ≤ bt259.1 then (if bt259.1 < (y256.length : Int) then ((some (([(rd y256 bt259.1) % 256] : List Int) : List Int)).bind fun y262=>((spec_l20Rd_pick.f k s0_0 bt259.2 3).bind fun bt265=>(if bt265.1 = 0 then (if 0 ≤ bt252.1 then (if bt252.1 ≤ (a1.size : Int) then (if (a1.extract 0 (bt252.1 : Int).toNat).size + (strOfNums y262).size ≤ 9223372036854775807 then (if ((a1.extract 0 (bt252.1 : Int).toNat) ++ (strOfNums y262)).size + (a1.extract (bt252.1 : Int).toNat a1.size).size ≤ 9223372036854775807 then (some (((a1.extract 0 (bt252.1 : Int).toNat) ++ (strOfNums y262)) ++ (a1.extract (bt252.1 : Int).toNat a1.size),bt265.2)) else (none)) else (none)) else (none)) else (none)) else (if bt265.1 = 1 then (if bt252.1 < (a1.size : Int) then (if 0 ≤ bt252.1 then (if bt252.1 ≤ (a1.size : Int) then (if 0 ≤ (wrap64 (bt252.1 + 1)) then (if (wrap64 (bt252.1 + 1)) ≤ (a1.size : Int) then (if (a1.extract 0 (bt252.1 : Int).toNat).size + (a1.extract ((wrap64 (bt252.1 + 1)) : Int).toNat a1.size).size ≤ 9223372036854775807 then (some ((a1.extract 0 (bt252.1 : Int).toNat) ++ (a1.extract ((wrap64 (bt252.1 + 1)) : Int).toNat a1.size),bt265.2)) else (none)) else (none)) else (none)) else (none)) else (none)) else (some (a1,bt265.2))) else (if bt252.1 < (a1.size : Int) then (if 0 ≤ bt252.1 then (if bt252.1 ≤ (a1.size : Int) then (if (a1.extract 0 (bt252.1 : Int).toNat).size + (strOfNums y262).size ≤ 9223372036854775807 then (if 0 ≤ (wrap64 (bt252.1 + 1)) then (if (wrap64 (bt252.1 + 1)) ≤ (a1.size : Int) then (if ((a1.extract 0 (bt252.1 : Int).toNat) ++ (strOfNums y262)).size + (a1.extract ((wrap64 (bt252.1 + 1)) : Int).toNat a1.size).size ≤ 9223372036854775807 then (some (((a1.extract 0 (bt252.1 : Int).toNat) ++ (strOfNums y262)) ++ (a1.extract ((wrap64 (bt252.1 + 1)) : Int).toNat a1.size),bt265.2)) else (none)) else (none)) else (none)) else (none)) else (none)) else (none)) else (some (a1,bt265.2))))))) else (none)) else (none)))))
theorem spec_l20Bent.mono : ∀ a0 a1 a2 k,LeO (spec_l20Bent.f k a0 a1 a2) (spec_l20Bent.f (k + 1) a0 a1 a2):=by
 intro a0 a1 a2 k
 unfold spec_l20Bent.f
 repeat' first | (with_reducible first | exact spec_l20Rd_pick.mono _ _ _ _ | exact LeO.refl _ | exact LeO.none _ | refine LeO.ite ?_ ?_ | refine LeO.bind ?_ (fun _=>?_)) | exact spec_l20Rd_pick.mono _ _ _ _ | exact LeO.none _ | refine LeO.ite ?_ ?_ | refine LeO.bind ?_ (fun _=>?_)
set_option maxHeartbeats 8000000 in
set_option maxRecDepth 100000 in
theorem spec_l20Bent.calls (k : Nat) (g : Nat) (s0_0 : List Int) (s0_1 : Int) (a1 : ByteArray) (r1 : ByteArray) (r2 : Int) (w0 w : World) (hI : IsS84 w0 w g s0_0 s0_1) (hB : Below w0.heap.size w0 w) (h : spec_l20Bent.f k s0_0 s0_1 a1 = some (r1,r2)) :
  Calls Tryz.prog 44 #[.pointer (some ⟨g,0,none⟩),.string a1] w fun e w'=>e = .returned (.string r1) ∧ IsS84 w0 w' g s0_0 r2 ∧ Below w0.heap.size w0 w' ∧ KeepBut w w' g none:=by
 have HI0:=am hI
 have HK:=am (KeepBut.refl w g none)
 have HL:=am hB.size
 clear hI
 have HW0:=am hB.size
 have HB:=am hB
 clear hB
 have H : ((spec_l20Rd_pick.f k s0_0 s0_1 (wrap64 ((a1.size : Int) + 1))).bind fun bt252=>((spec_l20Rd_pick.f k s0_0 bt252.2 256).bind fun bt254=>((some (([32,48,49,57,59,97,112,bt254.1] : List Int) : List Int)).bind fun y256=>((spec_l20Rd_pick.f k s0_0 bt254.2 8).bind fun bt259=>(if 0 ≤ bt259.1 then (if bt259.1 < (y256.length : Int) then ((some (([(rd y256 bt259.1) % 256] : List Int) : List Int)).bind fun y262=>((spec_l20Rd_pick.f k s0_0 bt259.2 3).bind fun bt265=>(if bt265.1 = 0 then (if 0 ≤ bt252.1 then (if bt252.1 ≤ (a1.size : Int) then (if (a1.extract 0 (bt252.1 : Int).toNat).size + (strOfNums y262).size ≤ 9223372036854775807 then (if ((a1.extract 0 (bt252.1 : Int).toNat) ++ (strOfNums y262)).size + (a1.extract (bt252.1 : Int).toNat a1.size).size ≤ 9223372036854775807 then (some (((a1.extract 0 (bt252.1 : Int).toNat) ++ (strOfNums y262)) ++ (a1.extract (bt252.1 : Int).toNat a1.size),bt265.2)) else (none)) else (none)) else (none)) else (none)) else (if bt265.1 = 1 then (if bt252.1 < (a1.size : Int) then (if 0 ≤ bt252.1 then (if bt252.1 ≤ (a1.size : Int) then (if 0 ≤ (wrap64 (bt252.1 + 1)) then (if (wrap64 (bt252.1 + 1)) ≤ (a1.size : Int) then (if (a1.extract 0 (bt252.1 : Int).toNat).size + (a1.extract ((wrap64 (bt252.1 + 1)) : Int).toNat a1.size).size ≤ 9223372036854775807 then (some ((a1.extract 0 (bt252.1 : Int).toNat) ++ (a1.extract ((wrap64 (bt252.1 + 1)) : Int).toNat a1.size),bt265.2)) else (none)) else (none)) else (none)) else (none)) else (none)) else (some (a1,bt265.2))) else (if bt252.1 < (a1.size : Int) then (if 0 ≤ bt252.1 then (if bt252.1 ≤ (a1.size : Int) then (if (a1.extract 0 (bt252.1 : Int).toNat).size + (strOfNums y262).size ≤ 9223372036854775807 then (if 0 ≤ (wrap64 (bt252.1 + 1)) then (if (wrap64 (bt252.1 + 1)) ≤ (a1.size : Int) then (if ((a1.extract 0 (bt252.1 : Int).toNat) ++ (strOfNums y262)).size + (a1.extract ((wrap64 (bt252.1 + 1)) : Int).toNat a1.size).size ≤ 9223372036854775807 then (some (((a1.extract 0 (bt252.1 : Int).toNat) ++ (strOfNums y262)) ++ (a1.extract ((wrap64 (bt252.1 + 1)) : Int).toNat a1.size),bt265.2)) else (none)) else (none)) else (none)) else (none)) else (none)) else (none)) else (some (a1,bt265.2))))))) else (none)) else (none)))))) = some (r1,r2):=h
 clear h
 obtain ⟨⟨t252,t253⟩,A3,H⟩:=bse H
 try dsimp only at H
 obtain ⟨⟨t254,t255⟩,A4,H⟩:=bse H
 try dsimp only at H
 obtain ⟨y256,hy256⟩ : ∃ y_ : List Int,y_ = (([32,48,49,57,59,97,112,t254] : List Int)):=⟨_,rfl⟩
 replace H : ((spec_l20Rd_pick.f k s0_0 t255 8).bind fun bt259=>(if 0 ≤ bt259.1 then (if bt259.1 < (y256.length : Int) then ((some (([(rd y256 bt259.1) % 256] : List Int) : List Int)).bind fun y262=>((spec_l20Rd_pick.f k s0_0 bt259.2 3).bind fun bt265=>(if bt265.1 = 0 then (if 0 ≤ t252 then (if t252 ≤ (a1.size : Int) then (if (a1.extract 0 (t252 : Int).toNat).size + (strOfNums y262).size ≤ 9223372036854775807 then (if ((a1.extract 0 (t252 : Int).toNat) ++ (strOfNums y262)).size + (a1.extract (t252 : Int).toNat a1.size).size ≤ 9223372036854775807 then (some (((a1.extract 0 (t252 : Int).toNat) ++ (strOfNums y262)) ++ (a1.extract (t252 : Int).toNat a1.size),bt265.2)) else (none)) else (none)) else (none)) else (none)) else (if bt265.1 = 1 then (if t252 < (a1.size : Int) then (if 0 ≤ t252 then (if t252 ≤ (a1.size : Int) then (if 0 ≤ (wrap64 (t252 + 1)) then (if (wrap64 (t252 + 1)) ≤ (a1.size : Int) then (if (a1.extract 0 (t252 : Int).toNat).size + (a1.extract ((wrap64 (t252 + 1)) : Int).toNat a1.size).size ≤ 9223372036854775807 then (some ((a1.extract 0 (t252 : Int).toNat) ++ (a1.extract ((wrap64 (t252 + 1)) : Int).toNat a1.size),bt265.2)) else (none)) else (none)) else (none)) else (none)) else (none)) else (some (a1,bt265.2))) else (if t252 < (a1.size : Int) then (if 0 ≤ t252 then (if t252 ≤ (a1.size : Int) then (if (a1.extract 0 (t252 : Int).toNat).size + (strOfNums y262).size ≤ 9223372036854775807 then (if 0 ≤ (wrap64 (t252 + 1)) then (if (wrap64 (t252 + 1)) ≤ (a1.size : Int) then (if ((a1.extract 0 (t252 : Int).toNat) ++ (strOfNums y262)).size + (a1.extract ((wrap64 (t252 + 1)) : Int).toNat a1.size).size ≤ 9223372036854775807 then (some (((a1.extract 0 (t252 : Int).toNat) ++ (strOfNums y262)) ++ (a1.extract ((wrap64 (t252 + 1)) : Int).toNat a1.size),bt265.2)) else (none)) else (none)) else (none)) else (none)) else (none)) else (none)) else (some (a1,bt265.2))))))) else (none)) else (none))) = some (r1,r2):=by first | (rw [hy256];with_reducible exact H) | (have H2_:=(Option.bind_some _ _).symm.trans H;rw [hy256];with_reducible exact H2_) | (have H2_:=(Option.bind_some _ _).symm.trans H;with_reducible exact H2_) | with_reducible exact H | (rw [hy256];exact H) | exact H
 have Ny256:=am hy256
 clear hy256
 obtain ⟨⟨t259,t260⟩,A5,H⟩:=bse H
 try dsimp only at H
 by_cases c6 : 0 ≤ t259
 ·rw [if_pos c6] at H
  have c6b0 : decide (0 ≤ t259) = true:=decide_eq_true c6
  clear c6
  by_cases c7 : t259 < (y256.length : Int)
  ·rw [if_pos c7] at H
   have c7b0 : decide (t259 < (y256.length : Int)) = true:=decide_eq_true c7
   clear c7
   obtain ⟨y262,hy262⟩ : ∃ y_ : List Int,y_ = (([(rd y256 t259) % 256] : List Int)):=⟨_,rfl⟩
   replace H : ((spec_l20Rd_pick.f k s0_0 t260 3).bind fun bt265=>(if bt265.1 = 0 then (if 0 ≤ t252 then (if t252 ≤ (a1.size : Int) then (if (a1.extract 0 (t252 : Int).toNat).size + (strOfNums y262).size ≤ 9223372036854775807 then (if ((a1.extract 0 (t252 : Int).toNat) ++ (strOfNums y262)).size + (a1.extract (t252 : Int).toNat a1.size).size ≤ 9223372036854775807 then (some (((a1.extract 0 (t252 : Int).toNat) ++ (strOfNums y262)) ++ (a1.extract (t252 : Int).toNat a1.size),bt265.2)) else (none)) else (none)) else (none)) else (none)) else (if bt265.1 = 1 then (if t252 < (a1.size : Int) then (if 0 ≤ t252 then (if t252 ≤ (a1.size : Int) then (if 0 ≤ (wrap64 (t252 + 1)) then (if (wrap64 (t252 + 1)) ≤ (a1.size : Int) then (if (a1.extract 0 (t252 : Int).toNat).size + (a1.extract ((wrap64 (t252 + 1)) : Int).toNat a1.size).size ≤ 9223372036854775807 then (some ((a1.extract 0 (t252 : Int).toNat) ++ (a1.extract ((wrap64 (t252 + 1)) : Int).toNat a1.size),bt265.2)) else (none)) else (none)) else (none)) else (none)) else (none)) else (some (a1,bt265.2))) else (if t252 < (a1.size : Int) then (if 0 ≤ t252 then (if t252 ≤ (a1.size : Int) then (if (a1.extract 0 (t252 : Int).toNat).size + (strOfNums y262).size ≤ 9223372036854775807 then (if 0 ≤ (wrap64 (t252 + 1)) then (if (wrap64 (t252 + 1)) ≤ (a1.size : Int) then (if ((a1.extract 0 (t252 : Int).toNat) ++ (strOfNums y262)).size + (a1.extract ((wrap64 (t252 + 1)) : Int).toNat a1.size).size ≤ 9223372036854775807 then (some (((a1.extract 0 (t252 : Int).toNat) ++ (strOfNums y262)) ++ (a1.extract ((wrap64 (t252 + 1)) : Int).toNat a1.size),bt265.2)) else (none)) else (none)) else (none)) else (none)) else (none)) else (none)) else (some (a1,bt265.2)))))) = some (r1,r2):=by first | (rw [hy262];with_reducible exact H) | (have H2_:=(Option.bind_some _ _).symm.trans H;rw [hy262];with_reducible exact H2_) | (have H2_:=(Option.bind_some _ _).symm.trans H;with_reducible exact H2_) | with_reducible exact H | (rw [hy262];exact H) | exact H
   have Ny262:=am hy262
   clear hy262
   obtain ⟨⟨t265,t266⟩,A8,H⟩:=bse H
   try dsimp only at H
   by_cases c9 : t265 = 0
   ·rw [if_pos c9] at H
    have c9b0 : (t265 == 0) = true:=beq_iff_eq.mpr c9
    have c9b1 : (t265 != 0) = false:=bne_eq_false_iff_eq.mpr c9
    clear c9
    by_cases c10 : 0 ≤ t252
    ·rw [if_pos c10] at H
     have c10b0:=eq_true c10
     have c10b1 : decide (0 ≤ t252) = true:=decide_eq_true c10
     clear c10
     by_cases c11 : t252 ≤ (a1.size : Int)
     ·rw [if_pos c11] at H
      have c11b0:=eq_true c11
      have c11b1 : decide (t252 ≤ (a1.size : Int)) = true:=decide_eq_true c11
      clear c11
      by_cases c12 : (a1.extract 0 (t252 : Int).toNat).size + (strOfNums y262).size ≤ 9223372036854775807
      ·rw [if_pos c12] at H
       have c12b0:=eq_true c12
       have c12b1 : decide ((a1.extract 0 (t252 : Int).toNat).size + (strOfNums y262).size ≤ 9223372036854775807) = true:=decide_eq_true c12
       try have c12b2 : (9223372036854775807 < (a1.extract 0 (t252 : Int).toNat).size + (strOfNums y262).size) = False:=eq_false (Nat.not_lt.2 c12)
       have c13b0:=eq_true (of_decide_eq_true da_ : 0 ≤ t252)
       have c14b0:=eq_true (of_decide_eq_true da_ : t252 ≤ (a1.size : Int))
       by_cases c15 : ((a1.extract 0 (t252 : Int).toNat) ++ (strOfNums y262)).size + (a1.extract (t252 : Int).toNat a1.size).size ≤ 9223372036854775807
       ·rw [if_pos c15] at H
        have c15b0:=eq_true c15
        have c15b1 : decide (((a1.extract 0 (t252 : Int).toNat) ++ (strOfNums y262)).size + (a1.extract (t252 : Int).toNat a1.size).size ≤ 9223372036854775807) = true:=decide_eq_true c15
        try have c15b2 : (9223372036854775807 < ((a1.extract 0 (t252 : Int).toNat) ++ (strOfNums y262)).size + (a1.extract (t252 : Int).toNat a1.size).size) = False:=eq_false (Nat.not_lt.2 c15)
        try have c15b3 : (9223372036854775807 < (a1.extract 0 (t252 : Int).toNat).size + (strOfNums y262).size + (a1.extract (t252 : Int).toNat a1.size).size) = False:=(by have z_:=c15b2;simp only [ByteArray.size_append] at z_;exact z_)
        simp only [Option.some.injEq,Prod.mk.injEq] at H
        obtain ⟨rfl,rfl⟩:=H
        go_enter Tryz.func44,Tryz.ntmps44
        iterate 4 ((try go_quiet (fail));(try go_wp2_with (first | (go_at_call 63;(with_reducible refine (spec_l20Rd_pick.calls k g s0_0 s0_1 (wrap64 ((a1.size : Int) + 1)) t252 t253 w0 _ ?side1 ?side2 A3.out).mono ?_);(case side1=>exact m25_);(case side2=>exact m23_);rintro e w16 ⟨rfl,hi,hb,hk⟩;replace HK:=am (KeepBut.trans m24_ hk (.inl rfl));replace HB:=am hb;replace HI0:=am hi;(try clear hb);(try clear hk);(try clear hi)) | (go_at_call 63;(with_reducible refine (spec_l20Rd_pick.calls k g s0_0 t253 256 t254 t255 w0 _ ?side1 ?side2 A4.out).mono ?_);(case side1=>exact m25_);(case side2=>exact m23_);rintro e w17 ⟨rfl,hi,hb,hk⟩;replace HK:=am (KeepBut.trans m24_ hk (.inl rfl));replace HB:=am hb;replace HI0:=am hi;(try clear hb);(try clear hk);(try clear hi)) | ((with_reducible refine gD 14 rfl ?_);refine Kd.R_lit (Kd.int .i64) _ 3 rfl (N:=14) rfl (xs:=([32,48,49,57,59,97,112,t254] : List Int)) (inner:=[.int .i64 32,.int .i64 48,.int .i64 49,.int .i64 57,.int .i64 59,.int .i64 97,.int .i64 112,.int .i64 t254]) (ok:=fun _=>True) (okp:=fun _=>True) hr_ ?hp (fun _ hk=>hk) trivial (Below.refl _ _) (Nat.le_refl _) (by simp) ?_;(case hp=>exact (Reps.one (show Kd.M (Kd.int .i64) _ _ _ 32 [.int .i64 32] from rfl) (Reps.one (show Kd.M (Kd.int .i64) _ _ _ 48 [.int .i64 48] from rfl) (Reps.one (show Kd.M (Kd.int .i64) _ _ _ 49 [.int .i64 49] from rfl) (Reps.one (show Kd.M (Kd.int .i64) _ _ _ 57 [.int .i64 57] from rfl) (Reps.one (show Kd.M (Kd.int .i64) _ _ _ 59 [.int .i64 59] from rfl) (Reps.one (show Kd.M (Kd.int .i64) _ _ _ 97 [.int .i64 97] from rfl) (Reps.one (show Kd.M (Kd.int .i64) _ _ _ 112 [.int .i64 112] from rfl) (Reps.one (show Kd.M (Kd.int .i64) _ _ _ t254 [.int .i64 t254] from rfl) (Reps.none _ _))))))))));intro v257 w18 ho19 hb hg_ hnew_;clear hg_ hnew_;(first | rw [← Ny256.out] at ho19 | (simp only [Int.reduceToNat] at ho19;rw [← Ny256.out] at ho19));have HO258:=am (Kd.R_lower ho19 (keep_size (w:=w) (g:=g) (row:=none) m24_));replace HK:=am (KeepBut.trans m24_ (KeepBut.of_below hb g none) (.inl rfl));replace HB:=am (below_step m23_ hb);replace HI0:=am (IsS84.below m25_ hb);clear hb ho19) | (go_at_call 63;(with_reducible refine (spec_l20Rd_pick.calls k g s0_0 t255 8 t259 t260 w0 _ ?side1 ?side2 A5.out).mono ?_);(case side1=>exact m25_);(case side2=>exact m23_);rintro e w20 ⟨rfl,hi,hb,hk⟩;replace HO258:=am (Kd.R_mono (Kd.R_keep (IsS84.apart (show IsS84 w0 _ g s0_0 t255 from m25_) (rs HO258) (by decide)) hk (fun _ h=>h.2)) (fun _ h=>h.1));replace HK:=am (KeepBut.trans m24_ hk (.inl rfl));replace HB:=am hb;replace HI0:=am hi;(try clear hb);(try clear hk);(try clear hi);obtain ⟨Ao21,co21,eo21⟩:=Kd.R_slice HO258.out;subst eo21;have p261 : 0 ≤ (t259 : Int):=of_decide_eq_true da_;have q261 : t259 < (y256.length : Int):=of_decide_eq_true da_;obtain ⟨ad261,e261,hx261_0⟩:=Kd.at_int (Kd.R_reads' HO258.out).2.2 t259 p261 q261;cases e261;replace p261:=eq_true p261;replace q261:=eq_true q261) | ((with_reducible refine gD 20 rfl ?_);refine Kd.R_lit (Kd.int .u8) _ 5 rfl (N:=20) rfl (xs:=([(rd y256 t259) % 256] : List Int)) (inner:=[.int .u8 ((rd y256 t259) % 256)]) (ok:=fun _=>True) (okp:=fun _=>True) hr_ ?hp (fun _ hk=>hk) trivial (Below.refl _ _) (Nat.le_refl _) (by simp) ?_;(case hp=>exact (Reps.one (show Kd.M (Kd.int .u8) _ _ _ ((rd y256 t259) % 256) [.int .u8 ((rd y256 t259) % 256)] from rfl) (Reps.none _ _)));intro v263 w22 ho23 hb hg_ hnew_;clear hg_ hnew_;(first | rw [← Ny262.out] at ho23 | (simp only [Int.reduceToNat] at ho23;rw [← Ny262.out] at ho23));replace HO258:=am (Kd.R_below (rs HO258) hb);have HO264:=am (Kd.R_lower ho23 (keep_size (w:=w) (g:=g) (row:=none) m24_));replace HK:=am (KeepBut.trans m24_ (KeepBut.of_below hb g none) (.inl rfl));replace HB:=am (below_step m23_ hb);replace HI0:=am (IsS84.below m25_ hb);clear hb ho23;have hcv24:=own_string (P:=Tryz.prog) Tryz.underlying22 Tryz.underlying5 Tryz.underlying9 (Kd.own_of_R HO264.out)) | (go_at_call 63;(with_reducible refine (spec_l20Rd_pick.calls k g s0_0 t260 3 t265 t266 w0 _ ?side1 ?side2 A8.out).mono ?_);(case side1=>exact m25_);(case side2=>exact m23_);rintro e w25 ⟨rfl,hi,hb,hk⟩;replace HO258:=am (Kd.R_mono (Kd.R_keep (IsS84.apart (show IsS84 w0 _ g s0_0 t260 from m25_) (rs HO258) (by decide)) hk (fun _ h=>h.2)) (fun _ h=>h.1));replace HO264:=am (Kd.R_mono (Kd.R_keep (IsS84.apart (show IsS84 w0 _ g s0_0 t260 from m25_) (rs HO264) (by decide)) hk (fun _ h=>h.2)) (fun _ h=>h.1));replace HK:=am (KeepBut.trans m24_ hk (.inl rfl));replace HB:=am hb;replace HI0:=am hi;(try clear hb);(try clear hk);(try clear hi)))))
        go_ret
        exact ⟨fi_,m25_,m23_,m24_⟩
       ·rw [if_neg c15] at H
        exact absurd H (by simp)
      ·rw [if_neg c12] at H
       exact absurd H (by simp)
     ·rw [if_neg c11] at H
      exact absurd H (by simp)
    ·rw [if_neg c10] at H
     exact absurd H (by simp)
   ·rw [if_neg c9] at H
    have c9b0 : (t265 == 0) = false:=beq_eq_false_iff_ne.mpr c9
    have c9b1 : (t265 != 0) = true:=bne_iff_ne.mpr c9
    by_cases c26 : t265 = 1
    ·rw [if_pos c26] at H
     have c26b0 : (t265 == 1) = true:=beq_iff_eq.mpr c26
     have c26b1 : (t265 != 1) = false:=bne_eq_false_iff_eq.mpr c26
     clear c26
     by_cases c27 : t252 < (a1.size : Int)
     ·rw [if_pos c27] at H
      have c27b0 : decide (t252 < (a1.size : Int)) = true:=decide_eq_true c27
      clear c27
      by_cases c28 : 0 ≤ t252
      ·rw [if_pos c28] at H
       have c28b0:=eq_true c28
       have c28b1 : decide (0 ≤ t252) = true:=decide_eq_true c28
       clear c28
       by_cases c29 : t252 ≤ (a1.size : Int)
       ·rw [if_pos c29] at H
        have c29b0:=eq_true c29
        have c29b1 : decide (t252 ≤ (a1.size : Int)) = true:=decide_eq_true c29
        clear c29
        obtain ⟨ji30,hji30⟩ : ∃ j_ : Int,(wrap64 (t252 + 1)) = j_:=⟨_,rfl⟩
        replace H : (if 0 ≤ (ji30) then (if (ji30) ≤ (a1.size : Int) then (if (a1.extract 0 (t252 : Int).toNat).size + (a1.extract ((ji30) : Int).toNat a1.size).size ≤ 9223372036854775807 then (some ((a1.extract 0 (t252 : Int).toNat) ++ (a1.extract ((ji30) : Int).toNat a1.size),t266)) else (none)) else (none)) else (none)) = some (r1,r2):=by first | (rw [hji30] at H;exact H) | (simp only [hji30] at H ⊢;exact H)
        (try rw [hji30] at A3)
        (try rw [hji30] at A4)
        (try rw [hji30] at A5)
        (try rw [hji30] at A8)
        have hji30w : (IntKind.i64.wrap (t252 + 1)) = ji30:=(i64_w _).trans hji30
        by_cases c31 : 0 ≤ (ji30)
        ·rw [if_pos c31] at H
         have c31b0:=eq_true c31
         have c31b1 : decide (0 ≤ (ji30)) = true:=decide_eq_true c31
         clear c31
         by_cases c32 : (ji30) ≤ (a1.size : Int)
         ·rw [if_pos c32] at H
          have c32b0:=eq_true c32
          have c32b1 : decide ((ji30) ≤ (a1.size : Int)) = true:=decide_eq_true c32
          clear c32
          by_cases c33 : (a1.extract 0 (t252 : Int).toNat).size + (a1.extract ((ji30) : Int).toNat a1.size).size ≤ 9223372036854775807
          ·rw [if_pos c33] at H
           have c33b0:=eq_true c33
           have c33b1 : decide ((a1.extract 0 (t252 : Int).toNat).size + (a1.extract ((ji30) : Int).toNat a1.size).size ≤ 9223372036854775807) = true:=decide_eq_true c33
           try have c33b2 : (9223372036854775807 < (a1.extract 0 (t252 : Int).toNat).size + (a1.extract ((ji30) : Int).toNat a1.size).size) = False:=eq_false (Nat.not_lt.2 c33)
           simp only [Option.some.injEq,Prod.mk.injEq] at H
           obtain ⟨rfl,rfl⟩:=H
           go_enter Tryz.func44,Tryz.ntmps44
           iterate 4 ((try go_quiet (fail));(try go_wp2_with (first | (go_at_call 63;(with_reducible refine (spec_l20Rd_pick.calls k g s0_0 s0_1 (wrap64 ((a1.size : Int) + 1)) t252 t253 w0 _ ?side1 ?side2 A3.out).mono ?_);(case side1=>exact m25_);(case side2=>exact m23_);rintro e w34 ⟨rfl,hi,hb,hk⟩;replace HK:=am (KeepBut.trans m24_ hk (.inl rfl));replace HB:=am hb;replace HI0:=am hi;(try clear hb);(try clear hk);(try clear hi)) | (go_at_call 63;(with_reducible refine (spec_l20Rd_pick.calls k g s0_0 t253 256 t254 t255 w0 _ ?side1 ?side2 A4.out).mono ?_);(case side1=>exact m25_);(case side2=>exact m23_);rintro e w35 ⟨rfl,hi,hb,hk⟩;replace HK:=am (KeepBut.trans m24_ hk (.inl rfl));replace HB:=am hb;replace HI0:=am hi;(try clear hb);(try clear hk);(try clear hi)) | ((with_reducible refine gD 14 rfl ?_);refine Kd.R_lit (Kd.int .i64) _ 3 rfl (N:=14) rfl (xs:=([32,48,49,57,59,97,112,t254] : List Int)) (inner:=[.int .i64 32,.int .i64 48,.int .i64 49,.int .i64 57,.int .i64 59,.int .i64 97,.int .i64 112,.int .i64 t254]) (ok:=fun _=>True) (okp:=fun _=>True) hr_ ?hp (fun _ hk=>hk) trivial (Below.refl _ _) (Nat.le_refl _) (by simp) ?_;(case hp=>exact (Reps.one (show Kd.M (Kd.int .i64) _ _ _ 32 [.int .i64 32] from rfl) (Reps.one (show Kd.M (Kd.int .i64) _ _ _ 48 [.int .i64 48] from rfl) (Reps.one (show Kd.M (Kd.int .i64) _ _ _ 49 [.int .i64 49] from rfl) (Reps.one (show Kd.M (Kd.int .i64) _ _ _ 57 [.int .i64 57] from rfl) (Reps.one (show Kd.M (Kd.int .i64) _ _ _ 59 [.int .i64 59] from rfl) (Reps.one (show Kd.M (Kd.int .i64) _ _ _ 97 [.int .i64 97] from rfl) (Reps.one (show Kd.M (Kd.int .i64) _ _ _ 112 [.int .i64 112] from rfl) (Reps.one (show Kd.M (Kd.int .i64) _ _ _ t254 [.int .i64 t254] from rfl) (Reps.none _ _))))))))));intro v257 w36 ho37 hb hg_ hnew_;clear hg_ hnew_;(first | rw [← Ny256.out] at ho37 | (simp only [Int.reduceToNat] at ho37;rw [← Ny256.out] at ho37));have HO258:=am (Kd.R_lower ho37 (keep_size (w:=w) (g:=g) (row:=none) m24_));replace HK:=am (KeepBut.trans m24_ (KeepBut.of_below hb g none) (.inl rfl));replace HB:=am (below_step m23_ hb);replace HI0:=am (IsS84.below m25_ hb);clear hb ho37) | (go_at_call 63;(with_reducible refine (spec_l20Rd_pick.calls k g s0_0 t255 8 t259 t260 w0 _ ?side1 ?side2 A5.out).mono ?_);(case side1=>exact m25_);(case side2=>exact m23_);rintro e w38 ⟨rfl,hi,hb,hk⟩;replace HO258:=am (Kd.R_mono (Kd.R_keep (IsS84.apart (show IsS84 w0 _ g s0_0 t255 from m25_) (rs HO258) (by decide)) hk (fun _ h=>h.2)) (fun _ h=>h.1));replace HK:=am (KeepBut.trans m24_ hk (.inl rfl));replace HB:=am hb;replace HI0:=am hi;(try clear hb);(try clear hk);(try clear hi);obtain ⟨Ao39,co39,eo39⟩:=Kd.R_slice HO258.out;subst eo39;have p261 : 0 ≤ (t259 : Int):=of_decide_eq_true da_;have q261 : t259 < (y256.length : Int):=of_decide_eq_true da_;obtain ⟨ad261,e261,hx261_0⟩:=Kd.at_int (Kd.R_reads' HO258.out).2.2 t259 p261 q261;cases e261;replace p261:=eq_true p261;replace q261:=eq_true q261) | ((with_reducible refine gD 20 rfl ?_);refine Kd.R_lit (Kd.int .u8) _ 5 rfl (N:=20) rfl (xs:=([(rd y256 t259) % 256] : List Int)) (inner:=[.int .u8 ((rd y256 t259) % 256)]) (ok:=fun _=>True) (okp:=fun _=>True) hr_ ?hp (fun _ hk=>hk) trivial (Below.refl _ _) (Nat.le_refl _) (by simp) ?_;(case hp=>exact (Reps.one (show Kd.M (Kd.int .u8) _ _ _ ((rd y256 t259) % 256) [.int .u8 ((rd y256 t259) % 256)] from rfl) (Reps.none _ _)));intro v263 w40 ho41 hb hg_ hnew_;clear hg_ hnew_;(first | rw [← Ny262.out] at ho41 | (simp only [Int.reduceToNat] at ho41;rw [← Ny262.out] at ho41));replace HO258:=am (Kd.R_below (rs HO258) hb);have HO264:=am (Kd.R_lower ho41 (keep_size (w:=w) (g:=g) (row:=none) m24_));replace HK:=am (KeepBut.trans m24_ (KeepBut.of_below hb g none) (.inl rfl));replace HB:=am (below_step m23_ hb);replace HI0:=am (IsS84.below m25_ hb);clear hb ho41;have hcv42:=own_string (P:=Tryz.prog) Tryz.underlying22 Tryz.underlying5 Tryz.underlying9 (Kd.own_of_R HO264.out)) | (go_at_call 63;(with_reducible refine (spec_l20Rd_pick.calls k g s0_0 t260 3 t265 t266 w0 _ ?side1 ?side2 A8.out).mono ?_);(case side1=>exact m25_);(case side2=>exact m23_);rintro e w43 ⟨rfl,hi,hb,hk⟩;replace HO258:=am (Kd.R_mono (Kd.R_keep (IsS84.apart (show IsS84 w0 _ g s0_0 t260 from m25_) (rs HO258) (by decide)) hk (fun _ h=>h.2)) (fun _ h=>h.1));replace HO264:=am (Kd.R_mono (Kd.R_keep (IsS84.apart (show IsS84 w0 _ g s0_0 t260 from m25_) (rs HO264) (by decide)) hk (fun _ h=>h.2)) (fun _ h=>h.1));replace HK:=am (KeepBut.trans m24_ hk (.inl rfl));replace HB:=am hb;replace HI0:=am hi;(try clear hb);(try clear hk);(try clear hi)))))
           go_ret
           exact ⟨by first | rfl | (simp [errW_none,errW_some] <;> rfl) | (simp only [← hji30];first | rfl | (simp [errW_none,errW_some] <;> rfl)) | (simp [*,errW_none,errW_some] <;> rfl),m25_,m23_,m24_⟩
          ·rw [if_neg c33] at H
           exact absurd H (by simp)
         ·rw [if_neg c32] at H
          exact absurd H (by simp)
        ·rw [if_neg c31] at H
         exact absurd H (by simp)
       ·rw [if_neg c29] at H
        exact absurd H (by simp)
      ·rw [if_neg c28] at H
       exact absurd H (by simp)
     ·rw [if_neg c27] at H
      have c27b0 : decide (t252 < (a1.size : Int)) = false:=decide_eq_false c27
      clear c27
      simp only [Option.some.injEq,Prod.mk.injEq] at H
      obtain ⟨rfl,rfl⟩:=H
      go_enter Tryz.func44,Tryz.ntmps44
      iterate 4 ((try go_quiet (fail));(try go_wp2_with (first | (go_at_call 63;(with_reducible refine (spec_l20Rd_pick.calls k g s0_0 s0_1 (wrap64 ((a1.size : Int) + 1)) t252 t253 w0 _ ?side1 ?side2 A3.out).mono ?_);(case side1=>exact m25_);(case side2=>exact m23_);rintro e w44 ⟨rfl,hi,hb,hk⟩;replace HK:=am (KeepBut.trans m24_ hk (.inl rfl));replace HB:=am hb;replace HI0:=am hi;(try clear hb);(try clear hk);(try clear hi)) | (go_at_call 63;(with_reducible refine (spec_l20Rd_pick.calls k g s0_0 t253 256 t254 t255 w0 _ ?side1 ?side2 A4.out).mono ?_);(case side1=>exact m25_);(case side2=>exact m23_);rintro e w45 ⟨rfl,hi,hb,hk⟩;replace HK:=am (KeepBut.trans m24_ hk (.inl rfl));replace HB:=am hb;replace HI0:=am hi;(try clear hb);(try clear hk);(try clear hi)) | ((with_reducible refine gD 14 rfl ?_);refine Kd.R_lit (Kd.int .i64) _ 3 rfl (N:=14) rfl (xs:=([32,48,49,57,59,97,112,t254] : List Int)) (inner:=[.int .i64 32,.int .i64 48,.int .i64 49,.int .i64 57,.int .i64 59,.int .i64 97,.int .i64 112,.int .i64 t254]) (ok:=fun _=>True) (okp:=fun _=>True) hr_ ?hp (fun _ hk=>hk) trivial (Below.refl _ _) (Nat.le_refl _) (by simp) ?_;(case hp=>exact (Reps.one (show Kd.M (Kd.int .i64) _ _ _ 32 [.int .i64 32] from rfl) (Reps.one (show Kd.M (Kd.int .i64) _ _ _ 48 [.int .i64 48] from rfl) (Reps.one (show Kd.M (Kd.int .i64) _ _ _ 49 [.int .i64 49] from rfl) (Reps.one (show Kd.M (Kd.int .i64) _ _ _ 57 [.int .i64 57] from rfl) (Reps.one (show Kd.M (Kd.int .i64) _ _ _ 59 [.int .i64 59] from rfl) (Reps.one (show Kd.M (Kd.int .i64) _ _ _ 97 [.int .i64 97] from rfl) (Reps.one (show Kd.M (Kd.int .i64) _ _ _ 112 [.int .i64 112] from rfl) (Reps.one (show Kd.M (Kd.int .i64) _ _ _ t254 [.int .i64 t254] from rfl) (Reps.none _ _))))))))));intro v257 w46 ho47 hb hg_ hnew_;clear hg_ hnew_;(first | rw [← Ny256.out] at ho47 | (simp only [Int.reduceToNat] at ho47;rw [← Ny256.out] at ho47));have HO258:=am (Kd.R_lower ho47 (keep_size (w:=w) (g:=g) (row:=none) m24_));replace HK:=am (KeepBut.trans m24_ (KeepBut.of_below hb g none) (.inl rfl));replace HB:=am (below_step m23_ hb);replace HI0:=am (IsS84.below m25_ hb);clear hb ho47) | (go_at_call 63;(with_reducible refine (spec_l20Rd_pick.calls k g s0_0 t255 8 t259 t260 w0 _ ?side1 ?side2 A5.out).mono ?_);(case side1=>exact m25_);(case side2=>exact m23_);rintro e w48 ⟨rfl,hi,hb,hk⟩;replace HO258:=am (Kd.R_mono (Kd.R_keep (IsS84.apart (show IsS84 w0 _ g s0_0 t255 from m25_) (rs HO258) (by decide)) hk (fun _ h=>h.2)) (fun _ h=>h.1));replace HK:=am (KeepBut.trans m24_ hk (.inl rfl));replace HB:=am hb;replace HI0:=am hi;(try clear hb);(try clear hk);(try clear hi);obtain ⟨Ao49,co49,eo49⟩:=Kd.R_slice HO258.out;subst eo49;have p261 : 0 ≤ (t259 : Int):=of_decide_eq_true da_;have q261 : t259 < (y256.length : Int):=of_decide_eq_true da_;obtain ⟨ad261,e261,hx261_0⟩:=Kd.at_int (Kd.R_reads' HO258.out).2.2 t259 p261 q261;cases e261;replace p261:=eq_true p261;replace q261:=eq_true q261) | ((with_reducible refine gD 20 rfl ?_);refine Kd.R_lit (Kd.int .u8) _ 5 rfl (N:=20) rfl (xs:=([(rd y256 t259) % 256] : List Int)) (inner:=[.int .u8 ((rd y256 t259) % 256)]) (ok:=fun _=>True) (okp:=fun _=>True) hr_ ?hp (fun _ hk=>hk) trivial (Below.refl _ _) (Nat.le_refl _) (by simp) ?_;(case hp=>exact (Reps.one (show Kd.M (Kd.int .u8) _ _ _ ((rd y256 t259) % 256) [.int .u8 ((rd y256 t259) % 256)] from rfl) (Reps.none _ _)));intro v263 w50 ho51 hb hg_ hnew_;clear hg_ hnew_;(first | rw [← Ny262.out] at ho51 | (simp only [Int.reduceToNat] at ho51;rw [← Ny262.out] at ho51));replace HO258:=am (Kd.R_below (rs HO258) hb);have HO264:=am (Kd.R_lower ho51 (keep_size (w:=w) (g:=g) (row:=none) m24_));replace HK:=am (KeepBut.trans m24_ (KeepBut.of_below hb g none) (.inl rfl));replace HB:=am (below_step m23_ hb);replace HI0:=am (IsS84.below m25_ hb);clear hb ho51;have hcv52:=own_string (P:=Tryz.prog) Tryz.underlying22 Tryz.underlying5 Tryz.underlying9 (Kd.own_of_R HO264.out)) | (go_at_call 63;(with_reducible refine (spec_l20Rd_pick.calls k g s0_0 t260 3 t265 t266 w0 _ ?side1 ?side2 A8.out).mono ?_);(case side1=>exact m25_);(case side2=>exact m23_);rintro e w53 ⟨rfl,hi,hb,hk⟩;replace HO258:=am (Kd.R_mono (Kd.R_keep (IsS84.apart (show IsS84 w0 _ g s0_0 t260 from m25_) (rs HO258) (by decide)) hk (fun _ h=>h.2)) (fun _ h=>h.1));replace HO264:=am (Kd.R_mono (Kd.R_keep (IsS84.apart (show IsS84 w0 _ g s0_0 t260 from m25_) (rs HO264) (by decide)) hk (fun _ h=>h.2)) (fun _ h=>h.1));replace HK:=am (KeepBut.trans m24_ hk (.inl rfl));replace HB:=am hb;replace HI0:=am hi;(try clear hb);(try clear hk);(try clear hi)))))
      go_ret
      exact ⟨fi_,m25_,m23_,m24_⟩
    ·rw [if_neg c26] at H
     have c26b0 : (t265 == 1) = false:=beq_eq_false_iff_ne.mpr c26
     have c26b1 : (t265 != 1) = true:=bne_iff_ne.mpr c26
     by_cases c54 : t252 < (a1.size : Int)
     ·rw [if_pos c54] at H
      have c54b0 : decide (t252 < (a1.size : Int)) = true:=decide_eq_true c54
      clear c54
      by_cases c55 : 0 ≤ t252
      ·rw [if_pos c55] at H
       have c55b0:=eq_true c55
       have c55b1 : decide (0 ≤ t252) = true:=decide_eq_true c55
       clear c55
       by_cases c56 : t252 ≤ (a1.size : Int)
       ·rw [if_pos c56] at H
        have c56b0:=eq_true c56
        have c56b1 : decide (t252 ≤ (a1.size : Int)) = true:=decide_eq_true c56
        clear c56
        by_cases c57 : (a1.extract 0 (t252 : Int).toNat).size + (strOfNums y262).size ≤ 9223372036854775807
        ·rw [if_pos c57] at H
         have c57b0:=eq_true c57
         have c57b1 : decide ((a1.extract 0 (t252 : Int).toNat).size + (strOfNums y262).size ≤ 9223372036854775807) = true:=decide_eq_true c57
         try have c57b2 : (9223372036854775807 < (a1.extract 0 (t252 : Int).toNat).size + (strOfNums y262).size) = False:=eq_false (Nat.not_lt.2 c57)
         obtain ⟨ji58,hji58⟩ : ∃ j_ : Int,(wrap64 (t252 + 1)) = j_:=⟨_,rfl⟩
         replace H : (if 0 ≤ (ji58) then (if (ji58) ≤ (a1.size : Int) then (if ((a1.extract 0 (t252 : Int).toNat) ++ (strOfNums y262)).size + (a1.extract ((ji58) : Int).toNat a1.size).size ≤ 9223372036854775807 then (some (((a1.extract 0 (t252 : Int).toNat) ++ (strOfNums y262)) ++ (a1.extract ((ji58) : Int).toNat a1.size),t266)) else (none)) else (none)) else (none)) = some (r1,r2):=by first | (rw [hji58] at H;exact H) | (simp only [hji58] at H ⊢;exact H)
         (try rw [hji58] at A3)
         (try rw [hji58] at A4)
         (try rw [hji58] at A5)
         (try rw [hji58] at A8)
         have hji58w : (IntKind.i64.wrap (t252 + 1)) = ji58:=(i64_w _).trans hji58
         by_cases c59 : 0 ≤ (ji58)
         ·rw [if_pos c59] at H
          have c59b0:=eq_true c59
          have c59b1 : decide (0 ≤ (ji58)) = true:=decide_eq_true c59
          clear c59
          by_cases c60 : (ji58) ≤ (a1.size : Int)
          ·rw [if_pos c60] at H
           have c60b0:=eq_true c60
           have c60b1 : decide ((ji58) ≤ (a1.size : Int)) = true:=decide_eq_true c60
           clear c60
           by_cases c61 : ((a1.extract 0 (t252 : Int).toNat) ++ (strOfNums y262)).size + (a1.extract ((ji58) : Int).toNat a1.size).size ≤ 9223372036854775807
           ·rw [if_pos c61] at H
            have c61b0:=eq_true c61
            have c61b1 : decide (((a1.extract 0 (t252 : Int).toNat) ++ (strOfNums y262)).size + (a1.extract ((ji58) : Int).toNat a1.size).size ≤ 9223372036854775807) = true:=decide_eq_true c61
            try have c61b2 : (9223372036854775807 < ((a1.extract 0 (t252 : Int).toNat) ++ (strOfNums y262)).size + (a1.extract ((ji58) : Int).toNat a1.size).size) = False:=eq_false (Nat.not_lt.2 c61)
            try have c61b3 : (9223372036854775807 < (a1.extract 0 (t252 : Int).toNat).size + (strOfNums y262).size + (a1.extract ((ji58) : Int).toNat a1.size).size) = False:=(by have z_:=c61b2;simp only [ByteArray.size_append] at z_;exact z_)
            simp only [Option.some.injEq,Prod.mk.injEq] at H
            obtain ⟨rfl,rfl⟩:=H
            go_enter Tryz.func44,Tryz.ntmps44
            iterate 4 ((try go_quiet (fail));(try go_wp2_with (first | (go_at_call 63;(with_reducible refine (spec_l20Rd_pick.calls k g s0_0 s0_1 (wrap64 ((a1.size : Int) + 1)) t252 t253 w0 _ ?side1 ?side2 A3.out).mono ?_);(case side1=>exact m25_);(case side2=>exact m23_);rintro e w62 ⟨rfl,hi,hb,hk⟩;replace HK:=am (KeepBut.trans m24_ hk (.inl rfl));replace HB:=am hb;replace HI0:=am hi;(try clear hb);(try clear hk);(try clear hi)) | (go_at_call 63;(with_reducible refine (spec_l20Rd_pick.calls k g s0_0 t253 256 t254 t255 w0 _ ?side1 ?side2 A4.out).mono ?_);(case side1=>exact m25_);(case side2=>exact m23_);rintro e w63 ⟨rfl,hi,hb,hk⟩;replace HK:=am (KeepBut.trans m24_ hk (.inl rfl));replace HB:=am hb;replace HI0:=am hi;(try clear hb);(try clear hk);(try clear hi)) | ((with_reducible refine gD 14 rfl ?_);refine Kd.R_lit (Kd.int .i64) _ 3 rfl (N:=14) rfl (xs:=([32,48,49,57,59,97,112,t254] : List Int)) (inner:=[.int .i64 32,.int .i64 48,.int .i64 49,.int .i64 57,.int .i64 59,.int .i64 97,.int .i64 112,.int .i64 t254]) (ok:=fun _=>True) (okp:=fun _=>True) hr_ ?hp (fun _ hk=>hk) trivial (Below.refl _ _) (Nat.le_refl _) (by simp) ?_;(case hp=>exact (Reps.one (show Kd.M (Kd.int .i64) _ _ _ 32 [.int .i64 32] from rfl) (Reps.one (show Kd.M (Kd.int .i64) _ _ _ 48 [.int .i64 48] from rfl) (Reps.one (show Kd.M (Kd.int .i64) _ _ _ 49 [.int .i64 49] from rfl) (Reps.one (show Kd.M (Kd.int .i64) _ _ _ 57 [.int .i64 57] from rfl) (Reps.one (show Kd.M (Kd.int .i64) _ _ _ 59 [.int .i64 59] from rfl) (Reps.one (show Kd.M (Kd.int .i64) _ _ _ 97 [.int .i64 97] from rfl) (Reps.one (show Kd.M (Kd.int .i64) _ _ _ 112 [.int .i64 112] from rfl) (Reps.one (show Kd.M (Kd.int .i64) _ _ _ t254 [.int .i64 t254] from rfl) (Reps.none _ _))))))))));intro v257 w64 ho65 hb hg_ hnew_;clear hg_ hnew_;(first | rw [← Ny256.out] at ho65 | (simp only [Int.reduceToNat] at ho65;rw [← Ny256.out] at ho65));have HO258:=am (Kd.R_lower ho65 (keep_size (w:=w) (g:=g) (row:=none) m24_));replace HK:=am (KeepBut.trans m24_ (KeepBut.of_below hb g none) (.inl rfl));replace HB:=am (below_step m23_ hb);replace HI0:=am (IsS84.below m25_ hb);clear hb ho65) | (go_at_call 63;(with_reducible refine (spec_l20Rd_pick.calls k g s0_0 t255 8 t259 t260 w0 _ ?side1 ?side2 A5.out).mono ?_);(case side1=>exact m25_);(case side2=>exact m23_);rintro e w66 ⟨rfl,hi,hb,hk⟩;replace HO258:=am (Kd.R_mono (Kd.R_keep (IsS84.apart (show IsS84 w0 _ g s0_0 t255 from m25_) (rs HO258) (by decide)) hk (fun _ h=>h.2)) (fun _ h=>h.1));replace HK:=am (KeepBut.trans m24_ hk (.inl rfl));replace HB:=am hb;replace HI0:=am hi;(try clear hb);(try clear hk);(try clear hi);obtain ⟨Ao67,co67,eo67⟩:=Kd.R_slice HO258.out;subst eo67;have p261 : 0 ≤ (t259 : Int):=of_decide_eq_true da_;have q261 : t259 < (y256.length : Int):=of_decide_eq_true da_;obtain ⟨ad261,e261,hx261_0⟩:=Kd.at_int (Kd.R_reads' HO258.out).2.2 t259 p261 q261;cases e261;replace p261:=eq_true p261;replace q261:=eq_true q261) | ((with_reducible refine gD 20 rfl ?_);refine Kd.R_lit (Kd.int .u8) _ 5 rfl (N:=20) rfl (xs:=([(rd y256 t259) % 256] : List Int)) (inner:=[.int .u8 ((rd y256 t259) % 256)]) (ok:=fun _=>True) (okp:=fun _=>True) hr_ ?hp (fun _ hk=>hk) trivial (Below.refl _ _) (Nat.le_refl _) (by simp) ?_;(case hp=>exact (Reps.one (show Kd.M (Kd.int .u8) _ _ _ ((rd y256 t259) % 256) [.int .u8 ((rd y256 t259) % 256)] from rfl) (Reps.none _ _)));intro v263 w68 ho69 hb hg_ hnew_;clear hg_ hnew_;(first | rw [← Ny262.out] at ho69 | (simp only [Int.reduceToNat] at ho69;rw [← Ny262.out] at ho69));replace HO258:=am (Kd.R_below (rs HO258) hb);have HO264:=am (Kd.R_lower ho69 (keep_size (w:=w) (g:=g) (row:=none) m24_));replace HK:=am (KeepBut.trans m24_ (KeepBut.of_below hb g none) (.inl rfl));replace HB:=am (below_step m23_ hb);replace HI0:=am (IsS84.below m25_ hb);clear hb ho69;have hcv70:=own_string (P:=Tryz.prog) Tryz.underlying22 Tryz.underlying5 Tryz.underlying9 (Kd.own_of_R HO264.out)) | (go_at_call 63;(with_reducible refine (spec_l20Rd_pick.calls k g s0_0 t260 3 t265 t266 w0 _ ?side1 ?side2 A8.out).mono ?_);(case side1=>exact m25_);(case side2=>exact m23_);rintro e w71 ⟨rfl,hi,hb,hk⟩;replace HO258:=am (Kd.R_mono (Kd.R_keep (IsS84.apart (show IsS84 w0 _ g s0_0 t260 from m25_) (rs HO258) (by decide)) hk (fun _ h=>h.2)) (fun _ h=>h.1));replace HO264:=am (Kd.R_mono (Kd.R_keep (IsS84.apart (show IsS84 w0 _ g s0_0 t260 from m25_) (rs HO264) (by decide)) hk (fun _ h=>h.2)) (fun _ h=>h.1));replace HK:=am (KeepBut.trans m24_ hk (.inl rfl));replace HB:=am hb;replace HI0:=am hi;(try clear hb);(try clear hk);(try clear hi)))))
            go_ret
            exact ⟨by first | rfl | (simp [errW_none,errW_some] <;> rfl) | (simp only [← hji58];first | rfl | (simp [errW_none,errW_some] <;> rfl)) | (simp [*,errW_none,errW_some] <;> rfl),m25_,m23_,m24_⟩
           ·rw [if_neg c61] at H
            exact absurd H (by simp)
          ·rw [if_neg c60] at H
           exact absurd H (by simp)
         ·rw [if_neg c59] at H
          exact absurd H (by simp)
        ·rw [if_neg c57] at H
         exact absurd H (by simp)
       ·rw [if_neg c56] at H
        exact absurd H (by simp)
      ·rw [if_neg c55] at H
       exact absurd H (by simp)
     ·rw [if_neg c54] at H
      have c54b0 : decide (t252 < (a1.size : Int)) = false:=decide_eq_false c54
      clear c54
      simp only [Option.some.injEq,Prod.mk.injEq] at H
      obtain ⟨rfl,rfl⟩:=H
      go_enter Tryz.func44,Tryz.ntmps44
      iterate 4 ((try go_quiet (fail));(try go_wp2_with (first | (go_at_call 63;(with_reducible refine (spec_l20Rd_pick.calls k g s0_0 s0_1 (wrap64 ((a1.size : Int) + 1)) t252 t253 w0 _ ?side1 ?side2 A3.out).mono ?_);(case side1=>exact m25_);(case side2=>exact m23_);rintro e w72 ⟨rfl,hi,hb,hk⟩;replace HK:=am (KeepBut.trans m24_ hk (.inl rfl));replace HB:=am hb;replace HI0:=am hi;(try clear hb);(try clear hk);(try clear hi)) | (go_at_call 63;(with_reducible refine (spec_l20Rd_pick.calls k g s0_0 t253 256 t254 t255 w0 _ ?side1 ?side2 A4.out).mono ?_);(case side1=>exact m25_);(case side2=>exact m23_);rintro e w73 ⟨rfl,hi,hb,hk⟩;replace HK:=am (KeepBut.trans m24_ hk (.inl rfl));replace HB:=am hb;replace HI0:=am hi;(try clear hb);(try clear hk);(try clear hi)) | ((with_reducible refine gD 14 rfl ?_);refine Kd.R_lit (Kd.int .i64) _ 3 rfl (N:=14) rfl (xs:=([32,48,49,57,59,97,112,t254] : List Int)) (inner:=[.int .i64 32,.int .i64 48,.int .i64 49,.int .i64 57,.int .i64 59,.int .i64 97,.int .i64 112,.int .i64 t254]) (ok:=fun _=>True) (okp:=fun _=>True) hr_ ?hp (fun _ hk=>hk) trivial (Below.refl _ _) (Nat.le_refl _) (by simp) ?_;(case hp=>exact (Reps.one (show Kd.M (Kd.int .i64) _ _ _ 32 [.int .i64 32] from rfl) (Reps.one (show Kd.M (Kd.int .i64) _ _ _ 48 [.int .i64 48] from rfl) (Reps.one (show Kd.M (Kd.int .i64) _ _ _ 49 [.int .i64 49] from rfl) (Reps.one (show Kd.M (Kd.int .i64) _ _ _ 57 [.int .i64 57] from rfl) (Reps.one (show Kd.M (Kd.int .i64) _ _ _ 59 [.int .i64 59] from rfl) (Reps.one (show Kd.M (Kd.int .i64) _ _ _ 97 [.int .i64 97] from rfl) (Reps.one (show Kd.M (Kd.int .i64) _ _ _ 112 [.int .i64 112] from rfl) (Reps.one (show Kd.M (Kd.int .i64) _ _ _ t254 [.int .i64 t254] from rfl) (Reps.none _ _))))))))));intro v257 w74 ho75 hb hg_ hnew_;clear hg_ hnew_;(first | rw [← Ny256.out] at ho75 | (simp only [Int.reduceToNat] at ho75;rw [← Ny256.out] at ho75));have HO258:=am (Kd.R_lower ho75 (keep_size (w:=w) (g:=g) (row:=none) m24_));replace HK:=am (KeepBut.trans m24_ (KeepBut.of_below hb g none) (.inl rfl));replace HB:=am (below_step m23_ hb);replace HI0:=am (IsS84.below m25_ hb);clear hb ho75) | (go_at_call 63;(with_reducible refine (spec_l20Rd_pick.calls k g s0_0 t255 8 t259 t260 w0 _ ?side1 ?side2 A5.out).mono ?_);(case side1=>exact m25_);(case side2=>exact m23_);rintro e w76 ⟨rfl,hi,hb,hk⟩;replace HO258:=am (Kd.R_mono (Kd.R_keep (IsS84.apart (show IsS84 w0 _ g s0_0 t255 from m25_) (rs HO258) (by decide)) hk (fun _ h=>h.2)) (fun _ h=>h.1));replace HK:=am (KeepBut.trans m24_ hk (.inl rfl));replace HB:=am hb;replace HI0:=am hi;(try clear hb);(try clear hk);(try clear hi);obtain ⟨Ao77,co77,eo77⟩:=Kd.R_slice HO258.out;subst eo77;have p261 : 0 ≤ (t259 : Int):=of_decide_eq_true da_;have q261 : t259 < (y256.length : Int):=of_decide_eq_true da_;obtain ⟨ad261,e261,hx261_0⟩:=Kd.at_int (Kd.R_reads' HO258.out).2.2 t259 p261 q261;cases e261;replace p261:=eq_true p261;replace q261:=eq_true q261) | ((with_reducible refine gD 20 rfl ?_);refine Kd.R_lit (Kd.int .u8) _ 5 rfl (N:=20) rfl (xs:=([(rd y256 t259) % 256] : List Int)) (inner:=[.int .u8 ((rd y256 t259) % 256)]) (ok:=fun _=>True) (okp:=fun _=>True) hr_ ?hp (fun _ hk=>hk) trivial (Below.refl _ _) (Nat.le_refl _) (by simp) ?_;(case hp=>exact (Reps.one (show Kd.M (Kd.int .u8) _ _ _ ((rd y256 t259) % 256) [.int .u8 ((rd y256 t259) % 256)] from rfl) (Reps.none _ _)));intro v263 w78 ho79 hb hg_ hnew_;clear hg_ hnew_;(first | rw [← Ny262.out] at ho79 | (simp only [Int.reduceToNat] at ho79;rw [← Ny262.out] at ho79));replace HO258:=am (Kd.R_below (rs HO258) hb);have HO264:=am (Kd.R_lower ho79 (keep_size (w:=w) (g:=g) (row:=none) m24_));replace HK:=am (KeepBut.trans m24_ (KeepBut.of_below hb g none) (.inl rfl));replace HB:=am (below_step m23_ hb);replace HI0:=am (IsS84.below m25_ hb);clear hb ho79;have hcv80:=own_string (P:=Tryz.prog) Tryz.underlying22 Tryz.underlying5 Tryz.underlying9 (Kd.own_of_R HO264.out)) | (go_at_call 63;(with_reducible refine (spec_l20Rd_pick.calls k g s0_0 t260 3 t265 t266 w0 _ ?side1 ?side2 A8.out).mono ?_);(case side1=>exact m25_);(case side2=>exact m23_);rintro e w81 ⟨rfl,hi,hb,hk⟩;replace HO258:=am (Kd.R_mono (Kd.R_keep (IsS84.apart (show IsS84 w0 _ g s0_0 t260 from m25_) (rs HO258) (by decide)) hk (fun _ h=>h.2)) (fun _ h=>h.1));replace HO264:=am (Kd.R_mono (Kd.R_keep (IsS84.apart (show IsS84 w0 _ g s0_0 t260 from m25_) (rs HO264) (by decide)) hk (fun _ h=>h.2)) (fun _ h=>h.1));replace HK:=am (KeepBut.trans m24_ hk (.inl rfl));replace HB:=am hb;replace HI0:=am hi;(try clear hb);(try clear hk);(try clear hi)))))
      go_ret
      exact ⟨fi_,m25_,m23_,m24_⟩
  ·rw [if_neg c7] at H
   exact absurd H (by simp)
 ·rw [if_neg c6] at H
  exact absurd H (by simp)
def spec_EndOutside.f (a0_0 : Int) (a0_1 : Int) : Option (Bool):=(spec_l1In.f a0_0 100 109).bind fun t215=>(if t215 = true then ((spec_l1In.f a0_1 1 999).bind fun t216=>(some t216)) else (some false))
set_option maxHeartbeats 8000000 in
set_option maxRecDepth 100000 in
theorem spec_EndOutside.calls (a0_0 : Int) (a0_1 : Int) (r : Bool) (w : World) (h : spec_EndOutside.f a0_0 a0_1 = some r) :
  Calls Tryz.prog 113 #[.agg #[.int .i64 a0_0,.int .i64 a0_1]] w fun e w'=>e = .returned (.bool r) ∧ Below w.heap.size w w':=by
 have hu34:=Tryz.underlying34
 have HB:=am (Below.refl w.heap.size w)
 have H : ((spec_l1In.f a0_0 100 109).bind fun t215=>(if t215 = true then ((spec_l1In.f a0_1 1 999).bind fun t216=>(some t216)) else (some false))) = some r:=h
 clear h
 obtain ⟨t215,A2,H⟩:=bse H
 try dsimp only at H
 by_cases c3 : t215 = true
 ·subst c3
  have H1 : ((spec_l1In.f a0_1 1 999).bind fun t216=>(some t216)) = some r:=by rw [if_pos rfl] at H;exact H
  clear H
  have H:=H1
  clear H1
  obtain ⟨t216,A4,H⟩:=bse H
  try dsimp only at H
  obtain rfl:=Option.some.inj H
  go_enter Tryz.func113,Tryz.ntmps113
  go_wp2_with (first | ((with_reducible refine gD 1 rfl ?_);refine box_event rfl (N:=1) rfl (cs:=#[.int .i64 a0_0,.int .i64 a0_1]) (t:=34) hr_ ?_;intro gb214 hg w5 hbox hb;have BK214:=am hbox;have GW214:=gwE HB hg;have GE214:=gwE HB hg;replace HB:=hbS HB hb;clear hb hbox hg;have:=bcell BK214 0;have:=bcell BK214 1;have:=bfz BK214 0;have:=bfz BK214 1) | ((with_reducible refine gC 81 rfl ?_);refine gL (some 5) Tryz.func81 #[.int .i64 a0_0,.int .i64 100,.int .i64 109] ?_;(with_reducible refine (spec_l1In.calls a0_0 100 109 true _ A2.out).mono ?_);rintro e w' ⟨rfl,⟨nd,rfl⟩⟩;refine ⟨_,rfl,?_⟩) | (go_at_call 81;(with_reducible refine (spec_l1In.calls a0_1 1 999 t216 _ A4.out).mono ?_);rintro e w' ⟨rfl,⟨nd,rfl⟩⟩))
  go_ret
  exact ⟨fi_,m2_⟩
 ·replace c3:=Bool.eq_false_iff.mpr c3
  subst c3
  have H1 : (some false) = some r:=by rw [if_neg (show ¬ (false = true) by decide)] at H;exact H
  clear H
  have H:=H1
  clear H1
  obtain rfl:=Option.some.inj H
  go_enter Tryz.func113,Tryz.ntmps113
  go_wp2_with (first | ((with_reducible refine gD 1 rfl ?_);refine box_event rfl (N:=1) rfl (cs:=#[.int .i64 a0_0,.int .i64 a0_1]) (t:=34) hr_ ?_;intro gb214 hg w7 hbox hb;have BK214:=am hbox;have GW214:=gwE HB hg;have GE214:=gwE HB hg;replace HB:=hbS HB hb;clear hb hbox hg;have:=bcell BK214 0;have:=bcell BK214 1;have:=bfz BK214 0;have:=bfz BK214 1) | ((with_reducible refine gC 81 rfl ?_);refine gL (some 5) Tryz.func81 #[.int .i64 a0_0,.int .i64 100,.int .i64 109] ?_;(with_reducible refine (spec_l1In.calls a0_0 100 109 false _ A2.out).mono ?_);rintro e w' ⟨rfl,⟨nd,rfl⟩⟩;refine ⟨_,rfl,?_⟩))
  go_ret
  exact ⟨fi_,m2_⟩
def spec_EndOk.f (a0_0 : Int) (a0_1 : Int) : Option (Bool):=(spec_EndInside.f a0_0 a0_1).bind fun t218=>(if t218 = true then (some true) else ((spec_EndOutside.f a0_0 a0_1).bind fun t219=>(if t219 = true then (some true) else (if a0_0 = 50 then ((spec_l1In.f a0_1 1 999).bind fun t220=>(some t220)) else (some false)))))
set_option maxHeartbeats 8000000 in
set_option maxRecDepth 100000 in
theorem spec_EndOk.calls (a0_0 : Int) (a0_1 : Int) (r : Bool) (w : World) (h : spec_EndOk.f a0_0 a0_1 = some r) :
  Calls Tryz.prog 92 #[.agg #[.int .i64 a0_0,.int .i64 a0_1]] w fun e w'=>e = .returned (.bool r) ∧ Below w.heap.size w w':=by
 have hu34:=Tryz.underlying34
 have HB:=am (Below.refl w.heap.size w)
 have H : ((spec_EndInside.f a0_0 a0_1).bind fun t218=>(if t218 = true then (some true) else ((spec_EndOutside.f a0_0 a0_1).bind fun t219=>(if t219 = true then (some true) else (if a0_0 = 50 then ((spec_l1In.f a0_1 1 999).bind fun t220=>(some t220)) else (some false)))))) = some r:=h
 clear h
 obtain ⟨t218,A2,H⟩:=bse H
 try dsimp only at H
 by_cases c3 : t218 = true
 ·subst c3
  have H1 : (some true) = some r:=by rw [if_pos rfl] at H;exact H
  clear H
  have H:=H1
  clear H1
  obtain rfl:=Option.some.inj H
  go_enter Tryz.func92,Tryz.ntmps92
  go_wp2_with (first | ((with_reducible refine gD 1 rfl ?_);refine box_event rfl (N:=1) rfl (cs:=#[.int .i64 a0_0,.int .i64 a0_1]) (t:=34) hr_ ?_;intro gb217 hg w4 hbox hb;have BK217:=am hbox;have GW217:=gwE HB hg;have GE217:=gwE HB hg;replace HB:=hbS HB hb;clear hb hbox hg;have:=bcell BK217 0;have:=bcell BK217 1;have:=bfz BK217 0;have:=bfz BK217 1) | ((with_reducible refine gC 48 rfl ?_);refine gL (some 4) Tryz.func48 #[.agg #[.int .i64 a0_0,.int .i64 a0_1]] ?_;(with_reducible refine (spec_EndInside.calls a0_0 a0_1 true _ A2.out).mono ?_);rintro e w6 ⟨rfl,hb⟩;refine ⟨_,rfl,?_⟩;replace BK217:=bkB BK217 hb;replace HB:=hbS HB hb;(try clear hb)))
  go_ret
  exact ⟨fi_,m2_⟩
 ·replace c3:=Bool.eq_false_iff.mpr c3
  subst c3
  have H1 : ((spec_EndOutside.f a0_0 a0_1).bind fun t219=>(if t219 = true then (some true) else (if a0_0 = 50 then ((spec_l1In.f a0_1 1 999).bind fun t220=>(some t220)) else (some false)))) = some r:=by rw [if_neg (show ¬ (false = true) by decide)] at H;exact H
  clear H
  have H:=H1
  clear H1
  obtain ⟨t219,A7,H⟩:=bse H
  try dsimp only at H
  by_cases c8 : t219 = true
  ·subst c8
   have H1 : (some true) = some r:=by rw [if_pos rfl] at H;exact H
   clear H
   have H:=H1
   clear H1
   obtain rfl:=Option.some.inj H
   go_enter Tryz.func92,Tryz.ntmps92
   go_wp2_with (first | ((with_reducible refine gD 1 rfl ?_);refine box_event rfl (N:=1) rfl (cs:=#[.int .i64 a0_0,.int .i64 a0_1]) (t:=34) hr_ ?_;intro gb217 hg w9 hbox hb;have BK217:=am hbox;have GW217:=gwE HB hg;have GE217:=gwE HB hg;replace HB:=hbS HB hb;clear hb hbox hg;have:=bcell BK217 0;have:=bcell BK217 1;have:=bfz BK217 0;have:=bfz BK217 1) | ((with_reducible refine gC 48 rfl ?_);refine gL (some 4) Tryz.func48 #[.agg #[.int .i64 a0_0,.int .i64 a0_1]] ?_;(with_reducible refine (spec_EndInside.calls a0_0 a0_1 false _ A2.out).mono ?_);rintro e w11 ⟨rfl,hb⟩;refine ⟨_,rfl,?_⟩;replace BK217:=bkB BK217 hb;replace HB:=hbS HB hb;(try clear hb);have:=bcell BK217 0;have:=bcell BK217 1;have:=bfz BK217 0;have:=bfz BK217 1) | (go_at_call 113;(with_reducible refine (spec_EndOutside.calls a0_0 a0_1 true _ A7.out).mono ?_);rintro e w13 ⟨rfl,hb⟩;replace BK217:=bkB BK217 hb;replace HB:=hbS HB hb;(try clear hb)))
   go_ret
   exact ⟨fi_,m2_⟩
  ·replace c8:=Bool.eq_false_iff.mpr c8
   subst c8
   have H1 : (if a0_0 = 50 then ((spec_l1In.f a0_1 1 999).bind fun t220=>(some t220)) else (some false)) = some r:=by rw [if_neg (show ¬ (false = true) by decide)] at H;exact H
   clear H
   have H:=H1
   clear H1
   by_cases c14 : a0_0 = 50
   ·rw [if_pos c14] at H
    have c14b0 : (a0_0 == 50) = true:=beq_iff_eq.mpr c14
    have c14b1 : (a0_0 != 50) = false:=bne_eq_false_iff_eq.mpr c14
    clear c14
    obtain ⟨t220,A15,H⟩:=bse H
    try dsimp only at H
    obtain rfl:=Option.some.inj H
    go_enter Tryz.func92,Tryz.ntmps92
    go_wp2_with (first | ((with_reducible refine gD 1 rfl ?_);refine box_event rfl (N:=1) rfl (cs:=#[.int .i64 a0_0,.int .i64 a0_1]) (t:=34) hr_ ?_;intro gb217 hg w16 hbox hb;have BK217:=am hbox;have GW217:=gwE HB hg;have GE217:=gwE HB hg;replace HB:=hbS HB hb;clear hb hbox hg;have:=bcell BK217 0;have:=bcell BK217 1;have:=bfz BK217 0;have:=bfz BK217 1) | ((with_reducible refine gC 48 rfl ?_);refine gL (some 4) Tryz.func48 #[.agg #[.int .i64 a0_0,.int .i64 a0_1]] ?_;(with_reducible refine (spec_EndInside.calls a0_0 a0_1 false _ A2.out).mono ?_);rintro e w18 ⟨rfl,hb⟩;refine ⟨_,rfl,?_⟩;replace BK217:=bkB BK217 hb;replace HB:=hbS HB hb;(try clear hb);have:=bcell BK217 0;have:=bcell BK217 1;have:=bfz BK217 0;have:=bfz BK217 1) | (go_at_call 113;(with_reducible refine (spec_EndOutside.calls a0_0 a0_1 false _ A7.out).mono ?_);rintro e w20 ⟨rfl,hb⟩;replace BK217:=bkB BK217 hb;replace HB:=hbS HB hb;(try clear hb);have:=bcell BK217 0;have:=bcell BK217 1;have:=bfz BK217 0;have:=bfz BK217 1) | (go_at_call 81;(with_reducible refine (spec_l1In.calls a0_1 1 999 t220 _ A15.out).mono ?_);rintro e w' ⟨rfl,⟨nd,rfl⟩⟩))
    go_ret
    exact ⟨fi_,m2_⟩
   ·rw [if_neg c14] at H
    have c14b0 : (a0_0 == 50) = false:=beq_eq_false_iff_ne.mpr c14
    have c14b1 : (a0_0 != 50) = true:=bne_iff_ne.mpr c14
    obtain rfl:=Option.some.inj H
    go_enter Tryz.func92,Tryz.ntmps92
    go_wp2_with (first | ((with_reducible refine gD 1 rfl ?_);refine box_event rfl (N:=1) rfl (cs:=#[.int .i64 a0_0,.int .i64 a0_1]) (t:=34) hr_ ?_;intro gb217 hg w22 hbox hb;have BK217:=am hbox;have GW217:=gwE HB hg;have GE217:=gwE HB hg;replace HB:=hbS HB hb;clear hb hbox hg;have:=bcell BK217 0;have:=bcell BK217 1;have:=bfz BK217 0;have:=bfz BK217 1) | ((with_reducible refine gC 48 rfl ?_);refine gL (some 4) Tryz.func48 #[.agg #[.int .i64 a0_0,.int .i64 a0_1]] ?_;(with_reducible refine (spec_EndInside.calls a0_0 a0_1 false _ A2.out).mono ?_);rintro e w24 ⟨rfl,hb⟩;refine ⟨_,rfl,?_⟩;replace BK217:=bkB BK217 hb;replace HB:=hbS HB hb;(try clear hb);have:=bcell BK217 0;have:=bcell BK217 1;have:=bfz BK217 0;have:=bfz BK217 1) | (go_at_call 113;(with_reducible refine (spec_EndOutside.calls a0_0 a0_1 false _ A7.out).mono ?_);rintro e w26 ⟨rfl,hb⟩;replace BK217:=bkB BK217 hb;replace HB:=hbS HB hb;(try clear hb);have:=bcell BK217 0;have:=bcell BK217 1;have:=bfz BK217 0;have:=bfz BK217 1))
    go_ret
    exact ⟨fi_,m2_⟩
def spec_l1Plain.l0 : Nat → Int → ByteArray → Option (ByteArray)
 | 0,_,_=>none
 | k + 1,x0,x3=>if x0 > 9 then ((some (([(wrap64 (48 + (Int.tmod x0 10))) % 256] : List Int) : List Int)).bind fun y221=>(if (strOfNums y221).size + x3.size ≤ 9223372036854775807 then (spec_l1Plain.l0 k (wrap64 (Int.tdiv x0 10)) ((strOfNums y221) ++ x3)) else (none))) else ((some (([(wrap64 (48 + x0)) % 256] : List Int) : List Int)).bind fun y224=>(if (strOfNums y224).size + x3.size ≤ 9223372036854775807 then (some ((strOfNums y224) ++ x3)) else (none)))
def spec_l1Plain.f (k : Nat) (a0 : Int) : Option (ByteArray):=spec_l1Plain.l0 k a0 (⟨#[]⟩ : ByteArray)
theorem spec_l1Plain.mono_l : ∀ k,(∀ y0 y1,LeO (spec_l1Plain.l0 k y0 y1) (spec_l1Plain.l0 (k + 1) y0 y1))
 | 0=>fun _ _ r h=>by simp [spec_l1Plain.l0] at h
 | k + 1=>by
  have ih0:=spec_l1Plain.mono_l k
  ·intro y0 y1
   unfold spec_l1Plain.l0
   repeat' first | (with_reducible first | exact ih0 _ _ | exact LeO.refl _ | exact LeO.none _ | refine LeO.ite ?_ ?_ | refine LeO.bind ?_ (fun _=>?_)) | exact ih0 _ _ | exact LeO.none _ | refine LeO.ite ?_ ?_ | refine LeO.bind ?_ (fun _=>?_)
theorem spec_l1Plain.mono : ∀ a0 k,LeO (spec_l1Plain.f k a0) (spec_l1Plain.f (k + 1) a0):=by
 intro a0 k
 have ih0:=spec_l1Plain.mono_l k
 unfold spec_l1Plain.f
 repeat' first | (with_reducible first | exact ih0 _ _ | exact LeO.refl _ | exact LeO.none _ | refine LeO.ite ?_ ?_ | refine LeO.bind ?_ (fun _=>?_)) | exact ih0 _ _ | exact LeO.none _ | refine LeO.ite ?_ ?_ | refine LeO.bind ?_ (fun _=>?_)
set_option maxHeartbeats 8000000 in
set_option maxRecDepth 100000 in
theorem spec_l1Plain.calls (k : Nat) (a0 : Int) (r : ByteArray) (w : World) (h : spec_l1Plain.f k a0 = some r) :
  Calls Tryz.prog 114 #[.int .i64 a0] w fun e w'=>e = .returned (.string r) ∧ Below w.heap.size w w':=by
 have HB:=am (Below.refl w.heap.size w)
 have H : (spec_l1Plain.l0 k a0 (⟨#[]⟩ : ByteArray)) = some r:=h
 clear h
 have H':=am H
 clear H
 go_enter Tryz.func114,Tryz.ntmps114
 go_wp2
 go_loopg [0,3] k (fun kq v0 v3 w'=>∃ (x0_1 : Int) (x3_1 : ByteArray),v0 = .int .i64 x0_1 ∧ v3 = .string x3_1 ∧ Aside0 (spec_l1Plain.l0 kq x0_1 x3_1 = some r) ∧ Aside0 (kq ≤ k) ∧ Aside0 (Below w.heap.size w w'))
 case atStart=>exact ⟨(a0),((⟨#[]⟩ : ByteArray)),rs_,rs_,H',⟨Nat.le_refl _⟩,⟨m0_⟩⟩
 case round=>
  clear H'
  try clear c1
  obtain ⟨x0_1,x3_1,rfl,rfl,HA,HK1,HB⟩:=hrel
  cases gk with
  | zero=>exact absurd HA.out (by simp [spec_l1Plain.l0])
  | succ k1=>
   have H:=HA.out
   clear HA
   simp only [spec_l1Plain.l0] at H
   by_cases c2 : x0_1 > 9
   ·rw [if_pos c2] at H
    have c2b0 : decide (9 < x0_1) = true:=decide_eq_true c2
    clear c2
    obtain ⟨y221,hy221⟩ : ∃ y_ : List Int,y_ = (([(wrap64 (48 + (Int.tmod x0_1 10))) % 256] : List Int)):=⟨_,rfl⟩
    replace H : (if (strOfNums y221).size + x3_1.size ≤ 9223372036854775807 then (spec_l1Plain.l0 k1 (wrap64 (Int.tdiv x0_1 10)) ((strOfNums y221) ++ x3_1)) else (none)) = some r:=by first | (rw [hy221];with_reducible exact H) | (have H2_:=(Option.bind_some _ _).symm.trans H;rw [hy221];with_reducible exact H2_) | (have H2_:=(Option.bind_some _ _).symm.trans H;with_reducible exact H2_) | with_reducible exact H | (rw [hy221];exact H) | exact H
    have Ny221:=am hy221
    clear hy221
    by_cases c3 : (strOfNums y221).size + x3_1.size ≤ 9223372036854775807
    ·rw [if_pos c3] at H
     have c3b0:=eq_true c3
     have c3b1 : decide ((strOfNums y221).size + x3_1.size ≤ 9223372036854775807) = true:=decide_eq_true c3
     try have c3b2 : (9223372036854775807 < (strOfNums y221).size + x3_1.size) = False:=eq_false (Nat.not_lt.2 c3)
     have H':=am H
     clear H
     go_wp2_with (first | ((with_reducible refine gD 10 rfl ?_);refine Kd.R_lit (Kd.int .u8) _ 5 rfl (N:=10) rfl (xs:=([(wrap64 (48 + (Int.tmod x0_1 10))) % 256] : List Int)) (inner:=[.int .u8 ((wrap64 (48 + (Int.tmod x0_1 10))) % 256)]) (ok:=fun _=>True) (okp:=fun _=>True) hr_ ?hp (fun _ hk=>hk) trivial (Below.refl _ _) (Nat.le_refl _) (by simp) ?_;(case hp=>exact (Reps.one (show Kd.M (Kd.int .u8) _ _ _ ((wrap64 (48 + (Int.tmod x0_1 10))) % 256) [.int .u8 ((wrap64 (48 + (Int.tmod x0_1 10))) % 256)] from rfl) (Reps.none _ _)));intro v222 w4 ho5 hb hg_ hnew_;clear hg_ hnew_;(first | rw [← Ny221.out] at ho5 | (simp only [Int.reduceToNat] at ho5;rw [← Ny221.out] at ho5));have HO223:=am (Kd.R_lower ho5 (below_size (bl HB)));replace HB:=hbS HB hb;clear hb ho5;have hcv6:=own_string (P:=Tryz.prog) Tryz.underlying22 Tryz.underlying5 Tryz.underlying9 (Kd.own_of_R HO223.out)))
     go_roundg k1
     case measure=>have:=HK1.out;omega
     case rel=>exact ⟨(wrap64 (Int.tdiv x0_1 10)),((strOfNums y221) ++ x3_1),rs_,rs_,H',⟨by have:=HK1.out;omega⟩,⟨m0_⟩⟩
    ·rw [if_neg c3] at H
     exact absurd H (by simp)
   ·rw [if_neg c2] at H
    have c2b0 : decide (9 < x0_1) = false:=decide_eq_false c2
    clear c2
    obtain ⟨y224,hy224⟩ : ∃ y_ : List Int,y_ = (([(wrap64 (48 + x0_1)) % 256] : List Int)):=⟨_,rfl⟩
    replace H : (if (strOfNums y224).size + x3_1.size ≤ 9223372036854775807 then (some ((strOfNums y224) ++ x3_1)) else (none)) = some r:=by first | (rw [hy224];with_reducible exact H) | (have H2_:=(Option.bind_some _ _).symm.trans H;rw [hy224];with_reducible exact H2_) | (have H2_:=(Option.bind_some _ _).symm.trans H;with_reducible exact H2_) | with_reducible exact H | (rw [hy224];exact H) | exact H
    have Ny224:=am hy224
    clear hy224
    by_cases c7 : (strOfNums y224).size + x3_1.size ≤ 9223372036854775807
    ·rw [if_pos c7] at H
     have c7b0:=eq_true c7
     have c7b1 : decide ((strOfNums y224).size + x3_1.size ≤ 9223372036854775807) = true:=decide_eq_true c7
     try have c7b2 : (9223372036854775807 < (strOfNums y224).size + x3_1.size) = False:=eq_false (Nat.not_lt.2 c7)
     obtain rfl:=Option.some.inj H
     go_wp2_with (first | ((with_reducible refine gD 19 rfl ?_);refine Kd.R_lit (Kd.int .u8) _ 5 rfl (N:=19) rfl (xs:=([(wrap64 (48 + x0_1)) % 256] : List Int)) (inner:=[.int .u8 ((wrap64 (48 + x0_1)) % 256)]) (ok:=fun _=>True) (okp:=fun _=>True) hr_ ?hp (fun _ hk=>hk) trivial (Below.refl _ _) (Nat.le_refl _) (by simp) ?_;(case hp=>exact (Reps.one (show Kd.M (Kd.int .u8) _ _ _ ((wrap64 (48 + x0_1)) % 256) [.int .u8 ((wrap64 (48 + x0_1)) % 256)] from rfl) (Reps.none _ _)));intro v225 w8 ho9 hb hg_ hnew_;clear hg_ hnew_;(first | rw [← Ny224.out] at ho9 | (simp only [Int.reduceToNat] at ho9;rw [← Ny224.out] at ho9));have HO226:=am (Kd.R_lower ho9 (below_size (bl HB)));replace HB:=hbS HB hb;clear hb ho9;have hcv10:=own_string (P:=Tryz.prog) Tryz.underlying22 Tryz.underlying5 Tryz.underlying9 (Kd.own_of_R HO226.out)))
     go_ret
     exact ⟨fi_,m0_⟩
    ·rw [if_neg c7] at H
     exact absurd H (by simp)
def spec_EndText.f (k : Nat) (a0_0 : Int) (a0_1 : Int) : Option (ByteArray):=(spec_EndOk.f a0_0 a0_1).bind fun t228=>(if t228 = true then ((spec_l1Plain.f k a0_0).bind fun t229=>(if t229.size + 1 ≤ 9223372036854775807 then ((spec_l1Plain.f k a0_1).bind fun t230=>(if (t229 ++ (⟨#[32]⟩ : ByteArray)).size + t230.size ≤ 9223372036854775807 then (some ((t229 ++ (⟨#[32]⟩ : ByteArray)) ++ t230)) else (none))) else (none))) else (some (⟨#[]⟩ : ByteArray)))
theorem spec_EndText.mono : ∀ a0 a1 k,LeO (spec_EndText.f k a0 a1) (spec_EndText.f (k + 1) a0 a1):=by
 intro a0 a1 k
 unfold spec_EndText.f
 repeat' first | (with_reducible first | exact spec_l1Plain.mono _ _ | exact LeO.refl _ | exact LeO.none _ | refine LeO.ite ?_ ?_ | refine LeO.bind ?_ (fun _=>?_)) | exact spec_l1Plain.mono _ _ | exact LeO.none _ | refine LeO.ite ?_ ?_ | refine LeO.bind ?_ (fun _=>?_)
def spec_EndText.T3 : Bool × List (List Nat × List Nat):=(true,[([],[]),([0],[0]),([1],[1]),([2],[2]),([],[]),([4],[4]),([5,2],[5]),([3,6],[3,6]),([7,6,0,1,2,3,4,5,6,7],[7])])
def spec_EndText.B3 : List Nat:=[0,1,3,7,0,16,55,127,255]
theorem spec_EndText.tab3 : rtab .any (opsOf Tryz.f93 3) = spec_EndText.T3:=by kernel_rfl
theorem spec_EndText.bits3 : waitsOk spec_EndText.T3.2 spec_EndText.B3 = true:=by kernel_rfl
set_option maxHeartbeats 8000000 in
set_option maxRecDepth 100000 in
theorem spec_EndText.calls (k : Nat) (a0_0 : Int) (a0_1 : Int) (r : ByteArray) (w : World) (h : spec_EndText.f k a0_0 a0_1 = some r) :
  Calls Tryz.prog 93 #[.agg #[.int .i64 a0_0,.int .i64 a0_1]] w fun e w'=>e = .returned (.string r) ∧ Below w.heap.size w w':=by
 have hu34:=Tryz.underlying34
 have HB:=am (Below.refl w.heap.size w)
 have H : ((spec_EndOk.f a0_0 a0_1).bind fun t228=>(if t228 = true then ((spec_l1Plain.f k a0_0).bind fun t229=>(if t229.size + 1 ≤ 9223372036854775807 then ((spec_l1Plain.f k a0_1).bind fun t230=>(if (t229 ++ (⟨#[32]⟩ : ByteArray)).size + t230.size ≤ 9223372036854775807 then (some ((t229 ++ (⟨#[32]⟩ : ByteArray)) ++ t230)) else (none))) else (none))) else (some (⟨#[]⟩ : ByteArray)))) = some r:=h
 clear h
 obtain ⟨t228,A2,H⟩:=bse H
 try dsimp only at H
 by_cases c3 : t228 = true
 ·subst c3
  have H1 : ((spec_l1Plain.f k a0_0).bind fun t229=>(if t229.size + 1 ≤ 9223372036854775807 then ((spec_l1Plain.f k a0_1).bind fun t230=>(if (t229 ++ (⟨#[32]⟩ : ByteArray)).size + t230.size ≤ 9223372036854775807 then (some ((t229 ++ (⟨#[32]⟩ : ByteArray)) ++ t230)) else (none))) else (none))) = some r:=by rw [if_pos rfl] at H;exact H
  clear H
  have H:=H1
  clear H1
  obtain ⟨t229,A4,H⟩:=bse H
  try dsimp only at H
  by_cases c5 : t229.size + 1 ≤ 9223372036854775807
  ·rw [if_pos c5] at H
   have c5b0:=eq_true c5
   have c5b1 : decide (t229.size + 1 ≤ 9223372036854775807) = true:=decide_eq_true c5
   try have c5b2 : (9223372036854775807 < t229.size + 1) = False:=eq_false (Nat.not_lt.2 c5)
   obtain ⟨t230,A6,H⟩:=bse H
   try dsimp only at H
   by_cases c7 : (t229 ++ (⟨#[32]⟩ : ByteArray)).size + t230.size ≤ 9223372036854775807
   ·rw [if_pos c7] at H
    have c7b0:=eq_true c7
    have c7b1 : decide ((t229 ++ (⟨#[32]⟩ : ByteArray)).size + t230.size ≤ 9223372036854775807) = true:=decide_eq_true c7
    try have c7b2 : (9223372036854775807 < (t229 ++ (⟨#[32]⟩ : ByteArray)).size + t230.size) = False:=eq_false (Nat.not_lt.2 c7)
    try have c7b3 : (9223372036854775807 < t229.size + 1 + t230.size) = False:=(by have z_:=c7b2;simp only [ByteArray.size_append] at z_;exact z_)
    obtain rfl:=Option.some.inj H
    go_enter Tryz.func93,Tryz.ntmps93
    try go_wp2_with (first | ((with_reducible refine gD 1 rfl ?_);refine box_event rfl (N:=1) rfl (cs:=#[.int .i64 a0_0,.int .i64 a0_1]) (t:=34) hr_ ?_;intro gb227 hg w8 hbox hb;have BK227:=am hbox;have GW227:=gwE HB hg;have GE227:=gwE HB hg;replace HB:=hbS HB hb;clear hb hbox hg;have:=bcell BK227 0;have:=bcell BK227 1;have:=bfz BK227 0;have:=bfz BK227 1) | ((with_reducible refine gC 92 rfl ?_);refine gL (some 4) Tryz.func92 #[.agg #[.int .i64 a0_0,.int .i64 a0_1]] ?_;(with_reducible refine (spec_EndOk.calls a0_0 a0_1 true _ A2.out).mono ?_);rintro e w10 ⟨rfl,hb⟩;refine ⟨_,rfl,?_⟩;replace BK227:=bkB BK227 hb;replace HB:=hbS HB hb;(try clear hb)))
    replace BK227:=am (blk_drew BK227.out)
    replace HB:=am (below_drew1 HB.out)
    refine start_ (n:=9) (S:=fun w'=>w'.cell? ⟨gb227,0,none⟩ = some (.int .i64 a0_0) ∧ w'.cell? ⟨gb227,1,none⟩ = some (.int .i64 a0_1)) (ds:=[]) #[false,false,false,false,false,false,false,false,false] (by kernel_rfl) rfl rfl ⟨bcell BK227 0,bcell BK227 1⟩ (fun hHeld=>?_);refine with_tabW spec_EndText.tab3 spec_EndText.bits3 (fun HT_ HW_=>?_)
    generalize w10.drew = w11 at BK227 HB hHeld ⊢
    refine pu_ 0 (some 6) (bm 9 1) ?_
    refine pu_ 4 (some 10) (bm 9 17) ?_
    refine tk_ 1 (some 7) (bm 9 19) rfl (.inl ⟨rfl,m3_⟩) ?_
    refine tk_ 5 (some 11) (bm 9 51) rfl (.inl ⟨rfl,m3_⟩) ?_
    refine on_ 2 (some 8) (bm 9 55) (fun K hK=>?_)
    refine gR Tryz.func114 #[.int .i64 a0_0] ?_
    with_reducible refine (spec_l1Plain.calls k a0_0 t229 _ A4.out).mono ?_
    rintro e w12 ⟨rfl,hb⟩
    refine ⟨_,rfl,?_⟩
    replace BK227:=bkB BK227 hb
    replace HB:=hbS HB hb
    (try clear hb)
    (try clear hb2)
    (try clear hk)
    (try clear hi)
    refine hK.out _ _ ⟨bcell BK227 0,bcell BK227 1⟩ (fun hHeld=>?_)
    clear hK K
    refine nm_ ?_
    refine pu_ 3 (some 9) (bm 9 63) ?_
    refine on_ 6 (some 12) (bm 9 127) (fun K hK=>?_)
    refine gR Tryz.func114 #[.int .i64 a0_1] ?_
    with_reducible refine (spec_l1Plain.calls k a0_1 t230 _ A6.out).mono ?_
    rintro e w13 ⟨rfl,hb⟩
    refine ⟨_,rfl,?_⟩
    replace BK227:=bkB BK227 hb
    replace HB:=hbS HB hb
    (try clear hb)
    (try clear hb2)
    (try clear hk)
    (try clear hi)
    refine hK.out _ _ ⟨bcell BK227 0,bcell BK227 1⟩ (fun hHeld=>?_)
    clear hK K
    refine nm_ ?_
    refine pu_ 7 (some 13) (bm 9 255) ?_
    refine pu_ 8 (some 2) (bm 9 511) ?_
    refine done_ (done_of HT_.out (by kernel_rfl)) ?_
    try go_wp2
    go_ret
    exact ⟨fi_,m2_⟩
   ·rw [if_neg c7] at H
    exact absurd H (by simp)
  ·rw [if_neg c5] at H
   exact absurd H (by simp)
 ·replace c3:=Bool.eq_false_iff.mpr c3
  subst c3
  have H1 : (some (⟨#[]⟩ : ByteArray)) = some r:=by rw [if_neg (show ¬ (false = true) by decide)] at H;exact H
  clear H
  have H:=H1
  clear H1
  obtain rfl:=Option.some.inj H
  go_enter Tryz.func93,Tryz.ntmps93
  go_wp2_with (first | ((with_reducible refine gD 1 rfl ?_);refine box_event rfl (N:=1) rfl (cs:=#[.int .i64 a0_0,.int .i64 a0_1]) (t:=34) hr_ ?_;intro gb227 hg w14 hbox hb;have BK227:=am hbox;have GW227:=gwE HB hg;have GE227:=gwE HB hg;replace HB:=hbS HB hb;clear hb hbox hg;have:=bcell BK227 0;have:=bcell BK227 1;have:=bfz BK227 0;have:=bfz BK227 1) | ((with_reducible refine gC 92 rfl ?_);refine gL (some 4) Tryz.func92 #[.agg #[.int .i64 a0_0,.int .i64 a0_1]] ?_;(with_reducible refine (spec_EndOk.calls a0_0 a0_1 false _ A2.out).mono ?_);rintro e w16 ⟨rfl,hb⟩;refine ⟨_,rfl,?_⟩;replace BK227:=bkB BK227 hb;replace HB:=hbS HB hb;(try clear hb)))
  go_ret
  exact ⟨fi_,m2_⟩
def spec_LinPort.f (k : Nat) (a0_0 : Int) (a0_1 : Int) : Option (ByteArray):=(spec_EndOk.f a0_0 a0_1).bind fun t232=>(if t232 = true then ((spec_EndText.f k a0_0 a0_1).bind fun t233=>(if 5 + t233.size ≤ 9223372036854775807 then (some ((⟨#[112,111,114,116,32]⟩ : ByteArray) ++ t233)) else (none))) else (some (⟨#[]⟩ : ByteArray)))
theorem spec_LinPort.mono : ∀ a0 a1 k,LeO (spec_LinPort.f k a0 a1) (spec_LinPort.f (k + 1) a0 a1):=by
 intro a0 a1 k
 unfold spec_LinPort.f
 repeat' first | (with_reducible first | exact spec_EndText.mono _ _ _ | exact LeO.refl _ | exact LeO.none _ | refine LeO.ite ?_ ?_ | refine LeO.bind ?_ (fun _=>?_)) | exact spec_EndText.mono _ _ _ | exact LeO.none _ | refine LeO.ite ?_ ?_ | refine LeO.bind ?_ (fun _=>?_)
set_option maxHeartbeats 8000000 in
set_option maxRecDepth 100000 in
theorem spec_LinPort.calls (k : Nat) (a0_0 : Int) (a0_1 : Int) (r : ByteArray) (w : World) (h : spec_LinPort.f k a0_0 a0_1 = some r) :
  Calls Tryz.prog 64 #[.agg #[.int .i64 a0_0,.int .i64 a0_1]] w fun e w'=>e = .returned (.string r) ∧ Below w.heap.size w w':=by
 have hu34:=Tryz.underlying34
 have HB:=am (Below.refl w.heap.size w)
 have H : ((spec_EndOk.f a0_0 a0_1).bind fun t232=>(if t232 = true then ((spec_EndText.f k a0_0 a0_1).bind fun t233=>(if 5 + t233.size ≤ 9223372036854775807 then (some ((⟨#[112,111,114,116,32]⟩ : ByteArray) ++ t233)) else (none))) else (some (⟨#[]⟩ : ByteArray)))) = some r:=h
 clear h
 obtain ⟨t232,A2,H⟩:=bse H
 try dsimp only at H
 by_cases c3 : t232 = true
 ·subst c3
  have H1 : ((spec_EndText.f k a0_0 a0_1).bind fun t233=>(if 5 + t233.size ≤ 9223372036854775807 then (some ((⟨#[112,111,114,116,32]⟩ : ByteArray) ++ t233)) else (none))) = some r:=by rw [if_pos rfl] at H;exact H
  clear H
  have H:=H1
  clear H1
  obtain ⟨t233,A4,H⟩:=bse H
  try dsimp only at H
  by_cases c5 : 5 + t233.size ≤ 9223372036854775807
  ·rw [if_pos c5] at H
   have c5b0:=eq_true c5
   have c5b1 : decide (5 + t233.size ≤ 9223372036854775807) = true:=decide_eq_true c5
   try have c5b2 : (9223372036854775807 < 5 + t233.size) = False:=eq_false (Nat.not_lt.2 c5)
   obtain rfl:=Option.some.inj H
   go_enter Tryz.func64,Tryz.ntmps64
   go_wp2_with (first | ((with_reducible refine gD 1 rfl ?_);refine box_event rfl (N:=1) rfl (cs:=#[.int .i64 a0_0,.int .i64 a0_1]) (t:=34) hr_ ?_;intro gb231 hg w6 hbox hb;have BK231:=am hbox;have GW231:=gwE HB hg;have GE231:=gwE HB hg;replace HB:=hbS HB hb;clear hb hbox hg;have:=bcell BK231 0;have:=bcell BK231 1;have:=bfz BK231 0;have:=bfz BK231 1) | ((with_reducible refine gC 92 rfl ?_);refine gL (some 4) Tryz.func92 #[.agg #[.int .i64 a0_0,.int .i64 a0_1]] ?_;(with_reducible refine (spec_EndOk.calls a0_0 a0_1 true _ A2.out).mono ?_);rintro e w8 ⟨rfl,hb⟩;refine ⟨_,rfl,?_⟩;replace BK231:=bkB BK231 hb;replace HB:=hbS HB hb;(try clear hb);have:=bcell BK231 0;have:=bcell BK231 1;have:=bfz BK231 0;have:=bfz BK231 1) | ((with_reducible refine gC 93 rfl ?_);refine gL (some 7) Tryz.func93 #[.agg #[.int .i64 a0_0,.int .i64 a0_1]] ?_;(with_reducible refine (spec_EndText.calls k a0_0 a0_1 t233 _ A4.out).mono ?_);rintro e w10 ⟨rfl,hb⟩;refine ⟨_,rfl,?_⟩;replace BK231:=bkB BK231 hb;replace HB:=hbS HB hb;(try clear hb)))
   go_ret
   exact ⟨fi_,m2_⟩
  ·rw [if_neg c5] at H
   exact absurd H (by simp)
 ·replace c3:=Bool.eq_false_iff.mpr c3
  subst c3
  have H1 : (some (⟨#[]⟩ : ByteArray)) = some r:=by rw [if_neg (show ¬ (false = true) by decide)] at H;exact H
  clear H
  have H:=H1
  clear H1
  obtain rfl:=Option.some.inj H
  go_enter Tryz.func64,Tryz.ntmps64
  go_wp2_with (first | ((with_reducible refine gD 1 rfl ?_);refine box_event rfl (N:=1) rfl (cs:=#[.int .i64 a0_0,.int .i64 a0_1]) (t:=34) hr_ ?_;intro gb231 hg w11 hbox hb;have BK231:=am hbox;have GW231:=gwE HB hg;have GE231:=gwE HB hg;replace HB:=hbS HB hb;clear hb hbox hg;have:=bcell BK231 0;have:=bcell BK231 1;have:=bfz BK231 0;have:=bfz BK231 1) | ((with_reducible refine gC 92 rfl ?_);refine gL (some 4) Tryz.func92 #[.agg #[.int .i64 a0_0,.int .i64 a0_1]] ?_;(with_reducible refine (spec_EndOk.calls a0_0 a0_1 false _ A2.out).mono ?_);rintro e w13 ⟨rfl,hb⟩;refine ⟨_,rfl,?_⟩;replace BK231:=bkB BK231 hb;replace HB:=hbS HB hb;(try clear hb)))
  go_ret
  exact ⟨fi_,m2_⟩
def spec_l20Line.f (k : Nat) (s0_0 : List Int) (s0_1 : Int) : Option (ByteArray × Int):=(spec_l20Rd_pick.f k s0_0 s0_1 3).bind fun bt234=>(if bt234.1 = 0 then ((spec_l20In.f k s0_0 bt234.2).bind fun bt236=>((spec_LinPort.f k bt236.1 bt236.2.1).bind fun t239=>(some (t239,bt236.2.2)))) else (if bt234.1 = 1 then ((some (([(⟨#[]⟩ : ByteArray),(⟨#[108,105,115,116]⟩ : ByteArray),(⟨#[117,115,101,114,32,97]⟩ : ByteArray),(⟨#[112,111,114,116,32,53,48,32,53,48,48]⟩ : ByteArray),(⟨#[112,111,114,116,32,49,48,48,32,57]⟩ : ByteArray),(⟨#[112,111,114,116,32,48,49,32,50]⟩ : ByteArray),(⟨#[112,111,114,116,32,49]⟩ : ByteArray),(⟨#[97,98,99,100,101,102,103,104,105,106,32,107,108,109,110,111]⟩ : ByteArray),(⟨#[112,111,114,116]⟩ : ByteArray),(⟨#[112,111,114,116,32,49,32,50,32,51]⟩ : ByteArray)] : List ByteArray) : List ByteArray)).bind fun y240=>((spec_l20Rd_pick.f k s0_0 bt234.2 10).bind fun bt243=>(if 0 ≤ bt243.1 then (if bt243.1 < (y240.length : Int) then (some (rdOf ByteArray.empty y240 bt243.1,bt243.2)) else (none)) else (none)))) else ((some (([(⟨#[97]⟩ : ByteArray),(⟨#[98,98]⟩ : ByteArray),(⟨#[103,101,116,32,102,105,108,101,49]⟩ : ByteArray),(⟨#[113,117,105,116]⟩ : ByteArray)] : List ByteArray) : List ByteArray)).bind fun y246=>((spec_l20Rd_pick.f k s0_0 bt234.2 4).bind fun bt249=>(if 0 ≤ bt249.1 then (if bt249.1 < (y246.length : Int) then (some (rdOf ByteArray.empty y246 bt249.1,bt249.2)) else (none)) else (none))))))
theorem spec_l20Line.mono : ∀ a0 a1 k,LeO (spec_l20Line.f k a0 a1) (spec_l20Line.f (k + 1) a0 a1):=by
 intro a0 a1 k
 unfold spec_l20Line.f
 repeat' first | (with_reducible first | exact spec_LinPort.mono _ _ _ | exact spec_l20In.mono _ _ _ | exact spec_l20Rd_pick.mono _ _ _ _ | exact LeO.refl _ | exact LeO.none _ | refine LeO.ite ?_ ?_ | refine LeO.bind ?_ (fun _=>?_)) | exact spec_LinPort.mono _ _ _ | exact spec_l20In.mono _ _ _ | exact spec_l20Rd_pick.mono _ _ _ _ | exact LeO.none _ | refine LeO.ite ?_ ?_ | refine LeO.bind ?_ (fun _=>?_)
set_option maxHeartbeats 8000000 in
set_option maxRecDepth 100000 in
theorem spec_l20Line.calls (k : Nat) (g : Nat) (s0_0 : List Int) (s0_1 : Int) (r1 : ByteArray) (r2 : Int) (w0 w : World) (hI : IsS84 w0 w g s0_0 s0_1) (hB : Below w0.heap.size w0 w) (h : spec_l20Line.f k s0_0 s0_1 = some (r1,r2)) :
  Calls Tryz.prog 42 #[.pointer (some ⟨g,0,none⟩)] w fun e w'=>e = .returned (.string r1) ∧ IsS84 w0 w' g s0_0 r2 ∧ Below w0.heap.size w0 w' ∧ KeepBut w w' g none:=by
 have HI0:=am hI
 have HK:=am (KeepBut.refl w g none)
 have HL:=am hB.size
 clear hI
 have HW0:=am hB.size
 have HB:=am hB
 clear hB
 have H : ((spec_l20Rd_pick.f k s0_0 s0_1 3).bind fun bt234=>(if bt234.1 = 0 then ((spec_l20In.f k s0_0 bt234.2).bind fun bt236=>((spec_LinPort.f k bt236.1 bt236.2.1).bind fun t239=>(some (t239,bt236.2.2)))) else (if bt234.1 = 1 then ((some (([(⟨#[]⟩ : ByteArray),(⟨#[108,105,115,116]⟩ : ByteArray),(⟨#[117,115,101,114,32,97]⟩ : ByteArray),(⟨#[112,111,114,116,32,53,48,32,53,48,48]⟩ : ByteArray),(⟨#[112,111,114,116,32,49,48,48,32,57]⟩ : ByteArray),(⟨#[112,111,114,116,32,48,49,32,50]⟩ : ByteArray),(⟨#[112,111,114,116,32,49]⟩ : ByteArray),(⟨#[97,98,99,100,101,102,103,104,105,106,32,107,108,109,110,111]⟩ : ByteArray),(⟨#[112,111,114,116]⟩ : ByteArray),(⟨#[112,111,114,116,32,49,32,50,32,51]⟩ : ByteArray)] : List ByteArray) : List ByteArray)).bind fun y240=>((spec_l20Rd_pick.f k s0_0 bt234.2 10).bind fun bt243=>(if 0 ≤ bt243.1 then (if bt243.1 < (y240.length : Int) then (some (rdOf ByteArray.empty y240 bt243.1,bt243.2)) else (none)) else (none)))) else ((some (([(⟨#[97]⟩ : ByteArray),(⟨#[98,98]⟩ : ByteArray),(⟨#[103,101,116,32,102,105,108,101,49]⟩ : ByteArray),(⟨#[113,117,105,116]⟩ : ByteArray)] : List ByteArray) : List ByteArray)).bind fun y246=>((spec_l20Rd_pick.f k s0_0 bt234.2 4).bind fun bt249=>(if 0 ≤ bt249.1 then (if bt249.1 < (y246.length : Int) then (some (rdOf ByteArray.empty y246 bt249.1,bt249.2)) else (none)) else (none))))))) = some (r1,r2):=h
 clear h
 obtain ⟨⟨t234,t235⟩,A2,H⟩:=bse H
 try dsimp only at H
 by_cases c3 : t234 = 0
 ·rw [if_pos c3] at H
  have c3b0 : (t234 == 0) = true:=beq_iff_eq.mpr c3
  have c3b1 : (t234 != 0) = false:=bne_eq_false_iff_eq.mpr c3
  clear c3
  obtain ⟨⟨t236,t237,t238⟩,A4,H⟩:=bse H
  try dsimp only at H
  obtain ⟨t239,A5,H⟩:=bse H
  try dsimp only at H
  simp only [Option.some.injEq,Prod.mk.injEq] at H
  obtain ⟨rfl,rfl⟩:=H
  go_enter Tryz.func42,Tryz.ntmps42
  go_wp2_with (first | ((with_reducible refine gC 63 rfl ?_);refine gL (some 4) Tryz.func63 #[.pointer (some ⟨g,0,none⟩),.int .i64 3] ?_;(with_reducible refine (spec_l20Rd_pick.calls k g s0_0 s0_1 3 t234 t235 w0 _ ?side1 ?side2 A2.out).mono ?_);(case side1=>exact m25_);(case side2=>exact m23_);rintro e w6 ⟨rfl,hi,hb,hk⟩;refine ⟨_,rfl,?_⟩;replace HK:=am (KeepBut.trans m24_ hk (.inl rfl));replace HB:=am hb;replace HI0:=am hi;(try clear hb);(try clear hk);(try clear hi)) | ((with_reducible refine gC 75 rfl ?_);refine gL (some 8) Tryz.func75 #[.pointer (some ⟨g,0,none⟩)] ?_;(with_reducible refine (spec_l20In.calls k g s0_0 t235 t236 t237 t238 w0 _ ?side1 ?side2 A4.out).mono ?_);(case side1=>exact m25_);(case side2=>exact m23_);rintro e w7 ⟨rfl,hi,hb,hk⟩;refine ⟨_,rfl,?_⟩;replace HK:=am (KeepBut.trans m24_ hk (.inl rfl));replace HB:=am hb;replace HI0:=am hi;(try clear hb);(try clear hk);(try clear hi)) | ((with_reducible refine gC 64 rfl ?_);refine gL (some 9) Tryz.func64 #[.agg #[.int .i64 t236,.int .i64 t237]] ?_;(with_reducible refine (spec_LinPort.calls k t236 t237 t239 _ A5.out).mono ?_);rintro e w8 ⟨rfl,hb⟩;refine ⟨_,rfl,?_⟩;replace HK:=am (KeepBut.trans m24_ (KeepBut.of_below hb g none) (.inl rfl));replace HB:=am (below_step m23_ hb);replace HI0:=am (IsS84.below m25_ hb);(try clear hb)))
  go_ret
  exact ⟨fi_,m25_,m23_,m24_⟩
 ·rw [if_neg c3] at H
  have c3b0 : (t234 == 0) = false:=beq_eq_false_iff_ne.mpr c3
  have c3b1 : (t234 != 0) = true:=bne_iff_ne.mpr c3
  by_cases c9 : t234 = 1
  ·rw [if_pos c9] at H
   have c9b0 : (t234 == 1) = true:=beq_iff_eq.mpr c9
   have c9b1 : (t234 != 1) = false:=bne_eq_false_iff_eq.mpr c9
   clear c9
   obtain ⟨y240,hy240⟩ : ∃ y_ : List ByteArray,y_ = (([(⟨#[]⟩ : ByteArray),(⟨#[108,105,115,116]⟩ : ByteArray),(⟨#[117,115,101,114,32,97]⟩ : ByteArray),(⟨#[112,111,114,116,32,53,48,32,53,48,48]⟩ : ByteArray),(⟨#[112,111,114,116,32,49,48,48,32,57]⟩ : ByteArray),(⟨#[112,111,114,116,32,48,49,32,50]⟩ : ByteArray),(⟨#[112,111,114,116,32,49]⟩ : ByteArray),(⟨#[97,98,99,100,101,102,103,104,105,106,32,107,108,109,110,111]⟩ : ByteArray),(⟨#[112,111,114,116]⟩ : ByteArray),(⟨#[112,111,114,116,32,49,32,50,32,51]⟩ : ByteArray)] : List ByteArray)):=⟨_,rfl⟩
   replace H : ((spec_l20Rd_pick.f k s0_0 t235 10).bind fun bt243=>(if 0 ≤ bt243.1 then (if bt243.1 < (y240.length : Int) then (some (rdOf ByteArray.empty y240 bt243.1,bt243.2)) else (none)) else (none))) = some (r1,r2):=by first | (rw [hy240];with_reducible exact H) | (have H2_:=(Option.bind_some _ _).symm.trans H;rw [hy240];with_reducible exact H2_) | (have H2_:=(Option.bind_some _ _).symm.trans H;with_reducible exact H2_) | with_reducible exact H | (rw [hy240];exact H) | exact H
   have Ny240:=am hy240
   clear hy240
   obtain ⟨⟨t243,t244⟩,A10,H⟩:=bse H
   try dsimp only at H
   by_cases c11 : 0 ≤ t243
   ·rw [if_pos c11] at H
    have c11b0 : decide (0 ≤ t243) = true:=decide_eq_true c11
    clear c11
    by_cases c12 : t243 < (y240.length : Int)
    ·rw [if_pos c12] at H
     have c12b0 : decide (t243 < (y240.length : Int)) = true:=decide_eq_true c12
     clear c12
     simp only [Option.some.injEq,Prod.mk.injEq] at H
     obtain ⟨rfl,rfl⟩:=H
     go_enter Tryz.func42,Tryz.ntmps42
     go_wp2_with (first | ((with_reducible refine gC 63 rfl ?_);refine gL (some 4) Tryz.func63 #[.pointer (some ⟨g,0,none⟩),.int .i64 3] ?_;(with_reducible refine (spec_l20Rd_pick.calls k g s0_0 s0_1 3 t234 t235 w0 _ ?side1 ?side2 A2.out).mono ?_);(case side1=>exact m25_);(case side2=>exact m23_);rintro e w13 ⟨rfl,hi,hb,hk⟩;refine ⟨_,rfl,?_⟩;replace HK:=am (KeepBut.trans m24_ hk (.inl rfl));replace HB:=am hb;replace HI0:=am hi;(try clear hb);(try clear hk);(try clear hi)) | ((with_reducible refine gD 12 rfl ?_);refine Kd.R_lit Kd.string _ 9 rfl (N:=12) rfl (xs:=([(⟨#[]⟩ : ByteArray),(⟨#[108,105,115,116]⟩ : ByteArray),(⟨#[117,115,101,114,32,97]⟩ : ByteArray),(⟨#[112,111,114,116,32,53,48,32,53,48,48]⟩ : ByteArray),(⟨#[112,111,114,116,32,49,48,48,32,57]⟩ : ByteArray),(⟨#[112,111,114,116,32,48,49,32,50]⟩ : ByteArray),(⟨#[112,111,114,116,32,49]⟩ : ByteArray),(⟨#[97,98,99,100,101,102,103,104,105,106,32,107,108,109,110,111]⟩ : ByteArray),(⟨#[112,111,114,116]⟩ : ByteArray),(⟨#[112,111,114,116,32,49,32,50,32,51]⟩ : ByteArray)] : List ByteArray)) (inner:=[.string (⟨#[]⟩ : ByteArray),.string (⟨#[108,105,115,116]⟩ : ByteArray),.string (⟨#[117,115,101,114,32,97]⟩ : ByteArray),.string (⟨#[112,111,114,116,32,53,48,32,53,48,48]⟩ : ByteArray),.string (⟨#[112,111,114,116,32,49,48,48,32,57]⟩ : ByteArray),.string (⟨#[112,111,114,116,32,48,49,32,50]⟩ : ByteArray),.string (⟨#[112,111,114,116,32,49]⟩ : ByteArray),.string (⟨#[97,98,99,100,101,102,103,104,105,106,32,107,108,109,110,111]⟩ : ByteArray),.string (⟨#[112,111,114,116]⟩ : ByteArray),.string (⟨#[112,111,114,116,32,49,32,50,32,51]⟩ : ByteArray)]) (ok:=fun _=>True) (okp:=fun _=>True) hr_ ?hp (fun _ hk=>hk) trivial (Below.refl _ _) (Nat.le_refl _) (by simp) ?_;(case hp=>exact (Reps.one (show Kd.M Kd.string _ _ _ (⟨#[]⟩ : ByteArray) [.string (⟨#[]⟩ : ByteArray)] from rfl) (Reps.one (show Kd.M Kd.string _ _ _ (⟨#[108,105,115,116]⟩ : ByteArray) [.string (⟨#[108,105,115,116]⟩ : ByteArray)] from rfl) (Reps.one (show Kd.M Kd.string _ _ _ (⟨#[117,115,101,114,32,97]⟩ : ByteArray) [.string (⟨#[117,115,101,114,32,97]⟩ : ByteArray)] from rfl) (Reps.one (show Kd.M Kd.string _ _ _ (⟨#[112,111,114,116,32,53,48,32,53,48,48]⟩ : ByteArray) [.string (⟨#[112,111,114,116,32,53,48,32,53,48,48]⟩ : ByteArray)] from rfl) (Reps.one (show Kd.M Kd.string _ _ _ (⟨#[112,111,114,116,32,49,48,48,32,57]⟩ : ByteArray) [.string (⟨#[112,111,114,116,32,49,48,48,32,57]⟩ : ByteArray)] from rfl) (Reps.one (show Kd.M Kd.string _ _ _ (⟨#[112,111,114,116,32,48,49,32,50]⟩ : ByteArray) [.string (⟨#[112,111,114,116,32,48,49,32,50]⟩ : ByteArray)] from rfl) (Reps.one (show Kd.M Kd.string _ _ _ (⟨#[112,111,114,116,32,49]⟩ : ByteArray) [.string (⟨#[112,111,114,116,32,49]⟩ : ByteArray)] from rfl) (Reps.one (show Kd.M Kd.string _ _ _ (⟨#[97,98,99,100,101,102,103,104,105,106,32,107,108,109,110,111]⟩ : ByteArray) [.string (⟨#[97,98,99,100,101,102,103,104,105,106,32,107,108,109,110,111]⟩ : ByteArray)] from rfl) (Reps.one (show Kd.M Kd.string _ _ _ (⟨#[112,111,114,116]⟩ : ByteArray) [.string (⟨#[112,111,114,116]⟩ : ByteArray)] from rfl) (Reps.one (show Kd.M Kd.string _ _ _ (⟨#[112,111,114,116,32,49,32,50,32,51]⟩ : ByteArray) [.string (⟨#[112,111,114,116,32,49,32,50,32,51]⟩ : ByteArray)] from rfl) (Reps.none _ _))))))))))));intro v241 w14 ho15 hb hg_ hnew_;clear hg_ hnew_;(first | rw [← Ny240.out] at ho15 | (simp only [Int.reduceToNat] at ho15;rw [← Ny240.out] at ho15));have HO242:=am (Kd.R_lower ho15 (keep_size (w:=w) (g:=g) (row:=none) m24_));replace HK:=am (KeepBut.trans m24_ (KeepBut.of_below hb g none) (.inl rfl));replace HB:=am (below_step m23_ hb);replace HI0:=am (IsS84.below m25_ hb);clear hb ho15) | ((with_reducible refine gC 63 rfl ?_);refine gL (some 14) Tryz.func63 #[.pointer (some ⟨g,0,none⟩),.int .i64 10] ?_;(with_reducible refine (spec_l20Rd_pick.calls k g s0_0 t235 10 t243 t244 w0 _ ?side1 ?side2 A10.out).mono ?_);(case side1=>exact m25_);(case side2=>exact m23_);rintro e w16 ⟨rfl,hi,hb,hk⟩;refine ⟨_,rfl,?_⟩;replace HO242:=am (Kd.R_mono (Kd.R_keep (IsS84.apart (show IsS84 w0 _ g s0_0 t235 from m25_) (rs HO242) (by decide)) hk (fun _ h=>h.2)) (fun _ h=>h.1));replace HK:=am (KeepBut.trans m24_ hk (.inl rfl));replace HB:=am hb;replace HI0:=am hi;(try clear hb);(try clear hk);(try clear hi);obtain ⟨Ao17,co17,eo17⟩:=Kd.R_slice HO242.out;subst eo17;have p245 : 0 ≤ (t243 : Int):=of_decide_eq_true da_;have q245 : t243 < (y240.length : Int):=of_decide_eq_true da_;obtain ⟨ad245,e245,hx245_0⟩:=Kd.at_string (Kd.R_reads' HO242.out).2.2 t243 p245 q245;cases e245;replace p245:=eq_true p245;replace q245:=eq_true q245))
     go_ret
     exact ⟨fi_,m25_,m23_,m24_⟩
    ·rw [if_neg c12] at H
     exact absurd H (by simp)
   ·rw [if_neg c11] at H
    exact absurd H (by simp)
  ·rw [if_neg c9] at H
   have c9b0 : (t234 == 1) = false:=beq_eq_false_iff_ne.mpr c9
   have c9b1 : (t234 != 1) = true:=bne_iff_ne.mpr c9
   obtain ⟨y246,hy246⟩ : ∃ y_ : List ByteArray,y_ = (([(⟨#[97]⟩ : ByteArray),(⟨#[98,98]⟩ : ByteArray),(⟨#[103,101,116,32,102,105,108,101,49]⟩ : ByteArray),(⟨#[113,117,105,116]⟩ : ByteArray)] : List ByteArray)):=⟨_,rfl⟩
   replace H : ((spec_l20Rd_pick.f k s0_0 t235 4).bind fun bt249=>(if 0 ≤ bt249.1 then (if bt249.1 < (y246.length : Int) then (some (rdOf ByteArray.empty y246 bt249.1,bt249.2)) else (none)) else (none))) = some (r1,r2):=by first | (rw [hy246];with_reducible exact H) | (have H2_:=(Option.bind_some _ _).symm.trans H;rw [hy246];with_reducible exact H2_) | (have H2_:=(Option.bind_some _ _).symm.trans H;with_reducible exact H2_) | with_reducible exact H | (rw [hy246];exact H) | exact H
   have Ny246:=am hy246
   clear hy246
   obtain ⟨⟨t249,t250⟩,A18,H⟩:=bse H
   try dsimp only at H
   by_cases c19 : 0 ≤ t249
   ·rw [if_pos c19] at H
    have c19b0 : decide (0 ≤ t249) = true:=decide_eq_true c19
    clear c19
    by_cases c20 : t249 < (y246.length : Int)
    ·rw [if_pos c20] at H
     have c20b0 : decide (t249 < (y246.length : Int)) = true:=decide_eq_true c20
     clear c20
     simp only [Option.some.injEq,Prod.mk.injEq] at H
     obtain ⟨rfl,rfl⟩:=H
     go_enter Tryz.func42,Tryz.ntmps42
     go_wp2_with (first | ((with_reducible refine gC 63 rfl ?_);refine gL (some 4) Tryz.func63 #[.pointer (some ⟨g,0,none⟩),.int .i64 3] ?_;(with_reducible refine (spec_l20Rd_pick.calls k g s0_0 s0_1 3 t234 t235 w0 _ ?side1 ?side2 A2.out).mono ?_);(case side1=>exact m25_);(case side2=>exact m23_);rintro e w21 ⟨rfl,hi,hb,hk⟩;refine ⟨_,rfl,?_⟩;replace HK:=am (KeepBut.trans m24_ hk (.inl rfl));replace HB:=am hb;replace HI0:=am hi;(try clear hb);(try clear hk);(try clear hi)) | ((with_reducible refine gD 17 rfl ?_);refine Kd.R_lit Kd.string _ 9 rfl (N:=17) rfl (xs:=([(⟨#[97]⟩ : ByteArray),(⟨#[98,98]⟩ : ByteArray),(⟨#[103,101,116,32,102,105,108,101,49]⟩ : ByteArray),(⟨#[113,117,105,116]⟩ : ByteArray)] : List ByteArray)) (inner:=[.string (⟨#[97]⟩ : ByteArray),.string (⟨#[98,98]⟩ : ByteArray),.string (⟨#[103,101,116,32,102,105,108,101,49]⟩ : ByteArray),.string (⟨#[113,117,105,116]⟩ : ByteArray)]) (ok:=fun _=>True) (okp:=fun _=>True) hr_ ?hp (fun _ hk=>hk) trivial (Below.refl _ _) (Nat.le_refl _) (by simp) ?_;(case hp=>exact (Reps.one (show Kd.M Kd.string _ _ _ (⟨#[97]⟩ : ByteArray) [.string (⟨#[97]⟩ : ByteArray)] from rfl) (Reps.one (show Kd.M Kd.string _ _ _ (⟨#[98,98]⟩ : ByteArray) [.string (⟨#[98,98]⟩ : ByteArray)] from rfl) (Reps.one (show Kd.M Kd.string _ _ _ (⟨#[103,101,116,32,102,105,108,101,49]⟩ : ByteArray) [.string (⟨#[103,101,116,32,102,105,108,101,49]⟩ : ByteArray)] from rfl) (Reps.one (show Kd.M Kd.string _ _ _ (⟨#[113,117,105,116]⟩ : ByteArray) [.string (⟨#[113,117,105,116]⟩ : ByteArray)] from rfl) (Reps.none _ _))))));intro v247 w22 ho23 hb hg_ hnew_;clear hg_ hnew_;(first | rw [← Ny246.out] at ho23 | (simp only [Int.reduceToNat] at ho23;rw [← Ny246.out] at ho23));have HO248:=am (Kd.R_lower ho23 (keep_size (w:=w) (g:=g) (row:=none) m24_));replace HK:=am (KeepBut.trans m24_ (KeepBut.of_below hb g none) (.inl rfl));replace HB:=am (below_step m23_ hb);replace HI0:=am (IsS84.below m25_ hb);clear hb ho23) | ((with_reducible refine gC 63 rfl ?_);refine gL (some 19) Tryz.func63 #[.pointer (some ⟨g,0,none⟩),.int .i64 4] ?_;(with_reducible refine (spec_l20Rd_pick.calls k g s0_0 t235 4 t249 t250 w0 _ ?side1 ?side2 A18.out).mono ?_);(case side1=>exact m25_);(case side2=>exact m23_);rintro e w24 ⟨rfl,hi,hb,hk⟩;refine ⟨_,rfl,?_⟩;replace HO248:=am (Kd.R_mono (Kd.R_keep (IsS84.apart (show IsS84 w0 _ g s0_0 t235 from m25_) (rs HO248) (by decide)) hk (fun _ h=>h.2)) (fun _ h=>h.1));replace HK:=am (KeepBut.trans m24_ hk (.inl rfl));replace HB:=am hb;replace HI0:=am hi;(try clear hb);(try clear hk);(try clear hi);obtain ⟨Ao25,co25,eo25⟩:=Kd.R_slice HO248.out;subst eo25;have p251 : 0 ≤ (t249 : Int):=of_decide_eq_true da_;have q251 : t249 < (y246.length : Int):=of_decide_eq_true da_;obtain ⟨ad251,e251,hx251_0⟩:=Kd.at_string (Kd.R_reads' HO248.out).2.2 t249 p251 q251;cases e251;replace p251:=eq_true p251;replace q251:=eq_true q251))
     go_ret
     exact ⟨fi_,m25_,m23_,m24_⟩
    ·rw [if_neg c20] at H
     exact absurd H (by simp)
   ·rw [if_neg c19] at H
    exact absurd H (by simp)
def spec_l20Stream.l0 : Nat → ByteArray → Int → List Int → Int → Option (ByteArray × Int)
 | 0,_,_,_,_=>none
 | k + 1,x3,x4,x1000,x1001=>if x4 > 0 then ((spec_l20Line.f k x1000 x1001).bind fun bt658=>(if x3.size + bt658.1.size ≤ 9223372036854775807 then (if (x3 ++ bt658.1).size + 1 ≤ 9223372036854775807 then (if (((x3 ++ bt658.1) ++ (⟨#[59]⟩ : ByteArray)).size : Int) ≤ 120 then (spec_l20Stream.l0 k ((x3 ++ bt658.1) ++ (⟨#[59]⟩ : ByteArray)) (wrap64 (x4 - 1)) x1000 bt658.2) else (spec_l20Stream.l0 k x3 (wrap64 (x4 - 1)) x1000 bt658.2)) else (none)) else (none))) else ((spec_l20Rd_pick.f k x1000 x1001 3).bind fun bt660=>(if bt660.1 = 0 then ((spec_l20Line.f k x1000 bt660.2).bind fun bt662=>(if (wrap64 ((x3.size : Int) + (bt662.1.size : Int))) ≤ 120 then (if x3.size + bt662.1.size ≤ 9223372036854775807 then (some (x3 ++ bt662.1,bt662.2)) else (none)) else (some (x3,bt662.2)))) else (some (x3,bt660.2))))
def spec_l20Stream.f (k : Nat) (s0_0 : List Int) (s0_1 : Int) : Option (ByteArray × Int):=(spec_l20Rd_pick.f k s0_0 s0_1 9).bind fun bt656=>(spec_l20Stream.l0 k (⟨#[]⟩ : ByteArray) bt656.1 s0_0 bt656.2)
theorem spec_l20Stream.mono_l : ∀ k,(∀ y0 y1 y2 y3,LeO (spec_l20Stream.l0 k y0 y1 y2 y3) (spec_l20Stream.l0 (k + 1) y0 y1 y2 y3))
 | 0=>fun _ _ _ _ r h=>by simp [spec_l20Stream.l0] at h
 | k + 1=>by
  have ih0:=spec_l20Stream.mono_l k
  ·intro y0 y1 y2 y3
   unfold spec_l20Stream.l0
   repeat' first | (with_reducible first | exact ih0 _ _ _ _ | exact spec_l20Line.mono _ _ _ | exact spec_l20Rd_pick.mono _ _ _ _ | exact LeO.refl _ | exact LeO.none _ | refine LeO.ite ?_ ?_ | refine LeO.bind ?_ (fun _=>?_)) | exact ih0 _ _ _ _ | exact spec_l20Line.mono _ _ _ | exact spec_l20Rd_pick.mono _ _ _ _ | exact LeO.none _ | refine LeO.ite ?_ ?_ | refine LeO.bind ?_ (fun _=>?_)
theorem spec_l20Stream.mono : ∀ a0 a1 k,LeO (spec_l20Stream.f k a0 a1) (spec_l20Stream.f (k + 1) a0 a1):=by
 intro a0 a1 k
 have ih0:=spec_l20Stream.mono_l k
 unfold spec_l20Stream.f
 repeat' first | (with_reducible first | exact ih0 _ _ _ _ | exact spec_l20Line.mono _ _ _ | exact spec_l20Rd_pick.mono _ _ _ _ | exact LeO.refl _ | exact LeO.none _ | refine LeO.ite ?_ ?_ | refine LeO.bind ?_ (fun _=>?_)) | exact ih0 _ _ _ _ | exact spec_l20Line.mono _ _ _ | exact spec_l20Rd_pick.mono _ _ _ _ | exact LeO.none _ | refine LeO.ite ?_ ?_ | refine LeO.bind ?_ (fun _=>?_)
set_option maxHeartbeats 8000000 in
set_option maxRecDepth 100000 in
theorem spec_l20Stream.calls (k : Nat) (g : Nat) (s0_0 : List Int) (s0_1 : Int) (r1 : ByteArray) (r2 : Int) (w0 w : World) (hI : IsS84 w0 w g s0_0 s0_1) (hB : Below w0.heap.size w0 w) (h : spec_l20Stream.f k s0_0 s0_1 = some (r1,r2)) :
  Calls Tryz.prog 95 #[.pointer (some ⟨g,0,none⟩)] w fun e w'=>e = .returned (.string r1) ∧ IsS84 w0 w' g s0_0 r2 ∧ Below w0.heap.size w0 w' ∧ KeepBut w w' g none:=by
 have HI0:=am hI
 have HK:=am (KeepBut.refl w g none)
 have HL:=am hB.size
 clear hI
 have HW0:=am hB.size
 have HB:=am hB
 clear hB
 have H : ((spec_l20Rd_pick.f k s0_0 s0_1 9).bind fun bt656=>(spec_l20Stream.l0 k (⟨#[]⟩ : ByteArray) bt656.1 s0_0 bt656.2)) = some (r1,r2):=h
 clear h
 obtain ⟨⟨t656,t657⟩,A2,H⟩:=bse H
 try dsimp only at H
 have H':=am H
 clear H
 go_enter Tryz.func95,Tryz.ntmps95
 go_wp2_with (first | ((with_reducible refine gC 63 rfl ?_);refine gL (some 8) Tryz.func63 #[.pointer (some ⟨g,0,none⟩),.int .i64 9] ?_;(with_reducible refine (spec_l20Rd_pick.calls k g s0_0 s0_1 9 t656 t657 w0 _ ?side1 ?side2 A2.out).mono ?_);(case side1=>exact m25_);(case side2=>exact m23_);rintro e w3 ⟨rfl,hi,hb,hk⟩;refine ⟨_,rfl,?_⟩;replace HK:=am (KeepBut.trans m24_ hk (.inl rfl));replace HB:=am hb;replace HI0:=am hi;(try clear hb);(try clear hk);(try clear hi)))
 go_loopg [3,4] k (fun kq v3 v4 w'=>∃ (x3_1 : ByteArray) (x4_1 : Int) (x1001_1 : Int),v3 = .string x3_1 ∧ v4 = .int .i64 x4_1 ∧ Aside0 (spec_l20Stream.l0 kq x3_1 x4_1 s0_0 x1001_1 = some (r1,r2)) ∧ Aside0 (kq ≤ k) ∧ Aside0 (IsS84 w0 w' g s0_0 x1001_1) ∧ Aside0 (KeepBut w w' g none) ∧ Aside0 (Below w0.heap.size w0 w'))
 case atStart=>exact ⟨((⟨#[]⟩ : ByteArray)),(t656),(t657),rs_,rs_,H',⟨Nat.le_refl _⟩,⟨m25_⟩,⟨m24_⟩,⟨m23_⟩⟩
 case round=>
  clear H'
  try clear p2
  obtain ⟨x3_1,x4_1,x1001_1,rfl,rfl,HA,HK1,HI0,HK,HB⟩:=hrel
  cases gk with
  | zero=>exact absurd HA.out (by simp [spec_l20Stream.l0])
  | succ k1=>
   have H:=HA.out
   clear HA
   simp only [spec_l20Stream.l0] at H
   by_cases c4 : x4_1 > 0
   ·rw [if_pos c4] at H
    have c4b0 : decide (0 < x4_1) = true:=decide_eq_true c4
    clear c4
    obtain ⟨⟨t658,t659⟩,A5,H⟩:=bse H
    try dsimp only at H
    by_cases c6 : x3_1.size + t658.size ≤ 9223372036854775807
    ·rw [if_pos c6] at H
     have c6b0:=eq_true c6
     have c6b1 : decide (x3_1.size + t658.size ≤ 9223372036854775807) = true:=decide_eq_true c6
     try have c6b2 : (9223372036854775807 < x3_1.size + t658.size) = False:=eq_false (Nat.not_lt.2 c6)
     by_cases c7 : (x3_1 ++ t658).size + 1 ≤ 9223372036854775807
     ·rw [if_pos c7] at H
      have c7b0:=eq_true c7
      have c7b1 : decide ((x3_1 ++ t658).size + 1 ≤ 9223372036854775807) = true:=decide_eq_true c7
      try have c7b2 : (9223372036854775807 < (x3_1 ++ t658).size + 1) = False:=eq_false (Nat.not_lt.2 c7)
      try have c7b3 : (9223372036854775807 < x3_1.size + t658.size + 1) = False:=(by have z_:=c7b2;simp only [ByteArray.size_append] at z_;exact z_)
      by_cases c8 : (((x3_1 ++ t658) ++ (⟨#[59]⟩ : ByteArray)).size : Int) ≤ 120
      ·rw [if_pos c8] at H
       have c8b0 : decide ((((x3_1 ++ t658) ++ (⟨#[59]⟩ : ByteArray)).size : Int) ≤ 120) = true:=decide_eq_true c8
       have c8b1 : decide (((x3_1 ++ t658) ++ (⟨#[59]⟩ : ByteArray)).size ≤ 120) = true:=decide_eq_true (by omega)
       try have c8b3 : decide ((x3_1.size : Int) + (t658.size : Int) + 1 ≤ 120) = true:=(by have z_:=c8b0;simp only [ByteArray.size_append,Int.natCast_add] at z_;exact z_)
       clear c8
       have H':=am H
       clear H
       go_wp2_with (first | ((with_reducible refine gC 42 rfl ?_);refine gL (some 15) Tryz.func42 #[.pointer (some ⟨g,0,none⟩)] ?_;(with_reducible refine (spec_l20Line.calls k1 g s0_0 x1001_1 t658 t659 w0 _ ?side1 ?side2 A5.out).mono ?_);(case side1=>exact m25_);(case side2=>exact m23_);rintro e w9 ⟨rfl,hi,hb,hk⟩;refine ⟨_,rfl,?_⟩;replace HK:=am (KeepBut.trans m24_ hk (.inl rfl));replace HB:=am hb;replace HI0:=am hi;(try clear hb);(try clear hk);(try clear hi)))
       go_roundg k1
       case measure=>have:=HK1.out;omega
       case rel=>exact ⟨((x3_1 ++ t658) ++ (⟨#[59]⟩ : ByteArray)),(wrap64 (x4_1 - 1)),(t659),rs_,rs_,H',⟨by have:=HK1.out;omega⟩,⟨m25_⟩,⟨m24_⟩,⟨m23_⟩⟩
      ·rw [if_neg c8] at H
       have c8b0 : decide ((((x3_1 ++ t658) ++ (⟨#[59]⟩ : ByteArray)).size : Int) ≤ 120) = false:=decide_eq_false c8
       have c8b1 : decide (((x3_1 ++ t658) ++ (⟨#[59]⟩ : ByteArray)).size ≤ 120) = false:=decide_eq_false (by omega)
       try have c8b3 : decide ((x3_1.size : Int) + (t658.size : Int) + 1 ≤ 120) = false:=(by have z_:=c8b0;simp only [ByteArray.size_append,Int.natCast_add] at z_;exact z_)
       clear c8
       have H':=am H
       clear H
       go_wp2_with (first | ((with_reducible refine gC 42 rfl ?_);refine gL (some 15) Tryz.func42 #[.pointer (some ⟨g,0,none⟩)] ?_;(with_reducible refine (spec_l20Line.calls k1 g s0_0 x1001_1 t658 t659 w0 _ ?side1 ?side2 A5.out).mono ?_);(case side1=>exact m25_);(case side2=>exact m23_);rintro e w10 ⟨rfl,hi,hb,hk⟩;refine ⟨_,rfl,?_⟩;replace HK:=am (KeepBut.trans m24_ hk (.inl rfl));replace HB:=am hb;replace HI0:=am hi;(try clear hb);(try clear hk);(try clear hi)))
       go_roundg k1
       case measure=>have:=HK1.out;omega
       case rel=>exact ⟨(x3_1),(wrap64 (x4_1 - 1)),(t659),rs_,rs_,H',⟨by have:=HK1.out;omega⟩,⟨m25_⟩,⟨m24_⟩,⟨m23_⟩⟩
     ·rw [if_neg c7] at H
      exact absurd H (by simp)
    ·rw [if_neg c6] at H
     exact absurd H (by simp)
   ·rw [if_neg c4] at H
    have c4b0 : decide (0 < x4_1) = false:=decide_eq_false c4
    clear c4
    obtain ⟨⟨t660,t661⟩,A11,H⟩:=bse H
    try dsimp only at H
    by_cases c12 : t660 = 0
    ·rw [if_pos c12] at H
     have c12b0 : (t660 == 0) = true:=beq_iff_eq.mpr c12
     have c12b1 : (t660 != 0) = false:=bne_eq_false_iff_eq.mpr c12
     clear c12
     obtain ⟨⟨t662,t663⟩,A13,H⟩:=bse H
     try dsimp only at H
     by_cases c14 : (wrap64 ((x3_1.size : Int) + (t662.size : Int))) ≤ 120
     ·rw [if_pos c14] at H
      have c14b0 : decide ((wrap64 ((x3_1.size : Int) + (t662.size : Int))) ≤ 120) = true:=decide_eq_true c14
      clear c14
      by_cases c15 : x3_1.size + t662.size ≤ 9223372036854775807
      ·rw [if_pos c15] at H
       have c15b0:=eq_true c15
       have c15b1 : decide (x3_1.size + t662.size ≤ 9223372036854775807) = true:=decide_eq_true c15
       try have c15b2 : (9223372036854775807 < x3_1.size + t662.size) = False:=eq_false (Nat.not_lt.2 c15)
       try have c15b5 : decide ((x3_1.size : Int) + (t662.size : Int) ≤ 120) = true:=(by have z_:=of_decide_eq_true c14b0;have y_:=of_decide_eq_true c15b1;unfold wrap64 at z_;exact decide_eq_true (by omega))
       simp only [Option.some.injEq,Prod.mk.injEq] at H
       obtain ⟨rfl,rfl⟩:=H
       go_wp2_with (first | ((with_reducible refine gC 63 rfl ?_);refine gL (some 23) Tryz.func63 #[.pointer (some ⟨g,0,none⟩),.int .i64 3] ?_;(with_reducible refine (spec_l20Rd_pick.calls k1 g s0_0 x1001_1 3 t660 t661 w0 _ ?side1 ?side2 A11.out).mono ?_);(case side1=>exact m25_);(case side2=>exact m23_);rintro e w16 ⟨rfl,hi,hb,hk⟩;refine ⟨_,rfl,?_⟩;replace HK:=am (KeepBut.trans m24_ hk (.inl rfl));replace HB:=am hb;replace HI0:=am hi;(try clear hb);(try clear hk);(try clear hi)) | ((with_reducible refine gC 42 rfl ?_);refine gL (some 26) Tryz.func42 #[.pointer (some ⟨g,0,none⟩)] ?_;(with_reducible refine (spec_l20Line.calls k1 g s0_0 t661 t662 t663 w0 _ ?side1 ?side2 A13.out).mono ?_);(case side1=>exact m25_);(case side2=>exact m23_);rintro e w17 ⟨rfl,hi,hb,hk⟩;refine ⟨_,rfl,?_⟩;replace HK:=am (KeepBut.trans m24_ hk (.inl rfl));replace HB:=am hb;replace HI0:=am hi;(try clear hb);(try clear hk);(try clear hi)))
       go_ret
       exact ⟨fi_,m25_,m23_,m24_⟩
      ·rw [if_neg c15] at H
       exact absurd H (by simp)
     ·rw [if_neg c14] at H
      have c14b0 : decide ((wrap64 ((x3_1.size : Int) + (t662.size : Int))) ≤ 120) = false:=decide_eq_false c14
      clear c14
      simp only [Option.some.injEq,Prod.mk.injEq] at H
      obtain ⟨rfl,rfl⟩:=H
      go_wp2_with (first | ((with_reducible refine gC 63 rfl ?_);refine gL (some 23) Tryz.func63 #[.pointer (some ⟨g,0,none⟩),.int .i64 3] ?_;(with_reducible refine (spec_l20Rd_pick.calls k1 g s0_0 x1001_1 3 t660 t661 w0 _ ?side1 ?side2 A11.out).mono ?_);(case side1=>exact m25_);(case side2=>exact m23_);rintro e w18 ⟨rfl,hi,hb,hk⟩;refine ⟨_,rfl,?_⟩;replace HK:=am (KeepBut.trans m24_ hk (.inl rfl));replace HB:=am hb;replace HI0:=am hi;(try clear hb);(try clear hk);(try clear hi)) | ((with_reducible refine gC 42 rfl ?_);refine gL (some 26) Tryz.func42 #[.pointer (some ⟨g,0,none⟩)] ?_;(with_reducible refine (spec_l20Line.calls k1 g s0_0 t661 t662 t663 w0 _ ?side1 ?side2 A13.out).mono ?_);(case side1=>exact m25_);(case side2=>exact m23_);rintro e w19 ⟨rfl,hi,hb,hk⟩;refine ⟨_,rfl,?_⟩;replace HK:=am (KeepBut.trans m24_ hk (.inl rfl));replace HB:=am hb;replace HI0:=am hi;(try clear hb);(try clear hk);(try clear hi)))
      go_ret
      exact ⟨fi_,m25_,m23_,m24_⟩
    ·rw [if_neg c12] at H
     have c12b0 : (t660 == 0) = false:=beq_eq_false_iff_ne.mpr c12
     have c12b1 : (t660 != 0) = true:=bne_iff_ne.mpr c12
     simp only [Option.some.injEq,Prod.mk.injEq] at H
     obtain ⟨rfl,rfl⟩:=H
     go_wp2_with (first | ((with_reducible refine gC 63 rfl ?_);refine gL (some 23) Tryz.func63 #[.pointer (some ⟨g,0,none⟩),.int .i64 3] ?_;(with_reducible refine (spec_l20Rd_pick.calls k1 g s0_0 x1001_1 3 t660 t661 w0 _ ?side1 ?side2 A11.out).mono ?_);(case side1=>exact m25_);(case side2=>exact m23_);rintro e w20 ⟨rfl,hi,hb,hk⟩;refine ⟨_,rfl,?_⟩;replace HK:=am (KeepBut.trans m24_ hk (.inl rfl));replace HB:=am hb;replace HI0:=am hi;(try clear hb);(try clear hk);(try clear hi)))
     go_ret
     exact ⟨fi_,m25_,m23_,m24_⟩
def spec_l20StreamOr.l0 : Nat → ByteArray → List Int → Int → Option (ByteArray × Int)
 | 0,_,_,_=>none
 | k + 1,x5,x1000,x1001=>if (x5.size : Int) ≤ 120 then (if x5.size + 5 ≤ 9223372036854775807 then (spec_l20StreamOr.l0 k (x5 ++ (⟨#[108,105,115,116,59]⟩ : ByteArray)) x1000 x1001) else (none)) else (some (x5,x1001))
def spec_l20StreamOr.f (k : Nat) (s0_0 : List Int) (s0_1 : Int) (a1 : Int) : Option (ByteArray × Int):=(spec_l20Stream.f k s0_0 s0_1).bind fun bt664=>((spec_l20Rd_odd.f k s0_0 bt664.2 a1).bind fun bt666=>(if bt666.1 = true then ((spec_l20Rd_pick.f k s0_0 bt666.2 3).bind fun bt668=>(if bt668.1 = 0 then ((spec_l20Bent.f k s0_0 bt668.2 bt664.1).bind fun bt670=>(some (bt670.1,bt670.2))) else (if bt668.1 = 1 then (if bt664.1.size + 18 ≤ 9223372036854775807 then (some (bt664.1 ++ (⟨#[97,98,99,100,101,102,103,104,105,106,32,107,108,109,110,111,112,59]⟩ : ByteArray),bt668.2)) else (none)) else (spec_l20StreamOr.l0 k bt664.1 s0_0 bt668.2)))) else (some (bt664.1,bt666.2))))
theorem spec_l20StreamOr.mono_l : ∀ k,(∀ y0 y1 y2,LeO (spec_l20StreamOr.l0 k y0 y1 y2) (spec_l20StreamOr.l0 (k + 1) y0 y1 y2))
 | 0=>fun _ _ _ r h=>by simp [spec_l20StreamOr.l0] at h
 | k + 1=>by
  have ih0:=spec_l20StreamOr.mono_l k
  ·intro y0 y1 y2
   unfold spec_l20StreamOr.l0
   repeat' first | (with_reducible first | exact ih0 _ _ _ | exact spec_l20Bent.mono _ _ _ _ | exact spec_l20Rd_odd.mono _ _ _ _ | exact spec_l20Rd_pick.mono _ _ _ _ | exact spec_l20Stream.mono _ _ _ | exact LeO.refl _ | exact LeO.none _ | refine LeO.ite ?_ ?_ | refine LeO.bind ?_ (fun _=>?_)) | exact ih0 _ _ _ | exact spec_l20Bent.mono _ _ _ _ | exact spec_l20Rd_odd.mono _ _ _ _ | exact spec_l20Rd_pick.mono _ _ _ _ | exact spec_l20Stream.mono _ _ _ | exact LeO.none _ | refine LeO.ite ?_ ?_ | refine LeO.bind ?_ (fun _=>?_)
theorem spec_l20StreamOr.mono : ∀ a0 a1 a2 k,LeO (spec_l20StreamOr.f k a0 a1 a2) (spec_l20StreamOr.f (k + 1) a0 a1 a2):=by
 intro a0 a1 a2 k
 have ih0:=spec_l20StreamOr.mono_l k
 unfold spec_l20StreamOr.f
 repeat' first | (with_reducible first | exact ih0 _ _ _ | exact spec_l20Bent.mono _ _ _ _ | exact spec_l20Rd_odd.mono _ _ _ _ | exact spec_l20Rd_pick.mono _ _ _ _ | exact spec_l20Stream.mono _ _ _ | exact LeO.refl _ | exact LeO.none _ | refine LeO.ite ?_ ?_ | refine LeO.bind ?_ (fun _=>?_)) | exact ih0 _ _ _ | exact spec_l20Bent.mono _ _ _ _ | exact spec_l20Rd_odd.mono _ _ _ _ | exact spec_l20Rd_pick.mono _ _ _ _ | exact spec_l20Stream.mono _ _ _ | exact LeO.none _ | refine LeO.ite ?_ ?_ | refine LeO.bind ?_ (fun _=>?_)
set_option maxHeartbeats 8000000 in
set_option maxRecDepth 100000 in
theorem spec_l20StreamOr.calls (k : Nat) (g : Nat) (s0_0 : List Int) (s0_1 : Int) (a1 : Int) (r1 : ByteArray) (r2 : Int) (w0 w : World) (hI : IsS84 w0 w g s0_0 s0_1) (hB : Below w0.heap.size w0 w) (h : spec_l20StreamOr.f k s0_0 s0_1 a1 = some (r1,r2)) :
  Calls Tryz.prog 67 #[.pointer (some ⟨g,0,none⟩),.int .i64 a1] w fun e w'=>e = .returned (.string r1) ∧ IsS84 w0 w' g s0_0 r2 ∧ Below w0.heap.size w0 w' ∧ KeepBut w w' g none:=by
 have HI0:=am hI
 have HK:=am (KeepBut.refl w g none)
 have HL:=am hB.size
 clear hI
 have HW0:=am hB.size
 have HB:=am hB
 clear hB
 have H : ((spec_l20Stream.f k s0_0 s0_1).bind fun bt664=>((spec_l20Rd_odd.f k s0_0 bt664.2 a1).bind fun bt666=>(if bt666.1 = true then ((spec_l20Rd_pick.f k s0_0 bt666.2 3).bind fun bt668=>(if bt668.1 = 0 then ((spec_l20Bent.f k s0_0 bt668.2 bt664.1).bind fun bt670=>(some (bt670.1,bt670.2))) else (if bt668.1 = 1 then (if bt664.1.size + 18 ≤ 9223372036854775807 then (some (bt664.1 ++ (⟨#[97,98,99,100,101,102,103,104,105,106,32,107,108,109,110,111,112,59]⟩ : ByteArray),bt668.2)) else (none)) else (spec_l20StreamOr.l0 k bt664.1 s0_0 bt668.2)))) else (some (bt664.1,bt666.2))))) = some (r1,r2):=h
 clear h
 obtain ⟨⟨t664,t665⟩,A3,H⟩:=bse H
 try dsimp only at H
 obtain ⟨⟨t666,t667⟩,A4,H⟩:=bse H
 try dsimp only at H
 by_cases c5 : t666 = true
 ·subst c5
  have H1 : ((spec_l20Rd_pick.f k s0_0 t667 3).bind fun bt668=>(if bt668.1 = 0 then ((spec_l20Bent.f k s0_0 bt668.2 t664).bind fun bt670=>(some (bt670.1,bt670.2))) else (if bt668.1 = 1 then (if t664.size + 18 ≤ 9223372036854775807 then (some (t664 ++ (⟨#[97,98,99,100,101,102,103,104,105,106,32,107,108,109,110,111,112,59]⟩ : ByteArray),bt668.2)) else (none)) else (spec_l20StreamOr.l0 k t664 s0_0 bt668.2)))) = some (r1,r2):=by rw [if_pos rfl] at H;exact H
  clear H
  have H:=H1
  clear H1
  obtain ⟨⟨t668,t669⟩,A6,H⟩:=bse H
  try dsimp only at H
  by_cases c7 : t668 = 0
  ·rw [if_pos c7] at H
   have c7b0 : (t668 == 0) = true:=beq_iff_eq.mpr c7
   have c7b1 : (t668 != 0) = false:=bne_eq_false_iff_eq.mpr c7
   clear c7
   obtain ⟨⟨t670,t671⟩,A8,H⟩:=bse H
   try dsimp only at H
   simp only [Option.some.injEq,Prod.mk.injEq] at H
   obtain ⟨rfl,rfl⟩:=H
   go_enter Tryz.func67,Tryz.ntmps67
   go_wp2_with (first | ((with_reducible refine gC 95 rfl ?_);refine gL (some 7) Tryz.func95 #[.pointer (some ⟨g,0,none⟩)] ?_;(with_reducible refine (spec_l20Stream.calls k g s0_0 s0_1 t664 t665 w0 _ ?side1 ?side2 A3.out).mono ?_);(case side1=>exact m25_);(case side2=>exact m23_);rintro e w9 ⟨rfl,hi,hb,hk⟩;refine ⟨_,rfl,?_⟩;replace HK:=am (KeepBut.trans m24_ hk (.inl rfl));replace HB:=am hb;replace HI0:=am hi;(try clear hb);(try clear hk);(try clear hi)) | ((with_reducible refine gC 43 rfl ?_);refine gL (some 10) Tryz.func43 #[.pointer (some ⟨g,0,none⟩),.int .i64 a1] ?_;(with_reducible refine (spec_l20Rd_odd.calls k g s0_0 t665 a1 true t667 w0 _ ?side1 ?side2 A4.out).mono ?_);(case side1=>exact m25_);(case side2=>exact m23_);rintro e w10 ⟨rfl,hi,hb,hk⟩;refine ⟨_,rfl,?_⟩;replace HK:=am (KeepBut.trans m24_ hk (.inl rfl));replace HB:=am hb;replace HI0:=am hi;(try clear hb);(try clear hk);(try clear hi)) | ((with_reducible refine gC 63 rfl ?_);refine gL (some 12) Tryz.func63 #[.pointer (some ⟨g,0,none⟩),.int .i64 3] ?_;(with_reducible refine (spec_l20Rd_pick.calls k g s0_0 t667 3 t668 t669 w0 _ ?side1 ?side2 A6.out).mono ?_);(case side1=>exact m25_);(case side2=>exact m23_);rintro e w11 ⟨rfl,hi,hb,hk⟩;refine ⟨_,rfl,?_⟩;replace HK:=am (KeepBut.trans m24_ hk (.inl rfl));replace HB:=am hb;replace HI0:=am hi;(try clear hb);(try clear hk);(try clear hi)) | ((with_reducible refine gC 44 rfl ?_);refine gL (some 17) Tryz.func44 #[.pointer (some ⟨g,0,none⟩),.string t664] ?_;(with_reducible refine (spec_l20Bent.calls k g s0_0 t669 t664 t670 t671 w0 _ ?side1 ?side2 A8.out).mono ?_);(case side1=>exact m25_);(case side2=>exact m23_);rintro e w12 ⟨rfl,hi,hb,hk⟩;refine ⟨_,rfl,?_⟩;replace HK:=am (KeepBut.trans m24_ hk (.inl rfl));replace HB:=am hb;replace HI0:=am hi;(try clear hb);(try clear hk);(try clear hi)))
   go_ret
   exact ⟨fi_,m25_,m23_,m24_⟩
  ·rw [if_neg c7] at H
   have c7b0 : (t668 == 0) = false:=beq_eq_false_iff_ne.mpr c7
   have c7b1 : (t668 != 0) = true:=bne_iff_ne.mpr c7
   by_cases c13 : t668 = 1
   ·rw [if_pos c13] at H
    have c13b0 : (t668 == 1) = true:=beq_iff_eq.mpr c13
    have c13b1 : (t668 != 1) = false:=bne_eq_false_iff_eq.mpr c13
    clear c13
    by_cases c14 : t664.size + 18 ≤ 9223372036854775807
    ·rw [if_pos c14] at H
     have c14b0:=eq_true c14
     have c14b1 : decide (t664.size + 18 ≤ 9223372036854775807) = true:=decide_eq_true c14
     try have c14b2 : (9223372036854775807 < t664.size + 18) = False:=eq_false (Nat.not_lt.2 c14)
     simp only [Option.some.injEq,Prod.mk.injEq] at H
     obtain ⟨rfl,rfl⟩:=H
     go_enter Tryz.func67,Tryz.ntmps67
     go_wp2_with (first | ((with_reducible refine gC 95 rfl ?_);refine gL (some 7) Tryz.func95 #[.pointer (some ⟨g,0,none⟩)] ?_;(with_reducible refine (spec_l20Stream.calls k g s0_0 s0_1 t664 t665 w0 _ ?side1 ?side2 A3.out).mono ?_);(case side1=>exact m25_);(case side2=>exact m23_);rintro e w15 ⟨rfl,hi,hb,hk⟩;refine ⟨_,rfl,?_⟩;replace HK:=am (KeepBut.trans m24_ hk (.inl rfl));replace HB:=am hb;replace HI0:=am hi;(try clear hb);(try clear hk);(try clear hi)) | ((with_reducible refine gC 43 rfl ?_);refine gL (some 10) Tryz.func43 #[.pointer (some ⟨g,0,none⟩),.int .i64 a1] ?_;(with_reducible refine (spec_l20Rd_odd.calls k g s0_0 t665 a1 true t667 w0 _ ?side1 ?side2 A4.out).mono ?_);(case side1=>exact m25_);(case side2=>exact m23_);rintro e w16 ⟨rfl,hi,hb,hk⟩;refine ⟨_,rfl,?_⟩;replace HK:=am (KeepBut.trans m24_ hk (.inl rfl));replace HB:=am hb;replace HI0:=am hi;(try clear hb);(try clear hk);(try clear hi)) | ((with_reducible refine gC 63 rfl ?_);refine gL (some 12) Tryz.func63 #[.pointer (some ⟨g,0,none⟩),.int .i64 3] ?_;(with_reducible refine (spec_l20Rd_pick.calls k g s0_0 t667 3 t668 t669 w0 _ ?side1 ?side2 A6.out).mono ?_);(case side1=>exact m25_);(case side2=>exact m23_);rintro e w17 ⟨rfl,hi,hb,hk⟩;refine ⟨_,rfl,?_⟩;replace HK:=am (KeepBut.trans m24_ hk (.inl rfl));replace HB:=am hb;replace HI0:=am hi;(try clear hb);(try clear hk);(try clear hi)))
     go_ret
     exact ⟨fi_,m25_,m23_,m24_⟩
    ·rw [if_neg c14] at H
     exact absurd H (by simp)
   ·rw [if_neg c13] at H
    have c13b0 : (t668 == 1) = false:=beq_eq_false_iff_ne.mpr c13
    have c13b1 : (t668 != 1) = true:=bne_iff_ne.mpr c13
    have H':=am H
    clear H
    go_enter Tryz.func67,Tryz.ntmps67
    go_wp2_with (first | ((with_reducible refine gC 95 rfl ?_);refine gL (some 7) Tryz.func95 #[.pointer (some ⟨g,0,none⟩)] ?_;(with_reducible refine (spec_l20Stream.calls k g s0_0 s0_1 t664 t665 w0 _ ?side1 ?side2 A3.out).mono ?_);(case side1=>exact m25_);(case side2=>exact m23_);rintro e w18 ⟨rfl,hi,hb,hk⟩;refine ⟨_,rfl,?_⟩;replace HK:=am (KeepBut.trans m24_ hk (.inl rfl));replace HB:=am hb;replace HI0:=am hi;(try clear hb);(try clear hk);(try clear hi)) | ((with_reducible refine gC 43 rfl ?_);refine gL (some 10) Tryz.func43 #[.pointer (some ⟨g,0,none⟩),.int .i64 a1] ?_;(with_reducible refine (spec_l20Rd_odd.calls k g s0_0 t665 a1 true t667 w0 _ ?side1 ?side2 A4.out).mono ?_);(case side1=>exact m25_);(case side2=>exact m23_);rintro e w19 ⟨rfl,hi,hb,hk⟩;refine ⟨_,rfl,?_⟩;replace HK:=am (KeepBut.trans m24_ hk (.inl rfl));replace HB:=am hb;replace HI0:=am hi;(try clear hb);(try clear hk);(try clear hi)) | ((with_reducible refine gC 63 rfl ?_);refine gL (some 12) Tryz.func63 #[.pointer (some ⟨g,0,none⟩),.int .i64 3] ?_;(with_reducible refine (spec_l20Rd_pick.calls k g s0_0 t667 3 t668 t669 w0 _ ?side1 ?side2 A6.out).mono ?_);(case side1=>exact m25_);(case side2=>exact m23_);rintro e w20 ⟨rfl,hi,hb,hk⟩;refine ⟨_,rfl,?_⟩;replace HK:=am (KeepBut.trans m24_ hk (.inl rfl));replace HB:=am hb;replace HI0:=am hi;(try clear hb);(try clear hk);(try clear hi)))
    go_loopg [5] k (fun kq v5 w'=>∃ (x5_1 : ByteArray),v5 = .string x5_1 ∧ Aside0 (spec_l20StreamOr.l0 kq x5_1 s0_0 t669 = some (r1,r2)) ∧ Aside0 (kq ≤ k) ∧ Aside0 (IsS84 w0 w' g s0_0 t669) ∧ Aside0 (KeepBut w w' g none) ∧ Aside0 (Below w0.heap.size w0 w'))
    case atStart=>exact ⟨(t664),rs_,H',⟨Nat.le_refl _⟩,⟨m25_⟩,⟨m24_⟩,⟨m23_⟩⟩
    case round=>
     clear H'
     try clear c1
     try clear p2
     try clear c4
     try clear c5
     try clear c6
     try clear c7
     try clear c7b0
     try clear c7b1
     try clear c9
     try clear c13
     try clear c13b0
     try clear c13b1
     try clear c14
     try clear c14b0
     try clear c14b1
     try clear c14b2
     obtain ⟨x5_1,rfl,HA,HK1,HI0,HK,HB⟩:=hrel
     cases gk with
     | zero=>exact absurd HA.out (by simp [spec_l20StreamOr.l0])
     | succ k1=>
      have H:=HA.out
      clear HA
      simp only [spec_l20StreamOr.l0] at H
      by_cases c21 : (x5_1.size : Int) ≤ 120
      ·rw [if_pos c21] at H
       have c21b0 : decide ((x5_1.size : Int) ≤ 120) = true:=decide_eq_true c21
       have c21b1 : decide (x5_1.size ≤ 120) = true:=decide_eq_true (by omega)
       clear c21
       by_cases c22 : x5_1.size + 5 ≤ 9223372036854775807
       ·rw [if_pos c22] at H
        have c22b0:=eq_true c22
        have c22b1 : decide (x5_1.size + 5 ≤ 9223372036854775807) = true:=decide_eq_true c22
        try have c22b2 : (9223372036854775807 < x5_1.size + 5) = False:=eq_false (Nat.not_lt.2 c22)
        have H':=am H
        clear H
        go_wp2
        go_roundg k1
        case measure=>have:=HK1.out;omega
        case rel=>exact ⟨(x5_1 ++ (⟨#[108,105,115,116,59]⟩ : ByteArray)),rs_,H',⟨by have:=HK1.out;omega⟩,⟨m25_⟩,⟨m24_⟩,⟨m23_⟩⟩
       ·rw [if_neg c22] at H
        exact absurd H (by simp)
      ·rw [if_neg c21] at H
       have c21b0 : decide ((x5_1.size : Int) ≤ 120) = false:=decide_eq_false c21
       have c21b1 : decide (x5_1.size ≤ 120) = false:=decide_eq_false (by omega)
       clear c21
       simp only [Option.some.injEq,Prod.mk.injEq] at H
       obtain ⟨rfl,rfl⟩:=H
       go_wp2
       go_ret
       exact ⟨fi_,m25_,m23_,m24_⟩
 ·replace c5:=Bool.eq_false_iff.mpr c5
  subst c5
  have H1 : (some (t664,t667)) = some (r1,r2):=by rw [if_neg (show ¬ (false = true) by decide)] at H;exact H
  clear H
  have H:=H1
  clear H1
  simp only [Option.some.injEq,Prod.mk.injEq] at H
  obtain ⟨rfl,rfl⟩:=H
  go_enter Tryz.func67,Tryz.ntmps67
  go_wp2_with (first | ((with_reducible refine gC 95 rfl ?_);refine gL (some 7) Tryz.func95 #[.pointer (some ⟨g,0,none⟩)] ?_;(with_reducible refine (spec_l20Stream.calls k g s0_0 s0_1 t664 t665 w0 _ ?side1 ?side2 A3.out).mono ?_);(case side1=>exact m25_);(case side2=>exact m23_);rintro e w23 ⟨rfl,hi,hb,hk⟩;refine ⟨_,rfl,?_⟩;replace HK:=am (KeepBut.trans m24_ hk (.inl rfl));replace HB:=am hb;replace HI0:=am hi;(try clear hb);(try clear hk);(try clear hi)) | ((with_reducible refine gC 43 rfl ?_);refine gL (some 10) Tryz.func43 #[.pointer (some ⟨g,0,none⟩),.int .i64 a1] ?_;(with_reducible refine (spec_l20Rd_odd.calls k g s0_0 t665 a1 false t667 w0 _ ?side1 ?side2 A4.out).mono ?_);(case side1=>exact m25_);(case side2=>exact m23_);rintro e w24 ⟨rfl,hi,hb,hk⟩;refine ⟨_,rfl,?_⟩;replace HK:=am (KeepBut.trans m24_ hk (.inl rfl));replace HB:=am hb;replace HI0:=am hi;(try clear hb);(try clear hk);(try clear hi)))
  go_ret
  exact ⟨fi_,m25_,m23_,m24_⟩
def spec_DrawRwrStream.f (k : Nat) (l0 : List Int) : Option ((List (S34)) × ByteArray):=(spec_l20Open.f l0).bind fun bt673=>((spec_l20Table.f k bt673.1 bt673.2 14).bind fun bt676=>((spec_l20StreamOr.f k bt673.1 bt676.2 9).bind fun bt680=>(some (bt676.1,bt680.1))))
theorem spec_DrawRwrStream.mono : ∀ a0 k,LeO (spec_DrawRwrStream.f k a0) (spec_DrawRwrStream.f (k + 1) a0):=by
 intro a0 k
 unfold spec_DrawRwrStream.f
 repeat' first | (with_reducible first | exact spec_l20StreamOr.mono _ _ _ _ | exact spec_l20Table.mono _ _ _ _ | exact LeO.refl _ | exact LeO.none _ | refine LeO.ite ?_ ?_ | refine LeO.bind ?_ (fun _=>?_)) | exact spec_l20StreamOr.mono _ _ _ _ | exact spec_l20Table.mono _ _ _ _ | exact LeO.none _ | refine LeO.ite ?_ ?_ | refine LeO.bind ?_ (fun _=>?_)
set_option maxHeartbeats 8000000 in
set_option maxRecDepth 100000 in
theorem spec_DrawRwrStream.calls (k : Nat) (A0 : Option Addr) (c0 : Nat) (l0 : List Int) (r1 : List (S34)) (r2 : ByteArray) (w : World) (hr0 : Kd.C (Kd.int .u8) w A0 l0.length l0) (hc0 : l0.length ≤ c0) (h : spec_DrawRwrStream.f k l0 = some (r1,r2)) :
  Calls Tryz.prog 32 #[.slice A0 l0.length c0] w fun e w'=>∃ v0_ : Value,e = .returned (.tuple #[.agg #[v0_],.string r2]) ∧ Kd.R k34 34 w' w.heap.size (fun _=>True) v0_ r1 ∧ Below w.heap.size w w':=by
 have hu25:=Tryz.underlying25
 have HR0:=am hr0
 have HC0:=am hc0
 clear hr0 hc0
 have HB:=am (Below.refl w.heap.size w)
 have H : ((spec_l20Open.f l0).bind fun bt673=>((spec_l20Table.f k bt673.1 bt673.2 14).bind fun bt676=>((spec_l20StreamOr.f k bt673.1 bt676.2 9).bind fun bt680=>(some (bt676.1,bt680.1))))) = some (r1,r2):=h
 clear h
 obtain ⟨⟨t673,t674⟩,A2,H⟩:=bse H
 try dsimp only at H
 obtain ⟨⟨t676,t679⟩,A3,H⟩:=bse H
 try dsimp only at H
 obtain ⟨⟨t680,t681⟩,A4,H⟩:=bse H
 try dsimp only at H
 simp only [Option.some.injEq,Prod.mk.injEq] at H
 obtain ⟨rfl,rfl⟩:=H
 go_enter Tryz.func32,Tryz.ntmps32
 go_wp2_with (first | ((with_reducible refine gD 2 rfl ?_);refine box_event rfl (N:=2) rfl (cs:=#[.slice none 0 0]) (t:=25) hr_ ?_;intro gb672 hg w5 hbox hb;have BK672:=am hbox;have GW672:=gwE HB hg;have GE672:=gwE HB hg;replace HB:=hbS HB hb;clear hb hbox hg) | ((with_reducible refine gC 40 rfl ?_);refine gL (some 6) Tryz.func40 #[.slice A0 l0.length c0] ?_;(with_reducible refine (spec_l20Open.calls _ _ l0 t673 t674 w _ ?side1 ?side2 ?side3 A2.out).mono ?_);(case side1=>exact m2_);(case side2=>exact HR0.out);(case side3=>exact HC0.out);rintro e w6 ⟨g675,rfl,hi,hb,hb2⟩;refine ⟨_,rfl,?_⟩;replace HB:=am hb;have HI675:=am hi;have NB675_672:=am (IsS84.ne_blk hi (blk_below (g:=gb672) (o:=.cells #[.slice none 0 0] 25 (0,0)) (bk BK672) hb2) (by decide));have NB672_675:=am (Ne.symm (IsS84.ne_blk hi (blk_below (g:=gb672) (o:=.cells #[.slice none 0 0] 25 (0,0)) (bk BK672) hb2) (by decide)));replace BK672:=am (blk_below (g:=gb672) (o:=.cells #[.slice none 0 0] 25 (0,0)) (bk BK672) hb2);(try clear hb);(try clear hb2);(try clear hi)) | ((with_reducible refine gC 41 rfl ?_);refine gL (some 8) Tryz.func41 #[.pointer (some ⟨g675,0,none⟩),.int .i64 14] ?_;(with_reducible refine (spec_l20Table.calls k g675 t673 t674 14 t676 t679 w _ ?side1 ?side2 A3.out).mono ?_);(case side1=>exact m19_);(case side2=>exact m20_);rintro e w7 ⟨v677,rfl,ho0,hi,hb,hk⟩;refine ⟨_,rfl,?_⟩;replace BK672:=am (KeepBut.blk hk (g':=gb672) (o:=.cells #[.slice none 0 0] 25 (0,0)) (bk BK672) NB672_675.out (by simp));have HO678:=am (Kd.R_lower ho0 (below_size m20_));replace HB:=am hb;replace HI675:=am hi;(try clear hb);(try clear hk);(try clear hi);(try clear ho0)) | ((with_reducible refine gC 67 rfl ?_);refine gL (some 10) Tryz.func67 #[.pointer (some ⟨g675,0,none⟩),.int .i64 9] ?_;(with_reducible refine (spec_l20StreamOr.calls k g675 t673 t679 9 t680 t681 w _ ?side1 ?side2 A4.out).mono ?_);(case side1=>exact m19_);(case side2=>exact m20_);rintro e w8 ⟨rfl,hi,hb,hk⟩;refine ⟨_,rfl,?_⟩;replace BK672:=am (KeepBut.blk hk (g':=gb672) (o:=.cells #[.slice none 0 0] 25 (0,0)) (bk BK672) NB672_675.out (by simp));replace HO678:=am (Kd.R_mono (Kd.R_keep (IsS84.apart (show IsS84 w _ g675 t673 t679 from m19_) (rs HO678) (by decide)) hk (fun _ h=>h.2)) (fun _ h=>h.1));replace HB:=am hb;replace HI675:=am hi;(try clear hb);(try clear hk);(try clear hi);obtain ⟨Ao9,co9,eo9⟩:=Kd.R_slice HO678.out;subst eo9;have:=NB672_675.out;have:=NB675_672.out;have:=bcell BK672 0;have:=bfz BK672 0))
 refine bodyPost_ret (results_ct rfl _ _ gb672 25 #[.slice Ao9 t676.length co9] (0,0) _ rfl (by (with_reducible repeat refine bu ?_);refine blk_put (cs:=#[.slice none 0 0]) ?_ 0 _ rfl;(with_reducible repeat refine bu ?_);exact BK672.out) Tryz.underlying25 rfl (by kernel_rfl)) rfl ?_
 exact ⟨_,fi_,by (with_reducible repeat apply ru);exact Kd.R_mono (Kd.R_far (p:=⟨gb672,0,none⟩) (Kd.R_types HO678.out BK672.out (by decide)) (fun _ hk=>hk.2) (.slice Ao9 t676.length co9)) (fun _ hk=>trivial),m20_⟩
def spec_l2Byte.f (a0 : Int) : Option (Bool):=if a0 ≥ 97 then (if a0 ≤ 122 then (some true) else (if a0 ≥ 48 then (if a0 ≤ 57 then (some true) else (some (a0 == 32))) else (some (a0 == 32)))) else (if a0 ≥ 48 then (if a0 ≤ 57 then (some true) else (some (a0 == 32))) else (some (a0 == 32)))
set_option maxHeartbeats 8000000 in
set_option maxRecDepth 100000 in
theorem spec_l2Byte.calls (a0 : Int) (r : Bool) (w : World) (h : spec_l2Byte.f a0 = some r) :
  Calls Tryz.prog 50 #[.int .u8 a0] w fun e w'=>e = .returned (.bool r) ∧ Drawn0 w w':=by
 have H : (if a0 ≥ 97 then (if a0 ≤ 122 then (some true) else (if a0 ≥ 48 then (if a0 ≤ 57 then (some true) else (some (a0 == 32))) else (some (a0 == 32)))) else (if a0 ≥ 48 then (if a0 ≤ 57 then (some true) else (some (a0 == 32))) else (some (a0 == 32)))) = some r:=h
 clear h
 by_cases c2 : a0 ≥ 97
 ·rw [if_pos c2] at H
  have c2b0 : decide (97 ≤ a0) = true:=decide_eq_true c2
  clear c2
  by_cases c3 : a0 ≤ 122
  ·rw [if_pos c3] at H
   have c3b0 : decide (a0 ≤ 122) = true:=decide_eq_true c3
   clear c3
   obtain rfl:=Option.some.inj H
   go_enter Tryz.func50,Tryz.ntmps50
   go_wp2
   go_ret
   exact ⟨fr_,dn_⟩
  ·rw [if_neg c3] at H
   have c3b0 : decide (a0 ≤ 122) = false:=decide_eq_false c3
   clear c3
   by_cases c4 : a0 ≥ 48
   ·rw [if_pos c4] at H
    have c4b0 : decide (48 ≤ a0) = true:=decide_eq_true c4
    clear c4
    by_cases c5 : a0 ≤ 57
    ·rw [if_pos c5] at H
     have c5b0 : decide (a0 ≤ 57) = true:=decide_eq_true c5
     clear c5
     obtain rfl:=Option.some.inj H
     go_enter Tryz.func50,Tryz.ntmps50
     go_wp2
     go_ret
     exact ⟨fr_,dn_⟩
    ·rw [if_neg c5] at H
     have c5b0 : decide (a0 ≤ 57) = false:=decide_eq_false c5
     clear c5
     obtain rfl:=Option.some.inj H
     go_enter Tryz.func50,Tryz.ntmps50
     go_wp2
     go_ret
     exact ⟨fr_,dn_⟩
   ·rw [if_neg c4] at H
    have c4b0 : decide (48 ≤ a0) = false:=decide_eq_false c4
    clear c4
    obtain rfl:=Option.some.inj H
    go_enter Tryz.func50,Tryz.ntmps50
    go_wp2
    go_ret
    exact ⟨fr_,dn_⟩
 ·rw [if_neg c2] at H
  have c2b0 : decide (97 ≤ a0) = false:=decide_eq_false c2
  clear c2
  by_cases c6 : a0 ≥ 48
  ·rw [if_pos c6] at H
   have c6b0 : decide (48 ≤ a0) = true:=decide_eq_true c6
   clear c6
   by_cases c7 : a0 ≤ 57
   ·rw [if_pos c7] at H
    have c7b0 : decide (a0 ≤ 57) = true:=decide_eq_true c7
    clear c7
    obtain rfl:=Option.some.inj H
    go_enter Tryz.func50,Tryz.ntmps50
    go_wp2
    go_ret
    exact ⟨fr_,dn_⟩
   ·rw [if_neg c7] at H
    have c7b0 : decide (a0 ≤ 57) = false:=decide_eq_false c7
    clear c7
    obtain rfl:=Option.some.inj H
    go_enter Tryz.func50,Tryz.ntmps50
    go_wp2
    go_ret
    exact ⟨fr_,dn_⟩
  ·rw [if_neg c6] at H
   have c6b0 : decide (48 ≤ a0) = false:=decide_eq_false c6
   clear c6
   obtain rfl:=Option.some.inj H
   go_enter Tryz.func50,Tryz.ntmps50
   go_wp2
   go_ret
   exact ⟨fr_,dn_⟩
def spec_LinOk.l0 : Nat → ByteArray → Int → Option (Bool)
 | 0,_,_=>none
 | k + 1,x0,x3=>if x3 < (x0.size : Int) then (if 0 ≤ x3 then ((spec_l2Byte.f (bt x0 x3)).bind fun t407=>(if t407 = true then (spec_LinOk.l0 k x0 (wrap64 (x3 + 1))) else (some false))) else (none)) else (some true)
def spec_LinOk.f (k : Nat) (a0 : ByteArray) : Option (Bool):=if (a0.size : Int) > 16 then (some false) else (spec_LinOk.l0 k a0 0)
theorem spec_LinOk.mono_l : ∀ k,(∀ y0 y1,LeO (spec_LinOk.l0 k y0 y1) (spec_LinOk.l0 (k + 1) y0 y1))
 | 0=>fun _ _ r h=>by simp [spec_LinOk.l0] at h
 | k + 1=>by
  have ih0:=spec_LinOk.mono_l k
  ·intro y0 y1
   unfold spec_LinOk.l0
   repeat' first | (with_reducible first | exact ih0 _ _ | exact LeO.refl _ | exact LeO.none _ | refine LeO.ite ?_ ?_ | refine LeO.bind ?_ (fun _=>?_)) | exact ih0 _ _ | exact LeO.none _ | refine LeO.ite ?_ ?_ | refine LeO.bind ?_ (fun _=>?_)
theorem spec_LinOk.mono : ∀ a0 k,LeO (spec_LinOk.f k a0) (spec_LinOk.f (k + 1) a0):=by
 intro a0 k
 have ih0:=spec_LinOk.mono_l k
 unfold spec_LinOk.f
 repeat' first | (with_reducible first | exact ih0 _ _ | exact LeO.refl _ | exact LeO.none _ | refine LeO.ite ?_ ?_ | refine LeO.bind ?_ (fun _=>?_)) | exact ih0 _ _ | exact LeO.none _ | refine LeO.ite ?_ ?_ | refine LeO.bind ?_ (fun _=>?_)
set_option maxHeartbeats 8000000 in
set_option maxRecDepth 100000 in
theorem spec_LinOk.calls (k : Nat) (a0 : ByteArray) (r : Bool) (w : World) (h : spec_LinOk.f k a0 = some r) :
  Calls Tryz.prog 17 #[.string a0] w fun e w'=>e = .returned (.bool r) ∧ Drawn0 w w':=by
 have H : (if (a0.size : Int) > 16 then (some false) else (spec_LinOk.l0 k a0 0)) = some r:=h
 clear h
 by_cases c2 : (a0.size : Int) > 16
 ·rw [if_pos c2] at H
  have c2b0 : decide (16 < (a0.size : Int)) = true:=decide_eq_true c2
  have c2b1 : decide (16 < a0.size) = true:=decide_eq_true (by omega)
  clear c2
  obtain rfl:=Option.some.inj H
  go_enter Tryz.func17,Tryz.ntmps17
  go_wp2
  go_ret
  exact ⟨fr_,dn_⟩
 ·rw [if_neg c2] at H
  have c2b0 : decide (16 < (a0.size : Int)) = false:=decide_eq_false c2
  have c2b1 : decide (16 < a0.size) = false:=decide_eq_false (by omega)
  clear c2
  have H':=am H
  clear H
  go_enter Tryz.func17,Tryz.ntmps17
  go_wp2
  go_loopg [3] k (fun kq v3 w'=>∃ (x3_1 : Int),v3 = .int .i64 x3_1 ∧ Aside0 (spec_LinOk.l0 kq a0 x3_1 = some r) ∧ Aside0 (kq ≤ k) ∧ Drawn0 w w')
  case atStart=>exact ⟨(0),rs_,H',⟨Nat.le_refl _⟩,by repeat (first | exact Drawn0.refl _ | apply Drawn0.step)⟩
  case round=>
   clear H'
   try clear c1
   try clear c2
   try clear c2b0
   try clear c2b1
   try clear p2
   obtain ⟨x3_1,rfl,HA,HK1,⟨m1,rfl⟩⟩:=hrel
   cases gk with
   | zero=>exact absurd HA.out (by simp [spec_LinOk.l0])
   | succ k1=>
    have H:=HA.out
    clear HA
    simp only [spec_LinOk.l0] at H
    by_cases c3 : x3_1 < (a0.size : Int)
    ·rw [if_pos c3] at H
     have c3b0 : decide (x3_1 < (a0.size : Int)) = true:=decide_eq_true c3
     clear c3
     by_cases c4 : 0 ≤ x3_1
     ·rw [if_pos c4] at H
      have c4b0 : decide (0 ≤ x3_1) = true:=decide_eq_true c4
      clear c4
      obtain ⟨t407,A6,H⟩:=bse H
      try dsimp only at H
      by_cases c7 : t407 = true
      ·subst c7
       have H1 : (spec_LinOk.l0 k1 a0 (wrap64 (x3_1 + 1))) = some r:=by rw [if_pos rfl] at H;exact H
       clear H
       have H:=H1
       clear H1
       have H':=am H
       clear H
       have p5 : 0 ≤ (x3_1 : Int):=of_decide_eq_true da_
       have q5 : x3_1 < (a0.size : Int):=of_decide_eq_true da_
       have hx5:=bt_at a0 x3_1
       replace p5:=eq_true p5
       replace q5:=eq_true q5
       go_wp2_with (first | ((with_reducible refine gC 50 rfl ?_);refine gL (some 16) Tryz.func50 #[.int .u8 (bt a0 x3_1)] ?_;(with_reducible refine (spec_l2Byte.calls (bt a0 x3_1) true _ A6.out).mono ?_);rintro e w' ⟨rfl,⟨nd,rfl⟩⟩;refine ⟨_,rfl,?_⟩))
       go_roundg k1
       case measure=>have:=HK1.out;omega
       case rel=>exact ⟨(wrap64 (x3_1 + 1)),rs_,H',⟨by have:=HK1.out;omega⟩,by repeat (first | exact Drawn0.refl _ | apply Drawn0.step)⟩
      ·replace c7:=Bool.eq_false_iff.mpr c7
       subst c7
       have H1 : (some false) = some r:=by rw [if_neg (show ¬ (false = true) by decide)] at H;exact H
       clear H
       have H:=H1
       clear H1
       obtain rfl:=Option.some.inj H
       have p5 : 0 ≤ (x3_1 : Int):=of_decide_eq_true da_
       have q5 : x3_1 < (a0.size : Int):=of_decide_eq_true da_
       have hx5:=bt_at a0 x3_1
       replace p5:=eq_true p5
       replace q5:=eq_true q5
       go_wp2_with (first | ((with_reducible refine gC 50 rfl ?_);refine gL (some 16) Tryz.func50 #[.int .u8 (bt a0 x3_1)] ?_;(with_reducible refine (spec_l2Byte.calls (bt a0 x3_1) false _ A6.out).mono ?_);rintro e w' ⟨rfl,⟨nd,rfl⟩⟩;refine ⟨_,rfl,?_⟩))
       go_ret
       exact ⟨fr_,dn_⟩
     ·rw [if_neg c4] at H
      exact absurd H (by simp)
    ·rw [if_neg c3] at H
     have c3b0 : decide (x3_1 < (a0.size : Int)) = false:=decide_eq_false c3
     clear c3
     obtain rfl:=Option.some.inj H
     go_wp2
     go_ret
     exact ⟨fr_,dn_⟩
def spec_StrLines.l0 : Nat → ByteArray → List ByteArray → Int → Int → Option (List ByteArray × ByteArray)
 | 0,_,_,_,_=>none
 | k + 1,x0,x4,x5,x6=>if x6 < (x0.size : Int) then (if 0 ≤ x6 then (if (bt x0 x6) = 59 then (if 0 ≤ x5 then (if x5 ≤ x6 then (if x6 ≤ (x0.size : Int) then (if x4.length < 8796093022208 then (spec_StrLines.l0 k x0 (x4 ++ [x0.extract (x5 : Int).toNat (x6 : Int).toNat]) (wrap64 (x6 + 1)) (wrap64 (x6 + 1))) else (none)) else (none)) else (none)) else (none)) else (spec_StrLines.l0 k x0 x4 x5 (wrap64 (x6 + 1)))) else (none)) else (if 0 ≤ x5 then (if x5 ≤ (x0.size : Int) then (some (x4,x0.extract (x5 : Int).toNat x0.size)) else (none)) else (none))
def spec_StrLines.f (k : Nat) (a0 : ByteArray) : Option (List ByteArray × ByteArray):=spec_StrLines.l0 k a0 (([] : List ByteArray)) 0 0
theorem spec_StrLines.mono_l : ∀ k,(∀ y0 y1 y2 y3,LeO (spec_StrLines.l0 k y0 y1 y2 y3) (spec_StrLines.l0 (k + 1) y0 y1 y2 y3))
 | 0=>fun _ _ _ _ r h=>by simp [spec_StrLines.l0] at h
 | k + 1=>by
  have ih0:=spec_StrLines.mono_l k
  ·intro y0 y1 y2 y3
   unfold spec_StrLines.l0
   repeat' first | (with_reducible first | exact ih0 _ _ _ _ | exact LeO.refl _ | exact LeO.none _ | refine LeO.ite ?_ ?_ | refine LeO.bind ?_ (fun _=>?_)) | exact ih0 _ _ _ _ | exact LeO.none _ | refine LeO.ite ?_ ?_ | refine LeO.bind ?_ (fun _=>?_)
theorem spec_StrLines.mono : ∀ a0 k,LeO (spec_StrLines.f k a0) (spec_StrLines.f (k + 1) a0):=by
 intro a0 k
 have ih0:=spec_StrLines.mono_l k
 unfold spec_StrLines.f
 repeat' first | (with_reducible first | exact ih0 _ _ _ _ | exact LeO.refl _ | exact LeO.none _ | refine LeO.ite ?_ ?_ | refine LeO.bind ?_ (fun _=>?_)) | exact ih0 _ _ _ _ | exact LeO.none _ | refine LeO.ite ?_ ?_ | refine LeO.bind ?_ (fun _=>?_)
set_option maxHeartbeats 8000000 in
set_option maxRecDepth 100000 in
theorem spec_StrLines.calls (k : Nat) (a0 : ByteArray) (r1 : List ByteArray) (r2 : ByteArray) (w : World) (h : spec_StrLines.f k a0 = some (r1,r2)) :
  Calls Tryz.prog 39 #[.string a0] w fun e w'=>∃ v0_ : Value,e = .returned (.tuple #[v0_,.string r2]) ∧ Kd.R Kd.string 9 w' w.heap.size (fun _=>True) v0_ r1 ∧ Below w.heap.size w w':=by
 have HB:=am (Below.refl w.heap.size w)
 have H : (spec_StrLines.l0 k a0 (([] : List ByteArray)) 0 0) = some (r1,r2):=h
 clear h
 obtain ⟨y682,hy682⟩ : ∃ y_ : List ByteArray,y_ = (([] : List ByteArray)):=⟨_,rfl⟩
 replace H : (spec_StrLines.l0 k a0 y682 0 0) = some (r1,r2):=by first | (rw [hy682];with_reducible exact H) | (have H2_:=(Option.bind_some _ _).symm.trans H;rw [hy682];with_reducible exact H2_) | (have H2_:=(Option.bind_some _ _).symm.trans H;with_reducible exact H2_) | with_reducible exact H | (rw [hy682];exact H) | exact H
 have Ny682:=am hy682
 clear hy682
 have H':=am H
 clear H
 go_enter Tryz.func39,Tryz.ntmps39
 iterate 4 ((try go_quiet (fail));(try go_wp2_with (first | ((with_reducible refine gD 7 rfl ?_);refine Kd.R_lit Kd.string _ 9 rfl (N:=7) rfl (xs:=([] : List ByteArray)) (inner:=[]) (ok:=fun _=>True) (okp:=fun _=>True) hr_ ?hp (fun _ hk=>hk) trivial (Below.refl _ _) (Nat.le_refl _) (by simp) ?_;(case hp=>exact (Reps.none _ _));intro v683 w2 ho3 hb hg_ hnew_;clear hg_ hnew_;(first | rw [← Ny682.out] at ho3 | (simp only [Int.reduceToNat] at ho3;rw [← Ny682.out] at ho3));have HO684:=am (Kd.R_lower ho3 (below_size (bl HB)));replace HB:=hbS HB hb;clear hb ho3))))
 go_loopg [4,5,6] k (fun kq v4 v5 v6 w'=>∃ (x4_1 : List ByteArray) (x5_1 : Int) (x6_1 : Int),v5 = .int .i64 x5_1 ∧ v6 = .int .i64 x6_1 ∧ Aside0 (spec_StrLines.l0 kq a0 x4_1 x5_1 x6_1 = some (r1,r2)) ∧ Aside0 (kq ≤ k) ∧ Aside0 (Kd.R Kd.string 9 w' w.heap.size (fun _=>True) v4 x4_1) ∧ Aside0 (Below w.heap.size w w'))
 case atStart=>exact ⟨(y682),(0),(0),rs_,rs_,H',⟨Nat.le_refl _⟩,⟨by (with_reducible repeat apply ru);exact HO684.out⟩,⟨m0_⟩⟩
 case round=>
  clear H'
  try clear p2
  try clear c3
  obtain ⟨x4_1,x5_1,x6_1,rfl,rfl,HA,HK1,HO_4,HB⟩:=hrel
  cases gk with
  | zero=>exact absurd HA.out (by simp [spec_StrLines.l0])
  | succ k1=>
   have H:=HA.out
   clear HA
   simp only [spec_StrLines.l0] at H
   by_cases c4 : x6_1 < (a0.size : Int)
   ·rw [if_pos c4] at H
    have c4b0 : decide (x6_1 < (a0.size : Int)) = true:=decide_eq_true c4
    clear c4
    by_cases c5 : 0 ≤ x6_1
    ·rw [if_pos c5] at H
     have c5b0 : decide (0 ≤ x6_1) = true:=decide_eq_true c5
     clear c5
     by_cases c7 : (bt a0 x6_1) = 59
     ·rw [if_pos c7] at H
      have c7b0 : ((bt a0 x6_1) == 59) = true:=beq_iff_eq.mpr c7
      have c7b1 : ((bt a0 x6_1) != 59) = false:=bne_eq_false_iff_eq.mpr c7
      clear c7
      by_cases c8 : 0 ≤ x5_1
      ·rw [if_pos c8] at H
       have c8b0:=eq_true c8
       have c8b1 : decide (0 ≤ x5_1) = true:=decide_eq_true c8
       clear c8
       by_cases c9 : x5_1 ≤ x6_1
       ·rw [if_pos c9] at H
        have c9b0:=eq_true c9
        have c9b1 : decide (x5_1 ≤ x6_1) = true:=decide_eq_true c9
        clear c9
        by_cases c10 : x6_1 ≤ (a0.size : Int)
        ·rw [if_pos c10] at H
         have c10b0:=eq_true c10
         have c10b1 : decide (x6_1 ≤ (a0.size : Int)) = true:=decide_eq_true c10
         clear c10
         by_cases c11 : x4_1.length < 8796093022208
         ·rw [if_pos c11] at H
          have LMc11:=am c11
          clear c11
          obtain ⟨y685,hy685⟩ : ∃ y_ : List ByteArray,y_ = (x4_1 ++ [a0.extract (x5_1 : Int).toNat (x6_1 : Int).toNat]):=⟨_,rfl⟩
          replace H : (spec_StrLines.l0 k1 a0 y685 (wrap64 (x6_1 + 1)) (wrap64 (x6_1 + 1))) = some (r1,r2):=by first | (rw [hy685];with_reducible exact H) | (have H2_:=(Option.bind_some _ _).symm.trans H;rw [hy685];with_reducible exact H2_) | (have H2_:=(Option.bind_some _ _).symm.trans H;with_reducible exact H2_) | with_reducible exact H | (rw [hy685];exact H) | exact H
          have Ny685:=am hy685
          clear hy685
          have H':=am H
          clear H
          have p6 : 0 ≤ (x6_1 : Int):=of_decide_eq_true da_
          have q6 : x6_1 < (a0.size : Int):=of_decide_eq_true da_
          have hx6:=bt_at a0 x6_1
          replace p6:=eq_true p6
          replace q6:=eq_true q6
          iterate 4 ((try go_quiet (fail));(try go_wp2_with (first | ((with_reducible refine gate_builtin (b:=.append) (xs:=#[.tmp 18,.tmp 23]) rfl ?_);at_builtin;refine Kd.R_append Kd.string (w0:=w) w.heap.size rfl (.tmp 18) (.tmp 23) 51 9 (.string ⟨#[]⟩) 16 rfl Tryz.underlying51 info9 rfl (by decide) (by omega) u4 x4_1 (a0.extract (x5_1 : Int).toNat (x6_1 : Int).toNat) [.string (a0.extract (x5_1 : Int).toNat (x6_1 : Int).toNat)] (fun _=>True) (fun _=>False) rfl rfl ?aP (fun _ hk=>hk.elim) ?aF ?aO ?aB ?aS ?aL ?_;(case aP=>exact rfl);(case aB=>exact (bl HB));(case aF=>exact (fun _ _=>trivial));(case aO=>exact (rs HO_4));(case aS=>exact (below_size (bl HB)));(case aL=>have:=LMc11.out;omega);intro v686 w12 ho hb hg hat;rw [← Ny685.out] at ho;replace HB:=am hb;have HO687:=am (ho);clear HO_4;clear ho hb hg hat))))
          go_roundg k1
          case measure=>have:=HK1.out;omega
          case rel=>exact ⟨(y685),(wrap64 (x6_1 + 1)),(wrap64 (x6_1 + 1)),rs_,rs_,H',⟨by have:=HK1.out;omega⟩,⟨by (with_reducible repeat apply ru);exact HO687.out⟩,⟨m0_⟩⟩
         ·rw [if_neg c11] at H
          exact absurd H (by simp)
        ·rw [if_neg c10] at H
         exact absurd H (by simp)
       ·rw [if_neg c9] at H
        exact absurd H (by simp)
      ·rw [if_neg c8] at H
       exact absurd H (by simp)
     ·rw [if_neg c7] at H
      have c7b0 : ((bt a0 x6_1) == 59) = false:=beq_eq_false_iff_ne.mpr c7
      have c7b1 : ((bt a0 x6_1) != 59) = true:=bne_iff_ne.mpr c7
      have H':=am H
      clear H
      have p6 : 0 ≤ (x6_1 : Int):=of_decide_eq_true da_
      have q6 : x6_1 < (a0.size : Int):=of_decide_eq_true da_
      have hx6:=bt_at a0 x6_1
      replace p6:=eq_true p6
      replace q6:=eq_true q6
      go_wp2
      repeat (go_quiet (fail);try go_wp2)
      go_roundg k1
      case measure=>have:=HK1.out;omega
      case rel=>exact ⟨(x4_1),(x5_1),(wrap64 (x6_1 + 1)),rs_,rs_,H',⟨by have:=HK1.out;omega⟩,⟨by (with_reducible repeat apply ru);exact HO_4.out⟩,⟨m0_⟩⟩
    ·rw [if_neg c5] at H
     exact absurd H (by simp)
   ·rw [if_neg c4] at H
    have c4b0 : decide (x6_1 < (a0.size : Int)) = false:=decide_eq_false c4
    clear c4
    by_cases c13 : 0 ≤ x5_1
    ·rw [if_pos c13] at H
     have c13b0:=eq_true c13
     have c13b1 : decide (0 ≤ x5_1) = true:=decide_eq_true c13
     clear c13
     by_cases c14 : x5_1 ≤ (a0.size : Int)
     ·rw [if_pos c14] at H
      have c14b0:=eq_true c14
      have c14b1 : decide (x5_1 ≤ (a0.size : Int)) = true:=decide_eq_true c14
      clear c14
      simp only [Option.some.injEq,Prod.mk.injEq] at H
      obtain ⟨rfl,rfl⟩:=H
      go_wp2
      repeat (go_quiet (fail);try go_wp2)
      go_ret2
      exact ⟨_,fi_,by (with_reducible repeat apply ru);exact HO_4.out,m0_⟩
     ·rw [if_neg c14] at H
      exact absurd H (by simp)
    ·rw [if_neg c13] at H
     exact absurd H (by simp)
def spec_StrOk.l0 : Nat → List ByteArray → ByteArray → Int → Option (Bool)
 | 0,_,_,_=>none
 | k + 1,x3,x4,x5=>if x5 < (x3.length : Int) then (if 0 ≤ x5 then ((spec_LinOk.f k (rdOf ByteArray.empty x3 x5)).bind fun t693=>(if t693 = true then (spec_StrOk.l0 k x3 x4 (wrap64 (x5 + 1))) else (some false))) else (none)) else ((spec_LinOk.f k x4).bind fun t694=>(some t694))
def spec_StrOk.f (k : Nat) (a0 : ByteArray) : Option (Bool):=if (a0.size : Int) > 120 then (some false) else ((spec_StrLines.f k a0).bind fun bt688=>(spec_StrOk.l0 k bt688.1 bt688.2 0))
theorem spec_StrOk.mono_l : ∀ k,(∀ y0 y1 y2,LeO (spec_StrOk.l0 k y0 y1 y2) (spec_StrOk.l0 (k + 1) y0 y1 y2))
 | 0=>fun _ _ _ r h=>by simp [spec_StrOk.l0] at h
 | k + 1=>by
  have ih0:=spec_StrOk.mono_l k
  ·intro y0 y1 y2
   unfold spec_StrOk.l0
   repeat' first | (with_reducible first | exact ih0 _ _ _ | exact spec_LinOk.mono _ _ | exact spec_StrLines.mono _ _ | exact LeO.refl _ | exact LeO.none _ | refine LeO.ite ?_ ?_ | refine LeO.bind ?_ (fun _=>?_)) | exact ih0 _ _ _ | exact spec_LinOk.mono _ _ | exact spec_StrLines.mono _ _ | exact LeO.none _ | refine LeO.ite ?_ ?_ | refine LeO.bind ?_ (fun _=>?_)
theorem spec_StrOk.mono : ∀ a0 k,LeO (spec_StrOk.f k a0) (spec_StrOk.f (k + 1) a0):=by
 intro a0 k
 have ih0:=spec_StrOk.mono_l k
 unfold spec_StrOk.f
 repeat' first | (with_reducible first | exact ih0 _ _ _ | exact spec_LinOk.mono _ _ | exact spec_StrLines.mono _ _ | exact LeO.refl _ | exact LeO.none _ | refine LeO.ite ?_ ?_ | refine LeO.bind ?_ (fun _=>?_)) | exact ih0 _ _ _ | exact spec_LinOk.mono _ _ | exact spec_StrLines.mono _ _ | exact LeO.none _ | refine LeO.ite ?_ ?_ | refine LeO.bind ?_ (fun _=>?_)
set_option maxHeartbeats 8000000 in
set_option maxRecDepth 100000 in
theorem spec_StrOk.calls (k : Nat) (a0 : ByteArray) (r : Bool) (w : World) (h : spec_StrOk.f k a0 = some r) :
  Calls Tryz.prog 33 #[.string a0] w fun e w'=>e = .returned (.bool r) ∧ Below w.heap.size w w':=by
 have HB:=am (Below.refl w.heap.size w)
 have H : (if (a0.size : Int) > 120 then (some false) else ((spec_StrLines.f k a0).bind fun bt688=>(spec_StrOk.l0 k bt688.1 bt688.2 0))) = some r:=h
 clear h
 by_cases c2 : (a0.size : Int) > 120
 ·rw [if_pos c2] at H
  have c2b0 : decide (120 < (a0.size : Int)) = true:=decide_eq_true c2
  have c2b1 : decide (120 < a0.size) = true:=decide_eq_true (by omega)
  clear c2
  obtain rfl:=Option.some.inj H
  go_enter Tryz.func33,Tryz.ntmps33
  go_wp2
  go_ret
  exact ⟨fi_,m0_⟩
 ·rw [if_neg c2] at H
  have c2b0 : decide (120 < (a0.size : Int)) = false:=decide_eq_false c2
  have c2b1 : decide (120 < a0.size) = false:=decide_eq_false (by omega)
  clear c2
  obtain ⟨⟨t688,t689⟩,A3,H⟩:=bse H
  try dsimp only at H
  have H':=am H
  clear H
  go_enter Tryz.func33,Tryz.ntmps33
  go_wp2_with (first | ((with_reducible refine gC 39 rfl ?_);refine gL (some 11) Tryz.func39 #[.string a0] ?_;(with_reducible refine (spec_StrLines.calls k a0 t688 t689 _ A3.out).mono ?_);rintro e w4 ⟨v690,rfl,ho0,hb⟩;refine ⟨_,rfl,?_⟩;have HO691:=am (Kd.R_lower ho0 (below_size (bl HB)));replace HB:=hbS HB hb;(try clear hb);(try clear ho0)))
  go_loopg [5] k (fun kq v5 w'=>∃ (x5_1 : Int),v5 = .int .i64 x5_1 ∧ Aside0 (spec_StrOk.l0 kq t688 t689 x5_1 = some r) ∧ Aside0 (kq ≤ k) ∧ Aside0 (Kd.R Kd.string 9 w' w.heap.size (fun _=>True) v690 t688) ∧ Aside0 (Below w.heap.size w w'))
  case atStart=>exact ⟨(0),rs_,H',⟨Nat.le_refl _⟩,⟨by (with_reducible repeat apply ru);exact HO691.out⟩,⟨m0_⟩⟩
  case round=>
   clear H'
   try clear c2
   try clear c2b0
   try clear c2b1
   try clear p2
   try clear c3
   obtain ⟨x5_1,rfl,HA,HK1,HO_3,HB⟩:=hrel
   cases gk with
   | zero=>exact absurd HA.out (by simp [spec_StrOk.l0])
   | succ k1=>
    have H:=HA.out
    clear HA
    simp only [spec_StrOk.l0] at H
    by_cases c5 : x5_1 < (t688.length : Int)
    ·rw [if_pos c5] at H
     have c5b0 : decide (x5_1 < (t688.length : Int)) = true:=decide_eq_true c5
     clear c5
     by_cases c6 : 0 ≤ x5_1
     ·rw [if_pos c6] at H
      have c6b0 : decide (0 ≤ x5_1) = true:=decide_eq_true c6
      clear c6
      obtain ⟨t693,A7,H⟩:=bse H
      try dsimp only at H
      by_cases c8 : t693 = true
      ·subst c8
       have H1 : (spec_StrOk.l0 k1 t688 t689 (wrap64 (x5_1 + 1))) = some r:=by rw [if_pos rfl] at H;exact H
       clear H
       have H:=H1
       clear H1
       have H':=am H
       clear H
       obtain ⟨Ao9,co9,eo9⟩:=Kd.R_slice HO_3.out
       subst eo9
       have p692 : 0 ≤ (x5_1 : Int):=of_decide_eq_true da_
       have q692 : x5_1 < (t688.length : Int):=of_decide_eq_true da_
       obtain ⟨ad692,e692,hx692_0⟩:=Kd.at_string (Kd.R_reads' HO_3.out).2.2 x5_1 p692 q692
       cases e692
       replace p692:=eq_true p692
       replace q692:=eq_true q692
       go_wp2_with (first | ((with_reducible refine gC 17 rfl ?_);refine gL (some 24) Tryz.func17 #[.string (rdOf ByteArray.empty t688 x5_1)] ?_;(with_reducible refine (spec_LinOk.calls k1 (rdOf ByteArray.empty t688 x5_1) true _ A7.out).mono ?_);rintro e w' ⟨rfl,⟨nd,rfl⟩⟩;refine ⟨_,rfl,?_⟩))
       go_roundg k1
       case measure=>have:=HK1.out;omega
       case rel=>exact ⟨(wrap64 (x5_1 + 1)),rs_,H',⟨by have:=HK1.out;omega⟩,⟨by (with_reducible repeat apply ru);exact HO_3.out⟩,⟨m0_⟩⟩
      ·replace c8:=Bool.eq_false_iff.mpr c8
       subst c8
       have H1 : (some false) = some r:=by rw [if_neg (show ¬ (false = true) by decide)] at H;exact H
       clear H
       have H:=H1
       clear H1
       obtain rfl:=Option.some.inj H
       obtain ⟨Ao10,co10,eo10⟩:=Kd.R_slice HO_3.out
       subst eo10
       have p692 : 0 ≤ (x5_1 : Int):=of_decide_eq_true da_
       have q692 : x5_1 < (t688.length : Int):=of_decide_eq_true da_
       obtain ⟨ad692,e692,hx692_0⟩:=Kd.at_string (Kd.R_reads' HO_3.out).2.2 x5_1 p692 q692
       cases e692
       replace p692:=eq_true p692
       replace q692:=eq_true q692
       go_wp2_with (first | ((with_reducible refine gC 17 rfl ?_);refine gL (some 24) Tryz.func17 #[.string (rdOf ByteArray.empty t688 x5_1)] ?_;(with_reducible refine (spec_LinOk.calls k1 (rdOf ByteArray.empty t688 x5_1) false _ A7.out).mono ?_);rintro e w' ⟨rfl,⟨nd,rfl⟩⟩;refine ⟨_,rfl,?_⟩))
       go_ret
       exact ⟨fi_,m0_⟩
     ·rw [if_neg c6] at H
      exact absurd H (by simp)
    ·rw [if_neg c5] at H
     have c5b0 : decide (x5_1 < (t688.length : Int)) = false:=decide_eq_false c5
     clear c5
     obtain ⟨t694,A11,H⟩:=bse H
     try dsimp only at H
     obtain rfl:=Option.some.inj H
     obtain ⟨Ao12,co12,eo12⟩:=Kd.R_slice HO_3.out
     subst eo12
     go_wp2_with (first | ((with_reducible refine gC 17 rfl ?_);refine gL (some 27) Tryz.func17 #[.string t689] ?_;(with_reducible refine (spec_LinOk.calls k1 t689 t694 _ A11.out).mono ?_);rintro e w' ⟨rfl,⟨nd,rfl⟩⟩;refine ⟨_,rfl,?_⟩))
     go_ret
     exact ⟨fi_,m0_⟩
end
section
attribute [local go_sem] max2_int min2_int max_two min_two max_three min_three max_four min_four
attribute [local go_sem high] eqA34
def impl_EndPoint_86.l0 : Nat → List (S34) → Int → Int → Int → Int → Option (Int)
 | 0,_,_,_,_,_=>none
 | k + 1,x0,x7,x8,x288000,x288001=>if x8 < x7 then (if 0 ≤ x8 then (if x8 < (x0.length : Int) then (if (x288000 == ((rd_T34 x0 x8).f0) && (x288001 == ((rd_T34 x0 x8).f1))) = true then (some x8) else (impl_EndPoint_86.l0 k x0 x7 (wrap64 (x8 + 1)) x288000 x288001)) else (none)) else (none)) else (some (-1))
def impl_EndPoint_86.f (k : Nat) (l0 : List (S34)) (a1_0 : Int) (a1_1 : Int) : Option (Int):=impl_EndPoint_86.l0 k l0 (l0.length : Int) 0 a1_0 a1_1
theorem impl_EndPoint_86.mono_l : ∀ k,(∀ y0 y1 y2 y3 y4,LeO (impl_EndPoint_86.l0 k y0 y1 y2 y3 y4) (impl_EndPoint_86.l0 (k + 1) y0 y1 y2 y3 y4))
 | 0=>fun _ _ _ _ _ r h=>by simp [impl_EndPoint_86.l0] at h
 | k + 1=>by
  have ih0:=impl_EndPoint_86.mono_l k
  ·intro y0 y1 y2 y3 y4
   unfold impl_EndPoint_86.l0
   repeat' first | (with_reducible first | exact ih0 _ _ _ _ _ | exact LeO.refl _ | exact LeO.none _ | refine LeO.ite ?_ ?_ | refine LeO.bind ?_ (fun _=>?_)) | exact ih0 _ _ _ _ _ | exact LeO.none _ | refine LeO.ite ?_ ?_ | refine LeO.bind ?_ (fun _=>?_)
theorem impl_EndPoint_86.mono : ∀ a0 a1 a2 k,LeO (impl_EndPoint_86.f k a0 a1 a2) (impl_EndPoint_86.f (k + 1) a0 a1 a2):=by
 intro a0 a1 a2 k
 have ih0:=impl_EndPoint_86.mono_l k
 unfold impl_EndPoint_86.f
 repeat' first | (with_reducible first | exact ih0 _ _ _ _ _ | exact LeO.refl _ | exact LeO.none _ | refine LeO.ite ?_ ?_ | refine LeO.bind ?_ (fun _=>?_)) | exact ih0 _ _ _ _ _ | exact LeO.none _ | refine LeO.ite ?_ ?_ | refine LeO.bind ?_ (fun _=>?_)
set_option maxHeartbeats 8000000 in
set_option maxRecDepth 100000 in
theorem impl_EndPoint_86.calls (k : Nat) (A0 : Option Addr) (c0 : Nat) (l0 : List (S34)) (a1_0 : Int) (a1_1 : Int) (r : Int) (w : World) (hr0 : Kd.C k34 w A0 l0.length l0) (hc0 : l0.length ≤ c0) (h : impl_EndPoint_86.f k l0 a1_0 a1_1 = some r) :
  Calls Tryz.prog 86 #[.slice A0 l0.length c0,.agg #[.int .i64 a1_0,.int .i64 a1_1]] w fun e w'=>e = .returned (.int .i64 r) ∧ Below w.heap.size w w':=by
 have hu34:=Tryz.underlying34
 have HR0:=am hr0
 have HC0:=am hc0
 clear hr0 hc0
 have HB:=am (Below.refl w.heap.size w)
 have H : (impl_EndPoint_86.l0 k l0 (l0.length : Int) 0 a1_0 a1_1) = some r:=h
 clear h
 have H':=am H
 clear H
 go_enter Tryz.func86,Tryz.ntmps86
 iterate 4 ((try go_quiet (fail));(try go_wp2_with (first | ((with_reducible refine gD 3 rfl ?_);refine box_event rfl (N:=3) rfl (cs:=#[.int .i64 a1_0,.int .i64 a1_1]) (t:=34) hr_ ?_;intro gb287 hg w3 hbox hb;have BK287:=am hbox;have GW287:=gwE HB hg;have GE287:=gwE HB hg;replace HB:=hbS HB hb;clear hb hbox hg))))
 go_loopg [8] k (fun kq v8 w'=>∃ (x8_1 : Int),v8 = .int .i64 x8_1 ∧ Aside0 (impl_EndPoint_86.l0 kq l0 (l0.length : Int) x8_1 a1_0 a1_1 = some r) ∧ Aside0 (kq ≤ k) ∧ Aside0 (w'.heap[gb287]? = some (.cells #[.int .i64 a1_0,.int .i64 a1_1] 34 (0,0))) ∧ Aside0 (Below w.heap.size w w'))
 case atStart=>exact ⟨(0),rs_,H',⟨Nat.le_refl _⟩,⟨bk BK287⟩,⟨m2_⟩⟩
 case round=>
  clear H'
  try clear p2
  obtain ⟨x8_1,rfl,HA,HK1,BK287,HB⟩:=hrel
  cases gk with
  | zero=>exact absurd HA.out (by simp [impl_EndPoint_86.l0])
  | succ k1=>
   have H:=HA.out
   clear HA
   simp only [impl_EndPoint_86.l0] at H
   by_cases c4 : x8_1 < (l0.length : Int)
   ·rw [if_pos c4] at H
    have c4b0 : decide (x8_1 < (l0.length : Int)) = true:=decide_eq_true c4
    clear c4
    by_cases c5 : 0 ≤ x8_1
    ·rw [if_pos c5] at H
     have c5b0 : decide (0 ≤ x8_1) = true:=decide_eq_true c5
     clear c5
     by_cases c6 : x8_1 < (l0.length : Int)
     ·rw [if_pos c6] at H
      have c6b0 : decide (x8_1 < (l0.length : Int)) = true:=decide_eq_true c6
      clear c6
      by_cases c7 : (a1_0 == ((rd_T34 l0 x8_1).f0) && (a1_1 == ((rd_T34 l0 x8_1).f1))) = true
      ·rw [if_pos c7] at H
       have c7b0 : (a1_0 == ((rd_T34 l0 x8_1).f0) && (a1_1 == ((rd_T34 l0 x8_1).f1))) = true:=c7
       (try (have c7b1 : decide (a1_0 = ((rd_T34 l0 x8_1).f0) && (a1_1 == ((rd_T34 l0 x8_1).f1))) = true:=by simpa using c7))
       (try (have c7b2 : (a1_0 == ((rd_T34 l0 x8_1).f0) && (a1_1 == ((rd_T34 l0 x8_1).f1))) = true:=by simpa using c7))
       clear c7
       obtain rfl:=Option.some.inj H
       have:=bcell BK287 0
       have:=bcell BK287 1
       have:=bfz BK287 0
       have:=bfz BK287 1
       have p288 : 0 ≤ (x8_1 : Int):=of_decide_eq_true da_
       have q288 : x8_1 < (l0.length : Int):=of_decide_eq_true da_
       obtain ⟨ad288,e288,hx288_0,hx288_1⟩:=at_T34 HR0.out x8_1 p288 q288
       cases e288
       replace hx288_0:=bcl HB hx288_0
       replace hx288_1:=bcl HB hx288_1
       replace p288:=eq_true p288
       replace q288:=eq_true q288
       go_wp2
       repeat (go_quiet (fail);try go_wp2)
       go_ret
       exact ⟨fi_,m2_⟩
      ·rw [if_neg c7] at H
       have c7b0 : (a1_0 == ((rd_T34 l0 x8_1).f0) && (a1_1 == ((rd_T34 l0 x8_1).f1))) = false:=by simpa using c7
       (try (have c7b1 : decide (a1_0 = ((rd_T34 l0 x8_1).f0) && (a1_1 == ((rd_T34 l0 x8_1).f1))) = false:=by simpa using c7))
       (try (have c7b2 : (a1_0 == ((rd_T34 l0 x8_1).f0) && (a1_1 == ((rd_T34 l0 x8_1).f1))) = false:=by simpa using c7))
       (try (have c7b3 : ¬ (a1_0 = ((rd_T34 l0 x8_1).f0) && (a1_1 == ((rd_T34 l0 x8_1).f1))):=by simpa using c7))
       clear c7
       have H':=am H
       clear H
       have:=bcell BK287 0
       have:=bcell BK287 1
       have:=bfz BK287 0
       have:=bfz BK287 1
       have p288 : 0 ≤ (x8_1 : Int):=of_decide_eq_true da_
       have q288 : x8_1 < (l0.length : Int):=of_decide_eq_true da_
       obtain ⟨ad288,e288,hx288_0,hx288_1⟩:=at_T34 HR0.out x8_1 p288 q288
       cases e288
       replace hx288_0:=bcl HB hx288_0
       replace hx288_1:=bcl HB hx288_1
       replace p288:=eq_true p288
       replace q288:=eq_true q288
       go_wp2
       repeat (go_quiet (fail);try go_wp2)
       go_roundg k1
       case measure=>have:=HK1.out;omega
       case rel=>exact ⟨(wrap64 (x8_1 + 1)),rs_,H',⟨by have:=HK1.out;omega⟩,⟨bk BK287⟩,⟨m2_⟩⟩
     ·rw [if_neg c6] at H
      exact absurd H (by simp)
    ·rw [if_neg c5] at H
     exact absurd H (by simp)
   ·rw [if_neg c4] at H
    have c4b0 : decide (x8_1 < (l0.length : Int)) = false:=decide_eq_false c4
    clear c4
    obtain rfl:=Option.some.inj H
    go_wp2
    repeat (go_quiet (fail);try go_wp2)
    go_ret
    exact ⟨fi_,m2_⟩
end
section
attribute [local go_sem] max2_int min2_int max_two min_two max_three min_three max_four min_four
def impl_EndPoint_53.f (k : Nat) (l0 : List (S34)) (a1_0 : Int) (a1_1 : Int) : Option (Bool):=(impl_EndPoint_86.f k l0 a1_0 a1_1).bind fun t290=>(some (decide (t290 ≥ 0)))
theorem impl_EndPoint_53.mono : ∀ a0 a1 a2 k,LeO (impl_EndPoint_53.f k a0 a1 a2) (impl_EndPoint_53.f (k + 1) a0 a1 a2):=by
 intro a0 a1 a2 k
 unfold impl_EndPoint_53.f
 repeat' first | (with_reducible first | exact impl_EndPoint_86.mono _ _ _ _ | exact LeO.refl _ | exact LeO.none _ | refine LeO.ite ?_ ?_ | refine LeO.bind ?_ (fun _=>?_)) | exact impl_EndPoint_86.mono _ _ _ _ | exact LeO.none _ | refine LeO.ite ?_ ?_ | refine LeO.bind ?_ (fun _=>?_)
set_option maxHeartbeats 8000000 in
set_option maxRecDepth 100000 in
theorem impl_EndPoint_53.calls (k : Nat) (A0 : Option Addr) (c0 : Nat) (l0 : List (S34)) (a1_0 : Int) (a1_1 : Int) (r : Bool) (w : World) (hr0 : Kd.C k34 w A0 l0.length l0) (hc0 : l0.length ≤ c0) (h : impl_EndPoint_53.f k l0 a1_0 a1_1 = some r) :
  Calls Tryz.prog 53 #[.slice A0 l0.length c0,.agg #[.int .i64 a1_0,.int .i64 a1_1]] w fun e w'=>e = .returned (.bool r) ∧ Below w.heap.size w w':=by
 have hu34:=Tryz.underlying34
 have HR0:=am hr0
 have HC0:=am hc0
 clear hr0 hc0
 have HB:=am (Below.refl w.heap.size w)
 have H : ((impl_EndPoint_86.f k l0 a1_0 a1_1).bind fun t290=>(some (decide (t290 ≥ 0)))) = some r:=h
 clear h
 obtain ⟨t290,A3,H⟩:=bse H
 try dsimp only at H
 obtain rfl:=Option.some.inj H
 go_enter Tryz.func53,Tryz.ntmps53
 go_wp2_with (first | ((with_reducible refine gD 3 rfl ?_);refine box_event rfl (N:=3) rfl (cs:=#[.int .i64 a1_0,.int .i64 a1_1]) (t:=34) hr_ ?_;intro gb289 hg w4 hbox hb;have BK289:=am hbox;have GW289:=gwE HB hg;have GE289:=gwE HB hg;replace HB:=hbS HB hb;clear hb hbox hg;have:=bcell BK289 0;have:=bcell BK289 1;have:=bfz BK289 0;have:=bfz BK289 1) | ((with_reducible refine gC 86 rfl ?_);refine gL (some 7) Tryz.func86 #[.slice A0 l0.length c0,.agg #[.int .i64 a1_0,.int .i64 a1_1]] ?_;(with_reducible refine (impl_EndPoint_86.calls k _ _ l0 a1_0 a1_1 t290 _ ?side1 ?side2 A3.out).mono ?_);(case side1=>exact m1_);(case side2=>exact HC0.out);rintro e w6 ⟨rfl,hb⟩;refine ⟨_,rfl,?_⟩;replace BK289:=bkB BK289 hb;replace HB:=hbS HB hb;(try clear hb)))
 go_ret
 exact ⟨fi_,m2_⟩
def impl_MapOk.l0 : Nat → List (S34) → Int → Int → List (S34) → Option (Bool)
 | 0,_,_,_,_=>none
 | k + 1,x6,x7,x8,x292000=>if x8 < x7 then (if 0 ≤ x8 then (if x8 < (x6.length : Int) then ((impl_EndInside.f ((rd_T34 x6 x8).f0) ((rd_T34 x6 x8).f1)).bind fun t294=>(if t294 = true then (if x8 ≤ (x292000.length : Int) then ((impl_EndPoint_53.f k (x292000.take (x8 : Int).toNat) ((rd_T34 x6 x8).f0) ((rd_T34 x6 x8).f1)).bind fun t299=>(if t299 = true then (some false) else (impl_MapOk.l0 k x6 x7 (wrap64 (x8 + 1)) x292000))) else (none)) else (some false))) else (none)) else (none)) else (some (decide ((x292000.length : Int) ≤ 6)))
def impl_MapOk.f (k : Nat) (l0_0 : List (S34)) : Option (Bool):=impl_MapOk.l0 k l0_0 (l0_0.length : Int) 0 l0_0
theorem impl_MapOk.mono_l : ∀ k,(∀ y0 y1 y2 y3,LeO (impl_MapOk.l0 k y0 y1 y2 y3) (impl_MapOk.l0 (k + 1) y0 y1 y2 y3))
 | 0=>fun _ _ _ _ r h=>by simp [impl_MapOk.l0] at h
 | k + 1=>by
  have ih0:=impl_MapOk.mono_l k
  ·intro y0 y1 y2 y3
   unfold impl_MapOk.l0
   repeat' first | (with_reducible first | exact ih0 _ _ _ _ | exact impl_EndPoint_53.mono _ _ _ _ | exact LeO.refl _ | exact LeO.none _ | refine LeO.ite ?_ ?_ | refine LeO.bind ?_ (fun _=>?_)) | exact ih0 _ _ _ _ | exact impl_EndPoint_53.mono _ _ _ _ | exact LeO.none _ | refine LeO.ite ?_ ?_ | refine LeO.bind ?_ (fun _=>?_)
theorem impl_MapOk.mono : ∀ a0 k,LeO (impl_MapOk.f k a0) (impl_MapOk.f (k + 1) a0):=by
 intro a0 k
 have ih0:=impl_MapOk.mono_l k
 unfold impl_MapOk.f
 repeat' first | (with_reducible first | exact ih0 _ _ _ _ | exact impl_EndPoint_53.mono _ _ _ _ | exact LeO.refl _ | exact LeO.none _ | refine LeO.ite ?_ ?_ | refine LeO.bind ?_ (fun _=>?_)) | exact ih0 _ _ _ _ | exact impl_EndPoint_53.mono _ _ _ _ | exact LeO.none _ | refine LeO.ite ?_ ?_ | refine LeO.bind ?_ (fun _=>?_)
def impl_MapOk.T4 : Bool × List (List Nat × List Nat):=(true,[([],[]),([0],[0]),([1],[1]),([2,1],[2]),([3],[3]),([4,3],[3,4]),([3],[3]),([5,6,3],[3,5,6]),([3],[3]),([7,8,3,3],[3,7,8]),([3,9],[3,9])])
def impl_MapOk.B4 : List Nat:=[0,1,3,7,15,31,15,127,15,511,1023]
theorem impl_MapOk.tab4 : rtab .any (opsOf Tryz.f20 4) = impl_MapOk.T4:=by kernel_rfl
theorem impl_MapOk.bits4 : waitsOk impl_MapOk.T4.2 impl_MapOk.B4 = true:=by kernel_rfl
set_option maxHeartbeats 8000000 in
set_option maxRecDepth 100000 in
theorem impl_MapOk.calls (k : Nat) (A0_0 : Option Addr) (c0_0 : Nat) (l0_0 : List (S34)) (r : Bool) (w : World) (hr0_0 : Kd.C k34 w A0_0 l0_0.length l0_0) (hc0_0 : l0_0.length ≤ c0_0) (h : impl_MapOk.f k l0_0 = some r) :
  Calls Tryz.prog 20 #[.agg #[.slice A0_0 l0_0.length c0_0]] w fun e w'=>e = .returned (.bool r) ∧ Below w.heap.size w w':=by
 have hu25:=Tryz.underlying25
 have hu34:=Tryz.underlying34
 have HR0_0:=am hr0_0
 have HC0_0:=am hc0_0
 clear hr0_0 hc0_0
 have HB:=am (Below.refl w.heap.size w)
 have H : (impl_MapOk.l0 k l0_0 (l0_0.length : Int) 0 l0_0) = some r:=h
 clear h
 have H':=am H
 clear H
 go_enter Tryz.func20,Tryz.ntmps20
 go_wp2_with (first | ((with_reducible refine gD 1 rfl ?_);refine box_event rfl (N:=1) rfl (cs:=#[.slice A0_0 l0_0.length c0_0]) (t:=25) hr_ ?_;intro gb291 hg w2 hbox hb;have BK291:=am hbox;have GW291:=gwE HB hg;have GE291:=gwE HB hg;replace HB:=hbS HB hb;clear hb hbox hg;have hcz3_0:=bcell BK291 0;have hfz3_0:=blk_frozen BK291.out 0))
 go_loopg [8] k (fun kq v8 w'=>∃ (x8_1 : Int),v8 = .int .i64 x8_1 ∧ Aside0 (impl_MapOk.l0 kq l0_0 (l0_0.length : Int) x8_1 l0_0 = some r) ∧ Aside0 (kq ≤ k) ∧ Aside0 (w'.heap[gb291]? = some (.cells #[(.slice A0_0 l0_0.length c0_0)] 25 (0,0))) ∧ Aside0 (Below w.heap.size w w'))
 case atStart=>exact ⟨(0),rs_,H',⟨Nat.le_refl _⟩,⟨bk BK291⟩,⟨m2_⟩⟩
 case round=>
  clear H'
  try clear c2
  try clear p2
  try clear hcz3_0
  try clear hfz3_0
  obtain ⟨x8_1,rfl,HA,HK1,BK291,HB⟩:=hrel
  cases gk with
  | zero=>exact absurd HA.out (by simp [impl_MapOk.l0])
  | succ k1=>
   have H:=HA.out
   clear HA
   simp only [impl_MapOk.l0] at H
   by_cases c4 : x8_1 < (l0_0.length : Int)
   ·rw [if_pos c4] at H
    have c4b0 : decide (x8_1 < (l0_0.length : Int)) = true:=decide_eq_true c4
    clear c4
    by_cases c5 : 0 ≤ x8_1
    ·rw [if_pos c5] at H
     have c5b0 : decide (0 ≤ x8_1) = true:=decide_eq_true c5
     clear c5
     by_cases c6 : x8_1 < (l0_0.length : Int)
     ·rw [if_pos c6] at H
      have c6b0 : decide (x8_1 < (l0_0.length : Int)) = true:=decide_eq_true c6
      clear c6
      obtain ⟨t294,A7,H⟩:=bse H
      try dsimp only at H
      by_cases c8 : t294 = true
      ·subst c8
       have H1 : (if x8_1 ≤ (l0_0.length : Int) then ((impl_EndPoint_53.f k1 (l0_0.take (x8_1 : Int).toNat) ((rd_T34 l0_0 x8_1).f0) ((rd_T34 l0_0 x8_1).f1)).bind fun t299=>(if t299 = true then (some false) else (impl_MapOk.l0 k1 l0_0 (l0_0.length : Int) (wrap64 (x8_1 + 1)) l0_0))) else (none)) = some r:=by rw [if_pos rfl] at H;exact H
       clear H
       have H:=H1
       clear H1
       have c9b0:=eq_true (of_decide_eq_true da_ : 0 ≤ x8_1)
       by_cases c10 : x8_1 ≤ (l0_0.length : Int)
       ·rw [if_pos c10] at H
        have c10b0:=eq_true c10
        have c10b1 : decide (x8_1 ≤ (l0_0.length : Int)) = true:=decide_eq_true c10
        clear c10
        obtain ⟨y295,hy295⟩ : ∃ y_ : List (S34),y_ = (l0_0.take (x8_1 : Int).toNat):=⟨_,rfl⟩
        replace H : ((impl_EndPoint_53.f k1 y295 ((rd_T34 l0_0 x8_1).f0) ((rd_T34 l0_0 x8_1).f1)).bind fun t299=>(if t299 = true then (some false) else (impl_MapOk.l0 k1 l0_0 (l0_0.length : Int) (wrap64 (x8_1 + 1)) l0_0))) = some r:=by first | (rw [hy295];with_reducible exact H) | (have H2_:=(Option.bind_some _ _).symm.trans H;rw [hy295];with_reducible exact H2_) | (have H2_:=(Option.bind_some _ _).symm.trans H;with_reducible exact H2_) | with_reducible exact H | (rw [hy295];exact H) | exact H
        have Ny295:=am hy295
        clear hy295
        obtain ⟨t299,A11,H⟩:=bse H
        try dsimp only at H
        by_cases c12 : t299 = true
        ·subst c12
         have H1 : (some false) = some r:=by rw [if_pos rfl] at H;exact H
         clear H
         have H:=H1
         clear H1
         obtain rfl:=Option.some.inj H
         have p292 : 0 ≤ (x8_1 : Int):=of_decide_eq_true da_
         have q292 : x8_1 < (l0_0.length : Int):=of_decide_eq_true da_
         obtain ⟨ad292,e292,hx292_0,hx292_1⟩:=at_T34 HR0_0.out x8_1 p292 q292
         cases e292
         replace hx292_0:=bcl HB hx292_0
         replace hx292_1:=bcl HB hx292_1
         replace p292:=eq_true p292
         replace q292:=eq_true q292
         try go_wp2_with (first | ((with_reducible refine gD 4 rfl ?_);refine box_event rfl (N:=4) rfl (cs:=#[.int .i64 0,.int .i64 0]) (t:=34) hr_ ?_;intro gb293 hg w13 hbox hb;have BK293:=am hbox;have GW293:=gwE HB hg;have GE293:=gwE HB hg;replace HB:=hbS HB hb;have NB291_293:=neL BK291 hg;have NB293_291:=neG BK291 hg;replace BK291:=bkB BK291 hb;clear hb hbox hg;have:=NB293_291.out;have:=NB291_293.out;have:=bcell BK293 0;have:=bcell BK293 1;have:=bfz BK293 0;have:=bfz BK293 1))
         have n0_ : Aside0 (((w13.setCell ⟨gb293,0,none⟩ (.int .i64 ((rd_T34 l0_0 x8_1).f0))).setCell ⟨gb293,1,none⟩ (.int .i64 ((rd_T34 l0_0 x8_1).f1))).heap[gb291]? = some (.cells #[.slice (some ad292) l0_0.length c0_0] 25 (0,0))):=bf_ BK291
         have n1_ : Aside0 (((w13.setCell ⟨gb293,0,none⟩ (.int .i64 ((rd_T34 l0_0 x8_1).f0))).setCell ⟨gb293,1,none⟩ (.int .i64 ((rd_T34 l0_0 x8_1).f1))).heap[gb293]? = some (.cells #[.int .i64 ((rd_T34 l0_0 x8_1).f0),.int .i64 ((rd_T34 l0_0 x8_1).f1)] 34 (0,0))):=⟨by (with_reducible repeat refine bu ?_);refine blk_put (cs:=#[.int .i64 ((rd_T34 l0_0 x8_1).f0),.int .i64 0]) ?_ 1 _ rfl;(with_reducible repeat refine bu ?_);refine blk_put (cs:=#[.int .i64 0,.int .i64 0]) ?_ 0 _ rfl;(with_reducible repeat refine bu ?_);exact BK293.out⟩
         have n2_ : Aside0 (Below w.heap.size w ((w13.setCell ⟨gb293,0,none⟩ (.int .i64 ((rd_T34 l0_0 x8_1).f0))).setCell ⟨gb293,1,none⟩ (.int .i64 ((rd_T34 l0_0 x8_1).f1)))):=⟨m2_⟩
         (try clear BK291)
         (try clear BK293)
         (try clear HB)
         generalize ((w13.setCell ⟨gb293,0,none⟩ (.int .i64 ((rd_T34 l0_0 x8_1).f0))).setCell ⟨gb293,1,none⟩ (.int .i64 ((rd_T34 l0_0 x8_1).f1))) = w16 at n0_ n1_ n2_ ⊢
         have BK291:=n0_
         have BK293:=n1_
         have HB:=n2_
         clear n0_ n1_ n2_
         replace BK291:=am (blk_drew BK291.out)
         replace BK293:=am (blk_drew BK293.out)
         replace HB:=am (below_drew1 HB.out)
         refine start_ (n:=11) (S:=fun w'=>w'.cell? ⟨gb293,0,none⟩ = some (.int .i64 ((rd_T34 l0_0 x8_1).f0)) ∧ w'.cell? ⟨gb293,1,none⟩ = some (.int .i64 ((rd_T34 l0_0 x8_1).f1)) ∧ w'.cell? ⟨gb291,0,none⟩ = some (.slice (some ad292) l0_0.length c0_0)) (ds:=[]) #[false,false,false,false,false,false,false,false,false,false,false] (by kernel_rfl) rfl rfl ⟨bcell BK293 0,bcell BK293 1,bcell BK291 0⟩ (fun hHeld=>?_);refine with_tabW impl_MapOk.tab4 impl_MapOk.bits4 (fun HT_ HW_=>?_)
         generalize w16.drew = w17 at BK291 BK293 HB hHeld ⊢
         refine tk_ 0 (some 13) (bm 11 1) rfl (.inl ⟨rfl,m10_⟩) ?_
         refine on_ 1 (some 14) (bm 11 3) (fun K hK=>?_)
         refine gR Tryz.func52 #[.agg #[.int .i64 ((rd_T34 l0_0 x8_1).f0),.int .i64 ((rd_T34 l0_0 x8_1).f1)]] ?_
         with_reducible refine (impl_EndInside.calls ((rd_T34 l0_0 x8_1).f0) ((rd_T34 l0_0 x8_1).f1) true _ A7.out).mono ?_
         rintro e w18 ⟨rfl,hb⟩
         refine ⟨_,rfl,?_⟩
         replace BK291:=bkB BK291 hb
         replace BK293:=bkB BK293 hb
         replace HB:=hbS HB hb
         (try clear hb)
         (try clear hb2)
         (try clear hk)
         (try clear hi)
         have q19 : (x8_1 : Int) ≤ ((l0_0.length : Int) : Int):=of_decide_eq_true da_
         obtain ⟨i019,hi019,_,hsz19,_⟩:=info_parts info34
         have hroom19 : l0_0.length ≤ c0_0:=HC0_0.out
         have hC19 : Kd.C k34 _ (some ad292) l0_0.length l0_0:=HR0_0.out
         have hcut19:=cut_to (P:=Tryz.prog) 23 34 .i64 Tryz.underlying23 hi019 (some ad292) l0_0.length c0_0 x8_1 (of_decide_eq_true da_) q19 hroom19
         have hr19:=Kd.C_take (m:=(x8_1 : Int).toNat) hC19 (by omega)
         have hy19 : y295.length = (x8_1 : Int).toNat:=(by rw [Ny295.out,List.length_take];omega)
         rw [← Ny295.out] at hr19
         rw [← hy19] at hcut19
         have HR298:=am hr19
         have HC298:=am (show y295.length ≤ c0_0 from by omega)
         clear hr19 hC19 hroom19 hi019 hsz19
         have KY19:=am hy19
         clear hy19
         replace q19:=eq_true q19
         refine hK.out _ _ ⟨bcell BK293 0,bcell BK293 1,bcell BK291 0⟩ (fun hHeld=>?_)
         clear hK K
         refine nm_ ?_
         refine pu_ 2 (some 15) (bm 11 7) ?_
         refine pu_ 3 (some 16) (bm 11 15) ?_
         refine pu_ 4 (some 17) (bm 11 31) ?_
         refine pu_ 6 (some 19) (bm 11 95) ?_
         refine tk_ 5 (some 18) (bm 11 127) rfl (.inl ⟨rfl,m10_⟩) ?_
         refine pu_ 7 (some 20) (bm 11 255) ?_
         refine tk_ 8 (some 21) (bm 11 511) rfl (.inl ⟨rfl,m10_⟩) ?_
         refine on_ 9 (some 22) (bm 11 1023) (fun K hK=>?_)
         refine gR Tryz.func53 #[.slice (some ad292) y295.length c0_0,.agg #[.int .i64 ((rd_T34 l0_0 x8_1).f0),.int .i64 ((rd_T34 l0_0 x8_1).f1)]] ?_
         with_reducible refine (impl_EndPoint_53.calls k1 _ _ y295 ((rd_T34 l0_0 x8_1).f0) ((rd_T34 l0_0 x8_1).f1) true _ ?side1 ?side2 A11.out).mono ?_
         (case side1=>exact m11_)
         (case side2=>exact HC298.out)
         rintro e w20 ⟨rfl,hb⟩
         refine ⟨_,rfl,?_⟩
         replace BK291:=bkB BK291 hb
         replace BK293:=bkB BK293 hb
         replace HB:=hbS HB hb
         (try clear hb)
         (try clear hb2)
         (try clear hk)
         (try clear hi)
         refine hK.out _ _ ⟨bcell BK293 0,bcell BK293 1,bcell BK291 0⟩ (fun hHeld=>?_)
         clear hK K
         refine nm_ ?_
         refine pu_ 10 (some 23) (bm 11 2047) ?_
         refine done_ (done_of HT_.out (by kernel_rfl)) ?_
         try go_wp2
         go_ret
         exact ⟨fi_,m2_⟩
        ·replace c12:=Bool.eq_false_iff.mpr c12
         subst c12
         have H1 : (impl_MapOk.l0 k1 l0_0 (l0_0.length : Int) (wrap64 (x8_1 + 1)) l0_0) = some r:=by rw [if_neg (show ¬ (false = true) by decide)] at H;exact H
         clear H
         have H:=H1
         clear H1
         have H':=am H
         clear H
         have p292 : 0 ≤ (x8_1 : Int):=of_decide_eq_true da_
         have q292 : x8_1 < (l0_0.length : Int):=of_decide_eq_true da_
         obtain ⟨ad292,e292,hx292_0,hx292_1⟩:=at_T34 HR0_0.out x8_1 p292 q292
         cases e292
         replace hx292_0:=bcl HB hx292_0
         replace hx292_1:=bcl HB hx292_1
         replace p292:=eq_true p292
         replace q292:=eq_true q292
         try go_wp2_with (first | ((with_reducible refine gD 4 rfl ?_);refine box_event rfl (N:=4) rfl (cs:=#[.int .i64 0,.int .i64 0]) (t:=34) hr_ ?_;intro gb293 hg w21 hbox hb;have BK293:=am hbox;have GW293:=gwE HB hg;have GE293:=gwE HB hg;replace HB:=hbS HB hb;have NB291_293:=neL BK291 hg;have NB293_291:=neG BK291 hg;replace BK291:=bkB BK291 hb;clear hb hbox hg;have:=NB293_291.out;have:=NB291_293.out;have:=bcell BK293 0;have:=bcell BK293 1;have:=bfz BK293 0;have:=bfz BK293 1))
         have n0_ : Aside0 (((w21.setCell ⟨gb293,0,none⟩ (.int .i64 ((rd_T34 l0_0 x8_1).f0))).setCell ⟨gb293,1,none⟩ (.int .i64 ((rd_T34 l0_0 x8_1).f1))).heap[gb291]? = some (.cells #[.slice (some ad292) l0_0.length c0_0] 25 (0,0))):=bf_ BK291
         have n1_ : Aside0 (((w21.setCell ⟨gb293,0,none⟩ (.int .i64 ((rd_T34 l0_0 x8_1).f0))).setCell ⟨gb293,1,none⟩ (.int .i64 ((rd_T34 l0_0 x8_1).f1))).heap[gb293]? = some (.cells #[.int .i64 ((rd_T34 l0_0 x8_1).f0),.int .i64 ((rd_T34 l0_0 x8_1).f1)] 34 (0,0))):=⟨by (with_reducible repeat refine bu ?_);refine blk_put (cs:=#[.int .i64 ((rd_T34 l0_0 x8_1).f0),.int .i64 0]) ?_ 1 _ rfl;(with_reducible repeat refine bu ?_);refine blk_put (cs:=#[.int .i64 0,.int .i64 0]) ?_ 0 _ rfl;(with_reducible repeat refine bu ?_);exact BK293.out⟩
         have n2_ : Aside0 (Below w.heap.size w ((w21.setCell ⟨gb293,0,none⟩ (.int .i64 ((rd_T34 l0_0 x8_1).f0))).setCell ⟨gb293,1,none⟩ (.int .i64 ((rd_T34 l0_0 x8_1).f1)))):=⟨m2_⟩
         (try clear BK291)
         (try clear BK293)
         (try clear HB)
         generalize ((w21.setCell ⟨gb293,0,none⟩ (.int .i64 ((rd_T34 l0_0 x8_1).f0))).setCell ⟨gb293,1,none⟩ (.int .i64 ((rd_T34 l0_0 x8_1).f1))) = w24 at n0_ n1_ n2_ ⊢
         have BK291:=n0_
         have BK293:=n1_
         have HB:=n2_
         clear n0_ n1_ n2_
         replace BK291:=am (blk_drew BK291.out)
         replace BK293:=am (blk_drew BK293.out)
         replace HB:=am (below_drew1 HB.out)
         refine start_ (n:=11) (S:=fun w'=>w'.cell? ⟨gb293,0,none⟩ = some (.int .i64 ((rd_T34 l0_0 x8_1).f0)) ∧ w'.cell? ⟨gb293,1,none⟩ = some (.int .i64 ((rd_T34 l0_0 x8_1).f1)) ∧ w'.cell? ⟨gb291,0,none⟩ = some (.slice (some ad292) l0_0.length c0_0)) (ds:=[]) #[false,false,false,false,false,false,false,false,false,false,false] (by kernel_rfl) rfl rfl ⟨bcell BK293 0,bcell BK293 1,bcell BK291 0⟩ (fun hHeld=>?_);refine with_tabW impl_MapOk.tab4 impl_MapOk.bits4 (fun HT_ HW_=>?_)
         generalize w24.drew = w25 at BK291 BK293 HB hHeld ⊢
         refine tk_ 0 (some 13) (bm 11 1) rfl (.inl ⟨rfl,m10_⟩) ?_
         refine on_ 1 (some 14) (bm 11 3) (fun K hK=>?_)
         refine gR Tryz.func52 #[.agg #[.int .i64 ((rd_T34 l0_0 x8_1).f0),.int .i64 ((rd_T34 l0_0 x8_1).f1)]] ?_
         with_reducible refine (impl_EndInside.calls ((rd_T34 l0_0 x8_1).f0) ((rd_T34 l0_0 x8_1).f1) true _ A7.out).mono ?_
         rintro e w26 ⟨rfl,hb⟩
         refine ⟨_,rfl,?_⟩
         replace BK291:=bkB BK291 hb
         replace BK293:=bkB BK293 hb
         replace HB:=hbS HB hb
         (try clear hb)
         (try clear hb2)
         (try clear hk)
         (try clear hi)
         have q27 : (x8_1 : Int) ≤ ((l0_0.length : Int) : Int):=of_decide_eq_true da_
         obtain ⟨i027,hi027,_,hsz27,_⟩:=info_parts info34
         have hroom27 : l0_0.length ≤ c0_0:=HC0_0.out
         have hC27 : Kd.C k34 _ (some ad292) l0_0.length l0_0:=HR0_0.out
         have hcut27:=cut_to (P:=Tryz.prog) 23 34 .i64 Tryz.underlying23 hi027 (some ad292) l0_0.length c0_0 x8_1 (of_decide_eq_true da_) q27 hroom27
         have hr27:=Kd.C_take (m:=(x8_1 : Int).toNat) hC27 (by omega)
         have hy27 : y295.length = (x8_1 : Int).toNat:=(by rw [Ny295.out,List.length_take];omega)
         rw [← Ny295.out] at hr27
         rw [← hy27] at hcut27
         have HR298:=am hr27
         have HC298:=am (show y295.length ≤ c0_0 from by omega)
         clear hr27 hC27 hroom27 hi027 hsz27
         have KY27:=am hy27
         clear hy27
         replace q27:=eq_true q27
         refine hK.out _ _ ⟨bcell BK293 0,bcell BK293 1,bcell BK291 0⟩ (fun hHeld=>?_)
         clear hK K
         refine nm_ ?_
         refine pu_ 2 (some 15) (bm 11 7) ?_
         refine pu_ 3 (some 16) (bm 11 15) ?_
         refine pu_ 4 (some 17) (bm 11 31) ?_
         refine pu_ 6 (some 19) (bm 11 95) ?_
         refine tk_ 5 (some 18) (bm 11 127) rfl (.inl ⟨rfl,m10_⟩) ?_
         refine pu_ 7 (some 20) (bm 11 255) ?_
         refine tk_ 8 (some 21) (bm 11 511) rfl (.inl ⟨rfl,m10_⟩) ?_
         refine on_ 9 (some 22) (bm 11 1023) (fun K hK=>?_)
         refine gR Tryz.func53 #[.slice (some ad292) y295.length c0_0,.agg #[.int .i64 ((rd_T34 l0_0 x8_1).f0),.int .i64 ((rd_T34 l0_0 x8_1).f1)]] ?_
         with_reducible refine (impl_EndPoint_53.calls k1 _ _ y295 ((rd_T34 l0_0 x8_1).f0) ((rd_T34 l0_0 x8_1).f1) false _ ?side1 ?side2 A11.out).mono ?_
         (case side1=>exact m11_)
         (case side2=>exact HC298.out)
         rintro e w28 ⟨rfl,hb⟩
         refine ⟨_,rfl,?_⟩
         replace BK291:=bkB BK291 hb
         replace BK293:=bkB BK293 hb
         replace HB:=hbS HB hb
         (try clear hb)
         (try clear hb2)
         (try clear hk)
         (try clear hi)
         refine hK.out _ _ ⟨bcell BK293 0,bcell BK293 1,bcell BK291 0⟩ (fun hHeld=>?_)
         clear hK K
         refine nm_ ?_
         refine pu_ 10 (some 23) (bm 11 2047) ?_
         refine done_ (done_of HT_.out (by kernel_rfl)) ?_
         try go_wp2
         go_roundg k1
         case measure=>have:=HK1.out;omega
         case rel=>exact ⟨(wrap64 (x8_1 + 1)),rs_,H',⟨by have:=HK1.out;omega⟩,⟨bk BK291⟩,⟨m2_⟩⟩
       ·rw [if_neg c10] at H
        exact absurd H (by simp)
      ·replace c8:=Bool.eq_false_iff.mpr c8
       subst c8
       have H1 : (some false) = some r:=by rw [if_neg (show ¬ (false = true) by decide)] at H;exact H
       clear H
       have H:=H1
       clear H1
       obtain rfl:=Option.some.inj H
       have p292 : 0 ≤ (x8_1 : Int):=of_decide_eq_true da_
       have q292 : x8_1 < (l0_0.length : Int):=of_decide_eq_true da_
       obtain ⟨ad292,e292,hx292_0,hx292_1⟩:=at_T34 HR0_0.out x8_1 p292 q292
       cases e292
       replace hx292_0:=bcl HB hx292_0
       replace hx292_1:=bcl HB hx292_1
       replace p292:=eq_true p292
       replace q292:=eq_true q292
       try go_wp2_with (first | ((with_reducible refine gD 4 rfl ?_);refine box_event rfl (N:=4) rfl (cs:=#[.int .i64 0,.int .i64 0]) (t:=34) hr_ ?_;intro gb293 hg w29 hbox hb;have BK293:=am hbox;have GW293:=gwE HB hg;have GE293:=gwE HB hg;replace HB:=hbS HB hb;have NB291_293:=neL BK291 hg;have NB293_291:=neG BK291 hg;replace BK291:=bkB BK291 hb;clear hb hbox hg;have:=NB293_291.out;have:=NB291_293.out;have:=bcell BK293 0;have:=bcell BK293 1;have:=bfz BK293 0;have:=bfz BK293 1))
       have n0_ : Aside0 (((w29.setCell ⟨gb293,0,none⟩ (.int .i64 ((rd_T34 l0_0 x8_1).f0))).setCell ⟨gb293,1,none⟩ (.int .i64 ((rd_T34 l0_0 x8_1).f1))).heap[gb291]? = some (.cells #[.slice (some ad292) l0_0.length c0_0] 25 (0,0))):=bf_ BK291
       have n1_ : Aside0 (((w29.setCell ⟨gb293,0,none⟩ (.int .i64 ((rd_T34 l0_0 x8_1).f0))).setCell ⟨gb293,1,none⟩ (.int .i64 ((rd_T34 l0_0 x8_1).f1))).heap[gb293]? = some (.cells #[.int .i64 ((rd_T34 l0_0 x8_1).f0),.int .i64 ((rd_T34 l0_0 x8_1).f1)] 34 (0,0))):=⟨by (with_reducible repeat refine bu ?_);refine blk_put (cs:=#[.int .i64 ((rd_T34 l0_0 x8_1).f0),.int .i64 0]) ?_ 1 _ rfl;(with_reducible repeat refine bu ?_);refine blk_put (cs:=#[.int .i64 0,.int .i64 0]) ?_ 0 _ rfl;(with_reducible repeat refine bu ?_);exact BK293.out⟩
       have n2_ : Aside0 (Below w.heap.size w ((w29.setCell ⟨gb293,0,none⟩ (.int .i64 ((rd_T34 l0_0 x8_1).f0))).setCell ⟨gb293,1,none⟩ (.int .i64 ((rd_T34 l0_0 x8_1).f1)))):=⟨m2_⟩
       (try clear BK291)
       (try clear BK293)
       (try clear HB)
       generalize ((w29.setCell ⟨gb293,0,none⟩ (.int .i64 ((rd_T34 l0_0 x8_1).f0))).setCell ⟨gb293,1,none⟩ (.int .i64 ((rd_T34 l0_0 x8_1).f1))) = w32 at n0_ n1_ n2_ ⊢
       have BK291:=n0_
       have BK293:=n1_
       have HB:=n2_
       clear n0_ n1_ n2_
       replace BK291:=am (blk_drew BK291.out)
       replace BK293:=am (blk_drew BK293.out)
       replace HB:=am (below_drew1 HB.out)
       refine start_ (n:=11) (S:=fun w'=>w'.cell? ⟨gb293,0,none⟩ = some (.int .i64 ((rd_T34 l0_0 x8_1).f0)) ∧ w'.cell? ⟨gb293,1,none⟩ = some (.int .i64 ((rd_T34 l0_0 x8_1).f1))) (ds:=[]) #[false,false,false,false,false,false,false,false,false,false,false] (by kernel_rfl) rfl rfl ⟨bcell BK293 0,bcell BK293 1⟩ (fun hHeld=>?_);refine with_tabW impl_MapOk.tab4 impl_MapOk.bits4 (fun HT_ HW_=>?_)
       generalize w32.drew = w33 at BK291 BK293 HB hHeld ⊢
       refine tk_ 0 (some 13) (bm 11 1) rfl (.inl ⟨rfl,m3_⟩) ?_
       refine on_ 1 (some 14) (bm 11 3) (fun K hK=>?_)
       refine gR Tryz.func52 #[.agg #[.int .i64 ((rd_T34 l0_0 x8_1).f0),.int .i64 ((rd_T34 l0_0 x8_1).f1)]] ?_
       with_reducible refine (impl_EndInside.calls ((rd_T34 l0_0 x8_1).f0) ((rd_T34 l0_0 x8_1).f1) false _ A7.out).mono ?_
       rintro e w34 ⟨rfl,hb⟩
       refine ⟨_,rfl,?_⟩
       replace BK291:=bkB BK291 hb
       replace BK293:=bkB BK293 hb
       replace HB:=hbS HB hb
       (try clear hb)
       (try clear hb2)
       (try clear hk)
       (try clear hi)
       refine hK.out _ _ ⟨bcell BK293 0,bcell BK293 1⟩ (fun hHeld=>?_)
       clear hK K
       refine nm_ ?_
       refine pu_ 2 (some 15) (bm 11 7) ?_
       refine pu_ 3 (some 16) (bm 11 15) ?_
       refine pv_ 4 (some 17) (bm 11 31) ?_
       refine pv_ 5 (some 18) (bm 11 63) ?_
       refine pv_ 6 (some 19) (bm 11 127) ?_
       refine pv_ 7 (some 20) (bm 11 255) ?_
       refine pv_ 8 (some 21) (bm 11 511) ?_
       refine pv_ 9 (some 22) (bm 11 1023) ?_
       refine pu_ 10 (some 23) (bm 11 2047) ?_
       refine done_ (done_of HT_.out (by kernel_rfl)) ?_
       try go_wp2
       go_ret
       exact ⟨fi_,m2_⟩
     ·rw [if_neg c6] at H
      exact absurd H (by simp)
    ·rw [if_neg c5] at H
     exact absurd H (by simp)
   ·rw [if_neg c4] at H
    have c4b0 : decide (x8_1 < (l0_0.length : Int)) = false:=decide_eq_false c4
    clear c4
    obtain rfl:=Option.some.inj H
    have:=bcell BK291 0
    have:=bfz BK291 0
    go_wp2
    go_ret
    exact ⟨fi_,m2_⟩
end
end Go.Proofs.YtffmbccgcaghjaaGreatDoor.P
