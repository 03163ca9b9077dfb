import Derived.Test.YtffmbccgcaghjaaGreatDoorGLawFnExactRwrStreamx3
namespace Go.Proofs.YtffmbccgcaghjaaGreatDoor.P
open Go.Proofs.YtffmbccgcaghjaaGreatDoorUFnExactRwrStream.PrintLast Go.Proofs.YtffmbccgcaghjaaGreatDoorUFnExactRwrStream.PrintMore Go.Proofs.YtffmbccgcaghjaaGreatDoorUFnExactRwrStream.PrintWords Go.RowKit
set_option linter.unusedVariables false
set_option linter.unusedSimpArgs false
section
attribute [local go_sem] max2_int min2_int max_two min_two max_three min_three max_four min_four
def spec_EndRead.f (k : Nat) (a0 : ByteArray) : Option (Int × Int × Bool) := (spec_l1Words.f k a0).bind fun t419 => (if (t419.length : Int) = 2 then (if 0 < (t419.length : Int) then ((spec_l1Num.f k (rdOf ByteArray.empty t419 0)).bind fun t423 => (if 1 < (t419.length : Int) then ((spec_l1Num.f k (rdOf ByteArray.empty t419 1)).bind fun t425 => ((spec_EndOk.f t423 t425).bind fun t427 => (if t427 = true then (some (t423, t425, true)) else (some (0, 0, false))))) else (none))) else (none)) else (some (0, 0, false)))
theorem spec_EndRead.mono : ∀ a0 k, LeO (spec_EndRead.f k a0) (spec_EndRead.f (k + 1) a0) := by
 intro a0 k
 unfold spec_EndRead.f
 repeat' first | (with_reducible first | exact spec_l1Num.mono _ _ | exact spec_l1Words.mono _ _ | exact LeO.refl _ | exact LeO.none _ | refine LeO.ite ?_ ?_ | refine LeO.bind ?_ (fun _ => ?_)) | exact spec_l1Num.mono _ _ | exact spec_l1Words.mono _ _ | exact LeO.none _ | refine LeO.ite ?_ ?_ | refine LeO.bind ?_ (fun _ => ?_)
def spec_EndRead.T4 : Bool × List (List Nat × List Nat) := (true, [([], []), ([0], [0]), ([1], [1]), ([2], [2]), ([], []), ([4], [4]), ([5], [5]), ([6, 3], [6]), ([3, 7], [3, 7]), ([], []), ([9, 8, 7, 0, 1, 2, 3, 4, 5, 6, 7, 8, 9], [8, 9])])
def spec_EndRead.B4 : List Nat := [0, 1, 3, 7, 0, 16, 48, 127, 255, 0, 1023]
theorem spec_EndRead.tab4 : rtab .any (opsOf Tryz.f107 4) = spec_EndRead.T4 := by kernel_rfl
theorem spec_EndRead.bits4 : waitsOk spec_EndRead.T4.2 spec_EndRead.B4 = true := by kernel_rfl
set_option maxHeartbeats 8000000 in
set_option maxRecDepth 100000 in
theorem spec_EndRead.calls (k : Nat) (a0 : ByteArray) (r1 : Int) (r2 : Int) (r3 : Bool) (w : World) (h : spec_EndRead.f k a0 = some (r1, r2, r3)) :
  Calls Tryz.prog 107 #[.string a0] w fun e w' => e = .returned (.tuple #[.agg #[.int .i64 r1, .int .i64 r2], .bool r3]) ∧ Below w.heap.size w w' := by
 have hu34 := Tryz.underlying34
 have HB := am (Below.refl w.heap.size w)
 have H : ((spec_l1Words.f k a0).bind fun t419 => (if (t419.length : Int) = 2 then (if 0 < (t419.length : Int) then ((spec_l1Num.f k (rdOf ByteArray.empty t419 0)).bind fun t423 => (if 1 < (t419.length : Int) then ((spec_l1Num.f k (rdOf ByteArray.empty t419 1)).bind fun t425 => ((spec_EndOk.f t423 t425).bind fun t427 => (if t427 = true then (some (t423, t425, true)) else (some (0, 0, false))))) else (none))) else (none)) else (some (0, 0, false)))) = some (r1, r2, r3) := h
 clear h
 obtain ⟨t419, A2, H⟩ := bse H
 try dsimp only at H
 by_cases c3 : (t419.length : Int) = 2
 ·rw [if_pos c3] at H
  have c3b0 : ((t419.length : Int) == 2) = true := beq_iff_eq.mpr c3
  have c3b1 : ((t419.length : Int) != 2) = false := bne_eq_false_iff_eq.mpr c3
  clear c3
  by_cases c4 : 0 < (t419.length : Int)
  ·rw [if_pos c4] at H
   have c4b0 : decide (0 < (t419.length : Int)) = true := decide_eq_true c4
   have c4b1 : decide (0 < t419.length) = true := decide_eq_true (by omega)
   clear c4
   obtain ⟨t423, A5, H⟩ := bse H
   try dsimp only at H
   by_cases c6 : 1 < (t419.length : Int)
   ·rw [if_pos c6] at H
    have c6b0 : decide (1 < (t419.length : Int)) = true := decide_eq_true c6
    have c6b1 : decide (1 < t419.length) = true := decide_eq_true (by omega)
    clear c6
    obtain ⟨t425, A7, H⟩ := bse H
    try dsimp only at H
    obtain ⟨t427, A8, H⟩ := bse H
    try dsimp only at H
    by_cases c9 : t427 = true
    ·subst c9
     have H1 : (some (t423, t425, true)) = some (r1, r2, r3) := by rw [if_pos rfl] at H; exact H
     clear H
     have H := H1
     clear H1
     simp only [Option.some.injEq, Prod.mk.injEq] at H
     obtain ⟨rfl, rfl, rfl⟩ := H
     go_enter Tryz.func107, Tryz.ntmps107
     try go_wp2_with (first | ((with_reducible refine gate_dst (N := 2) rfl ?_); refine box_event rfl (N := 2) rfl (cs := #[.int .i64 0, .int .i64 0]) (t := 34) hr_ ?_; intro gb418 hg w10 hbox hb; have BK418 := am hbox; have GW418 := gwE HB hg; have GE418 := gwE HB hg; replace HB := hbS HB hb; clear hb hbox hg) | ((with_reducible refine gate_callee (f := 119) rfl ?_); refine gL (some 7) Tryz.func119 #[.string a0] ?_; (with_reducible refine (spec_l1Words.calls k a0 t419 _ A2.out).mono ?_); rintro e w11 ⟨v420, rfl, ho0, hb⟩; refine ⟨_, rfl, ?_⟩; have HO421 := am (Kd.R_lower ho0 (below_size (bl HB))); replace BK418 := bkB BK418 hb; replace HB := hbS HB hb; (try clear hb); (try clear ho0); obtain ⟨Ao12, co12, eo12⟩ := Kd.R_slice HO421.out; subst eo12))
     replace HO421 := am (Kd.R_drew HO421.out)
     replace BK418 := am (blk_drew BK418.out)
     replace HB := am (below_drew1 HB.out)
     have p422 : 0 ≤ (0 : Int) := (by omega)
     have q422 : 0 < (t419.length : Int) := of_decide_eq_true da_
     obtain ⟨ad422, e422, hx422_0⟩ := Kd.at_string (Kd.R_reads' HO421.out).2.2 0 p422 q422
     cases e422
     have qi422 : (0 < t419.length) = True := eq_true (by omega)
     (try rw [show ((0 : Int)).toNat = 0 from rfl] at hx422_0)
     (try rw [Addr.add_zero'] at hx422_0)
     replace p422 := eq_true p422
     replace q422 := eq_true q422
     have p424 : 0 ≤ (1 : Int) := (by omega)
     have q424 : 1 < (t419.length : Int) := of_decide_eq_true da_
     obtain ⟨ad424, e424, hx424_0⟩ := Kd.at_string (Kd.R_reads' HO421.out).2.2 1 p424 q424
     obtain rfl : ad422 = ad424 := (by injection e424)
     (try simp only [show (1 : Int).toNat = 1 from rfl, Nat.reduceMul, Nat.reduceEqDiff, Go.Addr.add, ↓reduceIte] at hx424_0)
     have qi424 : (1 < t419.length) = True := eq_true (by omega)
     (try rw [show ((1 : Int)).toNat = 1 from rfl] at hx424_0)
     replace p424 := eq_true p424
     replace q424 := eq_true q424
     refine start_ (n := 11) (S := fun w' => w'.cell? ad422 = some (.string (rdOf ByteArray.empty t419 0)) ∧ w'.cell? ⟨ad422.block, ad422.off + 1, none⟩ = some (.string (rdOf ByteArray.empty t419 1))) (ds := []) #[false, false, false, false, false, false, false, false, false, false, false] (by kernel_rfl) rfl rfl ⟨hx422_0, hx424_0⟩ (fun hHeld => ?_); refine with_tabW spec_EndRead.tab4 spec_EndRead.bits4 (fun HT_ HW_ => ?_)
     generalize w11.drew = w13 at HO421 BK418 HB hx422_0 hx424_0 hHeld ⊢
     refine pu_ 0 (some 12) (bm 11 1) ?_
     refine pu_ 1 (some 13) (bm 11 3) ?_
     refine pu_ 4 (some 16) (bm 11 19) ?_
     refine pu_ 5 (some 17) (bm 11 51) ?_
     refine tk_ 2 (some 14) (bm 11 55) rfl (.inl ⟨rfl, m3_⟩) ?_
     refine tk_ 6 (some 18) (bm 11 119) rfl (.inl ⟨rfl, m3_⟩) ?_
     refine join_ (σ := Nat) 1 #[true, true, true, true, true, true, true, true, true, true, false] (fun s_ => [(15, .int .i64 t423), (19, .int .i64 t425), (5, .pointer (some ⟨s_, 0, none⟩)), (20, .agg #[.int .i64 t423, .int .i64 t425])]) (fun s_ w' => (w'.cell? ad422 = some (.string (rdOf ByteArray.empty t419 0)) ∧ w'.cell? ⟨ad422.block, ad422.off + 1, none⟩ = some (.string (rdOf ByteArray.empty t419 1))) ∧ (Kd.R Kd.string 9 w' w.heap.size (fun _ => True) (.slice (some ad422) t419.length co12) t419) ∧ (w'.heap[gb418]? = some (.cells #[.int .i64 0, .int .i64 0] 34 (0, 0))) ∧ (w'.heap[s_]? = some (.cells #[.int .i64 0, .int .i64 0] 34 (0, 0))) ∧ (w.heap.size ≤ s_) ∧ (w.heap.size ≤ s_) ∧ (gb418 ≠ s_) ∧ (s_ ≠ gb418) ∧ (Below w.heap.size w w')) ?_ ?_
     rotate_left
     ·intro hCont
      refine two_ (i := 3) (j := 9) (Ni := some 15) (Nj := some 5) #[true, true, true, true, true, true, true, false, false, false, false] #[true, true, true, false, true, true, true, false, false, true, false] rfl rfl rfl rfl (two_of HT_.out (by kernel_rfl)) (by decide) (by decide) (fun K hK => ?_) (fun K hK => ?_)
      ·skip
       refine gR Tryz.func120 #[.string (rdOf ByteArray.empty t419 0)] ?_
       with_reducible refine (spec_l1Num.calls k (rdOf ByteArray.empty t419 0) t423 _ A5.out).mono ?_
       rintro e w14 ⟨rfl, hb⟩
       have HS0_ := bch hb (hHeld.1)
       have HS1_ := bch hb (hHeld.2)
       refine ⟨_, rfl, ?_⟩
       replace HO421 := am (Kd.R_below (rs HO421) hb)
       replace BK418 := bkB BK418 hb
       replace HB := hbS HB hb
       (try clear hb)
       (try clear hb2)
       (try clear hk)
       (try clear hi)
       refine hK.out _ _ ⟨HS0_, HS1_⟩ (fun hHeld => ?_)
       clear hK K
       refine nm_ ?_
       refine two_ (i := 7) (j := 9) (Ni := some 19) (Nj := some 5) #[true, true, true, true, true, true, true, true, false, false, false] #[true, true, true, true, true, true, true, false, false, true, false] rfl rfl rfl rfl (two_of HT_.out (by kernel_rfl)) (by decide) (by decide) (fun K hK => ?_) (fun K hK => ?_)
       ·skip
        refine gR Tryz.func120 #[.string (rdOf ByteArray.empty t419 1)] ?_
        with_reducible refine (spec_l1Num.calls k (rdOf ByteArray.empty t419 1) t425 _ A7.out).mono ?_
        rintro e w15 ⟨rfl, hb⟩
        have HS0_ := bch hb (hHeld.1)
        have HS1_ := bch hb (hHeld.2)
        refine ⟨_, rfl, ?_⟩
        replace HO421 := am (Kd.R_below (rs HO421) hb)
        replace BK418 := bkB BK418 hb
        replace HB := hbS HB hb
        (try clear hb)
        (try clear hb2)
        (try clear hk)
        (try clear hi)
        refine hK.out _ _ ⟨HS0_, HS1_⟩ (fun hHeld => ?_)
        clear hK K
        refine nm_ ?_
        refine pu_ 8 (some 20) (bm 11 511) ?_
        refine on_ 9 (some 5) (bm 11 1023) (fun K hK => ?_)
        refine box_step rfl (N := 5) rfl (cs := #[.int .i64 0, .int .i64 0]) (t := 34) hr_ ?_
        intro gb426 hg w16 hbox hb
        have HS0_ := bch hb (hHeld.1)
        have HS1_ := bch hb (hHeld.2)
        replace HO421 := am (Kd.R_below (rs HO421) hb)
        have BK426 := am hbox
        have GW426 := gwE HB hg
        have GE426 := gwE HB hg
        replace HB := hbS HB hb
        have NB418_426 := neL BK418 hg
        have NB426_418 := neG BK418 hg
        replace BK418 := bkB BK418 hb
        clear hb hbox hg
        refine hK.out _ _ ⟨HS0_, HS1_⟩ (fun hHeld => ?_)
        clear hK K
        refine nm_ ?_
        exact norm_ (by simp only [putAll, Act.put, List.setIfInBounds_toArray, List.set_cons_zero, List.set_cons_succ]) (hCont (gb426) _ ⟨hHeld, (rs HO421), (bk BK418), (bk BK426), GW426.out, GE426.out, NB418_426.out, NB426_418.out, (bl HB)⟩)
       ·skip
        refine box_step rfl (N := 5) rfl (cs := #[.int .i64 0, .int .i64 0]) (t := 34) hr_ ?_
        intro gb426 hg w15 hbox hb
        have HS0_ := bch hb (hHeld.1)
        have HS1_ := bch hb (hHeld.2)
        replace HO421 := am (Kd.R_below (rs HO421) hb)
        have BK426 := am hbox
        have GW426 := gwE HB hg
        have GE426 := gwE HB hg
        replace HB := hbS HB hb
        have NB418_426 := neL BK418 hg
        have NB426_418 := neG BK418 hg
        replace BK418 := bkB BK418 hb
        clear hb hbox hg
        refine hK.out _ _ ⟨HS0_, HS1_⟩ (fun hHeld => ?_)
        clear hK K
        refine nm_ ?_
        refine on_ 7 (some 19) (bm 11 767) (fun K hK => ?_)
        refine gR Tryz.func120 #[.string (rdOf ByteArray.empty t419 1)] ?_
        with_reducible refine (spec_l1Num.calls k (rdOf ByteArray.empty t419 1) t425 _ A7.out).mono ?_
        rintro e w16 ⟨rfl, hb⟩
        have HS0_ := bch hb (hHeld.1)
        have HS1_ := bch hb (hHeld.2)
        refine ⟨_, rfl, ?_⟩
        replace HO421 := am (Kd.R_below (rs HO421) hb)
        replace BK418 := bkB BK418 hb
        replace BK426 := bkB BK426 hb
        replace HB := hbS HB hb
        (try clear hb)
        (try clear hb2)
        (try clear hk)
        (try clear hi)
        refine hK.out _ _ ⟨HS0_, HS1_⟩ (fun hHeld => ?_)
        clear hK K
        refine nm_ ?_
        refine pu_ 8 (some 20) (bm 11 1023) ?_
        exact norm_ (by simp only [putAll, Act.put, List.setIfInBounds_toArray, List.set_cons_zero, List.set_cons_succ]) (hCont (gb426) _ ⟨hHeld, (rs HO421), (bk BK418), (bk BK426), GW426.out, GE426.out, NB418_426.out, NB426_418.out, (bl HB)⟩)
      ·skip
       refine box_step rfl (N := 5) rfl (cs := #[.int .i64 0, .int .i64 0]) (t := 34) hr_ ?_
       intro gb426 hg w14 hbox hb
       have HS0_ := bch hb (hHeld.1)
       have HS1_ := bch hb (hHeld.2)
       replace HO421 := am (Kd.R_below (rs HO421) hb)
       have BK426 := am hbox
       have GW426 := gwE HB hg
       have GE426 := gwE HB hg
       replace HB := hbS HB hb
       have NB418_426 := neL BK418 hg
       have NB426_418 := neG BK418 hg
       replace BK418 := bkB BK418 hb
       clear hb hbox hg
       refine hK.out _ _ ⟨HS0_, HS1_⟩ (fun hHeld => ?_)
       clear hK K
       refine nm_ ?_
       refine on_ 3 (some 15) (bm 11 639) (fun K hK => ?_)
       refine gR Tryz.func120 #[.string (rdOf ByteArray.empty t419 0)] ?_
       with_reducible refine (spec_l1Num.calls k (rdOf ByteArray.empty t419 0) t423 _ A5.out).mono ?_
       rintro e w15 ⟨rfl, hb⟩
       have HS0_ := bch hb (hHeld.1)
       have HS1_ := bch hb (hHeld.2)
       refine ⟨_, rfl, ?_⟩
       replace HO421 := am (Kd.R_below (rs HO421) hb)
       replace BK418 := bkB BK418 hb
       replace BK426 := bkB BK426 hb
       replace HB := hbS HB hb
       (try clear hb)
       (try clear hb2)
       (try clear hk)
       (try clear hi)
       refine hK.out _ _ ⟨HS0_, HS1_⟩ (fun hHeld => ?_)
       clear hK K
       refine nm_ ?_
       refine on_ 7 (some 19) (bm 11 767) (fun K hK => ?_)
       refine gR Tryz.func120 #[.string (rdOf ByteArray.empty t419 1)] ?_
       with_reducible refine (spec_l1Num.calls k (rdOf ByteArray.empty t419 1) t425 _ A7.out).mono ?_
       rintro e w16 ⟨rfl, hb⟩
       have HS0_ := bch hb (hHeld.1)
       have HS1_ := bch hb (hHeld.2)
       refine ⟨_, rfl, ?_⟩
       replace HO421 := am (Kd.R_below (rs HO421) hb)
       replace BK418 := bkB BK418 hb
       replace BK426 := bkB BK426 hb
       replace HB := hbS HB hb
       (try clear hb)
       (try clear hb2)
       (try clear hk)
       (try clear hi)
       refine hK.out _ _ ⟨HS0_, HS1_⟩ (fun hHeld => ?_)
       clear hK K
       refine nm_ ?_
       refine pu_ 8 (some 20) (bm 11 1023) ?_
       exact norm_ (by simp only [putAll, Act.put, List.setIfInBounds_toArray, List.set_cons_zero, List.set_cons_succ]) (hCont (gb426) _ ⟨hHeld, (rs HO421), (bk BK418), (bk BK426), GW426.out, GE426.out, NB418_426.out, NB426_418.out, (bl HB)⟩)
     rintro gb426 w17 ⟨hS_, h0_, h1_, h2_, h3_, h4_, h5_, h6_, h7_⟩
     have n0_ : Aside0 (Kd.R Kd.string 9 w17 w.heap.size (fun _ => True) (.slice (some ad422) t419.length co12) t419) := ⟨h0_⟩
     have n1_ : Aside0 (w17.heap[gb418]? = some (.cells #[.int .i64 0, .int .i64 0] 34 (0, 0))) := ⟨h1_⟩
     have n2_ : Aside0 (w17.heap[gb426]? = some (.cells #[.int .i64 0, .int .i64 0] 34 (0, 0))) := ⟨h2_⟩
     have n3_ : Aside0 (w.heap.size ≤ gb426) := ⟨h3_⟩
     have n4_ : Aside0 (w.heap.size ≤ gb426) := ⟨h4_⟩
     have n5_ : Aside0 (gb418 ≠ gb426) := ⟨h5_⟩
     have n6_ : Aside0 (gb426 ≠ gb418) := ⟨h6_⟩
     have n7_ : Aside0 (Below w.heap.size w w17) := ⟨h7_⟩
     clear HO421
     clear BK418
     clear HB
     clear h0_ h1_ h2_ h3_ h4_ h5_ h6_ h7_
     have HO421 := n0_
     have BK418 := n1_
     have BK426 := n2_
     have GW426 := n3_
     have GE426 := n4_
     have NB418_426 := n5_
     have NB426_418 := n6_
     have HB := n7_
     clear n0_ n1_ n2_ n3_ n4_ n5_ n6_ n7_
     have hHeld : w17.cell? ad422 = some (.string (rdOf ByteArray.empty t419 0)) ∧ w17.cell? ⟨ad422.block, ad422.off + 1, none⟩ = some (.string (rdOf ByteArray.empty t419 1)) := hS_
     refine norm_ (a' := ?_) ?_ ?_
     rotate_left
     ·simp only [putAll, Act.put, List.setIfInBounds_toArray, List.set_cons_zero, List.set_cons_succ]
      rfl
     refine on_ 10 none (bm 11 2047) (fun K hK => ?_)
     have : w17.cell? ⟨gb426, 0, none⟩ = some (.int .i64 0) := bcell BK426 0
     have := bfz BK426 0
     have := NB418_426.out
     have := NB426_418.out
     have : w17.cell? ⟨gb426, 1, none⟩ = some (.int .i64 0) := bcell BK426 1
     have := bfz BK426 1
     have := NB418_426.out
     have := NB426_418.out
     refine skip_ (w1 := ?_) (by rfl) rfl ?_ ?_
     rotate_left
     ·go_simp
      rfl
     refine hK.out _ _ ⟨((cell_far (p := ⟨gb426, _, none⟩) (by first | exact Kd.own_blk (Kd.R_ne HO421.out BK426.out (by decide)) | (rw [add_block]; exact Kd.own_blk (Kd.R_ne HO421.out BK426.out (by decide))) | (show (Addr.add _ _).block ≠ _; rw [add_block]; exact Kd.own_blk (Kd.R_ne HO421.out BK426.out (by decide))) | (dsimp only; exact Kd.own_blk (Kd.R_ne HO421.out BK426.out (by decide)))) _).trans (((cell_far (p := ⟨gb426, _, none⟩) (by first | exact Kd.own_blk (Kd.R_ne HO421.out BK426.out (by decide)) | (rw [add_block]; exact Kd.own_blk (Kd.R_ne HO421.out BK426.out (by decide))) | (show (Addr.add _ _).block ≠ _; rw [add_block]; exact Kd.own_blk (Kd.R_ne HO421.out BK426.out (by decide))) | (dsimp only; exact Kd.own_blk (Kd.R_ne HO421.out BK426.out (by decide)))) _).trans (hHeld.1)))), ((cell_far (p := ⟨gb426, _, none⟩) (by first | exact Kd.own_blk (Kd.R_ne HO421.out BK426.out (by decide)) | (rw [add_block]; exact Kd.own_blk (Kd.R_ne HO421.out BK426.out (by decide))) | (show (Addr.add _ _).block ≠ _; rw [add_block]; exact Kd.own_blk (Kd.R_ne HO421.out BK426.out (by decide))) | (dsimp only; exact Kd.own_blk (Kd.R_ne HO421.out BK426.out (by decide)))) _).trans (((cell_far (p := ⟨gb426, _, none⟩) (by first | exact Kd.own_blk (Kd.R_ne HO421.out BK426.out (by decide)) | (rw [add_block]; exact Kd.own_blk (Kd.R_ne HO421.out BK426.out (by decide))) | (show (Addr.add _ _).block ≠ _; rw [add_block]; exact Kd.own_blk (Kd.R_ne HO421.out BK426.out (by decide))) | (dsimp only; exact Kd.own_blk (Kd.R_ne HO421.out BK426.out (by decide)))) _).trans (hHeld.2))))⟩ (fun hHeld => ?_)
     clear hK K
     refine done_ (done_of HT_.out (by kernel_rfl)) ?_
     have := NB426_418.out
     have := NB418_426.out
     have := bcell BK426 0
     have := bcell BK426 1
     have := bfz BK426 0
     have := bfz BK426 1
     try go_wp2_with (first | ((with_reducible refine gate_callee (f := 92) rfl ?_); refine gL (some 22) Tryz.func92 #[.agg #[.int .i64 t423, .int .i64 t425]] ?_; (with_reducible refine (spec_EndOk.calls t423 t425 true _ A8.out).mono ?_); rintro e w22 ⟨rfl, hb⟩; refine ⟨_, rfl, ?_⟩; replace HO421 := am (Kd.R_below (by (with_reducible repeat apply ru); exact (Kd.R_mono (Kd.R_far (p := ⟨gb426, 1, none⟩) (Kd.R_far (p := ⟨gb426, 0, none⟩) (Kd.R_types HO421.out BK426.out (by decide)) (fun _ hk => hk.2) (.int .i64 t423)) (fun _ hk => hk.2) (.int .i64 t425)) (fun _ h_ => h_.1))) hb); replace BK418 := am (blk_below (g := gb418) (o := .cells #[.int .i64 0, .int .i64 0] 34 (0, 0)) (by (with_reducible repeat refine bu ?_); refine blk_far ?_ NB418_426.out _; (with_reducible repeat refine bu ?_); refine blk_far ?_ NB418_426.out _; (with_reducible repeat refine bu ?_); exact BK418.out) hb); replace BK426 := am (blk_below (g := gb426) (o := .cells #[.int .i64 t423, .int .i64 t425] 34 (0, 0)) (by (with_reducible repeat refine bu ?_); refine blk_put (cs := #[.int .i64 t423, .int .i64 0]) ?_ 1 _ rfl; (with_reducible repeat refine bu ?_); refine blk_put (cs := #[.int .i64 0, .int .i64 0]) ?_ 0 _ rfl; (with_reducible repeat refine bu ?_); exact BK426.out) hb); replace HB := hbS HB hb; (try clear hb); (try clear hk); have := bcell BK426 0; have := bcell BK426 1; have := bfz BK426 0; have := bfz BK426 1; have := bcell BK418 0; have := bcell BK418 1; have := bfz BK418 0; have := bfz BK418 1))
     refine bodyPost_ret (results_ct rfl _ _ gb418 34 #[.int .i64 t423, .int .i64 t425] (0, 0) _ rfl (by (with_reducible repeat refine bu ?_); refine blk_put (cs := #[.int .i64 t423, .int .i64 0]) ?_ 1 _ rfl; (with_reducible repeat refine bu ?_); refine blk_put (cs := #[.int .i64 0, .int .i64 0]) ?_ 0 _ rfl; (with_reducible repeat refine bu ?_); exact BK418.out) Tryz.underlying34 rfl (by kernel_rfl)) rfl ?_
     exact ⟨fi_, m2_⟩
    ·replace c9 := Bool.eq_false_iff.mpr c9
     subst c9
     have H1 : (some (0, 0, false)) = some (r1, r2, r3) := by rw [if_neg (show ¬ (false = true) by decide)] at H; exact H
     clear H
     have H := H1
     clear H1
     simp only [Option.some.injEq, Prod.mk.injEq] at H
     obtain ⟨rfl, rfl, rfl⟩ := H
     go_enter Tryz.func107, Tryz.ntmps107
     try go_wp2_with (first | ((with_reducible refine gate_dst (N := 2) rfl ?_); refine box_event rfl (N := 2) rfl (cs := #[.int .i64 0, .int .i64 0]) (t := 34) hr_ ?_; intro gb418 hg w25 hbox hb; have BK418 := am hbox; have GW418 := gwE HB hg; have GE418 := gwE HB hg; replace HB := hbS HB hb; clear hb hbox hg) | ((with_reducible refine gate_callee (f := 119) rfl ?_); refine gL (some 7) Tryz.func119 #[.string a0] ?_; (with_reducible refine (spec_l1Words.calls k a0 t419 _ A2.out).mono ?_); rintro e w26 ⟨v420, rfl, ho0, hb⟩; refine ⟨_, rfl, ?_⟩; have HO421 := am (Kd.R_lower ho0 (below_size (bl HB))); replace BK418 := bkB BK418 hb; replace HB := hbS HB hb; (try clear hb); (try clear ho0); obtain ⟨Ao27, co27, eo27⟩ := Kd.R_slice HO421.out; subst eo27))
     replace HO421 := am (Kd.R_drew HO421.out)
     replace BK418 := am (blk_drew BK418.out)
     replace HB := am (below_drew1 HB.out)
     have p422 : 0 ≤ (0 : Int) := (by omega)
     have q422 : 0 < (t419.length : Int) := of_decide_eq_true da_
     obtain ⟨ad422, e422, hx422_0⟩ := Kd.at_string (Kd.R_reads' HO421.out).2.2 0 p422 q422
     cases e422
     have qi422 : (0 < t419.length) = True := eq_true (by omega)
     (try rw [show ((0 : Int)).toNat = 0 from rfl] at hx422_0)
     (try rw [Addr.add_zero'] at hx422_0)
     replace p422 := eq_true p422
     replace q422 := eq_true q422
     have p424 : 0 ≤ (1 : Int) := (by omega)
     have q424 : 1 < (t419.length : Int) := of_decide_eq_true da_
     obtain ⟨ad424, e424, hx424_0⟩ := Kd.at_string (Kd.R_reads' HO421.out).2.2 1 p424 q424
     obtain rfl : ad422 = ad424 := (by injection e424)
     (try simp only [show (1 : Int).toNat = 1 from rfl, Nat.reduceMul, Nat.reduceEqDiff, Go.Addr.add, ↓reduceIte] at hx424_0)
     have qi424 : (1 < t419.length) = True := eq_true (by omega)
     (try rw [show ((1 : Int)).toNat = 1 from rfl] at hx424_0)
     replace p424 := eq_true p424
     replace q424 := eq_true q424
     refine start_ (n := 11) (S := fun w' => w'.cell? ad422 = some (.string (rdOf ByteArray.empty t419 0)) ∧ w'.cell? ⟨ad422.block, ad422.off + 1, none⟩ = some (.string (rdOf ByteArray.empty t419 1))) (ds := []) #[false, false, false, false, false, false, false, false, false, false, false] (by kernel_rfl) rfl rfl ⟨hx422_0, hx424_0⟩ (fun hHeld => ?_); refine with_tabW spec_EndRead.tab4 spec_EndRead.bits4 (fun HT_ HW_ => ?_)
     generalize w26.drew = w28 at HO421 BK418 HB hx422_0 hx424_0 hHeld ⊢
     refine pu_ 0 (some 12) (bm 11 1) ?_
     refine pu_ 1 (some 13) (bm 11 3) ?_
     refine pu_ 4 (some 16) (bm 11 19) ?_
     refine pu_ 5 (some 17) (bm 11 51) ?_
     refine tk_ 2 (some 14) (bm 11 55) rfl (.inl ⟨rfl, m3_⟩) ?_
     refine tk_ 6 (some 18) (bm 11 119) rfl (.inl ⟨rfl, m3_⟩) ?_
     refine join_ (σ := Nat) 1 #[true, true, true, true, true, true, true, true, true, true, false] (fun s_ => [(15, .int .i64 t423), (19, .int .i64 t425), (5, .pointer (some ⟨s_, 0, none⟩)), (20, .agg #[.int .i64 t423, .int .i64 t425])]) (fun s_ w' => (w'.cell? ad422 = some (.string (rdOf ByteArray.empty t419 0)) ∧ w'.cell? ⟨ad422.block, ad422.off + 1, none⟩ = some (.string (rdOf ByteArray.empty t419 1))) ∧ (Kd.R Kd.string 9 w' w.heap.size (fun _ => True) (.slice (some ad422) t419.length co27) t419) ∧ (w'.heap[gb418]? = some (.cells #[.int .i64 0, .int .i64 0] 34 (0, 0))) ∧ (w'.heap[s_]? = some (.cells #[.int .i64 0, .int .i64 0] 34 (0, 0))) ∧ (w.heap.size ≤ s_) ∧ (w.heap.size ≤ s_) ∧ (gb418 ≠ s_) ∧ (s_ ≠ gb418) ∧ (Below w.heap.size w w')) ?_ ?_
     rotate_left
     ·intro hCont
      refine two_ (i := 3) (j := 9) (Ni := some 15) (Nj := some 5) #[true, true, true, true, true, true, true, false, false, false, false] #[true, true, true, false, true, true, true, false, false, true, false] rfl rfl rfl rfl (two_of HT_.out (by kernel_rfl)) (by decide) (by decide) (fun K hK => ?_) (fun K hK => ?_)
      ·skip
       refine gR Tryz.func120 #[.string (rdOf ByteArray.empty t419 0)] ?_
       with_reducible refine (spec_l1Num.calls k (rdOf ByteArray.empty t419 0) t423 _ A5.out).mono ?_
       rintro e w29 ⟨rfl, hb⟩
       have HS0_ := bch hb (hHeld.1)
       have HS1_ := bch hb (hHeld.2)
       refine ⟨_, rfl, ?_⟩
       replace HO421 := am (Kd.R_below (rs HO421) hb)
       replace BK418 := bkB BK418 hb
       replace HB := hbS HB hb
       (try clear hb)
       (try clear hb2)
       (try clear hk)
       (try clear hi)
       refine hK.out _ _ ⟨HS0_, HS1_⟩ (fun hHeld => ?_)
       clear hK K
       refine nm_ ?_
       refine two_ (i := 7) (j := 9) (Ni := some 19) (Nj := some 5) #[true, true, true, true, true, true, true, true, false, false, false] #[true, true, true, true, true, true, true, false, false, true, false] rfl rfl rfl rfl (two_of HT_.out (by kernel_rfl)) (by decide) (by decide) (fun K hK => ?_) (fun K hK => ?_)
       ·skip
        refine gR Tryz.func120 #[.string (rdOf ByteArray.empty t419 1)] ?_
        with_reducible refine (spec_l1Num.calls k (rdOf ByteArray.empty t419 1) t425 _ A7.out).mono ?_
        rintro e w30 ⟨rfl, hb⟩
        have HS0_ := bch hb (hHeld.1)
        have HS1_ := bch hb (hHeld.2)
        refine ⟨_, rfl, ?_⟩
        replace HO421 := am (Kd.R_below (rs HO421) hb)
        replace BK418 := bkB BK418 hb
        replace HB := hbS HB hb
        (try clear hb)
        (try clear hb2)
        (try clear hk)
        (try clear hi)
        refine hK.out _ _ ⟨HS0_, HS1_⟩ (fun hHeld => ?_)
        clear hK K
        refine nm_ ?_
        refine pu_ 8 (some 20) (bm 11 511) ?_
        refine on_ 9 (some 5) (bm 11 1023) (fun K hK => ?_)
        refine box_step rfl (N := 5) rfl (cs := #[.int .i64 0, .int .i64 0]) (t := 34) hr_ ?_
        intro gb426 hg w31 hbox hb
        have HS0_ := bch hb (hHeld.1)
        have HS1_ := bch hb (hHeld.2)
        replace HO421 := am (Kd.R_below (rs HO421) hb)
        have BK426 := am hbox
        have GW426 := gwE HB hg
        have GE426 := gwE HB hg
        replace HB := hbS HB hb
        have NB418_426 := neL BK418 hg
        have NB426_418 := neG BK418 hg
        replace BK418 := bkB BK418 hb
        clear hb hbox hg
        refine hK.out _ _ ⟨HS0_, HS1_⟩ (fun hHeld => ?_)
        clear hK K
        refine nm_ ?_
        exact norm_ (by simp only [putAll, Act.put, List.setIfInBounds_toArray, List.set_cons_zero, List.set_cons_succ]) (hCont (gb426) _ ⟨hHeld, (rs HO421), (bk BK418), (bk BK426), GW426.out, GE426.out, NB418_426.out, NB426_418.out, (bl HB)⟩)
       ·skip
        refine box_step rfl (N := 5) rfl (cs := #[.int .i64 0, .int .i64 0]) (t := 34) hr_ ?_
        intro gb426 hg w30 hbox hb
        have HS0_ := bch hb (hHeld.1)
        have HS1_ := bch hb (hHeld.2)
        replace HO421 := am (Kd.R_below (rs HO421) hb)
        have BK426 := am hbox
        have GW426 := gwE HB hg
        have GE426 := gwE HB hg
        replace HB := hbS HB hb
        have NB418_426 := neL BK418 hg
        have NB426_418 := neG BK418 hg
        replace BK418 := bkB BK418 hb
        clear hb hbox hg
        refine hK.out _ _ ⟨HS0_, HS1_⟩ (fun hHeld => ?_)
        clear hK K
        refine nm_ ?_
        refine on_ 7 (some 19) (bm 11 767) (fun K hK => ?_)
        refine gR Tryz.func120 #[.string (rdOf ByteArray.empty t419 1)] ?_
        with_reducible refine (spec_l1Num.calls k (rdOf ByteArray.empty t419 1) t425 _ A7.out).mono ?_
        rintro e w31 ⟨rfl, hb⟩
        have HS0_ := bch hb (hHeld.1)
        have HS1_ := bch hb (hHeld.2)
        refine ⟨_, rfl, ?_⟩
        replace HO421 := am (Kd.R_below (rs HO421) hb)
        replace BK418 := bkB BK418 hb
        replace BK426 := bkB BK426 hb
        replace HB := hbS HB hb
        (try clear hb)
        (try clear hb2)
        (try clear hk)
        (try clear hi)
        refine hK.out _ _ ⟨HS0_, HS1_⟩ (fun hHeld => ?_)
        clear hK K
        refine nm_ ?_
        refine pu_ 8 (some 20) (bm 11 1023) ?_
        exact norm_ (by simp only [putAll, Act.put, List.setIfInBounds_toArray, List.set_cons_zero, List.set_cons_succ]) (hCont (gb426) _ ⟨hHeld, (rs HO421), (bk BK418), (bk BK426), GW426.out, GE426.out, NB418_426.out, NB426_418.out, (bl HB)⟩)
      ·skip
       refine box_step rfl (N := 5) rfl (cs := #[.int .i64 0, .int .i64 0]) (t := 34) hr_ ?_
       intro gb426 hg w29 hbox hb
       have HS0_ := bch hb (hHeld.1)
       have HS1_ := bch hb (hHeld.2)
       replace HO421 := am (Kd.R_below (rs HO421) hb)
       have BK426 := am hbox
       have GW426 := gwE HB hg
       have GE426 := gwE HB hg
       replace HB := hbS HB hb
       have NB418_426 := neL BK418 hg
       have NB426_418 := neG BK418 hg
       replace BK418 := bkB BK418 hb
       clear hb hbox hg
       refine hK.out _ _ ⟨HS0_, HS1_⟩ (fun hHeld => ?_)
       clear hK K
       refine nm_ ?_
       refine on_ 3 (some 15) (bm 11 639) (fun K hK => ?_)
       refine gR Tryz.func120 #[.string (rdOf ByteArray.empty t419 0)] ?_
       with_reducible refine (spec_l1Num.calls k (rdOf ByteArray.empty t419 0) t423 _ A5.out).mono ?_
       rintro e w30 ⟨rfl, hb⟩
       have HS0_ := bch hb (hHeld.1)
       have HS1_ := bch hb (hHeld.2)
       refine ⟨_, rfl, ?_⟩
       replace HO421 := am (Kd.R_below (rs HO421) hb)
       replace BK418 := bkB BK418 hb
       replace BK426 := bkB BK426 hb
       replace HB := hbS HB hb
       (try clear hb)
       (try clear hb2)
       (try clear hk)
       (try clear hi)
       refine hK.out _ _ ⟨HS0_, HS1_⟩ (fun hHeld => ?_)
       clear hK K
       refine nm_ ?_
       refine on_ 7 (some 19) (bm 11 767) (fun K hK => ?_)
       refine gR Tryz.func120 #[.string (rdOf ByteArray.empty t419 1)] ?_
       with_reducible refine (spec_l1Num.calls k (rdOf ByteArray.empty t419 1) t425 _ A7.out).mono ?_
       rintro e w31 ⟨rfl, hb⟩
       have HS0_ := bch hb (hHeld.1)
       have HS1_ := bch hb (hHeld.2)
       refine ⟨_, rfl, ?_⟩
       replace HO421 := am (Kd.R_below (rs HO421) hb)
       replace BK418 := bkB BK418 hb
       replace BK426 := bkB BK426 hb
       replace HB := hbS HB hb
       (try clear hb)
       (try clear hb2)
       (try clear hk)
       (try clear hi)
       refine hK.out _ _ ⟨HS0_, HS1_⟩ (fun hHeld => ?_)
       clear hK K
       refine nm_ ?_
       refine pu_ 8 (some 20) (bm 11 1023) ?_
       exact norm_ (by simp only [putAll, Act.put, List.setIfInBounds_toArray, List.set_cons_zero, List.set_cons_succ]) (hCont (gb426) _ ⟨hHeld, (rs HO421), (bk BK418), (bk BK426), GW426.out, GE426.out, NB418_426.out, NB426_418.out, (bl HB)⟩)
     rintro gb426 w32 ⟨hS_, h0_, h1_, h2_, h3_, h4_, h5_, h6_, h7_⟩
     have n0_ : Aside0 (Kd.R Kd.string 9 w32 w.heap.size (fun _ => True) (.slice (some ad422) t419.length co27) t419) := ⟨h0_⟩
     have n1_ : Aside0 (w32.heap[gb418]? = some (.cells #[.int .i64 0, .int .i64 0] 34 (0, 0))) := ⟨h1_⟩
     have n2_ : Aside0 (w32.heap[gb426]? = some (.cells #[.int .i64 0, .int .i64 0] 34 (0, 0))) := ⟨h2_⟩
     have n3_ : Aside0 (w.heap.size ≤ gb426) := ⟨h3_⟩
     have n4_ : Aside0 (w.heap.size ≤ gb426) := ⟨h4_⟩
     have n5_ : Aside0 (gb418 ≠ gb426) := ⟨h5_⟩
     have n6_ : Aside0 (gb426 ≠ gb418) := ⟨h6_⟩
     have n7_ : Aside0 (Below w.heap.size w w32) := ⟨h7_⟩
     clear HO421
     clear BK418
     clear HB
     clear h0_ h1_ h2_ h3_ h4_ h5_ h6_ h7_
     have HO421 := n0_
     have BK418 := n1_
     have BK426 := n2_
     have GW426 := n3_
     have GE426 := n4_
     have NB418_426 := n5_
     have NB426_418 := n6_
     have HB := n7_
     clear n0_ n1_ n2_ n3_ n4_ n5_ n6_ n7_
     have hHeld : w32.cell? ad422 = some (.string (rdOf ByteArray.empty t419 0)) ∧ w32.cell? ⟨ad422.block, ad422.off + 1, none⟩ = some (.string (rdOf ByteArray.empty t419 1)) := hS_
     refine norm_ (a' := ?_) ?_ ?_
     rotate_left
     ·simp only [putAll, Act.put, List.setIfInBounds_toArray, List.set_cons_zero, List.set_cons_succ]
      rfl
     refine on_ 10 none (bm 11 2047) (fun K hK => ?_)
     have : w32.cell? ⟨gb426, 0, none⟩ = some (.int .i64 0) := bcell BK426 0
     have := bfz BK426 0
     have := NB418_426.out
     have := NB426_418.out
     have : w32.cell? ⟨gb426, 1, none⟩ = some (.int .i64 0) := bcell BK426 1
     have := bfz BK426 1
     have := NB418_426.out
     have := NB426_418.out
     refine skip_ (w1 := ?_) (by rfl) rfl ?_ ?_
     rotate_left
     ·go_simp
      rfl
     refine hK.out _ _ ⟨((cell_far (p := ⟨gb426, _, none⟩) (by first | exact Kd.own_blk (Kd.R_ne HO421.out BK426.out (by decide)) | (rw [add_block]; exact Kd.own_blk (Kd.R_ne HO421.out BK426.out (by decide))) | (show (Addr.add _ _).block ≠ _; rw [add_block]; exact Kd.own_blk (Kd.R_ne HO421.out BK426.out (by decide))) | (dsimp only; exact Kd.own_blk (Kd.R_ne HO421.out BK426.out (by decide)))) _).trans (((cell_far (p := ⟨gb426, _, none⟩) (by first | exact Kd.own_blk (Kd.R_ne HO421.out BK426.out (by decide)) | (rw [add_block]; exact Kd.own_blk (Kd.R_ne HO421.out BK426.out (by decide))) | (show (Addr.add _ _).block ≠ _; rw [add_block]; exact Kd.own_blk (Kd.R_ne HO421.out BK426.out (by decide))) | (dsimp only; exact Kd.own_blk (Kd.R_ne HO421.out BK426.out (by decide)))) _).trans (hHeld.1)))), ((cell_far (p := ⟨gb426, _, none⟩) (by first | exact Kd.own_blk (Kd.R_ne HO421.out BK426.out (by decide)) | (rw [add_block]; exact Kd.own_blk (Kd.R_ne HO421.out BK426.out (by decide))) | (show (Addr.add _ _).block ≠ _; rw [add_block]; exact Kd.own_blk (Kd.R_ne HO421.out BK426.out (by decide))) | (dsimp only; exact Kd.own_blk (Kd.R_ne HO421.out BK426.out (by decide)))) _).trans (((cell_far (p := ⟨gb426, _, none⟩) (by first | exact Kd.own_blk (Kd.R_ne HO421.out BK426.out (by decide)) | (rw [add_block]; exact Kd.own_blk (Kd.R_ne HO421.out BK426.out (by decide))) | (show (Addr.add _ _).block ≠ _; rw [add_block]; exact Kd.own_blk (Kd.R_ne HO421.out BK426.out (by decide))) | (dsimp only; exact Kd.own_blk (Kd.R_ne HO421.out BK426.out (by decide)))) _).trans (hHeld.2))))⟩ (fun hHeld => ?_)
     clear hK K
     refine done_ (done_of HT_.out (by kernel_rfl)) ?_
     have := NB426_418.out
     have := NB418_426.out
     have := bcell BK426 0
     have := bcell BK426 1
     have := bfz BK426 0
     have := bfz BK426 1
     try go_wp2_with (first | ((with_reducible refine gate_callee (f := 92) rfl ?_); refine gL (some 22) Tryz.func92 #[.agg #[.int .i64 t423, .int .i64 t425]] ?_; (with_reducible refine (spec_EndOk.calls t423 t425 false _ A8.out).mono ?_); rintro e w37 ⟨rfl, hb⟩; refine ⟨_, rfl, ?_⟩; replace HO421 := am (Kd.R_below (by (with_reducible repeat apply ru); exact (Kd.R_mono (Kd.R_far (p := ⟨gb426, 1, none⟩) (Kd.R_far (p := ⟨gb426, 0, none⟩) (Kd.R_types HO421.out BK426.out (by decide)) (fun _ hk => hk.2) (.int .i64 t423)) (fun _ hk => hk.2) (.int .i64 t425)) (fun _ h_ => h_.1))) hb); replace BK418 := am (blk_below (g := gb418) (o := .cells #[.int .i64 0, .int .i64 0] 34 (0, 0)) (by (with_reducible repeat refine bu ?_); refine blk_far ?_ NB418_426.out _; (with_reducible repeat refine bu ?_); refine blk_far ?_ NB418_426.out _; (with_reducible repeat refine bu ?_); exact BK418.out) hb); replace BK426 := am (blk_below (g := gb426) (o := .cells #[.int .i64 t423, .int .i64 t425] 34 (0, 0)) (by (with_reducible repeat refine bu ?_); refine blk_put (cs := #[.int .i64 t423, .int .i64 0]) ?_ 1 _ rfl; (with_reducible repeat refine bu ?_); refine blk_put (cs := #[.int .i64 0, .int .i64 0]) ?_ 0 _ rfl; (with_reducible repeat refine bu ?_); exact BK426.out) hb); replace HB := hbS HB hb; (try clear hb); (try clear hk); have := bcell BK418 0; have := bcell BK418 1; have := bfz BK418 0; have := bfz BK418 1))
     refine bodyPost_ret (results_ct rfl _ _ gb418 34 #[.int .i64 0, .int .i64 0] (0, 0) _ rfl (by (with_reducible repeat refine bu ?_); refine blk_put (cs := #[.int .i64 0, .int .i64 0]) ?_ 1 _ rfl; (with_reducible repeat refine bu ?_); refine blk_put (cs := #[.int .i64 0, .int .i64 0]) ?_ 0 _ rfl; (with_reducible repeat refine bu ?_); exact BK418.out) Tryz.underlying34 rfl (by kernel_rfl)) rfl ?_
     exact ⟨fi_, m2_⟩
   ·rw [if_neg c6] at H
    exact absurd H (by simp)
  ·rw [if_neg c4] at H
   exact absurd H (by simp)
 ·rw [if_neg c3] at H
  have c3b0 : ((t419.length : Int) == 2) = false := beq_eq_false_iff_ne.mpr c3
  have c3b1 : ((t419.length : Int) != 2) = true := bne_iff_ne.mpr c3
  simp only [Option.some.injEq, Prod.mk.injEq] at H
  obtain ⟨rfl, rfl, rfl⟩ := H
  go_enter Tryz.func107, Tryz.ntmps107
  go_wp2_with (first | ((with_reducible refine gate_dst (N := 2) rfl ?_); refine box_event rfl (N := 2) rfl (cs := #[.int .i64 0, .int .i64 0]) (t := 34) hr_ ?_; intro gb418 hg w39 hbox hb; have BK418 := am hbox; have GW418 := gwE HB hg; have GE418 := gwE HB hg; replace HB := hbS HB hb; clear hb hbox hg) | ((with_reducible refine gate_callee (f := 119) rfl ?_); refine gL (some 7) Tryz.func119 #[.string a0] ?_; (with_reducible refine (spec_l1Words.calls k a0 t419 _ A2.out).mono ?_); rintro e w40 ⟨v420, rfl, ho0, hb⟩; refine ⟨_, rfl, ?_⟩; have HO421 := am (Kd.R_lower ho0 (below_size (bl HB))); replace BK418 := bkB BK418 hb; replace HB := hbS HB hb; (try clear hb); (try clear ho0); obtain ⟨Ao41, co41, eo41⟩ := Kd.R_slice HO421.out; subst eo41; have := bcell BK418 0; have := bcell BK418 1; have := bfz BK418 0; have := bfz BK418 1))
  refine bodyPost_ret (results_ct rfl _ _ gb418 34 #[.int .i64 0, .int .i64 0] (0, 0) _ rfl (by (with_reducible repeat refine bu ?_); refine blk_put (cs := #[.int .i64 0, .int .i64 0]) ?_ 1 _ rfl; (with_reducible repeat refine bu ?_); refine blk_put (cs := #[.int .i64 0, .int .i64 0]) ?_ 0 _ rfl; (with_reducible repeat refine bu ?_); exact BK418.out) Tryz.underlying34 rfl (by kernel_rfl)) rfl ?_
  exact ⟨fi_, m2_⟩
def spec_LinSays.j0 : Nat → ByteArray → Bool → Option (Int × Int × Bool)
 | 0, _, _ => none
 | k + 1, x0, x13 => if x13 = true then (some (0, 0, false)) else (if 5 ≤ (x0.size : Int) then ((spec_EndRead.f k (x0.extract 5 x0.size)).bind fun bt429 => (if bt429.2.2 = true then ((spec_EndInside.f bt429.1 bt429.2.1).bind fun t433 => (if t433 = true then (some (bt429.1, bt429.2.1, true)) else (some (0, 0, false)))) else (some (0, 0, false)))) else (none))
def spec_LinSays.f (k : Nat) (a0 : ByteArray) : Option (Int × Int × Bool) := if (a0.size : Int) < 5 then (spec_LinSays.j0 k a0 true) else (if 0 ≤ 5 then (if 5 ≤ (a0.size : Int) then (spec_LinSays.j0 k a0 ((a0.extract 0 5).toList != ([112, 111, 114, 116, 32] : List UInt8))) else (none)) else (none))
theorem spec_LinSays.mono_l : ∀ k, (∀ y0 y1, LeO (spec_LinSays.j0 k y0 y1) (spec_LinSays.j0 (k + 1) y0 y1))
 | 0 => fun _ _ r h => by simp [spec_LinSays.j0] at h
 | k + 1 => by
  have ih0 := spec_LinSays.mono_l k
  ·intro y0 y1
   unfold spec_LinSays.j0
   repeat' first | (with_reducible first | exact ih0 _ _ | exact spec_EndRead.mono _ _ | exact LeO.refl _ | exact LeO.none _ | refine LeO.ite ?_ ?_ | refine LeO.bind ?_ (fun _ => ?_)) | exact ih0 _ _ | exact spec_EndRead.mono _ _ | exact LeO.none _ | refine LeO.ite ?_ ?_ | refine LeO.bind ?_ (fun _ => ?_)
theorem spec_LinSays.mono : ∀ a0 k, LeO (spec_LinSays.f k a0) (spec_LinSays.f (k + 1) a0) := by
 intro a0 k
 have ih0 := spec_LinSays.mono_l k
 unfold spec_LinSays.f
 repeat' first | (with_reducible first | exact ih0 _ _ | exact spec_EndRead.mono _ _ | exact LeO.refl _ | exact LeO.none _ | refine LeO.ite ?_ ?_ | refine LeO.bind ?_ (fun _ => ?_)) | exact ih0 _ _ | exact spec_EndRead.mono _ _ | exact LeO.none _ | refine LeO.ite ?_ ?_ | refine LeO.bind ?_ (fun _ => ?_)
set_option maxHeartbeats 8000000 in
set_option maxRecDepth 100000 in
theorem spec_LinSays.calls (k : Nat) (a0 : ByteArray) (r1 : Int) (r2 : Int) (r3 : Bool) (w : World) (h : spec_LinSays.f k a0 = some (r1, r2, r3)) :
  Calls Tryz.prog 79 #[.string a0] w fun e w' => e = .returned (.tuple #[.agg #[.int .i64 r1, .int .i64 r2], .bool r3]) ∧ Below w.heap.size w w' := by
 have hu34 := Tryz.underlying34
 have HB := am (Below.refl w.heap.size w)
 have H : (if (a0.size : Int) < 5 then (spec_LinSays.j0 k a0 true) else (if 0 ≤ 5 then (if 5 ≤ (a0.size : Int) then (spec_LinSays.j0 k a0 ((a0.extract 0 5).toList != ([112, 111, 114, 116, 32] : List UInt8))) else (none)) else (none))) = some (r1, r2, r3) := h
 clear h
 have HC2 := am H
 clear H
 go_enter Tryz.func79, Tryz.ntmps79
 go_upto_region 1 with (first | ((with_reducible refine gate_dst (N := 2) rfl ?_); refine box_event rfl (N := 2) rfl (cs := #[.int .i64 0, .int .i64 0]) (t := 34) hr_ ?_; intro gb428 hg w3 hbox hb; have BK428 := am hbox; have GW428 := gwE HB hg; have GE428 := gwE HB hg; replace HB := hbS HB hb; clear hb hbox hg))
 (try simp only [Act.put, List.setIfInBounds_toArray, List.set_cons_zero, List.set_cons_succ])
 go_cut [13] (fun v13 wc => ∃ (kq : Nat) (x13_1 : Bool), v13 = .bool x13_1 ∧ Aside0 (spec_LinSays.j0 kq a0 x13_1 = some (r1, r2, r3)) ∧ Aside0 (kq ≤ k) ∧ Aside0 (wc.heap[gb428]? = some (.cells #[.int .i64 0, .int .i64 0] 34 (0, 0))) ∧ Aside0 (Below w.heap.size w wc))
 case first =>
  have H := HC2.out
  clear HC2
  by_cases c4 : (a0.size : Int) < 5
  ·rw [if_pos c4] at H
   have c4b0 : decide ((a0.size : Int) < 5) = true := decide_eq_true c4
   have c4b1 : decide (a0.size < 5) = true := decide_eq_true (by omega)
   clear c4
   (first | rw [c4b0] | (simp only [i64_w, i32_w]; rw [c4b0]) | skip)
   have H' := am H
   clear H
   go_wp2
   go_meet
   case rel => exact ⟨_, (true), rs_, H', ⟨by first | omega | exact Nat.le_refl _⟩, ⟨bk BK428⟩, ⟨m2_⟩⟩
  ·rw [if_neg c4] at H
   have c4b0 : decide ((a0.size : Int) < 5) = false := decide_eq_false c4
   have c4b1 : decide (a0.size < 5) = false := decide_eq_false (by omega)
   clear c4
   (first | rw [c4b0] | (simp only [i64_w, i32_w]; rw [c4b0]) | skip)
   by_cases c5 : 0 ≤ 5
   ·rw [if_pos c5] at H
    have c5b0 := eq_true c5
    have c5b1 : decide (0 ≤ 5) = true := decide_eq_true c5
    clear c5
    by_cases c6 : 5 ≤ (a0.size : Int)
    ·rw [if_pos c6] at H
     have c6b0 := eq_true c6
     have c6b1 : decide (5 ≤ (a0.size : Int)) = true := decide_eq_true c6
     clear c6
     have H' := am H
     clear H
     go_wp2
     go_meet
     case rel => exact ⟨_, (((a0.extract 0 5).toList != ([112, 111, 114, 116, 32] : List UInt8))), rs_, H', ⟨by first | omega | exact Nat.le_refl _⟩, ⟨bk BK428⟩, ⟨m2_⟩⟩
    ·rw [if_neg c6] at H
     exact absurd H (by simp)
   ·rw [if_neg c5] at H
    exact absurd H (by simp)
 case rest =>
  clear HC2
  try clear p2
  try clear c4
  try clear c4b0
  try clear c4b1
  try clear c5
  try clear c5b0
  try clear c5b1
  try clear c6
  try clear c6b0
  try clear c6b1
  obtain ⟨kq, x13_1, rfl, HA, HJ1, BK428, HB⟩ := hcut
  cases kq with
  | zero => exact absurd HA.out (by simp [spec_LinSays.j0])
  | succ kj1 =>
   have H := HA.out
   clear HA
   simp only [spec_LinSays.j0] at H
   by_cases c7 : x13_1 = true
   ·subst c7
    have H1 : (some (0, 0, false)) = some (r1, r2, r3) := by rw [if_pos rfl] at H; exact H
    clear H
    have H := H1
    clear H1
    simp only [Option.some.injEq, Prod.mk.injEq] at H
    obtain ⟨rfl, rfl, rfl⟩ := H
    have := bcell BK428 0
    have := bcell BK428 1
    have := bfz BK428 0
    have := bfz BK428 1
    go_wp2
    refine bodyPost_ret (results_ct rfl _ _ gb428 34 #[.int .i64 0, .int .i64 0] (0, 0) _ rfl (by (with_reducible repeat refine bu ?_); refine blk_put (cs := #[.int .i64 0, .int .i64 0]) ?_ 1 _ rfl; (with_reducible repeat refine bu ?_); refine blk_put (cs := #[.int .i64 0, .int .i64 0]) ?_ 0 _ rfl; (with_reducible repeat refine bu ?_); exact BK428.out) Tryz.underlying34 rfl (by kernel_rfl)) rfl ?_
    exact ⟨fi_, m2_⟩
   ·replace c7 := Bool.eq_false_iff.mpr c7
    subst c7
    have H1 : (if 5 ≤ (a0.size : Int) then ((spec_EndRead.f kj1 (a0.extract 5 a0.size)).bind fun bt429 => (if bt429.2.2 = true then ((spec_EndInside.f bt429.1 bt429.2.1).bind fun t433 => (if t433 = true then (some (bt429.1, bt429.2.1, true)) else (some (0, 0, false)))) else (some (0, 0, false)))) else (none)) = some (r1, r2, r3) := by rw [if_neg (show ¬ (false = true) by decide)] at H; exact H
    clear H
    have H := H1
    clear H1
    by_cases c9 : 5 ≤ (a0.size : Int)
    ·rw [if_pos c9] at H
     have c9b0 := eq_true c9
     have c9b1 : decide (5 ≤ (a0.size : Int)) = true := decide_eq_true c9
     clear c9
     obtain ⟨⟨t429, t430, t431⟩, A10, H⟩ := bse H
     try dsimp only at H
     by_cases c11 : t431 = true
     ·subst c11
      have H1 : ((spec_EndInside.f t429 t430).bind fun t433 => (if t433 = true then (some (t429, t430, true)) else (some (0, 0, false)))) = some (r1, r2, r3) := by rw [if_pos rfl] at H; exact H
      clear H
      have H := H1
      clear H1
      obtain ⟨t433, A12, H⟩ := bse H
      try dsimp only at H
      by_cases c13 : t433 = true
      ·subst c13
       have H1 : (some (t429, t430, true)) = some (r1, r2, r3) := by rw [if_pos rfl] at H; exact H
       clear H
       have H := H1
       clear H1
       simp only [Option.some.injEq, Prod.mk.injEq] at H
       obtain ⟨rfl, rfl, rfl⟩ := H
       go_wp2_with (first | ((with_reducible refine gate_callee (f := 107) rfl ?_); refine gL (some 18) Tryz.func107 #[.string (a0.extract 5 a0.size)] ?_; (with_reducible refine (spec_EndRead.calls kj1 (a0.extract 5 a0.size) t429 t430 true _ A10.out).mono ?_); rintro e w14 ⟨rfl, hb⟩; refine ⟨_, rfl, ?_⟩; replace BK428 := bkB BK428 hb; replace HB := hbS HB hb; (try clear hb)) | ((with_reducible refine gate_dst (N := 4) rfl ?_); refine box_event rfl (N := 4) rfl (cs := #[.int .i64 0, .int .i64 0]) (t := 34) hr_ ?_; intro gb432 hg w15 hbox hb; have BK432 := am hbox; have GW432 := gwE HB hg; have GE432 := gwE HB hg; replace HB := hbS HB hb; have NB428_432 := neL BK428 hg; have NB432_428 := neG BK428 hg; replace BK428 := bkB BK428 hb; clear hb hbox hg; have := NB432_428.out; have := NB428_432.out; have := bcell BK432 0; have := bcell BK432 1; have := bfz BK432 0; have := bfz BK432 1) | (go_at_call 48; (with_reducible refine (spec_EndInside.calls t429 t430 true _ A12.out).mono ?_); rintro e w18 ⟨rfl, hb⟩; replace BK428 := am (blk_below (g := gb428) (o := .cells #[.int .i64 0, .int .i64 0] 34 (0, 0)) (by (with_reducible repeat refine bu ?_); refine blk_far ?_ NB428_432.out _; (with_reducible repeat refine bu ?_); refine blk_far ?_ NB428_432.out _; (with_reducible repeat refine bu ?_); exact BK428.out) hb); replace BK432 := am (blk_below (g := gb432) (o := .cells #[.int .i64 t429, .int .i64 t430] 34 (0, 0)) (by (with_reducible repeat refine bu ?_); refine blk_put (cs := #[.int .i64 t429, .int .i64 0]) ?_ 1 _ rfl; (with_reducible repeat refine bu ?_); refine blk_put (cs := #[.int .i64 0, .int .i64 0]) ?_ 0 _ rfl; (with_reducible repeat refine bu ?_); exact BK432.out) hb); replace HB := hbS HB hb; (try clear hb); have := bcell BK432 0; have := bcell BK432 1; have := bfz BK432 0; have := bfz BK432 1; have := bcell BK428 0; have := bcell BK428 1; have := bfz BK428 0; have := bfz BK428 1))
       refine bodyPost_ret (results_ct rfl _ _ gb428 34 #[.int .i64 t429, .int .i64 t430] (0, 0) _ rfl (by (with_reducible repeat refine bu ?_); refine blk_put (cs := #[.int .i64 t429, .int .i64 0]) ?_ 1 _ rfl; (with_reducible repeat refine bu ?_); refine blk_put (cs := #[.int .i64 0, .int .i64 0]) ?_ 0 _ rfl; (with_reducible repeat refine bu ?_); exact BK428.out) Tryz.underlying34 rfl (by kernel_rfl)) rfl ?_
       exact ⟨fi_, m2_⟩
      ·replace c13 := Bool.eq_false_iff.mpr c13
       subst c13
       have H1 : (some (0, 0, false)) = some (r1, r2, r3) := by rw [if_neg (show ¬ (false = true) by decide)] at H; exact H
       clear H
       have H := H1
       clear H1
       simp only [Option.some.injEq, Prod.mk.injEq] at H
       obtain ⟨rfl, rfl, rfl⟩ := H
       go_wp2_with (first | ((with_reducible refine gate_callee (f := 107) rfl ?_); refine gL (some 18) Tryz.func107 #[.string (a0.extract 5 a0.size)] ?_; (with_reducible refine (spec_EndRead.calls kj1 (a0.extract 5 a0.size) t429 t430 true _ A10.out).mono ?_); rintro e w21 ⟨rfl, hb⟩; refine ⟨_, rfl, ?_⟩; replace BK428 := bkB BK428 hb; replace HB := hbS HB hb; (try clear hb)) | ((with_reducible refine gate_dst (N := 4) rfl ?_); refine box_event rfl (N := 4) rfl (cs := #[.int .i64 0, .int .i64 0]) (t := 34) hr_ ?_; intro gb432 hg w22 hbox hb; have BK432 := am hbox; have GW432 := gwE HB hg; have GE432 := gwE HB hg; replace HB := hbS HB hb; have NB428_432 := neL BK428 hg; have NB432_428 := neG BK428 hg; replace BK428 := bkB BK428 hb; clear hb hbox hg; have := NB432_428.out; have := NB428_432.out; have := bcell BK432 0; have := bcell BK432 1; have := bfz BK432 0; have := bfz BK432 1) | (go_at_call 48; (with_reducible refine (spec_EndInside.calls t429 t430 false _ A12.out).mono ?_); rintro e w25 ⟨rfl, hb⟩; replace BK428 := am (blk_below (g := gb428) (o := .cells #[.int .i64 0, .int .i64 0] 34 (0, 0)) (by (with_reducible repeat refine bu ?_); refine blk_far ?_ NB428_432.out _; (with_reducible repeat refine bu ?_); refine blk_far ?_ NB428_432.out _; (with_reducible repeat refine bu ?_); exact BK428.out) hb); replace BK432 := am (blk_below (g := gb432) (o := .cells #[.int .i64 t429, .int .i64 t430] 34 (0, 0)) (by (with_reducible repeat refine bu ?_); refine blk_put (cs := #[.int .i64 t429, .int .i64 0]) ?_ 1 _ rfl; (with_reducible repeat refine bu ?_); refine blk_put (cs := #[.int .i64 0, .int .i64 0]) ?_ 0 _ rfl; (with_reducible repeat refine bu ?_); exact BK432.out) hb); replace HB := hbS HB hb; (try clear hb); have := bcell BK428 0; have := bcell BK428 1; have := bfz BK428 0; have := bfz BK428 1))
       refine bodyPost_ret (results_ct rfl _ _ gb428 34 #[.int .i64 0, .int .i64 0] (0, 0) _ rfl (by (with_reducible repeat refine bu ?_); refine blk_put (cs := #[.int .i64 0, .int .i64 0]) ?_ 1 _ rfl; (with_reducible repeat refine bu ?_); refine blk_put (cs := #[.int .i64 0, .int .i64 0]) ?_ 0 _ rfl; (with_reducible repeat refine bu ?_); exact BK428.out) Tryz.underlying34 rfl (by kernel_rfl)) rfl ?_
       exact ⟨fi_, m2_⟩
     ·replace c11 := Bool.eq_false_iff.mpr c11
      subst c11
      have H1 : (some (0, 0, false)) = some (r1, r2, r3) := by rw [if_neg (show ¬ (false = true) by decide)] at H; exact H
      clear H
      have H := H1
      clear H1
      simp only [Option.some.injEq, Prod.mk.injEq] at H
      obtain ⟨rfl, rfl, rfl⟩ := H
      go_wp2_with (first | ((with_reducible refine gate_callee (f := 107) rfl ?_); refine gL (some 18) Tryz.func107 #[.string (a0.extract 5 a0.size)] ?_; (with_reducible refine (spec_EndRead.calls kj1 (a0.extract 5 a0.size) t429 t430 false _ A10.out).mono ?_); rintro e w27 ⟨rfl, hb⟩; refine ⟨_, rfl, ?_⟩; replace BK428 := bkB BK428 hb; replace HB := hbS HB hb; (try clear hb)) | ((with_reducible refine gate_dst (N := 4) rfl ?_); refine box_event rfl (N := 4) rfl (cs := #[.int .i64 0, .int .i64 0]) (t := 34) hr_ ?_; intro gb432 hg w28 hbox hb; have BK432 := am hbox; have GW432 := gwE HB hg; have GE432 := gwE HB hg; replace HB := hbS HB hb; have NB428_432 := neL BK428 hg; have NB432_428 := neG BK428 hg; replace BK428 := bkB BK428 hb; clear hb hbox hg; have := NB432_428.out; have := NB428_432.out; have := bcell BK432 0; have := bcell BK432 1; have := bfz BK432 0; have := bfz BK432 1; have := bcell BK428 0; have := bcell BK428 1; have := bfz BK428 0; have := bfz BK428 1))
      refine bodyPost_ret (results_ct rfl _ _ gb428 34 #[.int .i64 0, .int .i64 0] (0, 0) _ rfl (by (with_reducible repeat refine bu ?_); refine blk_put (cs := #[.int .i64 0, .int .i64 0]) ?_ 1 _ rfl; (with_reducible repeat refine bu ?_); refine blk_put (cs := #[.int .i64 0, .int .i64 0]) ?_ 0 _ rfl; (with_reducible repeat refine bu ?_); refine blk_far ?_ NB428_432.out _; (with_reducible repeat refine bu ?_); refine blk_far ?_ NB428_432.out _; (with_reducible repeat refine bu ?_); exact BK428.out) Tryz.underlying34 rfl (by kernel_rfl)) rfl ?_
      exact ⟨fi_, m2_⟩
    ·rw [if_neg c9] at H
     exact absurd H (by simp)
def spec_EndText.f (k : Nat) (a0_0 : Int) (a0_1 : Int) : Option (ByteArray) := (spec_EndOk.f a0_0 a0_1).bind fun t228 => (if t228 = true then ((spec_l1Plain.f k a0_0).bind fun t229 => (if t229.size + 1 ≤ 9223372036854775807 then ((spec_l1Plain.f k a0_1).bind fun t230 => (if (t229 ++ (⟨#[32]⟩ : ByteArray)).size + t230.size ≤ 9223372036854775807 then (some ((t229 ++ (⟨#[32]⟩ : ByteArray)) ++ t230)) else (none))) else (none))) else (some (⟨#[]⟩ : ByteArray)))
theorem spec_EndText.mono : ∀ a0 a1 k, LeO (spec_EndText.f k a0 a1) (spec_EndText.f (k + 1) a0 a1) := by
 intro a0 a1 k
 unfold spec_EndText.f
 repeat' first | (with_reducible first | exact spec_l1Plain.mono _ _ | exact LeO.refl _ | exact LeO.none _ | refine LeO.ite ?_ ?_ | refine LeO.bind ?_ (fun _ => ?_)) | exact spec_l1Plain.mono _ _ | exact LeO.none _ | refine LeO.ite ?_ ?_ | refine LeO.bind ?_ (fun _ => ?_)
def spec_EndText.T3 : Bool × List (List Nat × List Nat) := (true, [([], []), ([0], [0]), ([1], [1]), ([2], [2]), ([], []), ([4], [4]), ([5, 2], [5]), ([3, 6], [3, 6]), ([7, 6, 0, 1, 2, 3, 4, 5, 6, 7], [7])])
def spec_EndText.B3 : List Nat := [0, 1, 3, 7, 0, 16, 55, 127, 255]
theorem spec_EndText.tab3 : rtab .any (opsOf Tryz.f93 3) = spec_EndText.T3 := by kernel_rfl
theorem spec_EndText.bits3 : waitsOk spec_EndText.T3.2 spec_EndText.B3 = true := by kernel_rfl
set_option maxHeartbeats 8000000 in
set_option maxRecDepth 100000 in
theorem spec_EndText.calls (k : Nat) (a0_0 : Int) (a0_1 : Int) (r : ByteArray) (w : World) (h : spec_EndText.f k a0_0 a0_1 = some r) :
  Calls Tryz.prog 93 #[.agg #[.int .i64 a0_0, .int .i64 a0_1]] w fun e w' => e = .returned (.string r) ∧ Below w.heap.size w w' := by
 have hu34 := Tryz.underlying34
 have HB := am (Below.refl w.heap.size w)
 have H : ((spec_EndOk.f a0_0 a0_1).bind fun t228 => (if t228 = true then ((spec_l1Plain.f k a0_0).bind fun t229 => (if t229.size + 1 ≤ 9223372036854775807 then ((spec_l1Plain.f k a0_1).bind fun t230 => (if (t229 ++ (⟨#[32]⟩ : ByteArray)).size + t230.size ≤ 9223372036854775807 then (some ((t229 ++ (⟨#[32]⟩ : ByteArray)) ++ t230)) else (none))) else (none))) else (some (⟨#[]⟩ : ByteArray)))) = some r := h
 clear h
 obtain ⟨t228, A2, H⟩ := bse H
 try dsimp only at H
 by_cases c3 : t228 = true
 ·subst c3
  have H1 : ((spec_l1Plain.f k a0_0).bind fun t229 => (if t229.size + 1 ≤ 9223372036854775807 then ((spec_l1Plain.f k a0_1).bind fun t230 => (if (t229 ++ (⟨#[32]⟩ : ByteArray)).size + t230.size ≤ 9223372036854775807 then (some ((t229 ++ (⟨#[32]⟩ : ByteArray)) ++ t230)) else (none))) else (none))) = some r := by rw [if_pos rfl] at H; exact H
  clear H
  have H := H1
  clear H1
  obtain ⟨t229, A4, H⟩ := bse H
  try dsimp only at H
  by_cases c5 : t229.size + 1 ≤ 9223372036854775807
  ·rw [if_pos c5] at H
   have c5b0 := eq_true c5
   have c5b1 : decide (t229.size + 1 ≤ 9223372036854775807) = true := decide_eq_true c5
   try have c5b2 : (9223372036854775807 < t229.size + 1) = False := eq_false (Nat.not_lt.2 c5)
   obtain ⟨t230, A6, H⟩ := bse H
   try dsimp only at H
   by_cases c7 : (t229 ++ (⟨#[32]⟩ : ByteArray)).size + t230.size ≤ 9223372036854775807
   ·rw [if_pos c7] at H
    have c7b0 := eq_true c7
    have c7b1 : decide ((t229 ++ (⟨#[32]⟩ : ByteArray)).size + t230.size ≤ 9223372036854775807) = true := decide_eq_true c7
    try have c7b2 : (9223372036854775807 < (t229 ++ (⟨#[32]⟩ : ByteArray)).size + t230.size) = False := eq_false (Nat.not_lt.2 c7)
    try have c7b3 : (9223372036854775807 < t229.size + 1 + t230.size) = False := (by have z_ := c7b2; simp only [ByteArray.size_append] at z_; exact z_)
    obtain rfl := Option.some.inj H
    go_enter Tryz.func93, Tryz.ntmps93
    try go_wp2_with (first | ((with_reducible refine gate_dst (N := 1) rfl ?_); refine box_event rfl (N := 1) rfl (cs := #[.int .i64 a0_0, .int .i64 a0_1]) (t := 34) hr_ ?_; intro gb227 hg w8 hbox hb; have BK227 := am hbox; have GW227 := gwE HB hg; have GE227 := gwE HB hg; replace HB := hbS HB hb; clear hb hbox hg; have := bcell BK227 0; have := bcell BK227 1; have := bfz BK227 0; have := bfz BK227 1) | ((with_reducible refine gate_callee (f := 92) rfl ?_); refine gL (some 4) Tryz.func92 #[.agg #[.int .i64 a0_0, .int .i64 a0_1]] ?_; (with_reducible refine (spec_EndOk.calls a0_0 a0_1 true _ A2.out).mono ?_); rintro e w10 ⟨rfl, hb⟩; refine ⟨_, rfl, ?_⟩; replace BK227 := bkB BK227 hb; replace HB := hbS HB hb; (try clear hb)))
    replace BK227 := am (blk_drew BK227.out)
    replace HB := am (below_drew1 HB.out)
    refine start_ (n := 9) (S := fun w' => w'.cell? ⟨gb227, 0, none⟩ = some (.int .i64 a0_0) ∧ w'.cell? ⟨gb227, 1, none⟩ = some (.int .i64 a0_1)) (ds := []) #[false, false, false, false, false, false, false, false, false] (by kernel_rfl) rfl rfl ⟨bcell BK227 0, bcell BK227 1⟩ (fun hHeld => ?_); refine with_tabW spec_EndText.tab3 spec_EndText.bits3 (fun HT_ HW_ => ?_)
    generalize w10.drew = w11 at BK227 HB hHeld ⊢
    refine pu_ 0 (some 6) (bm 9 1) ?_
    refine pu_ 4 (some 10) (bm 9 17) ?_
    refine tk_ 1 (some 7) (bm 9 19) rfl (.inl ⟨rfl, m3_⟩) ?_
    refine tk_ 5 (some 11) (bm 9 51) rfl (.inl ⟨rfl, m3_⟩) ?_
    refine on_ 2 (some 8) (bm 9 55) (fun K hK => ?_)
    refine gR Tryz.func114 #[.int .i64 a0_0] ?_
    with_reducible refine (spec_l1Plain.calls k a0_0 t229 _ A4.out).mono ?_
    rintro e w12 ⟨rfl, hb⟩
    refine ⟨_, rfl, ?_⟩
    replace BK227 := bkB BK227 hb
    replace HB := hbS HB hb
    (try clear hb)
    (try clear hb2)
    (try clear hk)
    (try clear hi)
    refine hK.out _ _ ⟨bcell BK227 0, bcell BK227 1⟩ (fun hHeld => ?_)
    clear hK K
    refine nm_ ?_
    refine pu_ 3 (some 9) (bm 9 63) ?_
    refine on_ 6 (some 12) (bm 9 127) (fun K hK => ?_)
    refine gR Tryz.func114 #[.int .i64 a0_1] ?_
    with_reducible refine (spec_l1Plain.calls k a0_1 t230 _ A6.out).mono ?_
    rintro e w13 ⟨rfl, hb⟩
    refine ⟨_, rfl, ?_⟩
    replace BK227 := bkB BK227 hb
    replace HB := hbS HB hb
    (try clear hb)
    (try clear hb2)
    (try clear hk)
    (try clear hi)
    refine hK.out _ _ ⟨bcell BK227 0, bcell BK227 1⟩ (fun hHeld => ?_)
    clear hK K
    refine nm_ ?_
    refine pu_ 7 (some 13) (bm 9 255) ?_
    refine pu_ 8 (some 2) (bm 9 511) ?_
    refine done_ (done_of HT_.out (by kernel_rfl)) ?_
    try go_wp2
    go_ret
    exact ⟨fi_, m2_⟩
   ·rw [if_neg c7] at H
    exact absurd H (by simp)
  ·rw [if_neg c5] at H
   exact absurd H (by simp)
 ·replace c3 := Bool.eq_false_iff.mpr c3
  subst c3
  have H1 : (some (⟨#[]⟩ : ByteArray)) = some r := by rw [if_neg (show ¬ (false = true) by decide)] at H; exact H
  clear H
  have H := H1
  clear H1
  obtain rfl := Option.some.inj H
  go_enter Tryz.func93, Tryz.ntmps93
  go_wp2_with (first | ((with_reducible refine gate_dst (N := 1) rfl ?_); refine box_event rfl (N := 1) rfl (cs := #[.int .i64 a0_0, .int .i64 a0_1]) (t := 34) hr_ ?_; intro gb227 hg w14 hbox hb; have BK227 := am hbox; have GW227 := gwE HB hg; have GE227 := gwE HB hg; replace HB := hbS HB hb; clear hb hbox hg; have := bcell BK227 0; have := bcell BK227 1; have := bfz BK227 0; have := bfz BK227 1) | ((with_reducible refine gate_callee (f := 92) rfl ?_); refine gL (some 4) Tryz.func92 #[.agg #[.int .i64 a0_0, .int .i64 a0_1]] ?_; (with_reducible refine (spec_EndOk.calls a0_0 a0_1 false _ A2.out).mono ?_); rintro e w16 ⟨rfl, hb⟩; refine ⟨_, rfl, ?_⟩; replace BK227 := bkB BK227 hb; replace HB := hbS HB hb; (try clear hb)))
  go_ret
  exact ⟨fi_, m2_⟩
def spec_LinPort.f (k : Nat) (a0_0 : Int) (a0_1 : Int) : Option (ByteArray) := (spec_EndOk.f a0_0 a0_1).bind fun t232 => (if t232 = true then ((spec_EndText.f k a0_0 a0_1).bind fun t233 => (if 5 + t233.size ≤ 9223372036854775807 then (some ((⟨#[112, 111, 114, 116, 32]⟩ : ByteArray) ++ t233)) else (none))) else (some (⟨#[]⟩ : ByteArray)))
theorem spec_LinPort.mono : ∀ a0 a1 k, LeO (spec_LinPort.f k a0 a1) (spec_LinPort.f (k + 1) a0 a1) := by
 intro a0 a1 k
 unfold spec_LinPort.f
 repeat' first | (with_reducible first | exact spec_EndText.mono _ _ _ | exact LeO.refl _ | exact LeO.none _ | refine LeO.ite ?_ ?_ | refine LeO.bind ?_ (fun _ => ?_)) | exact spec_EndText.mono _ _ _ | exact LeO.none _ | refine LeO.ite ?_ ?_ | refine LeO.bind ?_ (fun _ => ?_)
set_option maxHeartbeats 8000000 in
set_option maxRecDepth 100000 in
theorem spec_LinPort.calls (k : Nat) (a0_0 : Int) (a0_1 : Int) (r : ByteArray) (w : World) (h : spec_LinPort.f k a0_0 a0_1 = some r) :
  Calls Tryz.prog 64 #[.agg #[.int .i64 a0_0, .int .i64 a0_1]] w fun e w' => e = .returned (.string r) ∧ Below w.heap.size w w' := by
 have hu34 := Tryz.underlying34
 have HB := am (Below.refl w.heap.size w)
 have H : ((spec_EndOk.f a0_0 a0_1).bind fun t232 => (if t232 = true then ((spec_EndText.f k a0_0 a0_1).bind fun t233 => (if 5 + t233.size ≤ 9223372036854775807 then (some ((⟨#[112, 111, 114, 116, 32]⟩ : ByteArray) ++ t233)) else (none))) else (some (⟨#[]⟩ : ByteArray)))) = some r := h
 clear h
 obtain ⟨t232, A2, H⟩ := bse H
 try dsimp only at H
 by_cases c3 : t232 = true
 ·subst c3
  have H1 : ((spec_EndText.f k a0_0 a0_1).bind fun t233 => (if 5 + t233.size ≤ 9223372036854775807 then (some ((⟨#[112, 111, 114, 116, 32]⟩ : ByteArray) ++ t233)) else (none))) = some r := by rw [if_pos rfl] at H; exact H
  clear H
  have H := H1
  clear H1
  obtain ⟨t233, A4, H⟩ := bse H
  try dsimp only at H
  by_cases c5 : 5 + t233.size ≤ 9223372036854775807
  ·rw [if_pos c5] at H
   have c5b0 := eq_true c5
   have c5b1 : decide (5 + t233.size ≤ 9223372036854775807) = true := decide_eq_true c5
   try have c5b2 : (9223372036854775807 < 5 + t233.size) = False := eq_false (Nat.not_lt.2 c5)
   obtain rfl := Option.some.inj H
   go_enter Tryz.func64, Tryz.ntmps64
   go_wp2_with (first | ((with_reducible refine gate_dst (N := 1) rfl ?_); refine box_event rfl (N := 1) rfl (cs := #[.int .i64 a0_0, .int .i64 a0_1]) (t := 34) hr_ ?_; intro gb231 hg w6 hbox hb; have BK231 := am hbox; have GW231 := gwE HB hg; have GE231 := gwE HB hg; replace HB := hbS HB hb; clear hb hbox hg; have := bcell BK231 0; have := bcell BK231 1; have := bfz BK231 0; have := bfz BK231 1) | ((with_reducible refine gate_callee (f := 92) rfl ?_); refine gL (some 4) Tryz.func92 #[.agg #[.int .i64 a0_0, .int .i64 a0_1]] ?_; (with_reducible refine (spec_EndOk.calls a0_0 a0_1 true _ A2.out).mono ?_); rintro e w8 ⟨rfl, hb⟩; refine ⟨_, rfl, ?_⟩; replace BK231 := bkB BK231 hb; replace HB := hbS HB hb; (try clear hb); have := bcell BK231 0; have := bcell BK231 1; have := bfz BK231 0; have := bfz BK231 1) | ((with_reducible refine gate_callee (f := 93) rfl ?_); refine gL (some 7) Tryz.func93 #[.agg #[.int .i64 a0_0, .int .i64 a0_1]] ?_; (with_reducible refine (spec_EndText.calls k a0_0 a0_1 t233 _ A4.out).mono ?_); rintro e w10 ⟨rfl, hb⟩; refine ⟨_, rfl, ?_⟩; replace BK231 := bkB BK231 hb; replace HB := hbS HB hb; (try clear hb)))
   go_ret
   exact ⟨fi_, m2_⟩
  ·rw [if_neg c5] at H
   exact absurd H (by simp)
 ·replace c3 := Bool.eq_false_iff.mpr c3
  subst c3
  have H1 : (some (⟨#[]⟩ : ByteArray)) = some r := by rw [if_neg (show ¬ (false = true) by decide)] at H; exact H
  clear H
  have H := H1
  clear H1
  obtain rfl := Option.some.inj H
  go_enter Tryz.func64, Tryz.ntmps64
  go_wp2_with (first | ((with_reducible refine gate_dst (N := 1) rfl ?_); refine box_event rfl (N := 1) rfl (cs := #[.int .i64 a0_0, .int .i64 a0_1]) (t := 34) hr_ ?_; intro gb231 hg w11 hbox hb; have BK231 := am hbox; have GW231 := gwE HB hg; have GE231 := gwE HB hg; replace HB := hbS HB hb; clear hb hbox hg; have := bcell BK231 0; have := bcell BK231 1; have := bfz BK231 0; have := bfz BK231 1) | ((with_reducible refine gate_callee (f := 92) rfl ?_); refine gL (some 4) Tryz.func92 #[.agg #[.int .i64 a0_0, .int .i64 a0_1]] ?_; (with_reducible refine (spec_EndOk.calls a0_0 a0_1 false _ A2.out).mono ?_); rintro e w13 ⟨rfl, hb⟩; refine ⟨_, rfl, ?_⟩; replace BK231 := bkB BK231 hb; replace HB := hbS HB hb; (try clear hb)))
  go_ret
  exact ⟨fi_, m2_⟩
def spec_l2Byte.f (a0 : Int) : Option (Bool) := if a0 ≥ 97 then (if a0 ≤ 122 then (some true) else (if a0 ≥ 48 then (if a0 ≤ 57 then (some true) else (some (a0 == 32))) else (some (a0 == 32)))) else (if a0 ≥ 48 then (if a0 ≤ 57 then (some true) else (some (a0 == 32))) else (some (a0 == 32)))
set_option maxHeartbeats 8000000 in
set_option maxRecDepth 100000 in
theorem spec_l2Byte.calls (a0 : Int) (r : Bool) (w : World) (h : spec_l2Byte.f a0 = some r) :
  Calls Tryz.prog 50 #[.int .u8 a0] w fun e w' => e = .returned (.bool r) ∧ Drawn0 w w' := by
 have H : (if a0 ≥ 97 then (if a0 ≤ 122 then (some true) else (if a0 ≥ 48 then (if a0 ≤ 57 then (some true) else (some (a0 == 32))) else (some (a0 == 32)))) else (if a0 ≥ 48 then (if a0 ≤ 57 then (some true) else (some (a0 == 32))) else (some (a0 == 32)))) = some r := h
 clear h
 by_cases c2 : a0 ≥ 97
 ·rw [if_pos c2] at H
  have c2b0 : decide (97 ≤ a0) = true := decide_eq_true c2
  clear c2
  by_cases c3 : a0 ≤ 122
  ·rw [if_pos c3] at H
   have c3b0 : decide (a0 ≤ 122) = true := decide_eq_true c3
   clear c3
   obtain rfl := Option.some.inj H
   go_enter Tryz.func50, Tryz.ntmps50
   go_wp2
   go_ret
   exact ⟨by first | rfl | (simp; done) | (simp [*]; done), by repeat (first | exact Drawn0.refl _ | apply Drawn0.step)⟩
  ·rw [if_neg c3] at H
   have c3b0 : decide (a0 ≤ 122) = false := decide_eq_false c3
   clear c3
   by_cases c4 : a0 ≥ 48
   ·rw [if_pos c4] at H
    have c4b0 : decide (48 ≤ a0) = true := decide_eq_true c4
    clear c4
    by_cases c5 : a0 ≤ 57
    ·rw [if_pos c5] at H
     have c5b0 : decide (a0 ≤ 57) = true := decide_eq_true c5
     clear c5
     obtain rfl := Option.some.inj H
     go_enter Tryz.func50, Tryz.ntmps50
     go_wp2
     go_ret
     exact ⟨by first | rfl | (simp; done) | (simp [*]; done), by repeat (first | exact Drawn0.refl _ | apply Drawn0.step)⟩
    ·rw [if_neg c5] at H
     have c5b0 : decide (a0 ≤ 57) = false := decide_eq_false c5
     clear c5
     obtain rfl := Option.some.inj H
     go_enter Tryz.func50, Tryz.ntmps50
     go_wp2
     go_ret
     exact ⟨by first | rfl | (simp; done) | (simp [*]; done), by repeat (first | exact Drawn0.refl _ | apply Drawn0.step)⟩
   ·rw [if_neg c4] at H
    have c4b0 : decide (48 ≤ a0) = false := decide_eq_false c4
    clear c4
    obtain rfl := Option.some.inj H
    go_enter Tryz.func50, Tryz.ntmps50
    go_wp2
    go_ret
    exact ⟨by first | rfl | (simp; done) | (simp [*]; done), by repeat (first | exact Drawn0.refl _ | apply Drawn0.step)⟩
 ·rw [if_neg c2] at H
  have c2b0 : decide (97 ≤ a0) = false := decide_eq_false c2
  clear c2
  by_cases c6 : a0 ≥ 48
  ·rw [if_pos c6] at H
   have c6b0 : decide (48 ≤ a0) = true := decide_eq_true c6
   clear c6
   by_cases c7 : a0 ≤ 57
   ·rw [if_pos c7] at H
    have c7b0 : decide (a0 ≤ 57) = true := decide_eq_true c7
    clear c7
    obtain rfl := Option.some.inj H
    go_enter Tryz.func50, Tryz.ntmps50
    go_wp2
    go_ret
    exact ⟨by first | rfl | (simp; done) | (simp [*]; done), by repeat (first | exact Drawn0.refl _ | apply Drawn0.step)⟩
   ·rw [if_neg c7] at H
    have c7b0 : decide (a0 ≤ 57) = false := decide_eq_false c7
    clear c7
    obtain rfl := Option.some.inj H
    go_enter Tryz.func50, Tryz.ntmps50
    go_wp2
    go_ret
    exact ⟨by first | rfl | (simp; done) | (simp [*]; done), by repeat (first | exact Drawn0.refl _ | apply Drawn0.step)⟩
  ·rw [if_neg c6] at H
   have c6b0 : decide (48 ≤ a0) = false := decide_eq_false c6
   clear c6
   obtain rfl := Option.some.inj H
   go_enter Tryz.func50, Tryz.ntmps50
   go_wp2
   go_ret
   exact ⟨by first | rfl | (simp; done) | (simp [*]; done), by repeat (first | exact Drawn0.refl _ | apply Drawn0.step)⟩
def spec_LinOk.l0 : Nat → ByteArray → Int → Option (Bool)
 | 0, _, _ => none
 | k + 1, x0, x3 => if x3 < (x0.size : Int) then (if 0 ≤ x3 then ((spec_l2Byte.f (bt x0 x3)).bind fun t407 => (if t407 = true then (spec_LinOk.l0 k x0 (wrap64 (x3 + 1))) else (some false))) else (none)) else (some true)
def spec_LinOk.f (k : Nat) (a0 : ByteArray) : Option (Bool) := if (a0.size : Int) > 16 then (some false) else (spec_LinOk.l0 k a0 0)
theorem spec_LinOk.mono_l : ∀ k, (∀ y0 y1, LeO (spec_LinOk.l0 k y0 y1) (spec_LinOk.l0 (k + 1) y0 y1))
 | 0 => fun _ _ r h => by simp [spec_LinOk.l0] at h
 | k + 1 => by
  have ih0 := spec_LinOk.mono_l k
  ·intro y0 y1
   unfold spec_LinOk.l0
   repeat' first | (with_reducible first | exact ih0 _ _ | exact LeO.refl _ | exact LeO.none _ | refine LeO.ite ?_ ?_ | refine LeO.bind ?_ (fun _ => ?_)) | exact ih0 _ _ | exact LeO.none _ | refine LeO.ite ?_ ?_ | refine LeO.bind ?_ (fun _ => ?_)
theorem spec_LinOk.mono : ∀ a0 k, LeO (spec_LinOk.f k a0) (spec_LinOk.f (k + 1) a0) := by
 intro a0 k
 have ih0 := spec_LinOk.mono_l k
 unfold spec_LinOk.f
 repeat' first | (with_reducible first | exact ih0 _ _ | exact LeO.refl _ | exact LeO.none _ | refine LeO.ite ?_ ?_ | refine LeO.bind ?_ (fun _ => ?_)) | exact ih0 _ _ | exact LeO.none _ | refine LeO.ite ?_ ?_ | refine LeO.bind ?_ (fun _ => ?_)
set_option maxHeartbeats 8000000 in
set_option maxRecDepth 100000 in
theorem spec_LinOk.calls (k : Nat) (a0 : ByteArray) (r : Bool) (w : World) (h : spec_LinOk.f k a0 = some r) :
  Calls Tryz.prog 17 #[.string a0] w fun e w' => e = .returned (.bool r) ∧ Drawn0 w w' := by
 have H : (if (a0.size : Int) > 16 then (some false) else (spec_LinOk.l0 k a0 0)) = some r := h
 clear h
 by_cases c2 : (a0.size : Int) > 16
 ·rw [if_pos c2] at H
  have c2b0 : decide (16 < (a0.size : Int)) = true := decide_eq_true c2
  have c2b1 : decide (16 < a0.size) = true := decide_eq_true (by omega)
  clear c2
  obtain rfl := Option.some.inj H
  go_enter Tryz.func17, Tryz.ntmps17
  go_wp2
  go_ret
  exact ⟨by first | rfl | (simp; done) | (simp [*]; done), by repeat (first | exact Drawn0.refl _ | apply Drawn0.step)⟩
 ·rw [if_neg c2] at H
  have c2b0 : decide (16 < (a0.size : Int)) = false := decide_eq_false c2
  have c2b1 : decide (16 < a0.size) = false := decide_eq_false (by omega)
  clear c2
  have H' := am H
  clear H
  go_enter Tryz.func17, Tryz.ntmps17
  go_wp2
  go_loopg [3] k (fun kq v3 w' => ∃ (x3_1 : Int), v3 = .int .i64 x3_1 ∧ Aside0 (spec_LinOk.l0 kq a0 x3_1 = some r) ∧ Aside0 (kq ≤ k) ∧ Drawn0 w w')
  case atStart => exact ⟨(0), rs_, H', ⟨Nat.le_refl _⟩, by repeat (first | exact Drawn0.refl _ | apply Drawn0.step)⟩
  case round =>
   clear H'
   try clear c1
   try clear c2
   try clear c2b0
   try clear c2b1
   try clear p2
   obtain ⟨x3_1, rfl, HA, HK1, ⟨m1, rfl⟩⟩ := hrel
   cases gk with
   | zero => exact absurd HA.out (by simp [spec_LinOk.l0])
   | succ k1 =>
    have H := HA.out
    clear HA
    simp only [spec_LinOk.l0] at H
    by_cases c3 : x3_1 < (a0.size : Int)
    ·rw [if_pos c3] at H
     have c3b0 : decide (x3_1 < (a0.size : Int)) = true := decide_eq_true c3
     clear c3
     by_cases c4 : 0 ≤ x3_1
     ·rw [if_pos c4] at H
      have c4b0 : decide (0 ≤ x3_1) = true := decide_eq_true c4
      clear c4
      obtain ⟨t407, A6, H⟩ := bse H
      try dsimp only at H
      by_cases c7 : t407 = true
      ·subst c7
       have H1 : (spec_LinOk.l0 k1 a0 (wrap64 (x3_1 + 1))) = some r := by rw [if_pos rfl] at H; exact H
       clear H
       have H := H1
       clear H1
       have H' := am H
       clear H
       have p5 : 0 ≤ (x3_1 : Int) := of_decide_eq_true da_
       have q5 : x3_1 < (a0.size : Int) := of_decide_eq_true da_
       have hx5 := bt_at a0 x3_1
       replace p5 := eq_true p5
       replace q5 := eq_true q5
       go_wp2_with (first | ((with_reducible refine gate_callee (f := 50) rfl ?_); refine gL (some 16) Tryz.func50 #[.int .u8 (bt a0 x3_1)] ?_; (with_reducible refine (spec_l2Byte.calls (bt a0 x3_1) true _ A6.out).mono ?_); rintro e w' ⟨rfl, ⟨nd, rfl⟩⟩; refine ⟨_, rfl, ?_⟩))
       go_roundg k1
       case measure => have := HK1.out; omega
       case rel => exact ⟨(wrap64 (x3_1 + 1)), rs_, H', ⟨by have := HK1.out; omega⟩, by repeat (first | exact Drawn0.refl _ | apply Drawn0.step)⟩
      ·replace c7 := Bool.eq_false_iff.mpr c7
       subst c7
       have H1 : (some false) = some r := by rw [if_neg (show ¬ (false = true) by decide)] at H; exact H
       clear H
       have H := H1
       clear H1
       obtain rfl := Option.some.inj H
       have p5 : 0 ≤ (x3_1 : Int) := of_decide_eq_true da_
       have q5 : x3_1 < (a0.size : Int) := of_decide_eq_true da_
       have hx5 := bt_at a0 x3_1
       replace p5 := eq_true p5
       replace q5 := eq_true q5
       go_wp2_with (first | ((with_reducible refine gate_callee (f := 50) rfl ?_); refine gL (some 16) Tryz.func50 #[.int .u8 (bt a0 x3_1)] ?_; (with_reducible refine (spec_l2Byte.calls (bt a0 x3_1) false _ A6.out).mono ?_); rintro e w' ⟨rfl, ⟨nd, rfl⟩⟩; refine ⟨_, rfl, ?_⟩))
       go_ret
       exact ⟨by first | rfl | (simp; done) | (simp [*]; done), by repeat (first | exact Drawn0.refl _ | apply Drawn0.step)⟩
     ·rw [if_neg c4] at H
      exact absurd H (by simp)
    ·rw [if_neg c3] at H
     have c3b0 : decide (x3_1 < (a0.size : Int)) = false := decide_eq_false c3
     clear c3
     obtain rfl := Option.some.inj H
     go_wp2
     go_ret
     exact ⟨by first | rfl | (simp; done) | (simp [*]; done), by repeat (first | exact Drawn0.refl _ | apply Drawn0.step)⟩
def spec_l3Line.f (k : Nat) (l0_0 : List (S34)) (a1 : ByteArray) : Option ((List (S34)) × ByteArray) := (spec_LinSays.f k a1).bind fun bt436 => (if bt436.2.2 = true then ((spec_l3Put.f k l0_0 bt436.1 bt436.2.1).bind fun bt440 => (if bt440.2 = 0 then (some (bt440.1, (⟨#[110, 111, 110, 101]⟩ : ByteArray))) else ((spec_LinPort.f k 50 bt440.2).bind fun t445 => (some (bt440.1, t445))))) else (some (l0_0, a1)))
theorem spec_l3Line.mono : ∀ a0 a1 k, LeO (spec_l3Line.f k a0 a1) (spec_l3Line.f (k + 1) a0 a1) := by
 intro a0 a1 k
 unfold spec_l3Line.f
 repeat' first | (with_reducible first | exact spec_LinPort.mono _ _ _ | exact spec_LinSays.mono _ _ | exact spec_l3Put.mono _ _ _ _ | exact LeO.refl _ | exact LeO.none _ | refine LeO.ite ?_ ?_ | refine LeO.bind ?_ (fun _ => ?_)) | exact spec_LinPort.mono _ _ _ | exact spec_LinSays.mono _ _ | exact spec_l3Put.mono _ _ _ _ | exact LeO.none _ | refine LeO.ite ?_ ?_ | refine LeO.bind ?_ (fun _ => ?_)
set_option maxHeartbeats 8000000 in
set_option maxRecDepth 100000 in
theorem spec_l3Line.calls (k : Nat) (P0_0_ : Nat → Prop) (u9000_ : Value) (l0_0 : List (S34)) (a1 : ByteArray) (r1 : List (S34)) (r2 : ByteArray) (w0 w : World) (hB : Below w0.heap.size w0 w) (ho0_0 : Kd.R k34 34 w w0.heap.size P0_0_ u9000_ l0_0) (h : spec_l3Line.f k l0_0 a1 = some (r1, r2)) :
  Calls Tryz.prog 46 #[.agg #[u9000_], .string a1] w fun e w' => ∃ v0_ : Value, e = .returned (.tuple #[.agg #[v0_], .string r2]) ∧ Kd.R k34 34 w' w0.heap.size (fun k_ => (P0_0_ k_ ∨ w.heap.size ≤ k_)) v0_ r1 ∧ Below w0.heap.size w0 w' ∧ Kept w w' (fun k_ => P0_0_ k_) := by
 have hu25 := Tryz.underlying25
 have hu34 := Tryz.underlying34
 have HO0_0 := am (show Kd.R k34 34 w w0.heap.size (fun k_ => (P0_0_ k_ ∨ w.heap.size ≤ k_)) u9000_ l0_0 from Kd.R_mono ho0_0 (fun k_ hk => (.inl hk)))
 have HK := am (Kept.refl w (fun k_ => P0_0_ k_))
 have HW0 := am hB.size
 have HB := am hB
 clear hB
 have H : ((spec_LinSays.f k a1).bind fun bt436 => (if bt436.2.2 = true then ((spec_l3Put.f k l0_0 bt436.1 bt436.2.1).bind fun bt440 => (if bt440.2 = 0 then (some (bt440.1, (⟨#[110, 111, 110, 101]⟩ : ByteArray))) else ((spec_LinPort.f k 50 bt440.2).bind fun t445 => (some (bt440.1, t445))))) else (some (l0_0, a1)))) = some (r1, r2) := h
 clear h
 obtain ⟨⟨t436, t437, t438⟩, A3, H⟩ := bse H
 try dsimp only at H
 by_cases c4 : t438 = true
 ·subst c4
  have H1 : ((spec_l3Put.f k l0_0 t436 t437).bind fun bt440 => (if bt440.2 = 0 then (some (bt440.1, (⟨#[110, 111, 110, 101]⟩ : ByteArray))) else ((spec_LinPort.f k 50 bt440.2).bind fun t445 => (some (bt440.1, t445))))) = some (r1, r2) := by rw [if_pos rfl] at H; exact H
  clear H
  have H := H1
  clear H1
  obtain ⟨⟨t440, t443⟩, A5, H⟩ := bse H
  try dsimp only at H
  by_cases c6 : t443 = 0
  ·rw [if_pos c6] at H
   have c6b0 : (t443 == 0) = true := beq_iff_eq.mpr c6
   have c6b1 : (t443 != 0) = false := bne_eq_false_iff_eq.mpr c6
   clear c6
   simp only [Option.some.injEq, Prod.mk.injEq] at H
   obtain ⟨rfl, rfl⟩ := H
   obtain ⟨Ao7, co7, eo7⟩ := Kd.R_slice HO0_0.out
   subst eo7
   go_enter Tryz.func46, Tryz.ntmps46
   go_wp2_with (first | ((with_reducible refine gate_dst (N := 2) rfl ?_); refine box_event rfl (N := 2) rfl (cs := #[.slice Ao7 l0_0.length co7]) (t := 25) hr_ ?_; intro gb434 hg w8 hbox hb; replace HO0_0 := am (Kd.R_below (rs HO0_0) hb); have BK434 := am hbox; have GW434 := am ((by rw [hg]; exact (by first | exact HK.out.1 | exact (show Kept w _ (fun k_ => P0_0_ k_) from m15_).1) : w.heap.size ≤ gb434)); replace HK := am (Kept.below (S := (fun k_ => P0_0_ k_)) m15_ hb); have GE434 := gwE HB hg; replace HB := hbS HB hb; clear hb hbox hg) | ((with_reducible refine gate_dst (N := 4) rfl ?_); refine box_event rfl (N := 4) rfl (cs := #[.slice none 0 0]) (t := 25) hr_ ?_; intro gb435 hg w9 hbox hb; replace HO0_0 := am (Kd.R_below (rs HO0_0) hb); have BK435 := am hbox; have GW435 := am ((by rw [hg]; exact (by first | exact HK.out.1 | exact (show Kept w _ (fun k_ => P0_0_ k_) from m16_).1) : w.heap.size ≤ gb435)); replace HK := am (Kept.below (S := (fun k_ => P0_0_ k_)) m16_ hb); have GE435 := gwE HB hg; replace HB := hbS HB hb; have NB434_435 := neL BK434 hg; have NB435_434 := neG BK434 hg; replace BK434 := bkB BK434 hb; clear hb hbox hg) | ((with_reducible refine gate_callee (f := 79) rfl ?_); refine gL (some 12) Tryz.func79 #[.string a1] ?_; (with_reducible refine (spec_LinSays.calls k a1 t436 t437 true _ A3.out).mono ?_); rintro e w10 ⟨rfl, hb⟩; refine ⟨_, rfl, ?_⟩; replace HO0_0 := am (Kd.R_below (rs HO0_0) hb); replace BK434 := bkB BK434 hb; replace BK435 := bkB BK435 hb; replace HK := am (Kept.below (S := (fun k_ => P0_0_ k_)) m16_ hb); replace HB := hbS HB hb; (try clear hb)) | ((with_reducible refine gate_dst (N := 6) rfl ?_); refine box_event rfl (N := 6) rfl (cs := #[.int .i64 0, .int .i64 0]) (t := 34) hr_ ?_; intro gb439 hg w11 hbox hb; replace HO0_0 := am (Kd.R_below (Kd.R_elderB (rs HO0_0) gb439 (Nat.le_of_eq hg.symm)) hb); have BK439 := am hbox; have GW439 := am ((by rw [hg]; exact (by first | exact HK.out.1 | exact (show Kept w _ (fun k_ => P0_0_ k_) from m16_).1) : w.heap.size ≤ gb439)); replace HK := am (Kept.below (S := (fun k_ => P0_0_ k_)) m16_ hb); have GE439 := gwE HB hg; replace HB := hbS HB hb; have NB434_439 := neL BK434 hg; have NB439_434 := neG BK434 hg; replace BK434 := bkB BK434 hb; have NB435_439 := neL BK435 hg; have NB439_435 := neG BK435 hg; replace BK435 := bkB BK435 hb; clear hb hbox hg; have := NB439_434.out; have := NB434_439.out; have := NB439_435.out; have := NB435_439.out; have := bcell BK439 0; have := bcell BK439 1; have := bfz BK439 0; have := bfz BK439 1) | ((with_reducible refine gate_store (t := 34) (p := 6) rfl ?_); refine store_event (t := 34) (p := 6) (v := ?vo_w15) (w1 := ((w11.setCell ⟨gb439, 0, none⟩ (.int .i64 t436)).setCell ⟨gb439, 1, none⟩ (.int .i64 t437))) ?hg ?ho ?hn ?hr ?_; (case ho => rfl); (case hg => rfl); (case hn => rfl); (case hr => first | (go_simp; done) | (go_simp; rfl)); intro w15 hw; have n0_ : Aside0 (Kd.R k34 34 w15 w0.heap.size (fun k_ => (P0_0_ k_ ∨ w.heap.size ≤ k_) ∧ k_ ≠ gb439) (.slice Ao7 l0_0.length co7) l0_0) := ⟨(by rw [hw]; exact (by (with_reducible repeat apply ru); exact Kd.R_mono (Kd.R_far (p := ⟨gb439, 1, none⟩) (Kd.R_far (p := ⟨gb439, 0, none⟩) (Kd.R_mono HO0_0.out (fun k_ hk => (⟨hk, hk.2⟩ : _ ∧ k_ ≠ gb439))) (fun _ hk => hk.2) (.int .i64 t436)) (fun _ hk => hk.2) (.int .i64 t437)) ok_))⟩; have n1_ : Aside0 (w15.heap[gb434]? = some (.cells #[.slice Ao7 l0_0.length co7] 25 (0, 0))) := ⟨(by rw [hw]; exact (by (with_reducible repeat refine bu ?_); refine blk_far ?_ NB434_439.out _; (with_reducible repeat refine bu ?_); refine blk_far ?_ NB434_439.out _; (with_reducible repeat refine bu ?_); exact BK434.out))⟩; have n2_ : Aside0 (w15.heap[gb435]? = some (.cells #[.slice none 0 0] 25 (0, 0))) := ⟨(by rw [hw]; exact (by (with_reducible repeat refine bu ?_); refine blk_far ?_ NB435_439.out _; (with_reducible repeat refine bu ?_); refine blk_far ?_ NB435_439.out _; (with_reducible repeat refine bu ?_); exact BK435.out))⟩; have n3_ : Aside0 (w15.heap[gb439]? = some (.cells #[.int .i64 t436, .int .i64 t437] 34 (0, 0))) := ⟨(by rw [hw]; exact (by (with_reducible repeat refine bu ?_); refine blk_put (cs := #[.int .i64 t436, .int .i64 0]) ?_ 1 _ rfl; (with_reducible repeat refine bu ?_); refine blk_put (cs := #[.int .i64 0, .int .i64 0]) ?_ 0 _ rfl; (with_reducible repeat refine bu ?_); exact BK439.out))⟩; have n4_ : Aside0 (Kept w w15 (fun k_ => P0_0_ k_)) := ⟨(by rw [hw]; exact m16_)⟩; have n5_ : Aside0 (Below w0.heap.size w0 w15) := ⟨(by rw [hw]; exact (bl HB))⟩; clear hw; clear HO0_0; clear BK434; clear BK435; clear BK439; clear HK; clear HB; have HO0_0 := n0_; have BK434 := n1_; have BK435 := n2_; have BK439 := n3_; have HK := n4_; have HB := n5_; clear n0_ n1_ n2_ n3_ n4_ n5_; have := NB434_435.out; have := NB435_434.out; have := bcell BK434 0; have := bfz BK434 0; have := bcell BK439 0; have := bcell BK439 1; have := bfz BK439 0; have := bfz BK439 1) | ((with_reducible refine gate_callee (f := 80) rfl ?_); refine gL (some 22) Tryz.func80 #[.agg #[.slice Ao7 l0_0.length co7], .agg #[.int .i64 t436, .int .i64 t437]] ?_; (with_reducible refine (spec_l3Put.calls k (fun k_ => some k_ = (.slice Ao7 l0_0.length co7 : Value).ownBlock) (.slice Ao7 l0_0.length co7) l0_0 t436 t437 t440 t443 w0 _ ?side1 ?side2 A5.out).mono ?_); (case side1 => exact m2_); (case side2 => exact Kd.R_tight rfl HO0_0.out); rintro e w19 ⟨v441, rfl, ho0, hb, hkp⟩; refine ⟨_, rfl, ?_⟩; replace BK434 := am (blk_kept (bk BK434) hkp (fun hs_ => (fun e_ => (Kd.R_ne HO0_0.out BK434.out (by decide)) e_) hs_)); replace BK435 := am (blk_kept (bk BK435) hkp (fun hs_ => (fun e_ => (Kd.R_ne HO0_0.out BK435.out (by decide)) e_) hs_)); have HO442 := am (Kd.R_mono (ok' := fun k_ => (P0_0_ k_ ∨ w.heap.size ≤ k_) ∧ k_ ≠ gb439) ho0 (fun k_ hk_ => ⟨Or.elim hk_ (fun hs_ => (HO0_0.out.1 k_ (hs_).symm).1) (fun hn_ => (.inr (Nat.le_trans (by first | exact HK.out.1 | exact (show Kept w _ (fun k_ => P0_0_ k_) from m16_).1) hn_))), Or.elim hk_ (fun hs_ => fun e_ => (Kd.R_away HO0_0.out (fun _ hk => hk.2)) (by rw [← e_]; exact hs_)) (fun hn_ => (Kd.freshB (g := gb439) (o := .cells #[.int .i64 t436, .int .i64 t437] 34 (0, 0)) (bk BK439) k_ hn_))⟩)); replace BK439 := am (blk_kept (bk BK439) hkp (fun hs_ => (fun e_ => (Kd.R_away HO0_0.out (fun _ hk => hk.2)) e_) hs_)); replace HK := am (Kept.then_ (S := (fun k_ => P0_0_ k_)) m16_ hkp (fun k_ hs_ => (fun e_ => (HO0_0.out.1 k_ e_.symm).1) hs_)); replace HB := am hb; clear HO0_0; (try clear hb); (try clear hkp); (try clear ho0)) | ((with_reducible refine gate_dst (N := 8) rfl ?_); refine box_event rfl (N := 8) rfl (cs := #[.slice none 0 0]) (t := 25) hr_ ?_; intro gb444 hg w20 hbox hb; replace HO442 := am (Kd.R_below (rs HO442) hb); have BK444 := am hbox; have GW444 := am ((by rw [hg]; exact (by first | exact HK.out.1 | exact (show Kept w _ (fun k_ => P0_0_ k_) from m16_).1) : w.heap.size ≤ gb444)); replace HK := am (Kept.below (S := (fun k_ => P0_0_ k_)) m16_ hb); have GE444 := gwE HB hg; replace HB := hbS HB hb; have NB434_444 := neL BK434 hg; have NB444_434 := neG BK434 hg; replace BK434 := bkB BK434 hb; have NB435_444 := neL BK435 hg; have NB444_435 := neG BK435 hg; replace BK435 := bkB BK435 hb; have NB439_444 := neL BK439 hg; have NB444_439 := neG BK439 hg; replace BK439 := bkB BK439 hb; clear hb hbox hg; obtain ⟨Ao21, co21, eo21⟩ := Kd.R_slice HO442.out; subst eo21; have := NB444_434.out; have := NB434_444.out; have := NB444_435.out; have := NB435_444.out; have := NB444_439.out; have := NB439_444.out; have := bcell BK444 0; have := bfz BK444 0; have := bcell BK435 0; have := bfz BK435 0))
   refine bodyPost_ret (results_ct rfl _ _ gb435 25 #[.slice Ao21 t440.length co21] (0, 0) _ rfl (by (with_reducible repeat refine bu ?_); refine blk_put (cs := #[.slice none 0 0]) ?_ 0 _ rfl; (with_reducible repeat refine bu ?_); refine blk_far ?_ NB435_444.out _; (with_reducible repeat refine bu ?_); exact BK435.out) Tryz.underlying25 rfl (by kernel_rfl)) rfl ?_
   exact ⟨_, fi_, by (with_reducible repeat apply ru); exact Kd.R_mono (Kd.R_far (p := ⟨gb435, 0, none⟩) (Kd.R_far (p := ⟨gb444, 0, none⟩) (Kd.R_types (Kd.R_types HO442.out BK444.out (by decide)) BK435.out (by decide)) (fun _ hk => hk.1.2) (.slice Ao21 t440.length co21)) (fun _ hk => hk.2) (.slice Ao21 t440.length co21)) (fun _ hk => hk.1.1.1), m2_, m16_⟩
  ·rw [if_neg c6] at H
   have c6b0 : (t443 == 0) = false := beq_eq_false_iff_ne.mpr c6
   have c6b1 : (t443 != 0) = true := bne_iff_ne.mpr c6
   obtain ⟨t445, A27, H⟩ := bse H
   try dsimp only at H
   simp only [Option.some.injEq, Prod.mk.injEq] at H
   obtain ⟨rfl, rfl⟩ := H
   obtain ⟨Ao28, co28, eo28⟩ := Kd.R_slice HO0_0.out
   subst eo28
   go_enter Tryz.func46, Tryz.ntmps46
   try go_wp2_with (first | ((with_reducible refine gate_dst (N := 2) rfl ?_); refine box_event rfl (N := 2) rfl (cs := #[.slice Ao28 l0_0.length co28]) (t := 25) hr_ ?_; intro gb434 hg w29 hbox hb; replace HO0_0 := am (Kd.R_below (rs HO0_0) hb); have BK434 := am hbox; have GW434 := am ((by rw [hg]; exact (by first | exact HK.out.1 | exact (show Kept w _ (fun k_ => P0_0_ k_) from m15_).1) : w.heap.size ≤ gb434)); replace HK := am (Kept.below (S := (fun k_ => P0_0_ k_)) m15_ hb); have GE434 := gwE HB hg; replace HB := hbS HB hb; clear hb hbox hg) | ((with_reducible refine gate_dst (N := 4) rfl ?_); refine box_event rfl (N := 4) rfl (cs := #[.slice none 0 0]) (t := 25) hr_ ?_; intro gb435 hg w30 hbox hb; replace HO0_0 := am (Kd.R_below (rs HO0_0) hb); have BK435 := am hbox; have GW435 := am ((by rw [hg]; exact (by first | exact HK.out.1 | exact (show Kept w _ (fun k_ => P0_0_ k_) from m16_).1) : w.heap.size ≤ gb435)); replace HK := am (Kept.below (S := (fun k_ => P0_0_ k_)) m16_ hb); have GE435 := gwE HB hg; replace HB := hbS HB hb; have NB434_435 := neL BK434 hg; have NB435_434 := neG BK434 hg; replace BK434 := bkB BK434 hb; clear hb hbox hg) | ((with_reducible refine gate_callee (f := 79) rfl ?_); refine gL (some 12) Tryz.func79 #[.string a1] ?_; (with_reducible refine (spec_LinSays.calls k a1 t436 t437 true _ A3.out).mono ?_); rintro e w31 ⟨rfl, hb⟩; refine ⟨_, rfl, ?_⟩; replace HO0_0 := am (Kd.R_below (rs HO0_0) hb); replace BK434 := bkB BK434 hb; replace BK435 := bkB BK435 hb; replace HK := am (Kept.below (S := (fun k_ => P0_0_ k_)) m16_ hb); replace HB := hbS HB hb; (try clear hb)) | ((with_reducible refine gate_dst (N := 6) rfl ?_); refine box_event rfl (N := 6) rfl (cs := #[.int .i64 0, .int .i64 0]) (t := 34) hr_ ?_; intro gb439 hg w32 hbox hb; replace HO0_0 := am (Kd.R_below (Kd.R_elderB (rs HO0_0) gb439 (Nat.le_of_eq hg.symm)) hb); have BK439 := am hbox; have GW439 := am ((by rw [hg]; exact (by first | exact HK.out.1 | exact (show Kept w _ (fun k_ => P0_0_ k_) from m16_).1) : w.heap.size ≤ gb439)); replace HK := am (Kept.below (S := (fun k_ => P0_0_ k_)) m16_ hb); have GE439 := gwE HB hg; replace HB := hbS HB hb; have NB434_439 := neL BK434 hg; have NB439_434 := neG BK434 hg; replace BK434 := bkB BK434 hb; have NB435_439 := neL BK435 hg; have NB439_435 := neG BK435 hg; replace BK435 := bkB BK435 hb; clear hb hbox hg; have := NB439_434.out; have := NB434_439.out; have := NB439_435.out; have := NB435_439.out; have := bcell BK439 0; have := bcell BK439 1; have := bfz BK439 0; have := bfz BK439 1) | ((with_reducible refine gate_store (t := 34) (p := 6) rfl ?_); refine store_event (t := 34) (p := 6) (v := ?vo_w36) (w1 := ((w32.setCell ⟨gb439, 0, none⟩ (.int .i64 t436)).setCell ⟨gb439, 1, none⟩ (.int .i64 t437))) ?hg ?ho ?hn ?hr ?_; (case ho => rfl); (case hg => rfl); (case hn => rfl); (case hr => first | (go_simp; done) | (go_simp; rfl)); intro w36 hw; have n0_ : Aside0 (Kd.R k34 34 w36 w0.heap.size (fun k_ => (P0_0_ k_ ∨ w.heap.size ≤ k_) ∧ k_ ≠ gb439) (.slice Ao28 l0_0.length co28) l0_0) := ⟨(by rw [hw]; exact (by (with_reducible repeat apply ru); exact Kd.R_mono (Kd.R_far (p := ⟨gb439, 1, none⟩) (Kd.R_far (p := ⟨gb439, 0, none⟩) (Kd.R_mono HO0_0.out (fun k_ hk => (⟨hk, hk.2⟩ : _ ∧ k_ ≠ gb439))) (fun _ hk => hk.2) (.int .i64 t436)) (fun _ hk => hk.2) (.int .i64 t437)) ok_))⟩; have n1_ : Aside0 (w36.heap[gb434]? = some (.cells #[.slice Ao28 l0_0.length co28] 25 (0, 0))) := ⟨(by rw [hw]; exact (by (with_reducible repeat refine bu ?_); refine blk_far ?_ NB434_439.out _; (with_reducible repeat refine bu ?_); refine blk_far ?_ NB434_439.out _; (with_reducible repeat refine bu ?_); exact BK434.out))⟩; have n2_ : Aside0 (w36.heap[gb435]? = some (.cells #[.slice none 0 0] 25 (0, 0))) := ⟨(by rw [hw]; exact (by (with_reducible repeat refine bu ?_); refine blk_far ?_ NB435_439.out _; (with_reducible repeat refine bu ?_); refine blk_far ?_ NB435_439.out _; (with_reducible repeat refine bu ?_); exact BK435.out))⟩; have n3_ : Aside0 (w36.heap[gb439]? = some (.cells #[.int .i64 t436, .int .i64 t437] 34 (0, 0))) := ⟨(by rw [hw]; exact (by (with_reducible repeat refine bu ?_); refine blk_put (cs := #[.int .i64 t436, .int .i64 0]) ?_ 1 _ rfl; (with_reducible repeat refine bu ?_); refine blk_put (cs := #[.int .i64 0, .int .i64 0]) ?_ 0 _ rfl; (with_reducible repeat refine bu ?_); exact BK439.out))⟩; have n4_ : Aside0 (Kept w w36 (fun k_ => P0_0_ k_)) := ⟨(by rw [hw]; exact m16_)⟩; have n5_ : Aside0 (Below w0.heap.size w0 w36) := ⟨(by rw [hw]; exact (bl HB))⟩; clear hw; clear HO0_0; clear BK434; clear BK435; clear BK439; clear HK; clear HB; have HO0_0 := n0_; have BK434 := n1_; have BK435 := n2_; have BK439 := n3_; have HK := n4_; have HB := n5_; clear n0_ n1_ n2_ n3_ n4_ n5_; have := NB434_435.out; have := NB435_434.out; have := bcell BK434 0; have := bfz BK434 0; have := bcell BK439 0; have := bcell BK439 1; have := bfz BK439 0; have := bfz BK439 1) | ((with_reducible refine gate_callee (f := 80) rfl ?_); refine gL (some 22) Tryz.func80 #[.agg #[.slice Ao28 l0_0.length co28], .agg #[.int .i64 t436, .int .i64 t437]] ?_; (with_reducible refine (spec_l3Put.calls k (fun k_ => some k_ = (.slice Ao28 l0_0.length co28 : Value).ownBlock) (.slice Ao28 l0_0.length co28) l0_0 t436 t437 t440 t443 w0 _ ?side1 ?side2 A5.out).mono ?_); (case side1 => exact m2_); (case side2 => exact Kd.R_tight rfl HO0_0.out); rintro e w40 ⟨v441, rfl, ho0, hb, hkp⟩; refine ⟨_, rfl, ?_⟩; replace BK434 := am (blk_kept (bk BK434) hkp (fun hs_ => (fun e_ => (Kd.R_ne HO0_0.out BK434.out (by decide)) e_) hs_)); replace BK435 := am (blk_kept (bk BK435) hkp (fun hs_ => (fun e_ => (Kd.R_ne HO0_0.out BK435.out (by decide)) e_) hs_)); have HO442 := am (Kd.R_mono (ok' := fun k_ => (P0_0_ k_ ∨ w.heap.size ≤ k_) ∧ k_ ≠ gb439) ho0 (fun k_ hk_ => ⟨Or.elim hk_ (fun hs_ => (HO0_0.out.1 k_ (hs_).symm).1) (fun hn_ => (.inr (Nat.le_trans (by first | exact HK.out.1 | exact (show Kept w _ (fun k_ => P0_0_ k_) from m16_).1) hn_))), Or.elim hk_ (fun hs_ => fun e_ => (Kd.R_away HO0_0.out (fun _ hk => hk.2)) (by rw [← e_]; exact hs_)) (fun hn_ => (Kd.freshB (g := gb439) (o := .cells #[.int .i64 t436, .int .i64 t437] 34 (0, 0)) (bk BK439) k_ hn_))⟩)); replace BK439 := am (blk_kept (bk BK439) hkp (fun hs_ => (fun e_ => (Kd.R_away HO0_0.out (fun _ hk => hk.2)) e_) hs_)); replace HK := am (Kept.then_ (S := (fun k_ => P0_0_ k_)) m16_ hkp (fun k_ hs_ => (fun e_ => (HO0_0.out.1 k_ e_.symm).1) hs_)); replace HB := am hb; clear HO0_0; (try clear hb); (try clear hkp); (try clear ho0)) | ((with_reducible refine gate_dst (N := 8) rfl ?_); refine box_event rfl (N := 8) rfl (cs := #[.slice none 0 0]) (t := 25) hr_ ?_; intro gb444 hg w41 hbox hb; replace HO442 := am (Kd.R_below (rs HO442) hb); have BK444 := am hbox; have GW444 := am ((by rw [hg]; exact (by first | exact HK.out.1 | exact (show Kept w _ (fun k_ => P0_0_ k_) from m16_).1) : w.heap.size ≤ gb444)); replace HK := am (Kept.below (S := (fun k_ => P0_0_ k_)) m16_ hb); have GE444 := gwE HB hg; replace HB := hbS HB hb; have NB434_444 := neL BK434 hg; have NB444_434 := neG BK434 hg; replace BK434 := bkB BK434 hb; have NB435_444 := neL BK435 hg; have NB444_435 := neG BK435 hg; replace BK435 := bkB BK435 hb; have NB439_444 := neL BK439 hg; have NB444_439 := neG BK439 hg; replace BK439 := bkB BK439 hb; clear hb hbox hg; obtain ⟨Ao42, co42, eo42⟩ := Kd.R_slice HO442.out; subst eo42; have := NB444_434.out; have := NB434_444.out; have := NB444_435.out; have := NB435_444.out; have := NB444_439.out; have := NB439_444.out; have := bcell BK444 0; have := bfz BK444 0))
   have n0_ : Aside0 (Kd.R k34 34 (w41.setCell ⟨gb444, 0, none⟩ (.slice Ao42 t440.length co42)) w0.heap.size (fun k_ => (P0_0_ k_ ∨ w.heap.size ≤ k_) ∧ k_ ≠ gb439) (.slice Ao42 t440.length co42) t440) := ⟨by (with_reducible repeat apply ru); exact Kd.R_mono (Kd.R_far (p := ⟨gb444, 0, none⟩) (Kd.R_types HO442.out BK444.out (by decide)) (fun _ hk => hk.2) (.slice Ao42 t440.length co42)) ok_⟩
   have n1_ : Aside0 ((w41.setCell ⟨gb444, 0, none⟩ (.slice Ao42 t440.length co42)).heap[gb434]? = some (.cells #[.slice Ao28 l0_0.length co28] 25 (0, 0))) := bf_ BK434
   have n2_ : Aside0 ((w41.setCell ⟨gb444, 0, none⟩ (.slice Ao42 t440.length co42)).heap[gb435]? = some (.cells #[.slice none 0 0] 25 (0, 0))) := bf_ BK435
   have n3_ : Aside0 ((w41.setCell ⟨gb444, 0, none⟩ (.slice Ao42 t440.length co42)).heap[gb439]? = some (.cells #[.int .i64 t436, .int .i64 t437] 34 (0, 0))) := bf_ BK439
   have n4_ : Aside0 ((w41.setCell ⟨gb444, 0, none⟩ (.slice Ao42 t440.length co42)).heap[gb444]? = some (.cells #[.slice Ao42 t440.length co42] 25 (0, 0))) := ⟨by (with_reducible repeat refine bu ?_); refine blk_put (cs := #[.slice none 0 0]) ?_ 0 _ rfl; (with_reducible repeat refine bu ?_); exact BK444.out⟩
   have n5_ : Aside0 (Kept w (w41.setCell ⟨gb444, 0, none⟩ (.slice Ao42 t440.length co42)) (fun k_ => P0_0_ k_)) := ⟨m16_⟩
   have n6_ : Aside0 (Below w0.heap.size w0 (w41.setCell ⟨gb444, 0, none⟩ (.slice Ao42 t440.length co42))) := ⟨m2_⟩
   (try clear HO442)
   (try clear BK434)
   (try clear BK435)
   (try clear BK439)
   (try clear BK444)
   (try clear HK)
   (try clear HB)
   generalize (w41.setCell ⟨gb444, 0, none⟩ (.slice Ao42 t440.length co42)) = w47 at n0_ n1_ n2_ n3_ n4_ n5_ n6_ ⊢
   have HO442 := n0_
   have BK434 := n1_
   have BK435 := n2_
   have BK439 := n3_
   have BK444 := n4_
   have HK := n5_
   have HB := n6_
   clear n0_ n1_ n2_ n3_ n4_ n5_ n6_
   replace HO442 := am (Kd.R_drew HO442.out)
   replace BK434 := am (blk_drew BK434.out)
   replace BK435 := am (blk_drew BK435.out)
   replace BK439 := am (blk_drew BK439.out)
   replace BK444 := am (blk_drew BK444.out)
   replace HK := am (Kept.drew HK.out)
   replace HB := am (below_drew1 HB.out)
   refine start_ (n := 6) (S := fun w' => w'.cell? ⟨gb444, 0, none⟩ = some (.slice Ao42 t440.length co42)) (ds := []) #[false, false, false, false, false, false] (by kernel_rfl) rfl rfl (bcell BK444 0) (fun hHeld => ?_)
   generalize w47.drew = w48 at HO442 BK434 BK435 BK439 BK444 HK HB hHeld ⊢
   refine pu_ 1 (some 29) (bm 6 2) ?_
   refine pu_ 2 (some 30) (bm 6 6) ?_
   refine take_ (i := 0) (N := some 28) (v := ?_) (a' := ?_) #[true, true, true, false, false, false] rfl rfl (by kernel_rfl) (fun _ _ _ h => h) (Or.inl ⟨by rfl, ?_⟩) hHeld ?_ ?_
   rotate_left
   ·intro w' s0
    go_simp
    with_reducible rfl
   rotate_left
   ·simp only [Act.put, List.setIfInBounds_toArray, List.set_cons_zero, List.set_cons_succ, i64_w, i32_w]
    rfl
   refine one_ (i := 3) (N := some 31) #[true, true, true, true, false, false] rfl rfl (by kernel_rfl) (by decide) (fun K hK => ?_)
   refine gR Tryz.func64 #[.agg #[.int .i64 50, .int .i64 t443]] ?_
   with_reducible refine (spec_LinPort.calls k 50 t443 t445 _ A27.out).mono ?_
   rintro e w49 ⟨rfl, hb⟩
   refine ⟨_, rfl, ?_⟩
   replace HO442 := am (Kd.R_below (rs HO442) hb)
   replace BK434 := bkB BK434 hb
   replace BK435 := bkB BK435 hb
   replace BK439 := bkB BK439 hb
   replace BK444 := bkB BK444 hb
   replace HK := am (Kept.below (S := (fun k_ => P0_0_ k_)) m16_ hb)
   replace HB := hbS HB hb
   (try clear hb)
   (try clear hb2)
   (try clear hk)
   (try clear hi)
   refine hK.out _ _ (bcell BK444 0) (fun hHeld => ?_)
   clear hK K
   refine nm_ ?_
   refine one_ (i := 4) (N := none) #[true, true, true, true, true, false] rfl rfl (by kernel_rfl) (by decide) (fun K hK => ?_)
   have : w49.cell? ⟨gb435, 0, none⟩ = some (.slice none 0 0) := bcell BK435 0
   have := bfz BK435 0
   have := NB434_435.out
   have := NB439_435.out
   have := NB444_435.out
   have := NB435_434.out
   have := NB435_439.out
   have := NB435_444.out
   refine skip_ (w1 := ?_) (by rfl) rfl ?_ ?_
   rotate_left
   ·go_simp
    rfl
   refine hK.out _ _ (((cell_far (p := ⟨gb435, _, none⟩) NB444_435.out _).trans (hHeld))) (fun hHeld => ?_)
   clear hK K
   refine pu_ 5 (some 5) (bm 6 63) ?_
   refine done_ (by kernel_rfl) ?_
   try go_wp2
   refine bodyPost_ret (results_ct rfl _ _ gb435 25 #[.slice Ao42 t440.length co42] (0, 0) _ rfl (by (with_reducible repeat refine bu ?_); refine blk_put (cs := #[.slice none 0 0]) ?_ 0 _ rfl; (with_reducible repeat refine bu ?_); exact BK435.out) Tryz.underlying25 rfl (by kernel_rfl)) rfl ?_
   exact ⟨_, fi_, by (with_reducible repeat apply ru); exact Kd.R_mono (Kd.R_far (p := ⟨gb435, 0, none⟩) (Kd.R_types HO442.out BK435.out (by decide)) (fun _ hk => hk.2) (.slice Ao42 t440.length co42)) (fun _ hk => hk.1.1), m2_, m16_⟩
 ·replace c4 := Bool.eq_false_iff.mpr c4
  subst c4
  have H1 : (some (l0_0, a1)) = some (r1, r2) := by rw [if_neg (show ¬ (false = true) by decide)] at H; exact H
  clear H
  have H := H1
  clear H1
  simp only [Option.some.injEq, Prod.mk.injEq] at H
  obtain ⟨rfl, rfl⟩ := H
  obtain ⟨Ao51, co51, eo51⟩ := Kd.R_slice HO0_0.out
  subst eo51
  go_enter Tryz.func46, Tryz.ntmps46
  go_wp2_with (first | ((with_reducible refine gate_dst (N := 2) rfl ?_); refine box_event rfl (N := 2) rfl (cs := #[.slice Ao51 l0_0.length co51]) (t := 25) hr_ ?_; intro gb434 hg w52 hbox hb; replace HO0_0 := am (Kd.R_below (rs HO0_0) hb); have BK434 := am hbox; have GW434 := am ((by rw [hg]; exact (by first | exact HK.out.1 | exact (show Kept w _ (fun k_ => P0_0_ k_) from m15_).1) : w.heap.size ≤ gb434)); replace HK := am (Kept.below (S := (fun k_ => P0_0_ k_)) m15_ hb); have GE434 := gwE HB hg; replace HB := hbS HB hb; clear hb hbox hg) | ((with_reducible refine gate_dst (N := 4) rfl ?_); refine box_event rfl (N := 4) rfl (cs := #[.slice none 0 0]) (t := 25) hr_ ?_; intro gb435 hg w53 hbox hb; replace HO0_0 := am (Kd.R_below (rs HO0_0) hb); have BK435 := am hbox; have GW435 := am ((by rw [hg]; exact (by first | exact HK.out.1 | exact (show Kept w _ (fun k_ => P0_0_ k_) from m16_).1) : w.heap.size ≤ gb435)); replace HK := am (Kept.below (S := (fun k_ => P0_0_ k_)) m16_ hb); have GE435 := gwE HB hg; replace HB := hbS HB hb; have NB434_435 := neL BK434 hg; have NB435_434 := neG BK434 hg; replace BK434 := bkB BK434 hb; clear hb hbox hg) | ((with_reducible refine gate_callee (f := 79) rfl ?_); refine gL (some 12) Tryz.func79 #[.string a1] ?_; (with_reducible refine (spec_LinSays.calls k a1 t436 t437 false _ A3.out).mono ?_); rintro e w54 ⟨rfl, hb⟩; refine ⟨_, rfl, ?_⟩; replace HO0_0 := am (Kd.R_below (rs HO0_0) hb); replace BK434 := bkB BK434 hb; replace BK435 := bkB BK435 hb; replace HK := am (Kept.below (S := (fun k_ => P0_0_ k_)) m16_ hb); replace HB := hbS HB hb; (try clear hb)) | ((with_reducible refine gate_dst (N := 6) rfl ?_); refine box_event rfl (N := 6) rfl (cs := #[.int .i64 0, .int .i64 0]) (t := 34) hr_ ?_; intro gb439 hg w55 hbox hb; replace HO0_0 := am (Kd.R_below (Kd.R_elderB (rs HO0_0) gb439 (Nat.le_of_eq hg.symm)) hb); have BK439 := am hbox; have GW439 := am ((by rw [hg]; exact (by first | exact HK.out.1 | exact (show Kept w _ (fun k_ => P0_0_ k_) from m16_).1) : w.heap.size ≤ gb439)); replace HK := am (Kept.below (S := (fun k_ => P0_0_ k_)) m16_ hb); have GE439 := gwE HB hg; replace HB := hbS HB hb; have NB434_439 := neL BK434 hg; have NB439_434 := neG BK434 hg; replace BK434 := bkB BK434 hb; have NB435_439 := neL BK435 hg; have NB439_435 := neG BK435 hg; replace BK435 := bkB BK435 hb; clear hb hbox hg; have := NB439_434.out; have := NB434_439.out; have := NB439_435.out; have := NB435_439.out; have := bcell BK439 0; have := bcell BK439 1; have := bfz BK439 0; have := bfz BK439 1; have := NB434_435.out; have := NB435_434.out; have := bcell BK434 0; have := bfz BK434 0; have := bcell BK435 0; have := bfz BK435 0))
  refine bodyPost_ret (results_ct rfl _ _ gb435 25 #[.slice Ao51 l0_0.length co51] (0, 0) _ rfl (by (with_reducible repeat refine bu ?_); refine blk_put (cs := #[.slice none 0 0]) ?_ 0 _ rfl; (with_reducible repeat refine bu ?_); refine blk_far ?_ NB435_439.out _; (with_reducible repeat refine bu ?_); refine blk_far ?_ NB435_439.out _; (with_reducible repeat refine bu ?_); exact BK435.out) Tryz.underlying25 rfl (by kernel_rfl)) rfl ?_
  exact ⟨_, fi_, by (with_reducible repeat apply ru); exact Kd.R_mono (Kd.R_far (p := ⟨gb435, 0, none⟩) (Kd.R_far (p := ⟨gb439, 1, none⟩) (Kd.R_far (p := ⟨gb439, 0, none⟩) (Kd.R_types (Kd.R_mono HO0_0.out (fun k_ hk => (⟨hk, hk.2⟩ : _ ∧ k_ ≠ gb439))) BK435.out (by decide)) (fun _ hk => hk.1.2) (.int .i64 t436)) (fun _ hk => hk.1.2) (.int .i64 t437)) (fun _ hk => hk.2) (.slice Ao51 l0_0.length co51)) (fun _ hk => hk.1.1.1), m2_, m16_⟩
def spec_RwrLine.j0 : Nat → ByteArray → Bool → List (S34) → Option ((List (S34)) × ByteArray)
 | 0, _, _, _ => none
 | k + 1, x1, x13, x447000 => if x13 = true then (some (([] : List (S34)), (⟨#[]⟩ : ByteArray))) else ((spec_l3Copy.f x447000).bind fun t450 => ((spec_l3Line.f k t450 x1).bind fun bt453 => (some (bt453.1, bt453.2))))
def spec_RwrLine.f (k : Nat) (l0_0 : List (S34)) (a1 : ByteArray) : Option ((List (S34)) × ByteArray) := (spec_MapOk.f k l0_0).bind fun t448 => (if t448 = true then ((spec_LinOk.f k a1).bind fun t449 => (spec_RwrLine.j0 k a1 (!t449) l0_0)) else (spec_RwrLine.j0 k a1 true l0_0))
theorem spec_RwrLine.mono_l : ∀ k, (∀ y0 y1 y2, LeO (spec_RwrLine.j0 k y0 y1 y2) (spec_RwrLine.j0 (k + 1) y0 y1 y2))
 | 0 => fun _ _ _ r h => by simp [spec_RwrLine.j0] at h
 | k + 1 => by
  have ih0 := spec_RwrLine.mono_l k
  ·intro y0 y1 y2
   unfold spec_RwrLine.j0
   repeat' first | (with_reducible first | exact ih0 _ _ _ | exact spec_LinOk.mono _ _ | exact spec_MapOk.mono _ _ | exact spec_l3Line.mono _ _ _ | exact LeO.refl _ | exact LeO.none _ | refine LeO.ite ?_ ?_ | refine LeO.bind ?_ (fun _ => ?_)) | exact ih0 _ _ _ | exact spec_LinOk.mono _ _ | exact spec_MapOk.mono _ _ | exact spec_l3Line.mono _ _ _ | exact LeO.none _ | refine LeO.ite ?_ ?_ | refine LeO.bind ?_ (fun _ => ?_)
theorem spec_RwrLine.mono : ∀ a0 a1 k, LeO (spec_RwrLine.f k a0 a1) (spec_RwrLine.f (k + 1) a0 a1) := by
 intro a0 a1 k
 have ih0 := spec_RwrLine.mono_l k
 unfold spec_RwrLine.f
 repeat' first | (with_reducible first | exact ih0 _ _ _ | exact spec_LinOk.mono _ _ | exact spec_MapOk.mono _ _ | exact spec_l3Line.mono _ _ _ | exact LeO.refl _ | exact LeO.none _ | refine LeO.ite ?_ ?_ | refine LeO.bind ?_ (fun _ => ?_)) | exact ih0 _ _ _ | exact spec_LinOk.mono _ _ | exact spec_MapOk.mono _ _ | exact spec_l3Line.mono _ _ _ | exact LeO.none _ | refine LeO.ite ?_ ?_ | refine LeO.bind ?_ (fun _ => ?_)
set_option maxHeartbeats 8000000 in
set_option maxRecDepth 100000 in
theorem spec_RwrLine.calls (k : Nat) (A0_0 : Option Addr) (c0_0 : Nat) (l0_0 : List (S34)) (a1 : ByteArray) (r1 : List (S34)) (r2 : ByteArray) (w : World) (hr0_0 : Kd.C k34 w A0_0 l0_0.length l0_0) (hc0_0 : l0_0.length ≤ c0_0) (h : spec_RwrLine.f k l0_0 a1 = some (r1, r2)) :
  Calls Tryz.prog 14 #[.agg #[.slice A0_0 l0_0.length c0_0], .string a1] w fun e w' => ∃ v0_ : Value, e = .returned (.tuple #[.agg #[v0_], .string r2]) ∧ Kd.R k34 34 w' w.heap.size (fun _ => True) v0_ r1 ∧ Below w.heap.size w w' := by
 have hu25 := Tryz.underlying25
 have HR0_0 := am hr0_0
 have HC0_0 := am hc0_0
 clear hr0_0 hc0_0
 have HB := am (Below.refl w.heap.size w)
 have H : ((spec_MapOk.f k l0_0).bind fun t448 => (if t448 = true then ((spec_LinOk.f k a1).bind fun t449 => (spec_RwrLine.j0 k a1 (!t449) l0_0)) else (spec_RwrLine.j0 k a1 true l0_0))) = some (r1, r2) := h
 clear h
 have HC3 := am H
 clear H
 go_enter Tryz.func14, Tryz.ntmps14
 go_upto_region 1 with (first | ((with_reducible refine gate_dst (N := 2) rfl ?_); refine box_event rfl (N := 2) rfl (cs := #[.slice A0_0 l0_0.length c0_0]) (t := 25) hr_ ?_; intro gb446 hg w4 hbox hb; have BK446 := am hbox; have GW446 := gwE HB hg; have GE446 := gwE HB hg; replace HB := hbS HB hb; clear hb hbox hg) | ((with_reducible refine gate_dst (N := 4) rfl ?_); refine box_event rfl (N := 4) rfl (cs := #[.slice none 0 0]) (t := 25) hr_ ?_; intro gb447 hg w5 hbox hb; have BK447 := am hbox; have GW447 := gwE HB hg; have GE447 := gwE HB hg; replace HB := hbS HB hb; have NB446_447 := neL BK446 hg; have NB447_446 := neG BK446 hg; replace BK446 := bkB BK446 hb; clear hb hbox hg))
 (try simp only [Act.put, List.setIfInBounds_toArray, List.set_cons_zero, List.set_cons_succ])
 go_cut [13] (fun v13 wc => ∃ (kq : Nat) (x13_2 : Bool), v13 = .bool x13_2 ∧ Aside0 (spec_RwrLine.j0 kq a1 x13_2 l0_0 = some (r1, r2)) ∧ Aside0 (kq ≤ k) ∧ Aside0 (wc.heap[gb446]? = some (.cells #[(.slice A0_0 l0_0.length c0_0)] 25 (0, 0))) ∧ Aside0 (wc.heap[gb447]? = some (.cells #[(.slice none 0 0)] 25 (0, 0))) ∧ Aside0 (Below w.heap.size w wc))
 case first =>
  have H := HC3.out
  clear HC3
  obtain ⟨t448, A6, H⟩ := bse H
  try dsimp only at H
  by_cases c7 : t448 = true
  ·subst c7
   have H1 : ((spec_LinOk.f k a1).bind fun t449 => (spec_RwrLine.j0 k a1 (!t449) l0_0)) = some (r1, r2) := by rw [if_pos rfl] at H; exact H
   clear H
   have H := H1
   clear H1
   obtain ⟨t449, A8, H⟩ := bse H
   try dsimp only at H
   have H' := am H
   clear H
   have := NB446_447.out
   have := NB447_446.out
   have hcz10_0 := bcell BK446 0
   have hfz10_0 := blk_frozen BK446.out 0
   go_wp2_with (first | ((with_reducible refine gate_callee (f := 16) rfl ?_); refine gL (some 7) Tryz.func16 #[.agg #[.slice A0_0 l0_0.length c0_0]] ?_; (with_reducible refine (spec_MapOk.calls k _ _ l0_0 true _ ?side1 ?side2 A6.out).mono ?_); (case side1 => exact m4_); (case side2 => exact HC0_0.out); rintro e w11 ⟨rfl, hb⟩; refine ⟨_, rfl, ?_⟩; replace BK446 := bkB BK446 hb; replace BK447 := bkB BK447 hb; replace HB := hbS HB hb; (try clear hb)) | (go_at_call 17; (with_reducible refine (spec_LinOk.calls k a1 t449 _ A8.out).mono ?_); rintro e w' ⟨rfl, ⟨nd, rfl⟩⟩))
   go_meet
   case rel => exact ⟨_, (!t449), rs_, H', ⟨by first | omega | exact Nat.le_refl _⟩, ⟨bk BK446⟩, ⟨bk BK447⟩, ⟨m2_⟩⟩
  ·replace c7 := Bool.eq_false_iff.mpr c7
   subst c7
   have H1 : (spec_RwrLine.j0 k a1 true l0_0) = some (r1, r2) := by rw [if_neg (show ¬ (false = true) by decide)] at H; exact H
   clear H
   have H := H1
   clear H1
   have H' := am H
   clear H
   have := NB446_447.out
   have := NB447_446.out
   have hcz13_0 := bcell BK446 0
   have hfz13_0 := blk_frozen BK446.out 0
   go_wp2_with (first | ((with_reducible refine gate_callee (f := 16) rfl ?_); refine gL (some 7) Tryz.func16 #[.agg #[.slice A0_0 l0_0.length c0_0]] ?_; (with_reducible refine (spec_MapOk.calls k _ _ l0_0 false _ ?side1 ?side2 A6.out).mono ?_); (case side1 => exact m4_); (case side2 => exact HC0_0.out); rintro e w14 ⟨rfl, hb⟩; refine ⟨_, rfl, ?_⟩; replace BK446 := bkB BK446 hb; replace BK447 := bkB BK447 hb; replace HB := hbS HB hb; (try clear hb)))
   go_meet
   case rel => exact ⟨_, (true), rs_, H', ⟨by first | omega | exact Nat.le_refl _⟩, ⟨bk BK446⟩, ⟨bk BK447⟩, ⟨m2_⟩⟩
 case rest =>
  clear HC3
  try clear c1
  try clear p2
  try clear c7
  try clear c9
  try clear c12
  try clear c14
  try clear hcz10_0
  try clear hcz13_0
  try clear hfz10_0
  try clear hfz13_0
  obtain ⟨kq, x13_2, rfl, HA, HJ2, BK446, BK447, HB⟩ := hcut
  cases kq with
  | zero => exact absurd HA.out (by simp [spec_RwrLine.j0])
  | succ kj2 =>
   have H := HA.out
   clear HA
   simp only [spec_RwrLine.j0] at H
   by_cases c15 : x13_2 = true
   ·subst c15
    have H1 : (some (([] : List (S34)), (⟨#[]⟩ : ByteArray))) = some (r1, r2) := by rw [if_pos rfl] at H; exact H
    clear H
    have H := H1
    clear H1
    simp only [Option.some.injEq, Prod.mk.injEq] at H
    obtain ⟨rfl, rfl⟩ := H
    have := NB447_446.out
    have := NB446_447.out
    have := bcell BK447 0
    have := bfz BK447 0
    go_wp2
    refine bodyPost_ret (results_ct rfl _ _ gb447 25 #[.slice none 0 0] (0, 0) _ rfl (by (with_reducible repeat refine bu ?_); refine blk_put (cs := #[.slice none 0 0]) ?_ 0 _ rfl; (with_reducible repeat refine bu ?_); exact BK447.out) Tryz.underlying25 rfl (by kernel_rfl)) rfl ?_
    exact ⟨_, fi_, by first | exact Kd.R_nil _ _ _ _ _ | exact Kd.N_nil _ _ _ _ _ | exact Kd.V_nil _ _ _ _ _ | exact Kd.Q_nil _ _ _ _ _ | exact Kd.S_nil _ _ _ _ _, m2_⟩
   ·replace c15 := Bool.eq_false_iff.mpr c15
    subst c15
    have H1 : ((spec_l3Copy.f l0_0).bind fun t450 => ((spec_l3Line.f kj2 t450 a1).bind fun bt453 => (some (bt453.1, bt453.2)))) = some (r1, r2) := by rw [if_neg (show ¬ (false = true) by decide)] at H; exact H
    clear H
    have H := H1
    clear H1
    obtain ⟨t450, A18, H⟩ := bse H
    try dsimp only at H
    obtain ⟨⟨t453, t456⟩, A19, H⟩ := bse H
    try dsimp only at H
    simp only [Option.some.injEq, Prod.mk.injEq] at H
    obtain ⟨rfl, rfl⟩ := H
    have := NB446_447.out
    have := NB447_446.out
    have := bcell BK446 0
    have := bfz BK446 0
    go_wp2_with (first | ((with_reducible refine gate_callee (f := 47) rfl ?_); refine gL (some 16) Tryz.func47 #[.agg #[.slice A0_0 l0_0.length c0_0]] ?_; (with_reducible refine (spec_l3Copy.calls _ _ l0_0 t450 _ ?side1 ?side2 A18.out).mono ?_); (case side1 => exact m4_); (case side2 => exact HC0_0.out); rintro e w22 ⟨v451, rfl, ho0, hb⟩; refine ⟨_, rfl, ?_⟩; have HO452 := am (Kd.R_lower ho0 (below_size (bl HB))); replace BK446 := bkB BK446 hb; replace BK447 := bkB BK447 hb; replace HB := hbS HB hb; (try clear hb); (try clear ho0); obtain ⟨Ao23, co23, eo23⟩ := Kd.R_slice HO452.out; subst eo23) | ((with_reducible refine gate_callee (f := 46) rfl ?_); refine gL (some 18) Tryz.func46 #[.agg #[.slice Ao23 t450.length co23], .string a1] ?_; (with_reducible refine (spec_l3Line.calls kj2 (fun k_ => some k_ = (.slice Ao23 t450.length co23 : Value).ownBlock) (.slice Ao23 t450.length co23) t450 a1 t453 t456 w _ ?side1 ?side2 A19.out).mono ?_); (case side1 => exact m2_); (case side2 => exact Kd.R_tight rfl HO452.out); rintro e w24 ⟨v454, rfl, ho0, hb, hkp⟩; refine ⟨_, rfl, ?_⟩; replace BK446 := am (blk_kept (bk BK446) hkp (fun hs_ => (fun e_ => (Kd.R_ne HO452.out BK446.out (by decide)) e_) hs_)); replace BK447 := am (blk_kept (bk BK447) hkp (fun hs_ => (fun e_ => (Kd.R_ne HO452.out BK447.out (by decide)) e_) hs_)); have HO455 := am (Kd.R_mono (ok' := fun k_ => True) ho0 (fun k_ hk_ => trivial)); replace HB := am hb; clear HO452; (try clear hb); (try clear hkp); (try clear ho0); obtain ⟨Ao25, co25, eo25⟩ := Kd.R_slice HO455.out; subst eo25; have := bcell BK447 0; have := bfz BK447 0))
    refine bodyPost_ret (results_ct rfl _ _ gb447 25 #[.slice Ao25 t453.length co25] (0, 0) _ rfl (by (with_reducible repeat refine bu ?_); refine blk_put (cs := #[.slice none 0 0]) ?_ 0 _ rfl; (with_reducible repeat refine bu ?_); exact BK447.out) Tryz.underlying25 rfl (by kernel_rfl)) rfl ?_
    exact ⟨_, fi_, by (with_reducible repeat apply ru); exact Kd.R_mono (Kd.R_far (p := ⟨gb447, 0, none⟩) (Kd.R_types HO455.out BK447.out (by decide)) (fun _ hk => hk.2) (.slice Ao25 t453.length co25)) (fun _ hk => trivial), m2_⟩
def impl_LinSays.f (a0 : ByteArray) : Option (Int × Int × Bool) := (impl_said.f a0).bind fun bt352 => (if bt352.2.2 = true then ((impl_EndInside.f bt352.1 bt352.2.1).bind fun t356 => (if t356 = true then (some (bt352.1, bt352.2.1, true)) else (some (0, 0, false)))) else (some (0, 0, false)))
set_option maxHeartbeats 8000000 in
set_option maxRecDepth 100000 in
theorem impl_LinSays.calls (a0 : ByteArray) (r1 : Int) (r2 : Int) (r3 : Bool) (w : World) (h : impl_LinSays.f a0 = some (r1, r2, r3)) (hE : EnvE w) :
  Calls Tryz.prog 19 #[.string a0] w fun e w' => e = .returned (.tuple #[.agg #[.int .i64 r1, .int .i64 r2], .bool r3]) ∧ Below w.heap.size w w' := by
 have hu34 := Tryz.underlying34
 have HB := am (Below.refl w.heap.size w)
 have H : ((impl_said.f a0).bind fun bt352 => (if bt352.2.2 = true then ((impl_EndInside.f bt352.1 bt352.2.1).bind fun t356 => (if t356 = true then (some (bt352.1, bt352.2.1, true)) else (some (0, 0, false)))) else (some (0, 0, false)))) = some (r1, r2, r3) := h
 clear h
 obtain ⟨⟨t352, t353, t354⟩, A2, H⟩ := bse H
 try dsimp only at H
 by_cases c3 : t354 = true
 ·subst c3
  have H1 : ((impl_EndInside.f t352 t353).bind fun t356 => (if t356 = true then (some (t352, t353, true)) else (some (0, 0, false)))) = some (r1, r2, r3) := by rw [if_pos rfl] at H; exact H
  clear H
  have H := H1
  clear H1
  obtain ⟨t356, A4, H⟩ := bse H
  try dsimp only at H
  by_cases c5 : t356 = true
  ·subst c5
   have H1 : (some (t352, t353, true)) = some (r1, r2, r3) := by rw [if_pos rfl] at H; exact H
   clear H
   have H := H1
   clear H1
   simp only [Option.some.injEq, Prod.mk.injEq] at H
   obtain ⟨rfl, rfl, rfl⟩ := H
   go_enter Tryz.func19, Tryz.ntmps19
   go_wp2_with (first | ((with_reducible refine gate_dst (N := 2) rfl ?_); refine box_event rfl (N := 2) rfl (cs := #[.int .i64 0, .int .i64 0]) (t := 34) hr_ ?_; intro gb351 hg w6 hbox hb; have BK351 := am hbox; have GW351 := gwE HB hg; have GE351 := gwE HB hg; replace HB := hbS HB hb; clear hb hbox hg) | ((with_reducible refine gate_callee (f := 51) rfl ?_); refine gL (some 8) Tryz.func51 #[.string a0] ?_; (with_reducible refine (impl_said.calls a0 t352 t353 true _ A2.out (EnvE.below hE (bl HB))).mono ?_); rintro e w7 ⟨rfl, hb⟩; refine ⟨_, rfl, ?_⟩; replace BK351 := bkB BK351 hb; replace HB := hbS HB hb; (try clear hb)) | ((with_reducible refine gate_dst (N := 4) rfl ?_); refine box_event rfl (N := 4) rfl (cs := #[.int .i64 0, .int .i64 0]) (t := 34) hr_ ?_; intro gb355 hg w8 hbox hb; have BK355 := am hbox; have GW355 := gwE HB hg; have GE355 := gwE HB hg; replace HB := hbS HB hb; have NB351_355 := neL BK351 hg; have NB355_351 := neG BK351 hg; replace BK351 := bkB BK351 hb; clear hb hbox hg; have := NB355_351.out; have := NB351_355.out; have := bcell BK355 0; have := bcell BK355 1; have := bfz BK355 0; have := bfz BK355 1) | (go_at_call 52; (with_reducible refine (impl_EndInside.calls t352 t353 true _ A4.out).mono ?_); rintro e w11 ⟨rfl, hb⟩; replace BK351 := am (blk_below (g := gb351) (o := .cells #[.int .i64 0, .int .i64 0] 34 (0, 0)) (by (with_reducible repeat refine bu ?_); refine blk_far ?_ NB351_355.out _; (with_reducible repeat refine bu ?_); refine blk_far ?_ NB351_355.out _; (with_reducible repeat refine bu ?_); exact BK351.out) hb); replace BK355 := am (blk_below (g := gb355) (o := .cells #[.int .i64 t352, .int .i64 t353] 34 (0, 0)) (by (with_reducible repeat refine bu ?_); refine blk_put (cs := #[.int .i64 t352, .int .i64 0]) ?_ 1 _ rfl; (with_reducible repeat refine bu ?_); refine blk_put (cs := #[.int .i64 0, .int .i64 0]) ?_ 0 _ rfl; (with_reducible repeat refine bu ?_); exact BK355.out) hb); replace HB := hbS HB hb; (try clear hb); have := bcell BK355 0; have := bcell BK355 1; have := bfz BK355 0; have := bfz BK355 1; have := bcell BK351 0; have := bcell BK351 1; have := bfz BK351 0; have := bfz BK351 1))
   refine bodyPost_ret (results_ct rfl _ _ gb351 34 #[.int .i64 t352, .int .i64 t353] (0, 0) _ rfl (by (with_reducible repeat refine bu ?_); refine blk_put (cs := #[.int .i64 t352, .int .i64 0]) ?_ 1 _ rfl; (with_reducible repeat refine bu ?_); refine blk_put (cs := #[.int .i64 0, .int .i64 0]) ?_ 0 _ rfl; (with_reducible repeat refine bu ?_); exact BK351.out) Tryz.underlying34 rfl (by kernel_rfl)) rfl ?_
   exact ⟨fi_, m2_⟩
  ·replace c5 := Bool.eq_false_iff.mpr c5
   subst c5
   have H1 : (some (0, 0, false)) = some (r1, r2, r3) := by rw [if_neg (show ¬ (false = true) by decide)] at H; exact H
   clear H
   have H := H1
   clear H1
   simp only [Option.some.injEq, Prod.mk.injEq] at H
   obtain ⟨rfl, rfl, rfl⟩ := H
   go_enter Tryz.func19, Tryz.ntmps19
   go_wp2_with (first | ((with_reducible refine gate_dst (N := 2) rfl ?_); refine box_event rfl (N := 2) rfl (cs := #[.int .i64 0, .int .i64 0]) (t := 34) hr_ ?_; intro gb351 hg w14 hbox hb; have BK351 := am hbox; have GW351 := gwE HB hg; have GE351 := gwE HB hg; replace HB := hbS HB hb; clear hb hbox hg) | ((with_reducible refine gate_callee (f := 51) rfl ?_); refine gL (some 8) Tryz.func51 #[.string a0] ?_; (with_reducible refine (impl_said.calls a0 t352 t353 true _ A2.out (EnvE.below hE (bl HB))).mono ?_); rintro e w15 ⟨rfl, hb⟩; refine ⟨_, rfl, ?_⟩; replace BK351 := bkB BK351 hb; replace HB := hbS HB hb; (try clear hb)) | ((with_reducible refine gate_dst (N := 4) rfl ?_); refine box_event rfl (N := 4) rfl (cs := #[.int .i64 0, .int .i64 0]) (t := 34) hr_ ?_; intro gb355 hg w16 hbox hb; have BK355 := am hbox; have GW355 := gwE HB hg; have GE355 := gwE HB hg; replace HB := hbS HB hb; have NB351_355 := neL BK351 hg; have NB355_351 := neG BK351 hg; replace BK351 := bkB BK351 hb; clear hb hbox hg; have := NB355_351.out; have := NB351_355.out; have := bcell BK355 0; have := bcell BK355 1; have := bfz BK355 0; have := bfz BK355 1) | (go_at_call 52; (with_reducible refine (impl_EndInside.calls t352 t353 false _ A4.out).mono ?_); rintro e w19 ⟨rfl, hb⟩; replace BK351 := am (blk_below (g := gb351) (o := .cells #[.int .i64 0, .int .i64 0] 34 (0, 0)) (by (with_reducible repeat refine bu ?_); refine blk_far ?_ NB351_355.out _; (with_reducible repeat refine bu ?_); refine blk_far ?_ NB351_355.out _; (with_reducible repeat refine bu ?_); exact BK351.out) hb); replace BK355 := am (blk_below (g := gb355) (o := .cells #[.int .i64 t352, .int .i64 t353] 34 (0, 0)) (by (with_reducible repeat refine bu ?_); refine blk_put (cs := #[.int .i64 t352, .int .i64 0]) ?_ 1 _ rfl; (with_reducible repeat refine bu ?_); refine blk_put (cs := #[.int .i64 0, .int .i64 0]) ?_ 0 _ rfl; (with_reducible repeat refine bu ?_); exact BK355.out) hb); replace HB := hbS HB hb; (try clear hb); have := bcell BK351 0; have := bcell BK351 1; have := bfz BK351 0; have := bfz BK351 1))
   refine bodyPost_ret (results_ct rfl _ _ gb351 34 #[.int .i64 0, .int .i64 0] (0, 0) _ rfl (by (with_reducible repeat refine bu ?_); refine blk_put (cs := #[.int .i64 0, .int .i64 0]) ?_ 1 _ rfl; (with_reducible repeat refine bu ?_); refine blk_put (cs := #[.int .i64 0, .int .i64 0]) ?_ 0 _ rfl; (with_reducible repeat refine bu ?_); exact BK351.out) Tryz.underlying34 rfl (by kernel_rfl)) rfl ?_
   exact ⟨fi_, m2_⟩
 ·replace c3 := Bool.eq_false_iff.mpr c3
  subst c3
  have H1 : (some (0, 0, false)) = some (r1, r2, r3) := by rw [if_neg (show ¬ (false = true) by decide)] at H; exact H
  clear H
  have H := H1
  clear H1
  simp only [Option.some.injEq, Prod.mk.injEq] at H
  obtain ⟨rfl, rfl, rfl⟩ := H
  go_enter Tryz.func19, Tryz.ntmps19
  go_wp2_with (first | ((with_reducible refine gate_dst (N := 2) rfl ?_); refine box_event rfl (N := 2) rfl (cs := #[.int .i64 0, .int .i64 0]) (t := 34) hr_ ?_; intro gb351 hg w21 hbox hb; have BK351 := am hbox; have GW351 := gwE HB hg; have GE351 := gwE HB hg; replace HB := hbS HB hb; clear hb hbox hg) | ((with_reducible refine gate_callee (f := 51) rfl ?_); refine gL (some 8) Tryz.func51 #[.string a0] ?_; (with_reducible refine (impl_said.calls a0 t352 t353 false _ A2.out (EnvE.below hE (bl HB))).mono ?_); rintro e w22 ⟨rfl, hb⟩; refine ⟨_, rfl, ?_⟩; replace BK351 := bkB BK351 hb; replace HB := hbS HB hb; (try clear hb)) | ((with_reducible refine gate_dst (N := 4) rfl ?_); refine box_event rfl (N := 4) rfl (cs := #[.int .i64 0, .int .i64 0]) (t := 34) hr_ ?_; intro gb355 hg w23 hbox hb; have BK355 := am hbox; have GW355 := gwE HB hg; have GE355 := gwE HB hg; replace HB := hbS HB hb; have NB351_355 := neL BK351 hg; have NB355_351 := neG BK351 hg; replace BK351 := bkB BK351 hb; clear hb hbox hg; have := NB355_351.out; have := NB351_355.out; have := bcell BK355 0; have := bcell BK355 1; have := bfz BK355 0; have := bfz BK355 1; have := bcell BK351 0; have := bcell BK351 1; have := bfz BK351 0; have := bfz BK351 1))
  refine bodyPost_ret (results_ct rfl _ _ gb351 34 #[.int .i64 0, .int .i64 0] (0, 0) _ rfl (by (with_reducible repeat refine bu ?_); refine blk_put (cs := #[.int .i64 0, .int .i64 0]) ?_ 1 _ rfl; (with_reducible repeat refine bu ?_); refine blk_put (cs := #[.int .i64 0, .int .i64 0]) ?_ 0 _ rfl; (with_reducible repeat refine bu ?_); refine blk_far ?_ NB351_355.out _; (with_reducible repeat refine bu ?_); refine blk_far ?_ NB351_355.out _; (with_reducible repeat refine bu ?_); exact BK351.out) Tryz.underlying34 rfl (by kernel_rfl)) rfl ?_
  exact ⟨fi_, m2_⟩
def impl_LinPort.f (a0_0 : Int) (a0_1 : Int) : Option (ByteArray) := (impl_EndOk.f a0_0 a0_1).bind fun t358 => (if t358 = true then ((impl_EndText.f a0_0 a0_1).bind fun t359 => (if 5 + t359.size ≤ 9223372036854775807 then (some ((⟨#[112, 111, 114, 116, 32]⟩ : ByteArray) ++ t359)) else (none))) else (some (⟨#[]⟩ : ByteArray)))
set_option maxHeartbeats 8000000 in
set_option maxRecDepth 100000 in
theorem impl_LinPort.calls (a0_0 : Int) (a0_1 : Int) (r : ByteArray) (w : World) (h : impl_LinPort.f a0_0 a0_1 = some r) (hE : EnvT w) :
  Calls Tryz.prog 24 #[.agg #[.int .i64 a0_0, .int .i64 a0_1]] w fun e w' => e = .returned (.string r) ∧ Below w.heap.size w w' := by
 have hu34 := Tryz.underlying34
 have HB := am (Below.refl w.heap.size w)
 have H : ((impl_EndOk.f a0_0 a0_1).bind fun t358 => (if t358 = true then ((impl_EndText.f a0_0 a0_1).bind fun t359 => (if 5 + t359.size ≤ 9223372036854775807 then (some ((⟨#[112, 111, 114, 116, 32]⟩ : ByteArray) ++ t359)) else (none))) else (some (⟨#[]⟩ : ByteArray)))) = some r := h
 clear h
 obtain ⟨t358, A2, H⟩ := bse H
 try dsimp only at H
 by_cases c3 : t358 = true
 ·subst c3
  have H1 : ((impl_EndText.f a0_0 a0_1).bind fun t359 => (if 5 + t359.size ≤ 9223372036854775807 then (some ((⟨#[112, 111, 114, 116, 32]⟩ : ByteArray) ++ t359)) else (none))) = some r := by rw [if_pos rfl] at H; exact H
  clear H
  have H := H1
  clear H1
  obtain ⟨t359, A4, H⟩ := bse H
  try dsimp only at H
  by_cases c5 : 5 + t359.size ≤ 9223372036854775807
  ·rw [if_pos c5] at H
   have c5b0 := eq_true c5
   have c5b1 : decide (5 + t359.size ≤ 9223372036854775807) = true := decide_eq_true c5
   try have c5b2 : (9223372036854775807 < 5 + t359.size) = False := eq_false (Nat.not_lt.2 c5)
   obtain rfl := Option.some.inj H
   go_enter Tryz.func24, Tryz.ntmps24
   go_wp2_with (first | ((with_reducible refine gate_dst (N := 1) rfl ?_); refine box_event rfl (N := 1) rfl (cs := #[.int .i64 a0_0, .int .i64 a0_1]) (t := 34) hr_ ?_; intro gb357 hg w6 hbox hb; have BK357 := am hbox; have GW357 := gwE HB hg; have GE357 := gwE HB hg; replace HB := hbS HB hb; clear hb hbox hg; have := bcell BK357 0; have := bcell BK357 1; have := bfz BK357 0; have := bfz BK357 1) | ((with_reducible refine gate_callee (f := 56) rfl ?_); refine gL (some 4) Tryz.func56 #[.agg #[.int .i64 a0_0, .int .i64 a0_1]] ?_; (with_reducible refine (impl_EndOk.calls a0_0 a0_1 true _ A2.out).mono ?_); rintro e w8 ⟨rfl, hb⟩; refine ⟨_, rfl, ?_⟩; replace BK357 := bkB BK357 hb; replace HB := hbS HB hb; (try clear hb); have := bcell BK357 0; have := bcell BK357 1; have := bfz BK357 0; have := bfz BK357 1) | ((with_reducible refine gate_callee (f := 57) rfl ?_); refine gL (some 7) Tryz.func57 #[.agg #[.int .i64 a0_0, .int .i64 a0_1]] ?_; (with_reducible refine (impl_EndText.calls a0_0 a0_1 t359 _ A4.out (EnvT.below hE (bl HB))).mono ?_); rintro e w10 ⟨rfl, hb⟩; refine ⟨_, rfl, ?_⟩; replace BK357 := bkB BK357 hb; replace HB := hbS HB hb; (try clear hb)))
   go_ret
   exact ⟨fi_, m2_⟩
  ·rw [if_neg c5] at H
   exact absurd H (by simp)
 ·replace c3 := Bool.eq_false_iff.mpr c3
  subst c3
  have H1 : (some (⟨#[]⟩ : ByteArray)) = some r := by rw [if_neg (show ¬ (false = true) by decide)] at H; exact H
  clear H
  have H := H1
  clear H1
  obtain rfl := Option.some.inj H
  go_enter Tryz.func24, Tryz.ntmps24
  go_wp2_with (first | ((with_reducible refine gate_dst (N := 1) rfl ?_); refine box_event rfl (N := 1) rfl (cs := #[.int .i64 a0_0, .int .i64 a0_1]) (t := 34) hr_ ?_; intro gb357 hg w11 hbox hb; have BK357 := am hbox; have GW357 := gwE HB hg; have GE357 := gwE HB hg; replace HB := hbS HB hb; clear hb hbox hg; have := bcell BK357 0; have := bcell BK357 1; have := bfz BK357 0; have := bfz BK357 1) | ((with_reducible refine gate_callee (f := 56) rfl ?_); refine gL (some 4) Tryz.func56 #[.agg #[.int .i64 a0_0, .int .i64 a0_1]] ?_; (with_reducible refine (impl_EndOk.calls a0_0 a0_1 false _ A2.out).mono ?_); rintro e w13 ⟨rfl, hb⟩; refine ⟨_, rfl, ?_⟩; replace BK357 := bkB BK357 hb; replace HB := hbS HB hb; (try clear hb)))
  go_ret
  exact ⟨fi_, m2_⟩
def impl_MapTab_goesOut.f (l0_0 : List (S34)) (a1 : ByteArray) : Option ((List (S34)) × ByteArray) := (impl_LinSays.f a1).bind fun bt386 => (if bt386.2.2 = true then ((impl_MapTab_put.f l0_0 bt386.1 bt386.2.1).bind fun bt393 => (if bt393.2 = 0 then (some (bt393.1, (⟨#[110, 111, 110, 101]⟩ : ByteArray))) else ((impl_LinPort.f 50 bt393.2).bind fun t398 => (some (bt393.1, t398))))) else ((impl_MapTab_copied.f l0_0).bind fun t390 => (some (t390, a1))))
set_option maxHeartbeats 8000000 in
set_option maxRecDepth 100000 in
theorem impl_MapTab_goesOut.calls (A0_0 : Option Addr) (c0_0 : Nat) (l0_0 : List (S34)) (a1 : ByteArray) (r1 : List (S34)) (r2 : ByteArray) (w : World) (hr0_0 : Kd.C k34 w A0_0 l0_0.length l0_0) (hc0_0 : l0_0.length ≤ c0_0) (h : impl_MapTab_goesOut.f l0_0 a1 = some (r1, r2)) (hE : EnvE w) :
  Calls Tryz.prog 45 #[.agg #[.slice A0_0 l0_0.length c0_0], .string a1] w fun e w' => ∃ v0_ : Value, e = .returned (.tuple #[.agg #[v0_], .string r2]) ∧ Kd.R k34 34 w' w.heap.size (fun _ => True) v0_ r1 ∧ Below w.heap.size w w' := by
 have hu25 := Tryz.underlying25
 have hu34 := Tryz.underlying34
 have HR0_0 := am hr0_0
 have HC0_0 := am hc0_0
 clear hr0_0 hc0_0
 have HB := am (Below.refl w.heap.size w)
 have H : ((impl_LinSays.f a1).bind fun bt386 => (if bt386.2.2 = true then ((impl_MapTab_put.f l0_0 bt386.1 bt386.2.1).bind fun bt393 => (if bt393.2 = 0 then (some (bt393.1, (⟨#[110, 111, 110, 101]⟩ : ByteArray))) else ((impl_LinPort.f 50 bt393.2).bind fun t398 => (some (bt393.1, t398))))) else ((impl_MapTab_copied.f l0_0).bind fun t390 => (some (t390, a1))))) = some (r1, r2) := h
 clear h
 obtain ⟨⟨t386, t387, t388⟩, A3, H⟩ := bse H
 try dsimp only at H
 by_cases c4 : t388 = true
 ·subst c4
  have H1 : ((impl_MapTab_put.f l0_0 t386 t387).bind fun bt393 => (if bt393.2 = 0 then (some (bt393.1, (⟨#[110, 111, 110, 101]⟩ : ByteArray))) else ((impl_LinPort.f 50 bt393.2).bind fun t398 => (some (bt393.1, t398))))) = some (r1, r2) := by rw [if_pos rfl] at H; exact H
  clear H
  have H := H1
  clear H1
  obtain ⟨⟨t393, t396⟩, A5, H⟩ := bse H
  try dsimp only at H
  by_cases c6 : t396 = 0
  ·rw [if_pos c6] at H
   have c6b0 : (t396 == 0) = true := beq_iff_eq.mpr c6
   have c6b1 : (t396 != 0) = false := bne_eq_false_iff_eq.mpr c6
   clear c6
   simp only [Option.some.injEq, Prod.mk.injEq] at H
   obtain ⟨rfl, rfl⟩ := H
   go_enter Tryz.func45, Tryz.ntmps45
   go_wp2_with (first | ((with_reducible refine gate_dst (N := 2) rfl ?_); refine box_event rfl (N := 2) rfl (cs := #[.slice A0_0 l0_0.length c0_0]) (t := 25) hr_ ?_; intro gb384 hg w7 hbox hb; have BK384 := am hbox; have GW384 := gwE HB hg; have GE384 := gwE HB hg; replace HB := hbS HB hb; clear hb hbox hg) | ((with_reducible refine gate_dst (N := 4) rfl ?_); refine box_event rfl (N := 4) rfl (cs := #[.slice none 0 0]) (t := 25) hr_ ?_; intro gb385 hg w8 hbox hb; have BK385 := am hbox; have GW385 := gwE HB hg; have GE385 := gwE HB hg; replace HB := hbS HB hb; have NB384_385 := neL BK384 hg; have NB385_384 := neG BK384 hg; replace BK384 := bkB BK384 hb; clear hb hbox hg) | ((with_reducible refine gate_callee (f := 19) rfl ?_); refine gL (some 12) Tryz.func19 #[.string a1] ?_; (with_reducible refine (impl_LinSays.calls a1 t386 t387 true _ A3.out (EnvE.below hE (bl HB))).mono ?_); rintro e w9 ⟨rfl, hb⟩; refine ⟨_, rfl, ?_⟩; replace BK384 := bkB BK384 hb; replace BK385 := bkB BK385 hb; replace HB := hbS HB hb; (try clear hb)) | ((with_reducible refine gate_dst (N := 6) rfl ?_); refine box_event rfl (N := 6) rfl (cs := #[.int .i64 0, .int .i64 0]) (t := 34) hr_ ?_; intro gb389 hg w10 hbox hb; have BK389 := am hbox; have GW389 := gwE HB hg; have GE389 := gwE HB hg; replace HB := hbS HB hb; have NB384_389 := neL BK384 hg; have NB389_384 := neG BK384 hg; replace BK384 := bkB BK384 hb; have NB385_389 := neL BK385 hg; have NB389_385 := neG BK385 hg; replace BK385 := bkB BK385 hb; clear hb hbox hg; have := NB389_384.out; have := NB384_389.out; have := NB389_385.out; have := NB385_389.out; have := bcell BK389 0; have := bcell BK389 1; have := bfz BK389 0; have := bfz BK389 1; have := NB384_385.out; have := NB385_384.out; have := bcell BK384 0; have := bfz BK384 0) | ((with_reducible refine gate_callee (f := 78) rfl ?_); refine gL (some 23) Tryz.func78 #[.agg #[.slice A0_0 l0_0.length c0_0], .agg #[.int .i64 t386, .int .i64 t387]] ?_; (with_reducible refine (impl_MapTab_put.calls _ _ l0_0 t386 t387 t393 t396 _ (Kd.C_below HR0_0.out (bl HB)) HC0_0.out A5.out).mono ?_); rintro e w16 ⟨v394, rfl, ho0, hb⟩; refine ⟨_, rfl, ?_⟩; have HO395 := am (Kd.R_lower (Kd.R_newB ho0 (g := gb389) (o := .cells #[.int .i64 t386, .int .i64 t387] 34 (0, 0)) (by (with_reducible repeat refine bu ?_); refine blk_put (cs := #[.int .i64 t386, .int .i64 0]) ?_ 1 _ rfl; (with_reducible repeat refine bu ?_); refine blk_put (cs := #[.int .i64 0, .int .i64 0]) ?_ 0 _ rfl; (with_reducible repeat refine bu ?_); exact BK389.out)) (below_size (bl HB))); replace BK384 := am (blk_below (g := gb384) (o := .cells #[.slice A0_0 l0_0.length c0_0] 25 (0, 0)) (by (with_reducible repeat refine bu ?_); refine blk_far ?_ NB384_389.out _; (with_reducible repeat refine bu ?_); refine blk_far ?_ NB384_389.out _; (with_reducible repeat refine bu ?_); exact BK384.out) hb); replace BK385 := am (blk_below (g := gb385) (o := .cells #[.slice none 0 0] 25 (0, 0)) (by (with_reducible repeat refine bu ?_); refine blk_far ?_ NB385_389.out _; (with_reducible repeat refine bu ?_); refine blk_far ?_ NB385_389.out _; (with_reducible repeat refine bu ?_); exact BK385.out) hb); replace BK389 := am (blk_below (g := gb389) (o := .cells #[.int .i64 t386, .int .i64 t387] 34 (0, 0)) (by (with_reducible repeat refine bu ?_); refine blk_put (cs := #[.int .i64 t386, .int .i64 0]) ?_ 1 _ rfl; (with_reducible repeat refine bu ?_); refine blk_put (cs := #[.int .i64 0, .int .i64 0]) ?_ 0 _ rfl; (with_reducible repeat refine bu ?_); exact BK389.out) hb); replace HB := hbS HB hb; (try clear hb); (try clear ho0)) | ((with_reducible refine gate_dst (N := 8) rfl ?_); refine box_event rfl (N := 8) rfl (cs := #[.slice none 0 0]) (t := 25) hr_ ?_; intro gb397 hg w17 hbox hb; replace HO395 := am (Kd.R_below (rs HO395) hb); have BK397 := am hbox; have GW397 := gwE HB hg; have GE397 := gwE HB hg; replace HB := hbS HB hb; have NB384_397 := neL BK384 hg; have NB397_384 := neG BK384 hg; replace BK384 := bkB BK384 hb; have NB385_397 := neL BK385 hg; have NB397_385 := neG BK385 hg; replace BK385 := bkB BK385 hb; have NB389_397 := neL BK389 hg; have NB397_389 := neG BK389 hg; replace BK389 := bkB BK389 hb; clear hb hbox hg; obtain ⟨Ao18, co18, eo18⟩ := Kd.R_slice HO395.out; subst eo18; have := NB397_384.out; have := NB384_397.out; have := NB397_385.out; have := NB385_397.out; have := NB397_389.out; have := NB389_397.out; have := bcell BK397 0; have := bfz BK397 0; have := bcell BK385 0; have := bfz BK385 0))
   refine bodyPost_ret (results_ct rfl _ _ gb385 25 #[.slice Ao18 t393.length co18] (0, 0) _ rfl (by (with_reducible repeat refine bu ?_); refine blk_put (cs := #[.slice none 0 0]) ?_ 0 _ rfl; (with_reducible repeat refine bu ?_); refine blk_far ?_ NB385_397.out _; (with_reducible repeat refine bu ?_); exact BK385.out) Tryz.underlying25 rfl (by kernel_rfl)) rfl ?_
   exact ⟨_, fi_, by (with_reducible repeat apply ru); exact Kd.R_mono (Kd.R_far (p := ⟨gb385, 0, none⟩) (Kd.R_far (p := ⟨gb397, 0, none⟩) (Kd.R_types (Kd.R_types HO395.out BK397.out (by decide)) BK385.out (by decide)) (fun _ hk => hk.1.2) (.slice Ao18 t393.length co18)) (fun _ hk => hk.2) (.slice Ao18 t393.length co18)) (fun _ hk => trivial), m2_⟩
  ·rw [if_neg c6] at H
   have c6b0 : (t396 == 0) = false := beq_eq_false_iff_ne.mpr c6
   have c6b1 : (t396 != 0) = true := bne_iff_ne.mpr c6
   obtain ⟨t398, A24, H⟩ := bse H
   try dsimp only at H
   simp only [Option.some.injEq, Prod.mk.injEq] at H
   obtain ⟨rfl, rfl⟩ := H
   go_enter Tryz.func45, Tryz.ntmps45
   try go_wp2_with (first | ((with_reducible refine gate_dst (N := 2) rfl ?_); refine box_event rfl (N := 2) rfl (cs := #[.slice A0_0 l0_0.length c0_0]) (t := 25) hr_ ?_; intro gb384 hg w25 hbox hb; have BK384 := am hbox; have GW384 := gwE HB hg; have GE384 := gwE HB hg; replace HB := hbS HB hb; clear hb hbox hg) | ((with_reducible refine gate_dst (N := 4) rfl ?_); refine box_event rfl (N := 4) rfl (cs := #[.slice none 0 0]) (t := 25) hr_ ?_; intro gb385 hg w26 hbox hb; have BK385 := am hbox; have GW385 := gwE HB hg; have GE385 := gwE HB hg; replace HB := hbS HB hb; have NB384_385 := neL BK384 hg; have NB385_384 := neG BK384 hg; replace BK384 := bkB BK384 hb; clear hb hbox hg) | ((with_reducible refine gate_callee (f := 19) rfl ?_); refine gL (some 12) Tryz.func19 #[.string a1] ?_; (with_reducible refine (impl_LinSays.calls a1 t386 t387 true _ A3.out (EnvE.below hE (bl HB))).mono ?_); rintro e w27 ⟨rfl, hb⟩; refine ⟨_, rfl, ?_⟩; replace BK384 := bkB BK384 hb; replace BK385 := bkB BK385 hb; replace HB := hbS HB hb; (try clear hb)) | ((with_reducible refine gate_dst (N := 6) rfl ?_); refine box_event rfl (N := 6) rfl (cs := #[.int .i64 0, .int .i64 0]) (t := 34) hr_ ?_; intro gb389 hg w28 hbox hb; have BK389 := am hbox; have GW389 := gwE HB hg; have GE389 := gwE HB hg; replace HB := hbS HB hb; have NB384_389 := neL BK384 hg; have NB389_384 := neG BK384 hg; replace BK384 := bkB BK384 hb; have NB385_389 := neL BK385 hg; have NB389_385 := neG BK385 hg; replace BK385 := bkB BK385 hb; clear hb hbox hg; have := NB389_384.out; have := NB384_389.out; have := NB389_385.out; have := NB385_389.out; have := bcell BK389 0; have := bcell BK389 1; have := bfz BK389 0; have := bfz BK389 1; have := NB384_385.out; have := NB385_384.out; have := bcell BK384 0; have := bfz BK384 0) | ((with_reducible refine gate_callee (f := 78) rfl ?_); refine gL (some 23) Tryz.func78 #[.agg #[.slice A0_0 l0_0.length c0_0], .agg #[.int .i64 t386, .int .i64 t387]] ?_; (with_reducible refine (impl_MapTab_put.calls _ _ l0_0 t386 t387 t393 t396 _ (Kd.C_below HR0_0.out (bl HB)) HC0_0.out A5.out).mono ?_); rintro e w34 ⟨v394, rfl, ho0, hb⟩; refine ⟨_, rfl, ?_⟩; have HO395 := am (Kd.R_lower (Kd.R_newB ho0 (g := gb389) (o := .cells #[.int .i64 t386, .int .i64 t387] 34 (0, 0)) (by (with_reducible repeat refine bu ?_); refine blk_put (cs := #[.int .i64 t386, .int .i64 0]) ?_ 1 _ rfl; (with_reducible repeat refine bu ?_); refine blk_put (cs := #[.int .i64 0, .int .i64 0]) ?_ 0 _ rfl; (with_reducible repeat refine bu ?_); exact BK389.out)) (below_size (bl HB))); replace BK384 := am (blk_below (g := gb384) (o := .cells #[.slice A0_0 l0_0.length c0_0] 25 (0, 0)) (by (with_reducible repeat refine bu ?_); refine blk_far ?_ NB384_389.out _; (with_reducible repeat refine bu ?_); refine blk_far ?_ NB384_389.out _; (with_reducible repeat refine bu ?_); exact BK384.out) hb); replace BK385 := am (blk_below (g := gb385) (o := .cells #[.slice none 0 0] 25 (0, 0)) (by (with_reducible repeat refine bu ?_); refine blk_far ?_ NB385_389.out _; (with_reducible repeat refine bu ?_); refine blk_far ?_ NB385_389.out _; (with_reducible repeat refine bu ?_); exact BK385.out) hb); replace BK389 := am (blk_below (g := gb389) (o := .cells #[.int .i64 t386, .int .i64 t387] 34 (0, 0)) (by (with_reducible repeat refine bu ?_); refine blk_put (cs := #[.int .i64 t386, .int .i64 0]) ?_ 1 _ rfl; (with_reducible repeat refine bu ?_); refine blk_put (cs := #[.int .i64 0, .int .i64 0]) ?_ 0 _ rfl; (with_reducible repeat refine bu ?_); exact BK389.out) hb); replace HB := hbS HB hb; (try clear hb); (try clear ho0)) | ((with_reducible refine gate_dst (N := 8) rfl ?_); refine box_event rfl (N := 8) rfl (cs := #[.slice none 0 0]) (t := 25) hr_ ?_; intro gb397 hg w35 hbox hb; replace HO395 := am (Kd.R_below (rs HO395) hb); have BK397 := am hbox; have GW397 := gwE HB hg; have GE397 := gwE HB hg; replace HB := hbS HB hb; have NB384_397 := neL BK384 hg; have NB397_384 := neG BK384 hg; replace BK384 := bkB BK384 hb; have NB385_397 := neL BK385 hg; have NB397_385 := neG BK385 hg; replace BK385 := bkB BK385 hb; have NB389_397 := neL BK389 hg; have NB397_389 := neG BK389 hg; replace BK389 := bkB BK389 hb; clear hb hbox hg; obtain ⟨Ao36, co36, eo36⟩ := Kd.R_slice HO395.out; subst eo36; have := NB397_384.out; have := NB384_397.out; have := NB397_385.out; have := NB385_397.out; have := NB397_389.out; have := NB389_397.out; have := bcell BK397 0; have := bfz BK397 0))
   have n0_ : Aside0 (Kd.R k34 34 (w35.setCell ⟨gb397, 0, none⟩ (.slice Ao36 t393.length co36)) w.heap.size (fun k_ => k_ ≠ gb389) (.slice Ao36 t393.length co36) t393) := ⟨by (with_reducible repeat apply ru); exact Kd.R_mono (Kd.R_far (p := ⟨gb397, 0, none⟩) (Kd.R_types HO395.out BK397.out (by decide)) (fun _ hk => hk.2) (.slice Ao36 t393.length co36)) (fun _ hk => hk.1.2)⟩
   have n1_ : Aside0 ((w35.setCell ⟨gb397, 0, none⟩ (.slice Ao36 t393.length co36)).heap[gb384]? = some (.cells #[.slice A0_0 l0_0.length c0_0] 25 (0, 0))) := bf_ BK384
   have n2_ : Aside0 ((w35.setCell ⟨gb397, 0, none⟩ (.slice Ao36 t393.length co36)).heap[gb385]? = some (.cells #[.slice none 0 0] 25 (0, 0))) := bf_ BK385
   have n3_ : Aside0 ((w35.setCell ⟨gb397, 0, none⟩ (.slice Ao36 t393.length co36)).heap[gb389]? = some (.cells #[.int .i64 t386, .int .i64 t387] 34 (0, 0))) := bf_ BK389
   have n4_ : Aside0 ((w35.setCell ⟨gb397, 0, none⟩ (.slice Ao36 t393.length co36)).heap[gb397]? = some (.cells #[.slice Ao36 t393.length co36] 25 (0, 0))) := ⟨by (with_reducible repeat refine bu ?_); refine blk_put (cs := #[.slice none 0 0]) ?_ 0 _ rfl; (with_reducible repeat refine bu ?_); exact BK397.out⟩
   have n5_ : Aside0 (Below w.heap.size w (w35.setCell ⟨gb397, 0, none⟩ (.slice Ao36 t393.length co36))) := ⟨m2_⟩
   (try clear HO395)
   (try clear BK384)
   (try clear BK385)
   (try clear BK389)
   (try clear BK397)
   (try clear HB)
   generalize (w35.setCell ⟨gb397, 0, none⟩ (.slice Ao36 t393.length co36)) = w41 at n0_ n1_ n2_ n3_ n4_ n5_ ⊢
   have HO395 := n0_
   have BK384 := n1_
   have BK385 := n2_
   have BK389 := n3_
   have BK397 := n4_
   have HB := n5_
   clear n0_ n1_ n2_ n3_ n4_ n5_
   replace HO395 := am (Kd.R_drew HO395.out)
   replace BK384 := am (blk_drew BK384.out)
   replace BK385 := am (blk_drew BK385.out)
   replace BK389 := am (blk_drew BK389.out)
   replace BK397 := am (blk_drew BK397.out)
   replace HB := am (below_drew1 HB.out)
   refine start_ (n := 6) (S := fun w' => w'.cell? ⟨gb397, 0, none⟩ = some (.slice Ao36 t393.length co36)) (ds := []) #[false, false, false, false, false, false] (by kernel_rfl) rfl rfl (bcell BK397 0) (fun hHeld => ?_)
   generalize w41.drew = w42 at HO395 BK384 BK385 BK389 BK397 HB hHeld ⊢
   refine pu_ 1 (some 30) (bm 6 2) ?_
   refine pu_ 2 (some 31) (bm 6 6) ?_
   refine take_ (i := 0) (N := some 29) (v := ?_) (a' := ?_) #[true, true, true, false, false, false] rfl rfl (by kernel_rfl) (fun _ _ _ h => h) (Or.inl ⟨by rfl, ?_⟩) hHeld ?_ ?_
   rotate_left
   ·intro w' s0
    go_simp
    with_reducible rfl
   rotate_left
   ·simp only [Act.put, List.setIfInBounds_toArray, List.set_cons_zero, List.set_cons_succ, i64_w, i32_w]
    rfl
   refine one_ (i := 3) (N := some 32) #[true, true, true, true, false, false] rfl rfl (by kernel_rfl) (by decide) (fun K hK => ?_)
   refine gR Tryz.func24 #[.agg #[.int .i64 50, .int .i64 t396]] ?_
   with_reducible refine (impl_LinPort.calls 50 t396 t398 _ A24.out (EnvT.below hE.e.t (bl HB))).mono ?_
   rintro e w43 ⟨rfl, hb⟩
   refine ⟨_, rfl, ?_⟩
   replace HO395 := am (Kd.R_below (rs HO395) hb)
   replace BK384 := bkB BK384 hb
   replace BK385 := bkB BK385 hb
   replace BK389 := bkB BK389 hb
   replace BK397 := bkB BK397 hb
   replace HB := hbS HB hb
   (try clear hb)
   (try clear hb2)
   (try clear hk)
   (try clear hi)
   refine hK.out _ _ (bcell BK397 0) (fun hHeld => ?_)
   clear hK K
   refine nm_ ?_
   refine one_ (i := 4) (N := none) #[true, true, true, true, true, false] rfl rfl (by kernel_rfl) (by decide) (fun K hK => ?_)
   have : w43.cell? ⟨gb385, 0, none⟩ = some (.slice none 0 0) := bcell BK385 0
   have := bfz BK385 0
   have := NB384_385.out
   have := NB389_385.out
   have := NB397_385.out
   have := NB385_384.out
   have := NB385_389.out
   have := NB385_397.out
   refine skip_ (w1 := ?_) (by rfl) rfl ?_ ?_
   rotate_left
   ·go_simp
    rfl
   refine hK.out _ _ (((cell_far (p := ⟨gb385, _, none⟩) NB397_385.out _).trans (hHeld))) (fun hHeld => ?_)
   clear hK K
   refine pu_ 5 (some 5) (bm 6 63) ?_
   refine done_ (by kernel_rfl) ?_
   try go_wp2
   refine bodyPost_ret (results_ct rfl _ _ gb385 25 #[.slice Ao36 t393.length co36] (0, 0) _ rfl (by (with_reducible repeat refine bu ?_); refine blk_put (cs := #[.slice none 0 0]) ?_ 0 _ rfl; (with_reducible repeat refine bu ?_); exact BK385.out) Tryz.underlying25 rfl (by kernel_rfl)) rfl ?_
   exact ⟨_, fi_, by (with_reducible repeat apply ru); exact Kd.R_mono (Kd.R_far (p := ⟨gb385, 0, none⟩) (Kd.R_types HO395.out BK385.out (by decide)) (fun _ hk => hk.2) (.slice Ao36 t393.length co36)) (fun _ hk => trivial), m2_⟩
 ·replace c4 := Bool.eq_false_iff.mpr c4
  subst c4
  have H1 : ((impl_MapTab_copied.f l0_0).bind fun t390 => (some (t390, a1))) = some (r1, r2) := by rw [if_neg (show ¬ (false = true) by decide)] at H; exact H
  clear H
  have H := H1
  clear H1
  obtain ⟨t390, A45, H⟩ := bse H
  try dsimp only at H
  simp only [Option.some.injEq, Prod.mk.injEq] at H
  obtain ⟨rfl, rfl⟩ := H
  go_enter Tryz.func45, Tryz.ntmps45
  go_wp2_with (first | ((with_reducible refine gate_dst (N := 2) rfl ?_); refine box_event rfl (N := 2) rfl (cs := #[.slice A0_0 l0_0.length c0_0]) (t := 25) hr_ ?_; intro gb384 hg w46 hbox hb; have BK384 := am hbox; have GW384 := gwE HB hg; have GE384 := gwE HB hg; replace HB := hbS HB hb; clear hb hbox hg) | ((with_reducible refine gate_dst (N := 4) rfl ?_); refine box_event rfl (N := 4) rfl (cs := #[.slice none 0 0]) (t := 25) hr_ ?_; intro gb385 hg w47 hbox hb; have BK385 := am hbox; have GW385 := gwE HB hg; have GE385 := gwE HB hg; replace HB := hbS HB hb; have NB384_385 := neL BK384 hg; have NB385_384 := neG BK384 hg; replace BK384 := bkB BK384 hb; clear hb hbox hg) | ((with_reducible refine gate_callee (f := 19) rfl ?_); refine gL (some 12) Tryz.func19 #[.string a1] ?_; (with_reducible refine (impl_LinSays.calls a1 t386 t387 false _ A3.out (EnvE.below hE (bl HB))).mono ?_); rintro e w48 ⟨rfl, hb⟩; refine ⟨_, rfl, ?_⟩; replace BK384 := bkB BK384 hb; replace BK385 := bkB BK385 hb; replace HB := hbS HB hb; (try clear hb)) | ((with_reducible refine gate_dst (N := 6) rfl ?_); refine box_event rfl (N := 6) rfl (cs := #[.int .i64 0, .int .i64 0]) (t := 34) hr_ ?_; intro gb389 hg w49 hbox hb; have BK389 := am hbox; have GW389 := gwE HB hg; have GE389 := gwE HB hg; replace HB := hbS HB hb; have NB384_389 := neL BK384 hg; have NB389_384 := neG BK384 hg; replace BK384 := bkB BK384 hb; have NB385_389 := neL BK385 hg; have NB389_385 := neG BK385 hg; replace BK385 := bkB BK385 hb; clear hb hbox hg; have := NB389_384.out; have := NB384_389.out; have := NB389_385.out; have := NB385_389.out; have := bcell BK389 0; have := bcell BK389 1; have := bfz BK389 0; have := bfz BK389 1; have := NB384_385.out; have := NB385_384.out; have := bcell BK384 0; have := bfz BK384 0) | ((with_reducible refine gate_callee (f := 77) rfl ?_); refine gL (some 18) Tryz.func77 #[.agg #[.slice A0_0 l0_0.length c0_0]] ?_; (with_reducible refine (impl_MapTab_copied.calls _ _ l0_0 t390 _ (Kd.C_below HR0_0.out (bl HB)) HC0_0.out A45.out).mono ?_); rintro e w55 ⟨v391, rfl, ho0, hb⟩; refine ⟨_, rfl, ?_⟩; have HO392 := am (Kd.R_lower (Kd.R_newB ho0 (g := gb389) (o := .cells #[.int .i64 t386, .int .i64 t387] 34 (0, 0)) (by (with_reducible repeat refine bu ?_); refine blk_put (cs := #[.int .i64 t386, .int .i64 0]) ?_ 1 _ rfl; (with_reducible repeat refine bu ?_); refine blk_put (cs := #[.int .i64 0, .int .i64 0]) ?_ 0 _ rfl; (with_reducible repeat refine bu ?_); exact BK389.out)) (below_size (bl HB))); replace BK384 := am (blk_below (g := gb384) (o := .cells #[.slice A0_0 l0_0.length c0_0] 25 (0, 0)) (by (with_reducible repeat refine bu ?_); refine blk_far ?_ NB384_389.out _; (with_reducible repeat refine bu ?_); refine blk_far ?_ NB384_389.out _; (with_reducible repeat refine bu ?_); exact BK384.out) hb); replace BK385 := am (blk_below (g := gb385) (o := .cells #[.slice none 0 0] 25 (0, 0)) (by (with_reducible repeat refine bu ?_); refine blk_far ?_ NB385_389.out _; (with_reducible repeat refine bu ?_); refine blk_far ?_ NB385_389.out _; (with_reducible repeat refine bu ?_); exact BK385.out) hb); replace BK389 := am (blk_below (g := gb389) (o := .cells #[.int .i64 t386, .int .i64 t387] 34 (0, 0)) (by (with_reducible repeat refine bu ?_); refine blk_put (cs := #[.int .i64 t386, .int .i64 0]) ?_ 1 _ rfl; (with_reducible repeat refine bu ?_); refine blk_put (cs := #[.int .i64 0, .int .i64 0]) ?_ 0 _ rfl; (with_reducible repeat refine bu ?_); exact BK389.out) hb); replace HB := hbS HB hb; (try clear hb); (try clear ho0); obtain ⟨Ao56, co56, eo56⟩ := Kd.R_slice HO392.out; subst eo56; have := bcell BK385 0; have := bfz BK385 0))
  refine bodyPost_ret (results_ct rfl _ _ gb385 25 #[.slice Ao56 t390.length co56] (0, 0) _ rfl (by (with_reducible repeat refine bu ?_); refine blk_put (cs := #[.slice none 0 0]) ?_ 0 _ rfl; (with_reducible repeat refine bu ?_); exact BK385.out) Tryz.underlying25 rfl (by kernel_rfl)) rfl ?_
  exact ⟨_, fi_, by (with_reducible repeat apply ru); exact Kd.R_mono (Kd.R_far (p := ⟨gb385, 0, none⟩) (Kd.R_types HO392.out BK385.out (by decide)) (fun _ hk => hk.2) (.slice Ao56 t390.length co56)) (fun _ hk => trivial), m2_⟩
def impl_RwrLine.f (k : Nat) (l0_0 : List (S34)) (a1 : ByteArray) : Option ((List (S34)) × ByteArray) := (impl_MapOk.f k l0_0).bind fun t401 => (if t401 = true then ((impl_LinOk.f a1).bind fun t402 => (if t402 = true then ((impl_MapTab_goesOut.f l0_0 a1).bind fun bt403 => (some (bt403.1, bt403.2))) else (some (([] : List (S34)), (⟨#[]⟩ : ByteArray))))) else (some (([] : List (S34)), (⟨#[]⟩ : ByteArray))))
theorem impl_RwrLine.mono : ∀ a0 a1 k, LeO (impl_RwrLine.f k a0 a1) (impl_RwrLine.f (k + 1) a0 a1) := by
 intro a0 a1 k
 unfold impl_RwrLine.f
 repeat' first | (with_reducible first | exact impl_MapOk.mono _ _ | exact LeO.refl _ | exact LeO.none _ | refine LeO.ite ?_ ?_ | refine LeO.bind ?_ (fun _ => ?_)) | exact impl_MapOk.mono _ _ | exact LeO.none _ | refine LeO.ite ?_ ?_ | refine LeO.bind ?_ (fun _ => ?_)
set_option maxHeartbeats 8000000 in
set_option maxRecDepth 100000 in
theorem impl_RwrLine.calls (k : Nat) (A0_0 : Option Addr) (c0_0 : Nat) (l0_0 : List (S34)) (a1 : ByteArray) (r1 : List (S34)) (r2 : ByteArray) (w : World) (hr0_0 : Kd.C k34 w A0_0 l0_0.length l0_0) (hc0_0 : l0_0.length ≤ c0_0) (h : impl_RwrLine.f k l0_0 a1 = some (r1, r2)) (hE : EnvE w) :
  Calls Tryz.prog 13 #[.agg #[.slice A0_0 l0_0.length c0_0], .string a1] w fun e w' => ∃ v0_ : Value, e = .returned (.tuple #[.agg #[v0_], .string r2]) ∧ Kd.R k34 34 w' w.heap.size (fun _ => True) v0_ r1 ∧ Below w.heap.size w w' := by
 have hu25 := Tryz.underlying25
 have HR0_0 := am hr0_0
 have HC0_0 := am hc0_0
 clear hr0_0 hc0_0
 have HB := am (Below.refl w.heap.size w)
 have H : ((impl_MapOk.f k l0_0).bind fun t401 => (if t401 = true then ((impl_LinOk.f a1).bind fun t402 => (if t402 = true then ((impl_MapTab_goesOut.f l0_0 a1).bind fun bt403 => (some (bt403.1, bt403.2))) else (some (([] : List (S34)), (⟨#[]⟩ : ByteArray))))) else (some (([] : List (S34)), (⟨#[]⟩ : ByteArray))))) = some (r1, r2) := h
 clear h
 obtain ⟨t401, A3, H⟩ := bse H
 try dsimp only at H
 by_cases c4 : t401 = true
 ·subst c4
  have H1 : ((impl_LinOk.f a1).bind fun t402 => (if t402 = true then ((impl_MapTab_goesOut.f l0_0 a1).bind fun bt403 => (some (bt403.1, bt403.2))) else (some (([] : List (S34)), (⟨#[]⟩ : ByteArray))))) = some (r1, r2) := by rw [if_pos rfl] at H; exact H
  clear H
  have H := H1
  clear H1
  obtain ⟨t402, A5, H⟩ := bse H
  try dsimp only at H
  by_cases c6 : t402 = true
  ·subst c6
   have H1 : ((impl_MapTab_goesOut.f l0_0 a1).bind fun bt403 => (some (bt403.1, bt403.2))) = some (r1, r2) := by rw [if_pos rfl] at H; exact H
   clear H
   have H := H1
   clear H1
   obtain ⟨⟨t403, t406⟩, A7, H⟩ := bse H
   try dsimp only at H
   simp only [Option.some.injEq, Prod.mk.injEq] at H
   obtain ⟨rfl, rfl⟩ := H
   go_enter Tryz.func13, Tryz.ntmps13
   go_wp2_with (first | ((with_reducible refine gate_dst (N := 2) rfl ?_); refine box_event rfl (N := 2) rfl (cs := #[.slice A0_0 l0_0.length c0_0]) (t := 25) hr_ ?_; intro gb399 hg w8 hbox hb; have BK399 := am hbox; have GW399 := gwE HB hg; have GE399 := gwE HB hg; replace HB := hbS HB hb; clear hb hbox hg) | ((with_reducible refine gate_dst (N := 4) rfl ?_); refine box_event rfl (N := 4) rfl (cs := #[.slice none 0 0]) (t := 25) hr_ ?_; intro gb400 hg w9 hbox hb; have BK400 := am hbox; have GW400 := gwE HB hg; have GE400 := gwE HB hg; replace HB := hbS HB hb; have NB399_400 := neL BK399 hg; have NB400_399 := neG BK399 hg; replace BK399 := bkB BK399 hb; clear hb hbox hg; have := NB399_400.out; have := NB400_399.out; have := bcell BK399 0; have := bfz BK399 0) | ((with_reducible refine gate_callee (f := 20) rfl ?_); refine gL (some 7) Tryz.func20 #[.agg #[.slice A0_0 l0_0.length c0_0]] ?_; (with_reducible refine (impl_MapOk.calls k _ _ l0_0 true _ ?side1 ?side2 A3.out).mono ?_); (case side1 => exact m4_); (case side2 => exact HC0_0.out); rintro e w12 ⟨rfl, hb⟩; refine ⟨_, rfl, ?_⟩; replace BK399 := bkB BK399 hb; replace BK400 := bkB BK400 hb; replace HB := hbS HB hb; (try clear hb)) | (go_at_call 22; (with_reducible refine (impl_LinOk.calls a1 true _ A5.out).mono ?_); rintro e w13 ⟨rfl, hb⟩; replace BK399 := bkB BK399 hb; replace BK400 := bkB BK400 hb; replace HB := hbS HB hb; (try clear hb); have := bcell BK399 0; have := bfz BK399 0) | ((with_reducible refine gate_callee (f := 45) rfl ?_); refine gL (some 17) Tryz.func45 #[.agg #[.slice A0_0 l0_0.length c0_0], .string a1] ?_; (with_reducible refine (impl_MapTab_goesOut.calls _ _ l0_0 a1 t403 t406 _ ?side1 ?side2 A7.out (EnvE.below hE (bl HB))).mono ?_); (case side1 => exact m4_); (case side2 => exact HC0_0.out); rintro e w15 ⟨v404, rfl, ho0, hb⟩; refine ⟨_, rfl, ?_⟩; have HO405 := am (Kd.R_lower ho0 (below_size (bl HB))); replace BK399 := bkB BK399 hb; replace BK400 := bkB BK400 hb; replace HB := hbS HB hb; (try clear hb); (try clear ho0); obtain ⟨Ao16, co16, eo16⟩ := Kd.R_slice HO405.out; subst eo16; have := bcell BK400 0; have := bfz BK400 0))
   refine bodyPost_ret (results_ct rfl _ _ gb400 25 #[.slice Ao16 t403.length co16] (0, 0) _ rfl (by (with_reducible repeat refine bu ?_); refine blk_put (cs := #[.slice none 0 0]) ?_ 0 _ rfl; (with_reducible repeat refine bu ?_); exact BK400.out) Tryz.underlying25 rfl (by kernel_rfl)) rfl ?_
   exact ⟨_, fi_, by (with_reducible repeat apply ru); exact Kd.R_mono (Kd.R_far (p := ⟨gb400, 0, none⟩) (Kd.R_types HO405.out BK400.out (by decide)) (fun _ hk => hk.2) (.slice Ao16 t403.length co16)) (fun _ hk => trivial), m2_⟩
  ·replace c6 := Bool.eq_false_iff.mpr c6
   subst c6
   have H1 : (some (([] : List (S34)), (⟨#[]⟩ : ByteArray))) = some (r1, r2) := by rw [if_neg (show ¬ (false = true) by decide)] at H; exact H
   clear H
   have H := H1
   clear H1
   simp only [Option.some.injEq, Prod.mk.injEq] at H
   obtain ⟨rfl, rfl⟩ := H
   go_enter Tryz.func13, Tryz.ntmps13
   go_wp2_with (first | ((with_reducible refine gate_dst (N := 2) rfl ?_); refine box_event rfl (N := 2) rfl (cs := #[.slice A0_0 l0_0.length c0_0]) (t := 25) hr_ ?_; intro gb399 hg w18 hbox hb; have BK399 := am hbox; have GW399 := gwE HB hg; have GE399 := gwE HB hg; replace HB := hbS HB hb; clear hb hbox hg) | ((with_reducible refine gate_dst (N := 4) rfl ?_); refine box_event rfl (N := 4) rfl (cs := #[.slice none 0 0]) (t := 25) hr_ ?_; intro gb400 hg w19 hbox hb; have BK400 := am hbox; have GW400 := gwE HB hg; have GE400 := gwE HB hg; replace HB := hbS HB hb; have NB399_400 := neL BK399 hg; have NB400_399 := neG BK399 hg; replace BK399 := bkB BK399 hb; clear hb hbox hg; have := NB399_400.out; have := NB400_399.out; have := bcell BK399 0; have := bfz BK399 0) | ((with_reducible refine gate_callee (f := 20) rfl ?_); refine gL (some 7) Tryz.func20 #[.agg #[.slice A0_0 l0_0.length c0_0]] ?_; (with_reducible refine (impl_MapOk.calls k _ _ l0_0 true _ ?side1 ?side2 A3.out).mono ?_); (case side1 => exact m4_); (case side2 => exact HC0_0.out); rintro e w22 ⟨rfl, hb⟩; refine ⟨_, rfl, ?_⟩; replace BK399 := bkB BK399 hb; replace BK400 := bkB BK400 hb; replace HB := hbS HB hb; (try clear hb)) | (go_at_call 22; (with_reducible refine (impl_LinOk.calls a1 false _ A5.out).mono ?_); rintro e w23 ⟨rfl, hb⟩; replace BK399 := bkB BK399 hb; replace BK400 := bkB BK400 hb; replace HB := hbS HB hb; (try clear hb); have := bcell BK400 0; have := bfz BK400 0))
   refine bodyPost_ret (results_ct rfl _ _ gb400 25 #[.slice none 0 0] (0, 0) _ rfl (by (with_reducible repeat refine bu ?_); refine blk_put (cs := #[.slice none 0 0]) ?_ 0 _ rfl; (with_reducible repeat refine bu ?_); exact BK400.out) Tryz.underlying25 rfl (by kernel_rfl)) rfl ?_
   exact ⟨_, fi_, by first | exact Kd.R_nil _ _ _ _ _ | exact Kd.N_nil _ _ _ _ _ | exact Kd.V_nil _ _ _ _ _ | exact Kd.Q_nil _ _ _ _ _ | exact Kd.S_nil _ _ _ _ _, m2_⟩
 ·replace c4 := Bool.eq_false_iff.mpr c4
  subst c4
  have H1 : (some (([] : List (S34)), (⟨#[]⟩ : ByteArray))) = some (r1, r2) := by rw [if_neg (show ¬ (false = true) by decide)] at H; exact H
  clear H
  have H := H1
  clear H1
  simp only [Option.some.injEq, Prod.mk.injEq] at H
  obtain ⟨rfl, rfl⟩ := H
  go_enter Tryz.func13, Tryz.ntmps13
  go_wp2_with (first | ((with_reducible refine gate_dst (N := 2) rfl ?_); refine box_event rfl (N := 2) rfl (cs := #[.slice A0_0 l0_0.length c0_0]) (t := 25) hr_ ?_; intro gb399 hg w25 hbox hb; have BK399 := am hbox; have GW399 := gwE HB hg; have GE399 := gwE HB hg; replace HB := hbS HB hb; clear hb hbox hg) | ((with_reducible refine gate_dst (N := 4) rfl ?_); refine box_event rfl (N := 4) rfl (cs := #[.slice none 0 0]) (t := 25) hr_ ?_; intro gb400 hg w26 hbox hb; have BK400 := am hbox; have GW400 := gwE HB hg; have GE400 := gwE HB hg; replace HB := hbS HB hb; have NB399_400 := neL BK399 hg; have NB400_399 := neG BK399 hg; replace BK399 := bkB BK399 hb; clear hb hbox hg; have := NB399_400.out; have := NB400_399.out; have := bcell BK399 0; have := bfz BK399 0) | ((with_reducible refine gate_callee (f := 20) rfl ?_); refine gL (some 7) Tryz.func20 #[.agg #[.slice A0_0 l0_0.length c0_0]] ?_; (with_reducible refine (impl_MapOk.calls k _ _ l0_0 false _ ?side1 ?side2 A3.out).mono ?_); (case side1 => exact m4_); (case side2 => exact HC0_0.out); rintro e w29 ⟨rfl, hb⟩; refine ⟨_, rfl, ?_⟩; replace BK399 := bkB BK399 hb; replace BK400 := bkB BK400 hb; replace HB := hbS HB hb; (try clear hb); have := bcell BK400 0; have := bfz BK400 0))
  refine bodyPost_ret (results_ct rfl _ _ gb400 25 #[.slice none 0 0] (0, 0) _ rfl (by (with_reducible repeat refine bu ?_); refine blk_put (cs := #[.slice none 0 0]) ?_ 0 _ rfl; (with_reducible repeat refine bu ?_); exact BK400.out) Tryz.underlying25 rfl (by kernel_rfl)) rfl ?_
  exact ⟨_, fi_, by first | exact Kd.R_nil _ _ _ _ _ | exact Kd.N_nil _ _ _ _ _ | exact Kd.V_nil _ _ _ _ _ | exact Kd.Q_nil _ _ _ _ _ | exact Kd.S_nil _ _ _ _ _, m2_⟩
end
theorem specEndOk_f (a p : Int) : spec_EndOk.f a p = some (endOkB a p) := by
  unfold spec_EndOk.f endOkB
  rw [specEndInside_f, specEndOutside_f, l1In_f]
  unfold endIn endOut
  by_cases h3 : a = 50 <;> cases inB a 1 9 <;> cases inB a 100 109 <;> cases inB p 1 999 <;> simp [h3]
theorem specEndRead_a (s : ByteArray) (hs : s.size ≤ 1048576) : Ans (fun k => spec_EndRead.f k s) (fun r => r = match readEndW s with | some (a, p) => (a, p, true) | none => (0, 0, false)) := by
  unfold spec_EndRead.f
  refine Ans.bind (words_a s hs) ?_
  rintro v rfl
  by_cases h2 : (wordsB s).length = 2
  · obtain ⟨b1, b2, hw⟩ : ∃ b1 b2, wordsB s = [b1, b2] := by
      generalize wordsB s = l at h2
      match l, h2 with
      | [b1, b2], _ => exact ⟨b1, b2, rfl⟩
    rw [hw]
    refine Ans.pos (by simp) (Ans.pos (by simp) ?_)
    refine Ans.bind (num_a _) ?_
    intro x1 h1
    refine Ans.pos (by simp) (Ans.bind (num_a _) ?_)
    intro x2 h2
    rw [specEndOk_f]
    have hk := endW_key hw (x1 := x1) (x2 := x2) h1 h2
    refine Ans.bsome ?_
    cases hb : endOkB x1 x2 with
    | true => rw [hb] at hk; refine Ans.pos rfl (Ans.pure ?_); rw [hk]; rfl
    | false => rw [hb] at hk; refine Ans.neg (by simp) (Ans.pure ?_); rw [hk]; rfl
  · refine Ans.neg (by omega) (Ans.pure ?_)
    rw [endW_len h2]
def saysW (s : ByteArray) : Option (Int × Int) := if Lib.hasPrefix s.data.toList portL = true then (match readEndW (trimW s) with | some (a, p) => if endIn a p then some (a, p) else none | none => none) else none
def saysT (s : ByteArray) : Int × Int × Bool := match saysW s with | some (a, p) => (a, p, true) | none => (0, 0, false)
theorem pre_split (s : ByteArray) : Lib.hasPrefix s.data.toList portL = true ↔ (5 ≤ s.size ∧ (s.extract 0 5).toList = [112, 111, 114, 116, 32]) := by
  have hl : s.data.toList.length = s.size := by rw [Array.length_toList]; rfl
  unfold Lib.hasPrefix portL
  rw [List.isPrefixOf_iff_prefix, List.prefix_iff_eq_take]
  rw [ByteArray.toList_eq, Lib.extract_data]
  simp only [List.drop_zero, List.length_cons, List.length_nil]
  constructor
  · intro h
    have := congrArg List.length h
    simp only [List.length_take, List.length_cons, List.length_nil] at this
    exact ⟨by omega, h.symm⟩
  · rintro ⟨_, h⟩; exact h.symm
theorem trim_extract {s : ByteArray} (h : Lib.hasPrefix s.data.toList portL = true) : s.extract 5 s.size = trimW s := by
  have hl : s.data.toList.length = s.size := by rw [Array.length_toList]; rfl
  apply ba_ext
  unfold trimW Lib.trimPrefix
  rw [if_pos h, Lib.extract_data]
  simp only [portL, List.length_cons, List.length_nil]
  rw [List.take_of_length_le (by rw [List.length_drop]; omega)]
theorem implLinSays_f {s : ByteArray} (hs : s.size ≤ 1048576) : impl_LinSays.f s = some (saysT s) := by
  unfold impl_LinSays.f impl_said.f
  rw [if_pos (by omega), Option.bind_some]
  unfold saysT saysW saidW
  cases hr : readEndW (trimW s) with
  | none => simp
  | some r =>
    obtain ⟨a, p⟩ := r
    simp only
    cases hp : Lib.hasPrefix s.data.toList portL with
    | false => simp
    | true =>
      simp only [if_true]
      rw [EndInside_f, Option.bind_some]
      cases hi : endIn a p <;> simp
theorem specLinSays_a (s : ByteArray) (hs : s.size ≤ 1048576) : Ans (fun k => spec_LinSays.f k s) (fun r => r = saysT s) := by
  unfold spec_LinSays.f
  have J : ∀ (c : Bool), (c = true → Lib.hasPrefix s.data.toList portL = false) → (c = false → Lib.hasPrefix s.data.toList portL = true) → Ans (fun k => spec_LinSays.j0 k s c) (fun r => r = saysT s) := by
    intro c h1 h2
    refine Ans.succ ?_
    unfold spec_LinSays.j0
    cases c with
    | true =>
      refine Ans.pos rfl (Ans.pure ?_)
      unfold saysT saysW
      rw [h1 rfl]; rfl
    | false =>
      have hp := h2 rfl
      have h5 := ((pre_split s).mp hp).1
      refine Ans.neg (by simp) (Ans.pos (by omega) ?_)
      rw [trim_extract hp]
      refine Ans.bind (specEndRead_a (trimW s) (Nat.le_trans (trim_size s) hs)) ?_
      rintro v rfl
      unfold saysT saysW
      rw [if_pos hp]
      cases hr : readEndW (trimW s) with
      | none => exact Ans.neg (by simp) (Ans.pure rfl)
      | some r =>
        obtain ⟨a, p⟩ := r
        simp only
        rw [specEndInside_f]
        cases hi : endIn a p with
        | true => exact Ans.pos (by simp) (Ans.bsome (Ans.pos rfl (Ans.pure (by simp [hi]))))
        | false => exact Ans.pos (by simp) (Ans.bsome (Ans.neg (by simp) (Ans.pure (by simp [hi]))))
  refine Ans.ite (fun h => ?_) (fun h => ?_)
  · refine J true (fun _ => ?_) (fun h => by cases h)
    cases hp : Lib.hasPrefix s.data.toList portL with
    | false => rfl
    | true => have := ((pre_split s).mp hp).1; omega
  · refine Ans.pos (by omega) (Ans.pos (by omega) (J _ (fun hc => ?_) (fun hc => ?_)))
    · cases hp : Lib.hasPrefix s.data.toList portL with
      | false => rfl
      | true => rw [((pre_split s).mp hp).2] at hc; simp at hc
    · exact (pre_split s).mpr ⟨by omega, bne_eq_false_iff_eq.mp hc⟩
def lportW (a p : Int) : ByteArray := if endOkB a p then (⟨#[112, 111, 114, 116, 32]⟩ : ByteArray) ++ etext a p else ⟨#[]⟩
theorem etext_size (a p : Int) : (etext a p).size ≤ 7 := by
  unfold etext
  cases hk : endOkB a p with
  | false => exact Nat.zero_le _
  | true =>
    have hb := endOkB_le hk
    have h1 := numB_size (n := a) (by omega) (by omega)
    have h2 := numB_size (n := p) (by omega) (by omega)
    have h3 : ((⟨#[32]⟩ : ByteArray)).size = 1 := rfl
    simp only [if_true, ByteArray.size_append]
    omega
theorem implLinPort_f (a p : Int) : impl_LinPort.f a p = some (lportW a p) := by
  unfold impl_LinPort.f lportW
  rw [EndOk_f, Option.bind_some]
  have hz := etext_size a p
  cases hk : endOkB a p with
  | false => simp
  | true =>
    simp only [if_true]
    rw [EndText_f, Option.bind_some, if_pos (by omega)]
theorem specEndText_a (a p : Int) : Ans (fun k => spec_EndText.f k a p) (fun r => r = etext a p) := by
  unfold spec_EndText.f etext
  rw [specEndOk_f]
  refine Ans.bsome ?_
  cases hk : endOkB a p with
  | false => exact Ans.neg (by simp) (Ans.pure (by simp))
  | true =>
    have hb := endOkB_le hk
    obtain ⟨m, rfl⟩ : ∃ m : Nat, a = m := ⟨a.toNat, by omega⟩
    obtain ⟨n, rfl⟩ : ∃ n : Nat, p = n := ⟨p.toNat, by omega⟩
    have h1 := numB_size (n := (m : Int)) (by omega) (by omega)
    have h2 := numB_size (n := (n : Int)) (by omega) (by omega)
    have h3 : ((⟨#[32]⟩ : ByteArray)).size = 1 := rfl
    refine Ans.pos rfl (Ans.bind (plain_a (n := m) (by omega)) ?_)
    rintro v rfl
    refine Ans.pos (by omega) (Ans.bind (plain_a (n := n) (by omega)) ?_)
    rintro v rfl
    exact Ans.pos (by rw [ByteArray.size_append]; omega) (Ans.pure (by simp))
theorem specLinPort_a (a p : Int) : Ans (fun k => spec_LinPort.f k a p) (fun r => r = lportW a p) := by
  unfold spec_LinPort.f lportW
  rw [specEndOk_f]
  refine Ans.bsome ?_
  have hz := etext_size a p
  cases hk : endOkB a p with
  | false => exact Ans.neg (by simp) (Ans.pure (by simp))
  | true =>
    refine Ans.pos rfl (Ans.bind (specEndText_a a p) ?_)
    rintro v rfl
    exact Ans.pos (by omega) (Ans.pure (by simp))
def noneB : ByteArray := ⟨#[110, 111, 110, 101]⟩
def lineW (l : List S34) (s : ByteArray) : List S34 × ByteArray := match saysW s with
  | none => (l, s)
  | some (a, p) => if (putV l a p).2 = 0 then ((putV l a p).1, noneB) else ((putV l a p).1, lportW 50 (putV l a p).2)
theorem saysW_in {s : ByteArray} {a p : Int} (h : saysW s = some (a, p)) : endIn a p = true := by
  unfold saysW at h
  cases hp : Lib.hasPrefix s.data.toList portL with
  | false => rw [hp] at h; simp at h
  | true =>
    rw [hp] at h
    simp only [if_true] at h
    cases hr : readEndW (trimW s) with
    | none => rw [hr] at h; cases h
    | some r =>
      obtain ⟨a', p'⟩ := r
      rw [hr] at h
      simp only at h
      cases hi : endIn a' p' with
      | false => rw [hi] at h; simp at h
      | true => rw [hi] at h; simp at h; obtain ⟨rfl, rfl⟩ := h; exact hi
theorem implGoesOut_f {l : List S34} (c : okT l = true) {s : ByteArray} (hs : s.size ≤ 1048576) : impl_MapTab_goesOut.f l s = some (lineW l s) := by
  have hl := okT_le c
  unfold impl_MapTab_goesOut.f
  rw [implLinSays_f hs, Option.bind_some]
  unfold saysT lineW
  cases hr : saysW s with
  | none =>
    simp only
    have e : impl_MapTab_copied.f l = some l := by
      unfold impl_MapTab_copied.f impl_EndPoint_106.f impl_EndPoint_105.f
      rw [if_pos (by omega)]; rfl
    rw [e]
    simp
  | some r =>
    obtain ⟨a, p⟩ := r
    simp only
    rw [implPut_f c (saysW_in hr), Option.bind_some]
    simp only [if_true]
    by_cases h0 : (putV l a p).2 = 0
    · simp [h0, noneB]
    · simp only [h0, if_false]
      rw [implLinPort_f, Option.bind_some]
theorem specLine_a {l : List S34} (hl : l.length ≤ 2000000) {s : ByteArray} (hs : s.size ≤ 1048576) : Ans (fun k => spec_l3Line.f k l s) (fun r => r = lineW l s) := by
  unfold spec_l3Line.f
  refine Ans.bind (specLinSays_a s hs) ?_
  rintro v rfl
  unfold saysT lineW
  cases hr : saysW s with
  | none => exact Ans.neg (by simp) (Ans.pure rfl)
  | some r =>
    obtain ⟨a, p⟩ := r
    simp only
    refine Ans.pos (by simp) (Ans.bind (l3Put_a l hl a p) ?_)
    rintro v rfl
    refine Ans.ite (fun h => Ans.pure ?_) (fun h => ?_)
    · simp [h, noneB]
    · refine Ans.bind (specLinPort_a 50 (putV l a p).2) ?_
      rintro v rfl
      exact Ans.pure (by simp [h])
theorem specLinOk_a (s : ByteArray) : Ans (fun k => spec_LinOk.f k s) (fun r => r = linOk s) := by
  have hb : ∀ b : Int, spec_l2Byte.f b = some (lb b) := by
    intro b
    unfold spec_l2Byte.f lb
    by_cases h1 : 97 ≤ b <;> by_cases h2 : b ≤ 122 <;> by_cases h3 : 48 ≤ b <;> by_cases h4 : b ≤ 57 <;> simp [h1, h2, h3, h4]
  have L : s.size ≤ 16 → ∀ (m i : Nat), s.size - i = m → i ≤ s.size → Ans (fun k => spec_LinOk.l0 k s i) (fun r => r = ((bys s).drop i).all lb) := by
    intro hs m
    induction m with
    | zero =>
      intro i hm hi
      refine Ans.succ ?_
      unfold spec_LinOk.l0
      refine Ans.neg (by omega) (Ans.pure ?_)
      have hl : (bys s).length = s.size := by unfold bys; rw [List.length_map]; exact len_size s
      rw [List.drop_eq_nil_of_le (by omega)]; rfl
    | succ m ih =>
      intro i hm hi
      have hlt : i < s.size := by omega
      have hl : (bys s).length = s.size := by unfold bys; rw [List.length_map]; exact len_size s
      have hw : wrap64 ((i : Int) + 1) = ((i + 1 : Nat) : Int) := w64 _ (by omega)
      have hd : (bys s).drop i = (bys s)[i]'(by omega) :: (bys s).drop (i + 1) := List.drop_eq_getElem_cons (by omega)
      have hbt : bt s i = (bys s)[i]'(by omega) := by rw [bt_get s i hlt]; simp [bys]
      refine Ans.succ ?_
      unfold spec_LinOk.l0
      refine Ans.pos (by omega) (Ans.pos (by omega) ?_)
      rw [hbt, hb, hw]
      refine Ans.bsome ?_
      cases hq : lb ((bys s)[i]'(by omega)) with
      | true => exact Ans.pos rfl ((ih (i + 1) (by omega) (by omega)).mono (by rintro v rfl; rw [hd, List.all_cons, hq, Bool.true_and]))
      | false => exact Ans.neg (by simp) (Ans.pure (by rw [hd, List.all_cons, hq, Bool.false_and]))
  unfold spec_LinOk.f linOk
  refine Ans.ite (fun h => Ans.pure ?_) (fun h => ?_)
  · have : ¬ s.size ≤ 16 := by omega
    simp [this]
  · have hs : s.size ≤ 16 := by omega
    refine (L hs _ 0 rfl (Nat.zero_le _)).mono ?_
    rintro v rfl
    simp [hs]
def rwrLineW (l : List S34) (s : ByteArray) : List S34 × ByteArray := if okT l && linOk s then lineW l s else ([], ⟨#[]⟩)
theorem linOk_size {s : ByteArray} (h : linOk s = true) : s.size ≤ 16 := by
  unfold linOk at h; simp at h; exact h.2
theorem implRwrLine_a (l : List S34) (hl : l.length ≤ 2000000) (s : ByteArray) (hs : s.size ≤ 1048576) : Ans (fun k => impl_RwrLine.f k l s) (fun r => r = rwrLineW l s) := by
  unfold impl_RwrLine.f rwrLineW
  refine Ans.bind (implMapOk_a l hl) ?_
  rintro _ rfl
  cases c : okT l with
  | false => exact Ans.neg (by simp) (Ans.pure (by simp))
  | true =>
    refine Ans.pos rfl ?_
    have e : impl_LinOk.f s = some (linOk s) := by unfold impl_LinOk.f; rw [if_pos (by omega)]
    rw [e]
    refine Ans.bsome ?_
    cases c2 : linOk s with
    | false => exact Ans.neg (by simp) (Ans.pure (by simp))
    | true =>
      rw [implGoesOut_f c hs]
      exact Ans.pos rfl (Ans.bsome (Ans.pure (by simp)))
theorem specRwrLine_a (l : List S34) (hl : l.length ≤ 2000000) (s : ByteArray) (hs : s.size ≤ 1048576) : Ans (fun k => spec_RwrLine.f k l s) (fun r => r = rwrLineW l s) := by
  unfold spec_RwrLine.f rwrLineW
  refine Ans.bind (specMapOk_a l hl) ?_
  rintro _ rfl
  have J0 : Ans (fun k => spec_RwrLine.j0 k s true l) (fun r => r = ([], ⟨#[]⟩)) := by
    refine Ans.succ ?_
    unfold spec_RwrLine.j0
    exact Ans.pos rfl (Ans.pure rfl)
  cases c : okT l with
  | false => exact Ans.neg (by simp) (by simpa using J0)
  | true =>
    refine Ans.pos rfl (Ans.bind (specLinOk_a s) ?_)
    rintro _ rfl
    cases c2 : linOk s with
    | false => simpa using J0
    | true =>
      refine Ans.succ ?_
      unfold spec_RwrLine.j0
      refine Ans.neg (by simp) ?_
      have hl6 := okT_le c
      have hc : spec_l3Copy.f l = some l := by
        unfold spec_l3Copy.f
        rw [Option.bind_some, if_pos (by simp; omega)]
        rfl
      rw [hc]
      refine Ans.bsome (Ans.bind (specLine_a hl hs) ?_)
      rintro v rfl
      exact Ans.pure (by simp)
end Go.Proofs.YtffmbccgcaghjaaGreatDoor.P
