import Derived.Test.YtffmbccgcaghjaaGreatDoorGLawFnExactRwrStreamx0
import Derived.Maps.OwnSet
import Derived.Maps.OwnOps
import Derived.Maps.Views
import Derived.DeepKeys4
import Derived.Lib.SliceRun
namespace Go.Proofs.YtffmbccgcaghjaaGreatDoor.P
open Go.Proofs.YtffmbccgcaghjaaGreatDoorUFnExactRwrStream.PrintLast Go.Proofs.YtffmbccgcaghjaaGreatDoorUFnExactRwrStream.PrintMore Go.Proofs.YtffmbccgcaghjaaGreatDoorUFnExactRwrStream.PrintWords Go.RowKit
set_option linter.unusedVariables false
set_option linter.unusedSimpArgs false
section
attribute [local go_sem] max2_int min2_int max_two min_two max_three min_three max_four min_four
def spec_l3Put.f (k : Nat) (l0_0 : List (S34)) (a1_0 : Int) (a1_1 : Int) : Option ((List (S34)) × Int) := (spec_MapPort.f k l0_0 a1_0 a1_1).bind fun t138 => (if t138 > 0 then (some (l0_0, t138)) else (if (l0_0.length : Int) = 6 then (some (l0_0, 0)) else ((some (([] : List (S34)) : List (S34))).bind fun y139 => (if y139.length + l0_0.length < 8796093022208 then ((some (y139 ++ l0_0 : List (S34))).bind fun y142 => ((some (([(⟨a1_0, a1_1⟩ : S34)] : List (S34)) : List (S34))).bind fun y145 => (if y142.length + y145.length < 8796093022208 then ((some (y142 ++ y145 : List (S34))).bind fun y148 => (some (y148, wrap64 ((wrap64 (500 + (y148.length : Int))) - 1)))) else (none)))) else (none)))))
theorem spec_l3Put.mono : ∀ a0 a1 a2 k, LeO (spec_l3Put.f k a0 a1 a2) (spec_l3Put.f (k + 1) a0 a1 a2) := by
 intro a0 a1 a2 k
 unfold spec_l3Put.f
 repeat' first | (with_reducible first | exact spec_MapPort.mono _ _ _ _ | exact LeO.refl _ | exact LeO.none _ | refine LeO.ite ?_ ?_ | refine LeO.bind ?_ (fun _ => ?_)) | exact spec_MapPort.mono _ _ _ _ | exact LeO.none _ | refine LeO.ite ?_ ?_ | refine LeO.bind ?_ (fun _ => ?_)
def spec_l3Put.T6 : Bool × List (List Nat × List Nat) := (true, [([], []), ([], []), ([1], [1]), ([0, 2], [0, 2]), ([], []), ([4], [4]), ([3, 5, 3], [3, 5]), ([0, 1, 2, 3, 4, 5, 6], []), ([7, 6, 6, 0, 1, 2, 3, 4, 5, 6], [6, 7])])
def spec_l3Put.B6 : List Nat := [0, 0, 2, 7, 0, 16, 63, 127, 255]
theorem spec_l3Put.tab6 : rtab .any (opsOf Tryz.f80 6) = spec_l3Put.T6 := by kernel_rfl
theorem spec_l3Put.bits6 : waitsOk spec_l3Put.T6.2 spec_l3Put.B6 = true := by kernel_rfl
def spec_l3Put.T7 : Bool × List (List Nat × List Nat) := (true, [([], []), ([], []), ([1], [1]), ([2], [2]), ([3], [3]), ([4], [4]), ([0, 0], [0]), ([5, 6, 0, 1, 2, 3, 4, 5, 6], [5])])
def spec_l3Put.B7 : List Nat := [0, 0, 2, 6, 14, 30, 1, 127]
theorem spec_l3Put.tab7 : rtab .any (opsOf Tryz.f80 7) = spec_l3Put.T7 := by kernel_rfl
theorem spec_l3Put.bits7 : waitsOk spec_l3Put.T7.2 spec_l3Put.B7 = true := by kernel_rfl
set_option maxHeartbeats 8000000 in
set_option maxRecDepth 100000 in
theorem spec_l3Put.calls (k : Nat) (P0_0_ : Nat → Prop) (u9000_ : Value) (l0_0 : List (S34)) (a1_0 : Int) (a1_1 : Int) (r1 : List (S34)) (r2 : Int) (w0 w : World) (hB : Below w0.heap.size w0 w) (ho0_0 : Kd.R k34 34 w w0.heap.size P0_0_ u9000_ l0_0) (h : spec_l3Put.f k l0_0 a1_0 a1_1 = some (r1, r2)) :
  Calls Tryz.prog 80 #[.agg #[u9000_], .agg #[.int .i64 a1_0, .int .i64 a1_1]] w fun e w' => ∃ v0_ : Value, e = .returned (.tuple #[.agg #[v0_], .int .i64 r2]) ∧ Kd.R k34 34 w' w0.heap.size (fun k_ => (P0_0_ k_ ∨ w.heap.size ≤ k_)) v0_ r1 ∧ Below w0.heap.size w0 w' ∧ Kept w w' (fun k_ => P0_0_ k_) := by
 have hu25 := Tryz.underlying25
 have hu34 := Tryz.underlying34
 have HO0_0 := am (show Kd.R k34 34 w w0.heap.size (fun k_ => (P0_0_ k_ ∨ w.heap.size ≤ k_)) u9000_ l0_0 from Kd.R_mono ho0_0 (fun k_ hk => (.inl hk)))
 have HK := am (Kept.refl w (fun k_ => P0_0_ k_))
 have HW0 := am hB.size
 have HB := am hB
 clear hB
 have H : ((spec_MapPort.f k l0_0 a1_0 a1_1).bind fun t138 => (if t138 > 0 then (some (l0_0, t138)) else (if (l0_0.length : Int) = 6 then (some (l0_0, 0)) else ((some (([] : List (S34)) : List (S34))).bind fun y139 => (if y139.length + l0_0.length < 8796093022208 then ((some (y139 ++ l0_0 : List (S34))).bind fun y142 => ((some (([(⟨a1_0, a1_1⟩ : S34)] : List (S34)) : List (S34))).bind fun y145 => (if y142.length + y145.length < 8796093022208 then ((some (y142 ++ y145 : List (S34))).bind fun y148 => (some (y148, wrap64 ((wrap64 (500 + (y148.length : Int))) - 1)))) else (none)))) else (none)))))) = some (r1, r2) := h
 clear h
 obtain ⟨t138, A3, H⟩ := bse H
 try dsimp only at H
 by_cases c4 : t138 > 0
 ·rw [if_pos c4] at H
  have c4b0 : decide (0 < t138) = true := decide_eq_true c4
  clear c4
  simp only [Option.some.injEq, Prod.mk.injEq] at H
  obtain ⟨rfl, rfl⟩ := H
  obtain ⟨Ao5, co5, eo5⟩ := Kd.R_slice HO0_0.out
  subst eo5
  go_enter Tryz.func80, Tryz.ntmps80
  go_wp2_with (first | ((with_reducible refine gate_dst (N := 2) rfl ?_); refine box_event rfl (N := 2) rfl (cs := #[.slice Ao5 l0_0.length co5]) (t := 25) hr_ ?_; intro gb135 hg w6 hbox hb; replace HO0_0 := am (Kd.R_below (rs HO0_0) hb); have BK135 := am hbox; have GW135 := am ((by rw [hg]; exact (by first | exact HK.out.1 | exact (show Kept w _ (fun k_ => P0_0_ k_) from m15_).1) : w.heap.size ≤ gb135)); replace HK := am (Kept.below (S := (fun k_ => P0_0_ k_)) m15_ hb); have GE135 := gwE HB hg; replace HB := hbS HB hb; clear hb hbox hg) | ((with_reducible refine gate_dst (N := 3) rfl ?_); refine box_event rfl (N := 3) rfl (cs := #[.int .i64 a1_0, .int .i64 a1_1]) (t := 34) hr_ ?_; intro gb136 hg w7 hbox hb; replace HO0_0 := am (Kd.R_below (Kd.R_elderB (rs HO0_0) gb136 (Nat.le_of_eq hg.symm)) hb); have BK136 := am hbox; have GW136 := am ((by rw [hg]; exact (by first | exact HK.out.1 | exact (show Kept w _ (fun k_ => P0_0_ k_) from m16_).1) : w.heap.size ≤ gb136)); replace HK := am (Kept.below (S := (fun k_ => P0_0_ k_)) m16_ hb); have GE136 := gwE HB hg; replace HB := hbS HB hb; have NB135_136 := neL BK135 hg; have NB136_135 := neG BK135 hg; replace BK135 := bkB BK135 hb; clear hb hbox hg) | ((with_reducible refine gate_dst (N := 4) rfl ?_); refine box_event rfl (N := 4) rfl (cs := #[.slice none 0 0]) (t := 25) hr_ ?_; intro gb137 hg w8 hbox hb; replace HO0_0 := am (Kd.R_below (rs HO0_0) hb); have BK137 := am hbox; have GW137 := am ((by rw [hg]; exact (by first | exact HK.out.1 | exact (show Kept w _ (fun k_ => P0_0_ k_) from m16_).1) : w.heap.size ≤ gb137)); replace HK := am (Kept.below (S := (fun k_ => P0_0_ k_)) m16_ hb); have GE137 := gwE HB hg; replace HB := hbS HB hb; have NB135_137 := neL BK135 hg; have NB137_135 := neG BK135 hg; replace BK135 := bkB BK135 hb; have NB136_137 := neL BK136 hg; have NB137_136 := neG BK136 hg; replace BK136 := bkB BK136 hb; clear hb hbox hg; have := NB135_136.out; have := NB136_135.out; have := NB135_137.out; have := NB137_135.out; have := bcell BK135 0; have := bfz BK135 0; have := NB136_137.out; have := NB137_136.out; have := bcell BK136 0; have := bcell BK136 1; have := bfz BK136 0; have := bfz BK136 1) | ((with_reducible refine gate_callee (f := 108) rfl ?_); refine gL (some 9) Tryz.func108 #[.agg #[.slice Ao5 l0_0.length co5], .agg #[.int .i64 a1_0, .int .i64 a1_1]] ?_; (with_reducible refine (spec_MapPort.calls k _ _ l0_0 a1_0 a1_1 t138 _ ?side1 ?side2 A3.out).mono ?_); (case side1 => exact rcx HO0_0); (case side2 => exact (Kd.R_reads' HO0_0.out).2.1); rintro e w14 ⟨rfl, hb⟩; refine ⟨_, rfl, ?_⟩; replace HO0_0 := am (Kd.R_below (rs HO0_0) hb); replace BK135 := bkB BK135 hb; replace BK136 := bkB BK136 hb; replace BK137 := bkB BK137 hb; replace HK := am (Kept.below (S := (fun k_ => P0_0_ k_)) m16_ hb); replace HB := hbS HB hb; (try clear hb); have := bcell BK135 0; have := bfz BK135 0; have := bcell BK137 0; have := bfz BK137 0))
  refine bodyPost_ret (results_ct rfl _ _ gb137 25 #[.slice Ao5 l0_0.length co5] (0, 0) _ rfl (by (with_reducible repeat refine bu ?_); refine blk_put (cs := #[.slice none 0 0]) ?_ 0 _ rfl; (with_reducible repeat refine bu ?_); exact BK137.out) Tryz.underlying25 rfl (by kernel_rfl)) rfl ?_
  exact ⟨_, fi_, by (with_reducible repeat apply ru); exact Kd.R_mono (Kd.R_far (p := ⟨gb137, 0, none⟩) (Kd.R_types HO0_0.out BK137.out (by decide)) (fun _ hk => hk.2) (.slice Ao5 l0_0.length co5)) (fun _ hk => hk.1.1), m2_, m16_⟩
 ·rw [if_neg c4] at H
  have c4b0 : decide (0 < t138) = false := decide_eq_false c4
  clear c4
  by_cases c17 : (l0_0.length : Int) = 6
  ·rw [if_pos c17] at H
   have c17b0 : ((l0_0.length : Int) == 6) = true := beq_iff_eq.mpr c17
   have c17b1 : ((l0_0.length : Int) != 6) = false := bne_eq_false_iff_eq.mpr c17
   clear c17
   simp only [Option.some.injEq, Prod.mk.injEq] at H
   obtain ⟨rfl, rfl⟩ := H
   obtain ⟨Ao18, co18, eo18⟩ := Kd.R_slice HO0_0.out
   subst eo18
   go_enter Tryz.func80, Tryz.ntmps80
   go_wp2_with (first | ((with_reducible refine gate_dst (N := 2) rfl ?_); refine box_event rfl (N := 2) rfl (cs := #[.slice Ao18 l0_0.length co18]) (t := 25) hr_ ?_; intro gb135 hg w19 hbox hb; replace HO0_0 := am (Kd.R_below (rs HO0_0) hb); have BK135 := am hbox; have GW135 := am ((by rw [hg]; exact (by first | exact HK.out.1 | exact (show Kept w _ (fun k_ => P0_0_ k_) from m15_).1) : w.heap.size ≤ gb135)); replace HK := am (Kept.below (S := (fun k_ => P0_0_ k_)) m15_ hb); have GE135 := gwE HB hg; replace HB := hbS HB hb; clear hb hbox hg) | ((with_reducible refine gate_dst (N := 3) rfl ?_); refine box_event rfl (N := 3) rfl (cs := #[.int .i64 a1_0, .int .i64 a1_1]) (t := 34) hr_ ?_; intro gb136 hg w20 hbox hb; replace HO0_0 := am (Kd.R_below (Kd.R_elderB (rs HO0_0) gb136 (Nat.le_of_eq hg.symm)) hb); have BK136 := am hbox; have GW136 := am ((by rw [hg]; exact (by first | exact HK.out.1 | exact (show Kept w _ (fun k_ => P0_0_ k_) from m16_).1) : w.heap.size ≤ gb136)); replace HK := am (Kept.below (S := (fun k_ => P0_0_ k_)) m16_ hb); have GE136 := gwE HB hg; replace HB := hbS HB hb; have NB135_136 := neL BK135 hg; have NB136_135 := neG BK135 hg; replace BK135 := bkB BK135 hb; clear hb hbox hg) | ((with_reducible refine gate_dst (N := 4) rfl ?_); refine box_event rfl (N := 4) rfl (cs := #[.slice none 0 0]) (t := 25) hr_ ?_; intro gb137 hg w21 hbox hb; replace HO0_0 := am (Kd.R_below (rs HO0_0) hb); have BK137 := am hbox; have GW137 := am ((by rw [hg]; exact (by first | exact HK.out.1 | exact (show Kept w _ (fun k_ => P0_0_ k_) from m16_).1) : w.heap.size ≤ gb137)); replace HK := am (Kept.below (S := (fun k_ => P0_0_ k_)) m16_ hb); have GE137 := gwE HB hg; replace HB := hbS HB hb; have NB135_137 := neL BK135 hg; have NB137_135 := neG BK135 hg; replace BK135 := bkB BK135 hb; have NB136_137 := neL BK136 hg; have NB137_136 := neG BK136 hg; replace BK136 := bkB BK136 hb; clear hb hbox hg; have := NB135_136.out; have := NB136_135.out; have := NB135_137.out; have := NB137_135.out; have := bcell BK135 0; have := bfz BK135 0; have := NB136_137.out; have := NB137_136.out; have := bcell BK136 0; have := bcell BK136 1; have := bfz BK136 0; have := bfz BK136 1) | ((with_reducible refine gate_callee (f := 108) rfl ?_); refine gL (some 9) Tryz.func108 #[.agg #[.slice Ao18 l0_0.length co18], .agg #[.int .i64 a1_0, .int .i64 a1_1]] ?_; (with_reducible refine (spec_MapPort.calls k _ _ l0_0 a1_0 a1_1 t138 _ ?side1 ?side2 A3.out).mono ?_); (case side1 => exact rcx HO0_0); (case side2 => exact (Kd.R_reads' HO0_0.out).2.1); rintro e w27 ⟨rfl, hb⟩; refine ⟨_, rfl, ?_⟩; replace HO0_0 := am (Kd.R_below (rs HO0_0) hb); replace BK135 := bkB BK135 hb; replace BK136 := bkB BK136 hb; replace BK137 := bkB BK137 hb; replace HK := am (Kept.below (S := (fun k_ => P0_0_ k_)) m16_ hb); replace HB := hbS HB hb; (try clear hb); have := bcell BK135 0; have := bfz BK135 0; have := bcell BK137 0; have := bfz BK137 0))
   refine bodyPost_ret (results_ct rfl _ _ gb137 25 #[.slice Ao18 l0_0.length co18] (0, 0) _ rfl (by (with_reducible repeat refine bu ?_); refine blk_put (cs := #[.slice none 0 0]) ?_ 0 _ rfl; (with_reducible repeat refine bu ?_); exact BK137.out) Tryz.underlying25 rfl (by kernel_rfl)) rfl ?_
   exact ⟨_, fi_, by (with_reducible repeat apply ru); exact Kd.R_mono (Kd.R_far (p := ⟨gb137, 0, none⟩) (Kd.R_types HO0_0.out BK137.out (by decide)) (fun _ hk => hk.2) (.slice Ao18 l0_0.length co18)) (fun _ hk => hk.1.1), m2_, m16_⟩
  ·rw [if_neg c17] at H
   have c17b0 : ((l0_0.length : Int) == 6) = false := beq_eq_false_iff_ne.mpr c17
   have c17b1 : ((l0_0.length : Int) != 6) = true := bne_iff_ne.mpr c17
   obtain ⟨y139, hy139⟩ : ∃ y_ : List (S34), y_ = (([] : List (S34))) := ⟨_, rfl⟩
   replace H : (if y139.length + l0_0.length < 8796093022208 then ((some (y139 ++ l0_0 : List (S34))).bind fun y142 => ((some (([(⟨a1_0, a1_1⟩ : S34)] : List (S34)) : List (S34))).bind fun y145 => (if y142.length + y145.length < 8796093022208 then ((some (y142 ++ y145 : List (S34))).bind fun y148 => (some (y148, wrap64 ((wrap64 (500 + (y148.length : Int))) - 1)))) else (none)))) else (none)) = some (r1, r2) := by first | (rw [hy139]; with_reducible exact H) | (have H2_ := (Option.bind_some _ _).symm.trans H; rw [hy139]; with_reducible exact H2_) | (have H2_ := (Option.bind_some _ _).symm.trans H; with_reducible exact H2_) | with_reducible exact H | (rw [hy139]; exact H) | exact H
   have Ny139 := am hy139
   clear hy139
   by_cases c30 : y139.length + l0_0.length < 8796093022208
   ·rw [if_pos c30] at H
    have LMc30 := am c30
    clear c30
    obtain ⟨y142, hy142⟩ : ∃ y_ : List (S34), y_ = (y139 ++ l0_0) := ⟨_, rfl⟩
    replace H : ((some (([(⟨a1_0, a1_1⟩ : S34)] : List (S34)) : List (S34))).bind fun y145 => (if y142.length + y145.length < 8796093022208 then ((some (y142 ++ y145 : List (S34))).bind fun y148 => (some (y148, wrap64 ((wrap64 (500 + (y148.length : Int))) - 1)))) else (none))) = some (r1, r2) := by first | (rw [hy142]; with_reducible exact H) | (have H2_ := (Option.bind_some _ _).symm.trans H; rw [hy142]; with_reducible exact H2_) | (have H2_ := (Option.bind_some _ _).symm.trans H; with_reducible exact H2_) | with_reducible exact H | (rw [hy142]; exact H) | exact H
    have Ny142 := am hy142
    clear hy142
    obtain ⟨y145, hy145⟩ : ∃ y_ : List (S34), y_ = (([(⟨a1_0, a1_1⟩ : S34)] : List (S34))) := ⟨_, rfl⟩
    replace H : (if y142.length + y145.length < 8796093022208 then ((some (y142 ++ y145 : List (S34))).bind fun y148 => (some (y148, wrap64 ((wrap64 (500 + (y148.length : Int))) - 1)))) else (none)) = some (r1, r2) := by first | (rw [hy145]; with_reducible exact H) | (have H2_ := (Option.bind_some _ _).symm.trans H; rw [hy145]; with_reducible exact H2_) | (have H2_ := (Option.bind_some _ _).symm.trans H; with_reducible exact H2_) | with_reducible exact H | (rw [hy145]; exact H) | exact H
    have Ny145 := am hy145
    clear hy145
    by_cases c31 : y142.length + y145.length < 8796093022208
    ·rw [if_pos c31] at H
     have LMc31 := am c31
     clear c31
     obtain ⟨y148, hy148⟩ : ∃ y_ : List (S34), y_ = (y142 ++ y145) := ⟨_, rfl⟩
     replace H : (some (y148, wrap64 ((wrap64 (500 + (y148.length : Int))) - 1))) = some (r1, r2) := by first | (rw [hy148]; with_reducible exact H) | (have H2_ := (Option.bind_some _ _).symm.trans H; rw [hy148]; with_reducible exact H2_) | (have H2_ := (Option.bind_some _ _).symm.trans H; with_reducible exact H2_) | with_reducible exact H | (rw [hy148]; exact H) | exact H
     have Ny148 := am hy148
     clear hy148
     simp only [Option.some.injEq, Prod.mk.injEq] at H
     obtain ⟨rfl, rfl⟩ := H
     obtain ⟨Ao32, co32, eo32⟩ := Kd.R_slice HO0_0.out
     subst eo32
     go_enter Tryz.func80, Tryz.ntmps80
     try go_wp2_with (first | ((with_reducible refine gate_dst (N := 2) rfl ?_); refine box_event rfl (N := 2) rfl (cs := #[.slice Ao32 l0_0.length co32]) (t := 25) hr_ ?_; intro gb135 hg w33 hbox hb; replace HO0_0 := am (Kd.R_below (rs HO0_0) hb); have BK135 := am hbox; have GW135 := am ((by rw [hg]; exact (by first | exact HK.out.1 | exact (show Kept w _ (fun k_ => P0_0_ k_) from m15_).1) : w.heap.size ≤ gb135)); replace HK := am (Kept.below (S := (fun k_ => P0_0_ k_)) m15_ hb); have GE135 := gwE HB hg; replace HB := hbS HB hb; clear hb hbox hg) | ((with_reducible refine gate_dst (N := 3) rfl ?_); refine box_event rfl (N := 3) rfl (cs := #[.int .i64 a1_0, .int .i64 a1_1]) (t := 34) hr_ ?_; intro gb136 hg w34 hbox hb; replace HO0_0 := am (Kd.R_below (Kd.R_elderB (rs HO0_0) gb136 (Nat.le_of_eq hg.symm)) hb); have BK136 := am hbox; have GW136 := am ((by rw [hg]; exact (by first | exact HK.out.1 | exact (show Kept w _ (fun k_ => P0_0_ k_) from m16_).1) : w.heap.size ≤ gb136)); replace HK := am (Kept.below (S := (fun k_ => P0_0_ k_)) m16_ hb); have GE136 := gwE HB hg; replace HB := hbS HB hb; have NB135_136 := neL BK135 hg; have NB136_135 := neG BK135 hg; replace BK135 := bkB BK135 hb; clear hb hbox hg) | ((with_reducible refine gate_dst (N := 4) rfl ?_); refine box_event rfl (N := 4) rfl (cs := #[.slice none 0 0]) (t := 25) hr_ ?_; intro gb137 hg w35 hbox hb; replace HO0_0 := am (Kd.R_below (rs HO0_0) hb); have BK137 := am hbox; have GW137 := am ((by rw [hg]; exact (by first | exact HK.out.1 | exact (show Kept w _ (fun k_ => P0_0_ k_) from m16_).1) : w.heap.size ≤ gb137)); replace HK := am (Kept.below (S := (fun k_ => P0_0_ k_)) m16_ hb); have GE137 := gwE HB hg; replace HB := hbS HB hb; have NB135_137 := neL BK135 hg; have NB137_135 := neG BK135 hg; replace BK135 := bkB BK135 hb; have NB136_137 := neL BK136 hg; have NB137_136 := neG BK136 hg; replace BK136 := bkB BK136 hb; clear hb hbox hg; have := NB135_136.out; have := NB136_135.out; have := NB135_137.out; have := NB137_135.out; have := bcell BK135 0; have := bfz BK135 0; have := NB136_137.out; have := NB137_136.out; have := bcell BK136 0; have := bcell BK136 1; have := bfz BK136 0; have := bfz BK136 1) | ((with_reducible refine gate_callee (f := 108) rfl ?_); refine gL (some 9) Tryz.func108 #[.agg #[.slice Ao32 l0_0.length co32], .agg #[.int .i64 a1_0, .int .i64 a1_1]] ?_; (with_reducible refine (spec_MapPort.calls k _ _ l0_0 a1_0 a1_1 t138 _ ?side1 ?side2 A3.out).mono ?_); (case side1 => exact rcx HO0_0); (case side2 => exact (Kd.R_reads' HO0_0.out).2.1); rintro e w41 ⟨rfl, hb⟩; refine ⟨_, rfl, ?_⟩; replace HO0_0 := am (Kd.R_below (rs HO0_0) hb); replace BK135 := bkB BK135 hb; replace BK136 := bkB BK136 hb; replace BK137 := bkB BK137 hb; replace HK := am (Kept.below (S := (fun k_ => P0_0_ k_)) m16_ hb); replace HB := hbS HB hb; (try clear hb); have := bcell BK135 0; have := bfz BK135 0))
     replace HO0_0 := am (Kd.R_drew HO0_0.out)
     replace BK135 := am (blk_drew BK135.out)
     replace BK136 := am (blk_drew BK136.out)
     replace BK137 := am (blk_drew BK137.out)
     replace HK := am (Kept.drew HK.out)
     replace HB := am (below_drew1 HB.out)
     refine start_ (n := 9) (S := fun w' => w'.cell? ⟨gb135, 0, none⟩ = some (.slice Ao32 l0_0.length co32) ∧ w'.cell? ⟨gb136, 0, none⟩ = some (.int .i64 a1_0) ∧ w'.cell? ⟨gb136, 1, none⟩ = some (.int .i64 a1_1)) (ds := [8]) #[false, false, false, false, false, false, false, false, false] (by kernel_rfl) rfl rfl ⟨bcell BK135 0, bcell BK136 0, bcell BK136 1⟩ (fun hHeld => ?_); refine with_tabW spec_l3Put.tab6 spec_l3Put.bits6 (fun HT_ HW_ => ?_)
     generalize w41.drew = w43 at HO0_0 BK135 BK136 BK137 HK HB hHeld ⊢
     refine pu_ 1 (some 20) (bm 9 2) ?_
     refine tk_ 2 (some 21) (bm 9 6) rfl (.inl ⟨rfl, m10_⟩) ?_
     refine tk_ 4 (some 23) (bm 9 22) rfl (.inl ⟨rfl, m10_⟩) ?_
     refine join_ (σ := Value × Value × Value) 3 #[true, true, true, true, true, true, false, false, false] (fun s_ => [(19, s_.1), (22, s_.2.1), (24, s_.2.2)]) (fun s_ w' => (w'.cell? ⟨gb135, 0, none⟩ = some (.slice Ao32 l0_0.length co32) ∧ w'.cell? ⟨gb136, 0, none⟩ = some (.int .i64 a1_0) ∧ w'.cell? ⟨gb136, 1, none⟩ = some (.int .i64 a1_1)) ∧ (Kd.R k34 34 w' w0.heap.size (fun k_ => (P0_0_ k_ ∨ w.heap.size ≤ k_) ∧ some k_ ≠ (s_.2.1 : Value).ownBlock ∧ some k_ ≠ (s_.2.2 : Value).ownBlock ∧ k_ ≠ gb136) (.slice Ao32 l0_0.length co32) l0_0) ∧ (Kd.R k34 34 w' w0.heap.size (fun k_ => (P0_0_ k_ ∨ w.heap.size ≤ k_) ∧ some k_ ≠ (.slice Ao32 l0_0.length co32 : Value).ownBlock ∧ some k_ ≠ (s_.2.2 : Value).ownBlock ∧ k_ ≠ gb136) s_.2.1 y142) ∧ (Kd.R k34 34 w' w0.heap.size (fun k_ => (P0_0_ k_ ∨ w.heap.size ≤ k_) ∧ some k_ ≠ (.slice Ao32 l0_0.length co32 : Value).ownBlock ∧ some k_ ≠ (s_.2.1 : Value).ownBlock ∧ k_ ≠ gb136) s_.2.2 y145) ∧ (w'.heap[gb135]? = some (.cells #[.slice Ao32 l0_0.length co32] 25 (0, 0))) ∧ (w'.heap[gb136]? = some (.cells #[.int .i64 a1_0, .int .i64 a1_1] 34 (0, 0))) ∧ (w'.heap[gb137]? = some (.cells #[.slice none 0 0] 25 (0, 0))) ∧ (Kept w w' (fun k_ => P0_0_ k_)) ∧ (Below w0.heap.size w0 w')) ?_ ?_
     rotate_left
     ·intro hCont
      refine two_ (i := 0) (j := 5) (Ni := some 19) (Nj := some 24) #[true, true, true, false, true, false, false, false, false] #[false, true, true, false, true, true, false, false, false] rfl rfl rfl rfl (two_of HT_.out (by kernel_rfl)) (by decide) (by decide) (fun K hK => ?_) (fun K hK => ?_)
      ·skip
       refine Kd.R_lit_step k34 _ 34 rfl (N := 19) rfl (xs := ([] : List (S34))) (inner := []) (ok := fun _ => True) (okp := fun _ => True) hr_ ?hp (fun _ hk => hk) trivial (Below.refl _ _) (Nat.le_refl _) (by simp) ?_; (case hp => exact (Reps.none _ _))
       intro v140 w44 ho45 hb hg_ hnew_
       clear hg_ hnew_
       (first | rw [← Ny139.out] at ho45 | (simp only [Int.reduceToNat] at ho45; rw [← Ny139.out] at ho45))
       have HO141 := am (Kd.R_lower (Kd.R_newB (Kd.R_new' (Kd.R_newM (M := fun k_ => (P0_0_ k_ ∨ w.heap.size ≤ k_)) ho45 (by first | exact HK.out.1 | exact (show Kept w _ (fun k_ => P0_0_ k_) from m16_).1) (fun k_ h_ => .inr h_)) (Kd.R_lt (rs HO0_0))) (g := gb136) (o := .cells #[.int .i64 a1_0, .int .i64 a1_1] 34 (0, 0)) (bk BK136)) (below_size (bl HB)))
       replace HO0_0 := am (Kd.R_elder' (rs HO0_0) (Kd.R_base ho45) hb)
       replace BK135 := bkB BK135 hb
       replace BK136 := bkB BK136 hb
       replace BK137 := bkB BK137 hb
       replace HK := am (Kept.below (S := (fun k_ => P0_0_ k_)) m16_ hb)
       replace HB := hbS HB hb
       clear hb ho45
       refine hK.out _ _ ⟨bcell BK135 0, bcell BK136 0, bcell BK136 1⟩ (fun hHeld => ?_)
       clear hK K
       refine nm_ ?_
       refine two_ (i := 3) (j := 5) (Ni := some 22) (Nj := some 24) #[true, true, true, true, true, false, false, false, false] #[true, true, true, false, true, true, false, false, false] rfl rfl rfl rfl (two_of HT_.out (by kernel_rfl)) (by decide) (by decide) (fun K hK => ?_) (fun K hK => ?_)
       ·skip
        refine Kd.R_append_rows_step k34 (w0 := w0) w0.heap.size (by rfl) (.tmp 19) (.tmp 21) 23 34 (.agg #[(.int .i64 0), (.int .i64 0)]) 16 rfl Tryz.underlying23 info34 rfl (by decide) (by omega) v140 y139 l0_0 _ _ _ (fun k_ => (P0_0_ k_ ∨ w.heap.size ≤ k_) ∧ some k_ ≠ (.slice Ao32 l0_0.length co32 : Value).ownBlock ∧ k_ ≠ gb136) (fun _ => False) rfl rfl ?aO ?aR (fun _ _ h => h) (fun _ h => h.elim) ?aF ?aB ?aS ?aL ?_
        (case aR => exact rcx HO0_0)
        (case aB => exact (bl HB))
        (case aF => exact (fun k_ hk => ⟨(.inr (Nat.le_trans (by first | exact HK.out.1 | exact (show Kept w _ (fun k_ => P0_0_ k_) from m16_).1) hk)), Kd.fresh' (Kd.R_lt (rs HO0_0)) k_ hk, Kd.freshB (g := gb136) (o := .cells #[.int .i64 a1_0, .int .i64 a1_1] 34 (0, 0)) (bk BK136) k_ hk⟩))
        (case aO => exact (by (with_reducible repeat apply ru); exact Kd.R_mono HO141.out ok_))
        (case aS => exact (below_size (bl HB)))
        (case aL => have := LMc30.out; omega)
        intro v143 w46 ho hb hg hat
        rw [← Ny142.out] at ho
        replace HO0_0 := am (Kd.R_after (ok := (fun k_ => (P0_0_ k_ ∨ w.heap.size ≤ k_) ∧ k_ ≠ gb136)) (rs HO0_0) hg hat)
        replace BK135 := am (blk_grown (g := gb135) (o := .cells #[.slice Ao32 l0_0.length co32] 25 (0, 0)) (bk BK135) hg (Kd.R_ne HO141.out BK135.out (by decide)))
        replace BK136 := am (blk_grown (g := gb136) (o := .cells #[.int .i64 a1_0, .int .i64 a1_1] 34 (0, 0)) (bk BK136) hg (Kd.R_away HO141.out (fun _ hk => hk.2)))
        replace BK137 := am (blk_grown (g := gb137) (o := .cells #[.slice none 0 0] 25 (0, 0)) (bk BK137) hg (Kd.R_ne HO141.out BK137.out (by decide)))
        replace HB := am hb
        replace HK := am (Kept.of_grown (S := (fun k_ => P0_0_ k_)) hg m16_ (fun k_ e_ => (HO141.out.1 k_ e_).1.1.1))
        have HO144 := am (ho)
        clear HO141
        clear ho hb hg hat
        refine hK.out _ _ ⟨bcell BK135 0, bcell BK136 0, bcell BK136 1⟩ (fun hHeld => ?_)
        clear hK K
        refine nm_ ?_
        refine on_ 5 (some 24) (bm 9 63) (fun K hK => ?_)
        refine Kd.R_lit_step k34 _ 34 rfl (N := 24) rfl (xs := ([(⟨a1_0, a1_1⟩ : S34)] : List (S34))) (inner := [.int .i64 a1_0, .int .i64 a1_1]) (ok := fun _ => True) (okp := fun _ => True) hr_ ?hp (fun _ hk => hk) trivial (Below.refl _ _) (Nat.le_refl _) (by simp) ?_; (case hp => exact (Reps.c2 (show Kd.M k34 _ _ _ (⟨a1_0, a1_1⟩ : S34) [.int .i64 a1_0, .int .i64 a1_1] from (k34_mkM _ _ _ (⟨a1_0, a1_1⟩ : S34) )) (Reps.none _ _)))
        intro v146 w47 ho48 hb hg_ hnew_
        clear hg_ hnew_
        (first | rw [← Ny145.out] at ho48 | (simp only [Int.reduceToNat] at ho48; rw [← Ny145.out] at ho48))
        have HO147 := am (Kd.R_lower (Kd.R_newB (Kd.R_new' (Kd.R_new' (Kd.R_newM (M := fun k_ => (P0_0_ k_ ∨ w.heap.size ≤ k_)) ho48 (by first | exact HK.out.1 | exact (show Kept w _ (fun k_ => P0_0_ k_) from m16_).1) (fun k_ h_ => .inr h_)) (Kd.R_lt (rs HO0_0))) (Kd.R_lt (rs HO144))) (g := gb136) (o := .cells #[.int .i64 a1_0, .int .i64 a1_1] 34 (0, 0)) (bk BK136)) (below_size (bl HB)))
        replace HO0_0 := am (Kd.R_elder' (rs HO0_0) (Kd.R_base ho48) hb)
        replace HO144 := am (Kd.R_elder' (rs HO144) (Kd.R_base ho48) hb)
        replace BK135 := bkB BK135 hb
        replace BK136 := bkB BK136 hb
        replace BK137 := bkB BK137 hb
        replace HK := am (Kept.below (S := (fun k_ => P0_0_ k_)) m16_ hb)
        replace HB := hbS HB hb
        clear hb ho48
        refine hK.out _ _ ⟨bcell BK135 0, bcell BK136 0, bcell BK136 1⟩ (fun hHeld => ?_)
        clear hK K
        refine nm_ ?_
        exact norm_ (by simp only [putAll, Act.put, List.setIfInBounds_toArray, List.set_cons_zero, List.set_cons_succ]) (hCont (v140, v143, v146) _ ⟨hHeld, (by (with_reducible repeat apply ru); exact Kd.R_mono HO0_0.out ok_), (by (with_reducible repeat apply ru); exact Kd.R_mono HO144.out ok_), (by (with_reducible repeat apply ru); exact Kd.R_mono HO147.out ok_), (bk BK135), (bk BK136), (bk BK137), m16_, (bl HB)⟩)
       ·skip
        refine Kd.R_lit_step k34 _ 34 rfl (N := 24) rfl (xs := ([(⟨a1_0, a1_1⟩ : S34)] : List (S34))) (inner := [.int .i64 a1_0, .int .i64 a1_1]) (ok := fun _ => True) (okp := fun _ => True) hr_ ?hp (fun _ hk => hk) trivial (Below.refl _ _) (Nat.le_refl _) (by simp) ?_; (case hp => exact (Reps.c2 (show Kd.M k34 _ _ _ (⟨a1_0, a1_1⟩ : S34) [.int .i64 a1_0, .int .i64 a1_1] from (k34_mkM _ _ _ (⟨a1_0, a1_1⟩ : S34) )) (Reps.none _ _)))
        intro v146 w46 ho47 hb hg_ hnew_
        clear hg_ hnew_
        (first | rw [← Ny145.out] at ho47 | (simp only [Int.reduceToNat] at ho47; rw [← Ny145.out] at ho47))
        have HO147 := am (Kd.R_lower (Kd.R_newB (Kd.R_new' (Kd.R_new' (Kd.R_newM (M := fun k_ => (P0_0_ k_ ∨ w.heap.size ≤ k_)) ho47 (by first | exact HK.out.1 | exact (show Kept w _ (fun k_ => P0_0_ k_) from m16_).1) (fun k_ h_ => .inr h_)) (Kd.R_lt (rs HO0_0))) (Kd.R_lt (rs HO141))) (g := gb136) (o := .cells #[.int .i64 a1_0, .int .i64 a1_1] 34 (0, 0)) (bk BK136)) (below_size (bl HB)))
        replace HO0_0 := am (Kd.R_elder' (rs HO0_0) (Kd.R_base ho47) hb)
        replace HO141 := am (Kd.R_elder' (rs HO141) (Kd.R_base ho47) hb)
        replace BK135 := bkB BK135 hb
        replace BK136 := bkB BK136 hb
        replace BK137 := bkB BK137 hb
        replace HK := am (Kept.below (S := (fun k_ => P0_0_ k_)) m16_ hb)
        replace HB := hbS HB hb
        clear hb ho47
        refine hK.out _ _ ⟨bcell BK135 0, bcell BK136 0, bcell BK136 1⟩ (fun hHeld => ?_)
        clear hK K
        refine nm_ ?_
        refine on_ 3 (some 22) (bm 9 63) (fun K hK => ?_)
        refine Kd.R_append_rows_step k34 (w0 := w0) w0.heap.size (by rfl) (.tmp 19) (.tmp 21) 23 34 (.agg #[(.int .i64 0), (.int .i64 0)]) 16 rfl Tryz.underlying23 info34 rfl (by decide) (by omega) v140 y139 l0_0 _ _ _ (fun k_ => (P0_0_ k_ ∨ w.heap.size ≤ k_) ∧ some k_ ≠ (.slice Ao32 l0_0.length co32 : Value).ownBlock ∧ some k_ ≠ (v146 : Value).ownBlock ∧ k_ ≠ gb136) (fun _ => False) rfl rfl ?aO ?aR (fun _ _ h => h) (fun _ h => h.elim) ?aF ?aB ?aS ?aL ?_
        (case aR => exact rcx HO0_0)
        (case aB => exact (bl HB))
        (case aF => exact (fun k_ hk => ⟨(.inr (Nat.le_trans (by first | exact HK.out.1 | exact (show Kept w _ (fun k_ => P0_0_ k_) from m16_).1) hk)), Kd.fresh' (Kd.R_lt (rs HO0_0)) k_ hk, Kd.fresh' (Kd.R_lt (rs HO147)) k_ hk, Kd.freshB (g := gb136) (o := .cells #[.int .i64 a1_0, .int .i64 a1_1] 34 (0, 0)) (bk BK136) k_ hk⟩))
        (case aO => exact (by (with_reducible repeat apply ru); exact Kd.R_mono HO141.out ok_))
        (case aS => exact (below_size (bl HB)))
        (case aL => have := LMc30.out; omega)
        intro v143 w48 ho hb hg hat
        rw [← Ny142.out] at ho
        replace HO0_0 := am (Kd.R_after (ok := (fun k_ => (P0_0_ k_ ∨ w.heap.size ≤ k_) ∧ some k_ ≠ (v146 : Value).ownBlock ∧ k_ ≠ gb136)) (by (with_reducible repeat apply ru); exact Kd.R_mono HO0_0.out ok_) hg hat)
        replace BK135 := am (blk_grown (g := gb135) (o := .cells #[.slice Ao32 l0_0.length co32] 25 (0, 0)) (bk BK135) hg (Kd.R_ne HO141.out BK135.out (by decide)))
        replace BK136 := am (blk_grown (g := gb136) (o := .cells #[.int .i64 a1_0, .int .i64 a1_1] 34 (0, 0)) (bk BK136) hg (Kd.R_away HO141.out (fun _ hk => hk.1.2)))
        replace BK137 := am (blk_grown (g := gb137) (o := .cells #[.slice none 0 0] 25 (0, 0)) (bk BK137) hg (Kd.R_ne HO141.out BK137.out (by decide)))
        replace HO147 := am (Kd.R_after (ok := (fun k_ => (P0_0_ k_ ∨ w.heap.size ≤ k_) ∧ some k_ ≠ (.slice Ao32 l0_0.length co32 : Value).ownBlock ∧ k_ ≠ gb136)) (by (with_reducible repeat apply ru); exact Kd.R_mono HO147.out ok_) hg hat)
        replace HB := am hb
        replace HK := am (Kept.of_grown (S := (fun k_ => P0_0_ k_)) hg m16_ (fun k_ e_ => (HO141.out.1 k_ e_).1.1.1.1))
        have HO144 := am (ho)
        clear HO141
        clear ho hb hg hat
        refine hK.out _ _ ⟨bcell BK135 0, bcell BK136 0, bcell BK136 1⟩ (fun hHeld => ?_)
        clear hK K
        refine nm_ ?_
        exact norm_ (by simp only [putAll, Act.put, List.setIfInBounds_toArray, List.set_cons_zero, List.set_cons_succ]) (hCont (v140, v143, v146) _ ⟨hHeld, (by (with_reducible repeat apply ru); exact Kd.R_mono HO0_0.out ok_), (rs HO144), (by (with_reducible repeat apply ru); exact Kd.R_mono HO147.out ok_), (bk BK135), (bk BK136), (bk BK137), m16_, (bl HB)⟩)
      ·skip
       refine Kd.R_lit_step k34 _ 34 rfl (N := 24) rfl (xs := ([(⟨a1_0, a1_1⟩ : S34)] : List (S34))) (inner := [.int .i64 a1_0, .int .i64 a1_1]) (ok := fun _ => True) (okp := fun _ => True) hr_ ?hp (fun _ hk => hk) trivial (Below.refl _ _) (Nat.le_refl _) (by simp) ?_; (case hp => exact (Reps.c2 (show Kd.M k34 _ _ _ (⟨a1_0, a1_1⟩ : S34) [.int .i64 a1_0, .int .i64 a1_1] from (k34_mkM _ _ _ (⟨a1_0, a1_1⟩ : S34) )) (Reps.none _ _)))
       intro v146 w44 ho45 hb hg_ hnew_
       clear hg_ hnew_
       (first | rw [← Ny145.out] at ho45 | (simp only [Int.reduceToNat] at ho45; rw [← Ny145.out] at ho45))
       have HO147 := am (Kd.R_lower (Kd.R_newB (Kd.R_new' (Kd.R_newM (M := fun k_ => (P0_0_ k_ ∨ w.heap.size ≤ k_)) ho45 (by first | exact HK.out.1 | exact (show Kept w _ (fun k_ => P0_0_ k_) from m16_).1) (fun k_ h_ => .inr h_)) (Kd.R_lt (rs HO0_0))) (g := gb136) (o := .cells #[.int .i64 a1_0, .int .i64 a1_1] 34 (0, 0)) (bk BK136)) (below_size (bl HB)))
       replace HO0_0 := am (Kd.R_elder' (rs HO0_0) (Kd.R_base ho45) hb)
       replace BK135 := bkB BK135 hb
       replace BK136 := bkB BK136 hb
       replace BK137 := bkB BK137 hb
       replace HK := am (Kept.below (S := (fun k_ => P0_0_ k_)) m16_ hb)
       replace HB := hbS HB hb
       clear hb ho45
       refine hK.out _ _ ⟨bcell BK135 0, bcell BK136 0, bcell BK136 1⟩ (fun hHeld => ?_)
       clear hK K
       refine nm_ ?_
       refine on_ 0 (some 19) (bm 9 55) (fun K hK => ?_)
       refine Kd.R_lit_step k34 _ 34 rfl (N := 19) rfl (xs := ([] : List (S34))) (inner := []) (ok := fun _ => True) (okp := fun _ => True) hr_ ?hp (fun _ hk => hk) trivial (Below.refl _ _) (Nat.le_refl _) (by simp) ?_; (case hp => exact (Reps.none _ _))
       intro v140 w46 ho47 hb hg_ hnew_
       clear hg_ hnew_
       (first | rw [← Ny139.out] at ho47 | (simp only [Int.reduceToNat] at ho47; rw [← Ny139.out] at ho47))
       have HO141 := am (Kd.R_lower (Kd.R_newB (Kd.R_new' (Kd.R_new' (Kd.R_newM (M := fun k_ => (P0_0_ k_ ∨ w.heap.size ≤ k_)) ho47 (by first | exact HK.out.1 | exact (show Kept w _ (fun k_ => P0_0_ k_) from m16_).1) (fun k_ h_ => .inr h_)) (Kd.R_lt (rs HO0_0))) (Kd.R_lt (rs HO147))) (g := gb136) (o := .cells #[.int .i64 a1_0, .int .i64 a1_1] 34 (0, 0)) (bk BK136)) (below_size (bl HB)))
       replace HO0_0 := am (Kd.R_elder' (rs HO0_0) (Kd.R_base ho47) hb)
       replace HO147 := am (Kd.R_elder' (rs HO147) (Kd.R_base ho47) hb)
       replace BK135 := bkB BK135 hb
       replace BK136 := bkB BK136 hb
       replace BK137 := bkB BK137 hb
       replace HK := am (Kept.below (S := (fun k_ => P0_0_ k_)) m16_ hb)
       replace HB := hbS HB hb
       clear hb ho47
       refine hK.out _ _ ⟨bcell BK135 0, bcell BK136 0, bcell BK136 1⟩ (fun hHeld => ?_)
       clear hK K
       refine nm_ ?_
       refine on_ 3 (some 22) (bm 9 63) (fun K hK => ?_)
       refine Kd.R_append_rows_step k34 (w0 := w0) w0.heap.size (by rfl) (.tmp 19) (.tmp 21) 23 34 (.agg #[(.int .i64 0), (.int .i64 0)]) 16 rfl Tryz.underlying23 info34 rfl (by decide) (by omega) v140 y139 l0_0 _ _ _ (fun k_ => (P0_0_ k_ ∨ w.heap.size ≤ k_) ∧ some k_ ≠ (.slice Ao32 l0_0.length co32 : Value).ownBlock ∧ some k_ ≠ (v146 : Value).ownBlock ∧ k_ ≠ gb136) (fun _ => False) rfl rfl ?aO ?aR (fun _ _ h => h) (fun _ h => h.elim) ?aF ?aB ?aS ?aL ?_
       (case aR => exact rcx HO0_0)
       (case aB => exact (bl HB))
       (case aF => exact (fun k_ hk => ⟨(.inr (Nat.le_trans (by first | exact HK.out.1 | exact (show Kept w _ (fun k_ => P0_0_ k_) from m16_).1) hk)), Kd.fresh' (Kd.R_lt (rs HO0_0)) k_ hk, Kd.fresh' (Kd.R_lt (rs HO147)) k_ hk, Kd.freshB (g := gb136) (o := .cells #[.int .i64 a1_0, .int .i64 a1_1] 34 (0, 0)) (bk BK136) k_ hk⟩))
       (case aO => exact (by (with_reducible repeat apply ru); exact Kd.R_mono HO141.out ok_))
       (case aS => exact (below_size (bl HB)))
       (case aL => have := LMc30.out; omega)
       intro v143 w48 ho hb hg hat
       rw [← Ny142.out] at ho
       replace HO0_0 := am (Kd.R_after (ok := (fun k_ => (P0_0_ k_ ∨ w.heap.size ≤ k_) ∧ some k_ ≠ (v146 : Value).ownBlock ∧ k_ ≠ gb136)) (by (with_reducible repeat apply ru); exact Kd.R_mono HO0_0.out ok_) hg hat)
       replace BK135 := am (blk_grown (g := gb135) (o := .cells #[.slice Ao32 l0_0.length co32] 25 (0, 0)) (bk BK135) hg (Kd.R_ne HO141.out BK135.out (by decide)))
       replace BK136 := am (blk_grown (g := gb136) (o := .cells #[.int .i64 a1_0, .int .i64 a1_1] 34 (0, 0)) (bk BK136) hg (Kd.R_away HO141.out (fun _ hk => hk.2)))
       replace BK137 := am (blk_grown (g := gb137) (o := .cells #[.slice none 0 0] 25 (0, 0)) (bk BK137) hg (Kd.R_ne HO141.out BK137.out (by decide)))
       replace HO147 := am (Kd.R_after (ok := (fun k_ => (P0_0_ k_ ∨ w.heap.size ≤ k_) ∧ some k_ ≠ (.slice Ao32 l0_0.length co32 : Value).ownBlock ∧ k_ ≠ gb136)) (by (with_reducible repeat apply ru); exact Kd.R_mono HO147.out ok_) hg hat)
       replace HB := am hb
       replace HK := am (Kept.of_grown (S := (fun k_ => P0_0_ k_)) hg m16_ (fun k_ e_ => (HO141.out.1 k_ e_).1.1.1.1))
       have HO144 := am (ho)
       clear HO141
       clear ho hb hg hat
       refine hK.out _ _ ⟨bcell BK135 0, bcell BK136 0, bcell BK136 1⟩ (fun hHeld => ?_)
       clear hK K
       refine nm_ ?_
       exact norm_ (by simp only [putAll, Act.put, List.setIfInBounds_toArray, List.set_cons_zero, List.set_cons_succ]) (hCont (v140, v143, v146) _ ⟨hHeld, (by (with_reducible repeat apply ru); exact Kd.R_mono HO0_0.out ok_), (rs HO144), (by (with_reducible repeat apply ru); exact Kd.R_mono HO147.out ok_), (bk BK135), (bk BK136), (bk BK137), m16_, (bl HB)⟩)
     rintro ⟨v140, v143, v146⟩ w49 ⟨hS_, h0_, h1_, h2_, h3_, h4_, h5_, h6_, h7_⟩
     have n0_ : Aside0 (Kd.R k34 34 w49 w0.heap.size (fun k_ => (P0_0_ k_ ∨ w.heap.size ≤ k_) ∧ some k_ ≠ (v143 : Value).ownBlock ∧ some k_ ≠ (v146 : Value).ownBlock ∧ k_ ≠ gb136) (.slice Ao32 l0_0.length co32) l0_0) := ⟨h0_⟩
     have n1_ : Aside0 (Kd.R k34 34 w49 w0.heap.size (fun k_ => (P0_0_ k_ ∨ w.heap.size ≤ k_) ∧ some k_ ≠ (.slice Ao32 l0_0.length co32 : Value).ownBlock ∧ some k_ ≠ (v146 : Value).ownBlock ∧ k_ ≠ gb136) v143 y142) := ⟨h1_⟩
     have n2_ : Aside0 (Kd.R k34 34 w49 w0.heap.size (fun k_ => (P0_0_ k_ ∨ w.heap.size ≤ k_) ∧ some k_ ≠ (.slice Ao32 l0_0.length co32 : Value).ownBlock ∧ some k_ ≠ (v143 : Value).ownBlock ∧ k_ ≠ gb136) v146 y145) := ⟨h2_⟩
     have n3_ : Aside0 (w49.heap[gb135]? = some (.cells #[.slice Ao32 l0_0.length co32] 25 (0, 0))) := ⟨h3_⟩
     have n4_ : Aside0 (w49.heap[gb136]? = some (.cells #[.int .i64 a1_0, .int .i64 a1_1] 34 (0, 0))) := ⟨h4_⟩
     have n5_ : Aside0 (w49.heap[gb137]? = some (.cells #[.slice none 0 0] 25 (0, 0))) := ⟨h5_⟩
     have n6_ : Aside0 (Kept w w49 (fun k_ => P0_0_ k_)) := ⟨h6_⟩
     have n7_ : Aside0 (Below w0.heap.size w0 w49) := ⟨h7_⟩
     clear HO0_0
     clear BK135
     clear BK136
     clear BK137
     clear HK
     clear HB
     clear h0_ h1_ h2_ h3_ h4_ h5_ h6_ h7_
     have HO0_0 := n0_
     have HO144 := n1_
     have HO147 := n2_
     have BK135 := n3_
     have BK136 := n4_
     have BK137 := n5_
     have HK := n6_
     have HB := n7_
     clear n0_ n1_ n2_ n3_ n4_ n5_ n6_ n7_
     have hHeld : w49.cell? ⟨gb135, 0, none⟩ = some (.slice Ao32 l0_0.length co32) ∧ w49.cell? ⟨gb136, 0, none⟩ = some (.int .i64 a1_0) ∧ w49.cell? ⟨gb136, 1, none⟩ = some (.int .i64 a1_1) := hS_
     obtain ⟨Ao51, co51, eo51⟩ := Kd.R_slice HO147.out
     (first | subst eo51 | (injection eo51 with f1_ f2_ f3_; have f4_ := f1_.symm; have f5_ := f3_.symm; clear f1_ f2_ f3_; subst f4_; subst f5_))
     refine norm_ (a' := ?_) ?_ ?_
     rotate_left
     ·simp only [putAll, Act.put, List.setIfInBounds_toArray, List.set_cons_zero, List.set_cons_succ]
      rfl
     refine on_ 6 (some 25) (bm 9 127) (fun K hK => ?_)
     refine Kd.R_append_rows_step k34 (w0 := w0) w0.heap.size (by rfl) (.tmp 22) (.tmp 24) 23 34 (.agg #[(.int .i64 0), (.int .i64 0)]) 16 rfl Tryz.underlying23 info34 rfl (by decide) (by omega) v143 y142 y145 _ _ _ (fun k_ => (P0_0_ k_ ∨ w.heap.size ≤ k_) ∧ some k_ ≠ (.slice Ao32 l0_0.length co32 : Value).ownBlock ∧ some k_ ≠ (.slice Ao51 y145.length co51 : Value).ownBlock ∧ k_ ≠ gb136) (fun _ => False) rfl rfl ?aO ?aR (fun _ _ h => h) (fun _ h => h.elim) ?aF ?aB ?aS ?aL ?_
     (case aR => exact rcx HO147)
     (case aB => exact (bl HB))
     (case aF => exact (fun k_ hk => ⟨(.inr (Nat.le_trans (by first | exact HK.out.1 | exact (show Kept w _ (fun k_ => P0_0_ k_) from m16_).1) hk)), Kd.fresh' (Kd.R_lt (rs HO0_0)) k_ hk, Kd.fresh' (Kd.R_lt (rs HO147)) k_ hk, Kd.freshB (g := gb136) (o := .cells #[.int .i64 a1_0, .int .i64 a1_1] 34 (0, 0)) (bk BK136) k_ hk⟩))
     (case aO => exact (rs HO144))
     (case aS => exact (below_size (bl HB)))
     (case aL => have := LMc31.out; omega)
     intro v149 w50 ho hb hg hat
     rw [← Ny148.out] at ho
     replace HO0_0 := am (Kd.R_after (ok := (fun k_ => (P0_0_ k_ ∨ w.heap.size ≤ k_) ∧ some k_ ≠ (.slice Ao51 y145.length co51 : Value).ownBlock ∧ k_ ≠ gb136)) (by (with_reducible repeat apply ru); exact Kd.R_mono HO0_0.out ok_) hg hat)
     replace BK135 := am (blk_grown (g := gb135) (o := .cells #[.slice Ao32 l0_0.length co32] 25 (0, 0)) (bk BK135) hg (Kd.R_ne HO144.out BK135.out (by decide)))
     replace BK136 := am (blk_grown (g := gb136) (o := .cells #[.int .i64 a1_0, .int .i64 a1_1] 34 (0, 0)) (bk BK136) hg (Kd.R_away HO144.out (fun _ hk => hk.2.2.2)))
     replace BK137 := am (blk_grown (g := gb137) (o := .cells #[.slice none 0 0] 25 (0, 0)) (bk BK137) hg (Kd.R_ne HO144.out BK137.out (by decide)))
     replace HO147 := am (Kd.R_after (ok := (fun k_ => (P0_0_ k_ ∨ w.heap.size ≤ k_) ∧ some k_ ≠ (.slice Ao32 l0_0.length co32 : Value).ownBlock ∧ k_ ≠ gb136)) (by (with_reducible repeat apply ru); exact Kd.R_mono HO147.out ok_) hg hat)
     replace HB := am hb
     replace HK := am (Kept.of_grown (S := (fun k_ => P0_0_ k_)) hg m16_ (fun k_ e_ => (HO144.out.1 k_ e_).1))
     have HO150 := am (ho)
     clear HO144
     clear ho hb hg hat
     obtain ⟨Ao52, co52, eo52⟩ := Kd.R_slice HO150.out
     (first | subst eo52 | (injection eo52 with f1_ f2_ f3_; have f4_ := f1_.symm; have f5_ := f3_.symm; clear f1_ f2_ f3_; subst f4_; subst f5_))
     refine hK.out _ _ ⟨bcell BK135 0, bcell BK136 0, bcell BK136 1⟩ (fun hHeld => ?_)
     clear hK K
     refine nm_ ?_
     refine pu_ 7 (some 26) (bm 9 255) ?_
     refine last_ (i := 8) (N := none) #[true, true, true, true, true, true, true, true, true] rfl rfl (one_of HT_.out (by kernel_rfl)) (by decide) (fun K hK => ?_)
     have : w50.cell? ⟨gb135, 0, none⟩ = some (.slice Ao32 l0_0.length co32) := bcell BK135 0
     have := bfz BK135 0
     have := NB136_135.out
     have := NB137_135.out
     have := NB135_136.out
     have := NB135_137.out
     refine skip_ (w1 := ?_) (by rfl) rfl ?_ ?_
     rotate_left
     ·go_simp
      rfl
     refine hK.out _ _ ?_
     clear hK K
     refine done_ (done_of HT_.out (by kernel_rfl)) ?_
     try go_wp2
     have n0_ : Aside0 (Kd.R k34 34 (w50.setCell ⟨gb135, 0, none⟩ (.slice Ao52 y148.length co52)) w0.heap.size (fun k_ => (P0_0_ k_ ∨ w.heap.size ≤ k_) ∧ some k_ ≠ (.slice Ao51 y145.length co51 : Value).ownBlock ∧ some k_ ≠ (.slice Ao52 y148.length co52 : Value).ownBlock ∧ k_ ≠ gb136) (.slice Ao32 l0_0.length co32) l0_0) := ⟨by (with_reducible repeat apply ru); exact Kd.R_mono (Kd.R_far (p := ⟨gb135, 0, none⟩) (Kd.R_types HO0_0.out BK135.out (by decide)) (fun _ hk => hk.2) (.slice Ao52 y148.length co52)) ok_⟩
     have n1_ : Aside0 (Kd.R k34 34 (w50.setCell ⟨gb135, 0, none⟩ (.slice Ao52 y148.length co52)) w0.heap.size (fun k_ => (P0_0_ k_ ∨ w.heap.size ≤ k_) ∧ some k_ ≠ (.slice Ao32 l0_0.length co32 : Value).ownBlock ∧ some k_ ≠ (.slice Ao52 y148.length co52 : Value).ownBlock ∧ k_ ≠ gb136) (.slice Ao51 y145.length co51) y145) := ⟨by (with_reducible repeat apply ru); exact Kd.R_mono (Kd.R_far (p := ⟨gb135, 0, none⟩) (Kd.R_types HO147.out BK135.out (by decide)) (fun _ hk => hk.2) (.slice Ao52 y148.length co52)) ok_⟩
     have n2_ : Aside0 (Kd.R k34 34 (w50.setCell ⟨gb135, 0, none⟩ (.slice Ao52 y148.length co52)) w0.heap.size (fun k_ => (P0_0_ k_ ∨ w.heap.size ≤ k_) ∧ some k_ ≠ (.slice Ao32 l0_0.length co32 : Value).ownBlock ∧ some k_ ≠ (.slice Ao51 y145.length co51 : Value).ownBlock ∧ k_ ≠ gb136) (.slice Ao52 y148.length co52) y148) := ⟨by (with_reducible repeat apply ru); exact Kd.R_mono (Kd.R_far (p := ⟨gb135, 0, none⟩) (Kd.R_types HO150.out BK135.out (by decide)) (fun _ hk => hk.2) (.slice Ao52 y148.length co52)) ok_⟩
     have n3_ : Aside0 ((w50.setCell ⟨gb135, 0, none⟩ (.slice Ao52 y148.length co52)).heap[gb135]? = some (.cells #[.slice Ao52 y148.length co52] 25 (0, 0))) := ⟨by (with_reducible repeat refine bu ?_); refine blk_put (cs := #[.slice Ao32 l0_0.length co32]) ?_ 0 _ rfl; (with_reducible repeat refine bu ?_); exact BK135.out⟩
     have n4_ : Aside0 ((w50.setCell ⟨gb135, 0, none⟩ (.slice Ao52 y148.length co52)).heap[gb136]? = some (.cells #[.int .i64 a1_0, .int .i64 a1_1] 34 (0, 0))) := bf_ BK136
     have n5_ : Aside0 ((w50.setCell ⟨gb135, 0, none⟩ (.slice Ao52 y148.length co52)).heap[gb137]? = some (.cells #[.slice none 0 0] 25 (0, 0))) := bf_ BK137
     have n6_ : Aside0 (Kept w (w50.setCell ⟨gb135, 0, none⟩ (.slice Ao52 y148.length co52)) (fun k_ => P0_0_ k_)) := ⟨m16_⟩
     have n7_ : Aside0 (Below w0.heap.size w0 (w50.setCell ⟨gb135, 0, none⟩ (.slice Ao52 y148.length co52))) := ⟨m2_⟩
     (try clear HO0_0)
     (try clear HO147)
     (try clear HO150)
     (try clear BK135)
     (try clear BK136)
     (try clear BK137)
     (try clear HK)
     (try clear HB)
     generalize (w50.setCell ⟨gb135, 0, none⟩ (.slice Ao52 y148.length co52)) = w54 at n0_ n1_ n2_ n3_ n4_ n5_ n6_ n7_ ⊢
     have HO0_0 := n0_
     have HO147 := n1_
     have HO150 := n2_
     have BK135 := n3_
     have BK136 := n4_
     have BK137 := n5_
     have HK := n6_
     have HB := n7_
     clear n0_ n1_ n2_ n3_ n4_ n5_ n6_ n7_
     replace HO0_0 := am (Kd.R_drew HO0_0.out)
     replace HO147 := am (Kd.R_drew HO147.out)
     replace HO150 := am (Kd.R_drew HO150.out)
     replace BK135 := am (blk_drew BK135.out)
     replace BK136 := am (blk_drew BK136.out)
     replace BK137 := am (blk_drew BK137.out)
     replace HK := am (Kept.drew HK.out)
     replace HB := am (below_drew1 HB.out)
     refine start_ (n := 8) (S := fun w' => w'.cell? ⟨gb135, 0, none⟩ = some (.slice Ao52 y148.length co52)) (ds := []) #[false, false, false, false, false, false, false, false] (by kernel_rfl) rfl rfl (bcell BK135 0) (fun hHeld => ?_); refine with_tabW spec_l3Put.tab7 spec_l3Put.bits7 (fun HT_ HW_ => ?_)
     generalize w54.drew = w55 at HO0_0 HO147 HO150 BK135 BK136 BK137 HK HB hHeld ⊢
     refine pu_ 1 (some 28) (bm 8 2) ?_
     refine take_ (i := 0) (N := some 27) (v := ?_) (a' := ?_) #[true, true, false, false, false, false, false, false] rfl rfl (take_ofW HT_.out HW_.out (by kernel_rfl)) (fun _ _ _ h => h) (Or.inl ⟨by rfl, ?_⟩) hHeld ?_ ?_
     rotate_left
     ·intro w' s0
      go_simp
      with_reducible rfl
     rotate_left
     ·simp only [Act.put, List.setIfInBounds_toArray, List.set_cons_zero, List.set_cons_succ, i64_w, i32_w]
      rfl
     refine take_ (i := 2) (N := some 29) (v := ?_) (a' := ?_) #[true, true, true, false, false, false, false, false] rfl rfl (take_ofW HT_.out HW_.out (by kernel_rfl)) (fun _ _ _ h => h) (Or.inl ⟨by rfl, ?_⟩) hHeld ?_ ?_
     rotate_left
     ·intro w' s0
      go_simp
      with_reducible rfl
     rotate_left
     ·simp only [Act.put, List.setIfInBounds_toArray, List.set_cons_zero, List.set_cons_succ, i64_w, i32_w]
      rfl
     refine pu_ 3 (some 30) (bm 8 15) ?_
     refine pu_ 4 (some 31) (bm 8 31) ?_
     refine pu_ 5 (some 32) (bm 8 63) ?_
     refine on_ 6 none (bm 8 127) (fun K hK => ?_)
     have : w55.cell? ⟨gb137, 0, none⟩ = some (.slice none 0 0) := bcell BK137 0
     have := bfz BK137 0
     have := NB135_137.out
     have := NB136_137.out
     have := NB137_135.out
     have := NB137_136.out
     refine skip_ (w1 := ?_) (by rfl) rfl ?_ ?_
     rotate_left
     ·go_simp
      rfl
     refine hK.out _ _ (((cell_far (p := ⟨gb137, _, none⟩) NB135_137.out _).trans (hHeld))) (fun hHeld => ?_)
     clear hK K
     refine pu_ 7 (some 5) (bm 8 255) ?_
     refine done_ (done_of HT_.out (by kernel_rfl)) ?_
     try go_wp2
     refine bodyPost_ret (results_ct rfl _ _ gb137 25 #[.slice Ao52 y148.length co52] (0, 0) _ rfl (by (with_reducible repeat refine bu ?_); refine blk_put (cs := #[.slice none 0 0]) ?_ 0 _ rfl; (with_reducible repeat refine bu ?_); exact BK137.out) Tryz.underlying25 rfl (by kernel_rfl)) rfl ?_
     exact ⟨_, fi_, by (with_reducible repeat apply ru); exact Kd.R_mono (Kd.R_far (p := ⟨gb137, 0, none⟩) (Kd.R_types HO150.out BK137.out (by decide)) (fun _ hk => hk.2) (.slice Ao52 y148.length co52)) (fun _ hk => hk.1.1), m2_, m16_⟩
    ·rw [if_neg c31] at H
     exact absurd H (by simp)
   ·rw [if_neg c30] at H
    exact absurd H (by simp)
end
def I64 (n : Int) : Prop := (Lit.int .i64 n).wf = true
theorem i64_iff (n : Int) : I64 n ↔ -9223372036854775808 ≤ n ∧ n ≤ 9223372036854775807 := by
  unfold I64
  simp [Lit.wf, IntKind.min, IntKind.max, IntKind.signed, IntKind.bits]
theorem mapLaid : laidOutB Tryz.prog = true := by kernel_rfl
theorem endKeyed : Maps.Keyed Tryz.prog 34 := Maps.Keyed.of_law (deep_law_laid mapLaid (m := 2) (by omega) (of_decide_eq_true (by kernel_rfl)) (by kernel_rfl) (by rw [Tryz.underlying34]))
theorem intKeyed : Maps.Keyed Tryz.prog 3 := Maps.int_keyed Tryz.underlying3
def eK (a b : Int) : Lit := .string (keyBytes [.int .i64 a, .int .i64 b])
theorem eK_key (a b : Int) : WideAt.IsKeyLit (eK a b) := trivial
theorem pK_key (n : Int) : WideAt.IsKeyLit (Lit.int .i64 n) := trivial
theorem endKey {a b : Int} (wa : I64 a) (wb : I64 b) : keyOf Tryz.prog 34 (.agg #[.int .i64 a, .int .i64 b]) = some (eK a b) := by
  have hk : Tryz.prog.keyType 34 = true := by kernel_rfl
  have hc : Tryz.prog.cellsOf 34 = 2 := by kernel_rfl
  have hc3 : Tryz.prog.cellsOf 3 = 1 := by kernel_rfl
  obtain ⟨m, hm⟩ : ∃ m, Tryz.prog.types.size = m + 2 := ⟨Tryz.prog.types.size - 2, by kernel_rfl⟩
  unfold I64 at wa wb
  unfold keyOf eK
  simp only [Tryz.underlying34]
  rw [if_pos (by simp [hk, Value.formed, Tryz.underlying34, hc]), hm]
  unfold Program.keyLits
  simp only [Tryz.underlying34, Value.cells]
  rw [if_pos (by rw [hc]; exact ⟨rfl, by simp⟩)]
  simp [hc3, Program.keyLits, Tryz.underlying3, wa, wb]
theorem intKey {n : Int} (w : I64 n) : keyOf Tryz.prog 3 (.int .i64 n) = some (.int .i64 n) := by
  unfold I64 at w
  simp [keyOf, mapKey, Tryz.underlying3, w]
theorem eK_inj {a b c d : Int} (wa : I64 a) (wb : I64 b) (wc : I64 c) (wd : I64 d) (h : eK a b = eK c d) : a = c ∧ b = d := by
  have := endKeyed.inj (endKey wa wb) (by rw [h]; exact endKey wc wd)
  simpa using this
def endD (a b : Int) : DataW Unit := .map [(.int .i64 0, .lit (.int .i64 a)), (.int .i64 0, .lit (.int .i64 b))]
def endR (v : Value) : Option (DataW Unit × List MemPlace) := match v with
  | .agg cs => (match cs.toList with
    | [.int .i64 a, .int .i64 b] => some (endD a b, [])
    | _ => none)
  | _ => none
theorem endR_mk (a b : Int) : endR (.agg #[.int .i64 a, .int .i64 b]) = some (endD a b, []) := rfl
theorem endR_inv {v : Value} {z : DataW Unit × List MemPlace} (h : endR v = some z) : ∃ a b, v = .agg #[.int .i64 a, .int .i64 b] ∧ z.1 = endD a b := by
  unfold endR at h
  split at h
  · rename_i cs
    split at h
    · rename_i a b he
      obtain ⟨l⟩ := cs
      simp at he
      subst he
      injection h with h
      subst h
      exact ⟨a, b, rfl, rfl⟩
    · cases h
  · cases h
theorem endD_inj {a b c d : Int} (h : endD a b = endD c d) : a = c ∧ b = d := by
  unfold endD at h
  simpa using h
def fnd (l : List S34) (a b : Int) : Option Nat := l.findIdx? (fun x => x.f0 == a && x.f1 == b)
theorem fnd_snoc (l : List S34) (x : S34) (a b : Int) : fnd (l ++ [x]) a b = (match fnd l a b with | some i => some i | none => if x.f0 = a ∧ x.f1 = b then some l.length else none) := by
  unfold fnd
  rw [List.findIdx?_append]
  cases l.findIdx? (fun x => x.f0 == a && x.f1 == b) with
  | some i => simp
  | none => by_cases h : x.f0 = a ∧ x.f1 = b <;> simp [List.findIdx?_cons, h]
def Says1 (l : List S34) (D : DataW Unit) : Prop := ∀ a b, I64 a → I64 b → ∀ z, D.atKey (eK a b) z = (match fnd l a b with | none => z | some i => .lit (.int .i64 (500 + i)))
def Says2 (l : List S34) (D : DataW Unit) : Prop := ∀ n, I64 n → ∀ z, D.atKey (.int .i64 n) z = (match (if 500 ≤ n then l[(n - 500).toNat]? else none) with | none => z | some x => endD x.f0 x.f1)
theorem says1_nil : Says1 [] (.map []) := fun a b _ _ z => rfl
theorem says2_nil : Says2 [] (.map []) := fun n _ z => by
  have : (if 500 ≤ n then ([] : List S34)[(n - 500).toNat]? else none) = none := by split <;> rfl
  rw [this]; rfl
theorem says1_has {l : List S34} {D : DataW Unit} (h : Says1 l D) {a b : Int} (wa : I64 a) (wb : I64 b) : Maps.has D (eK a b) = (fnd l a b).isSome := by
  cases hf : fnd l a b with
  | none => exact Maps.has_false_of_atKey (fun z => by rw [h a b wa wb z, hf])
  | some i => exact Maps.has_true_of_atKey (fun z => by rw [h a b wa wb z, hf])
theorem says1_old {l : List S34} {D : DataW Unit} (h : Says1 l D) (x : S34) (wx : I64 x.f0 ∧ I64 x.f1) (hx : Maps.has D (eK x.f0 x.f1) = true) : Says1 (l ++ [x]) D := by
  intro a b wa wb z
  rw [h a b wa wb z, fnd_snoc]
  cases hf : fnd l a b with
  | some i => rfl
  | none =>
    have hne : ¬ (x.f0 = a ∧ x.f1 = b) := by
      rintro ⟨rfl, rfl⟩
      rw [says1_has h wx.1 wx.2, hf] at hx
      cases hx
    simp [hne]
theorem says1_new {l : List S34} {D : DataW Unit} (h : Says1 l D) (hD : Maps.IsMap D) (x : S34) (wx : I64 x.f0 ∧ I64 x.f1) (hx : Maps.has D (eK x.f0 x.f1) = false) : Says1 (l ++ [x]) (D.put (eK x.f0 x.f1) (.lit (.int .i64 (500 + l.length)))) := by
  intro a b wa wb z
  rw [fnd_snoc]
  by_cases he : x.f0 = a ∧ x.f1 = b
  · obtain ⟨rfl, rfl⟩ := he
    rw [says1_has h wx.1 wx.2] at hx
    cases hf : fnd l x.f0 x.f1 with
    | some i => rw [hf] at hx; cases hx
    | none =>
      rw [Maps.atKey_put_same hD (eK_key _ _)]
      simp
  · have hne : eK a b ≠ eK x.f0 x.f1 := fun e => he (by obtain ⟨h1, h2⟩ := eK_inj wa wb wx.1 wx.2 e; exact ⟨h1.symm, h2.symm⟩)
    rw [Maps.atKey_put_other hne, h a b wa wb z]
    cases fnd l a b <;> simp [he]
theorem says2_has {l : List S34} {D : DataW Unit} (h : Says2 l D) (hl : l.length < 1000000000) : Maps.has D (.int .i64 (500 + l.length)) = false :=
  Maps.has_false_of_atKey (fun z => by
    rw [h _ ((i64_iff _).mpr (by omega)) z]
    have : (if 500 ≤ (500 + (l.length : Int)) then l[((500 + (l.length : Int)) - 500).toNat]? else none) = none := by
      rw [if_pos (by omega)]
      exact List.getElem?_eq_none (by omega)
    rw [this])
theorem says2_put {l : List S34} {D : DataW Unit} (h : Says2 l D) (hD : Maps.IsMap D) (x : S34) (hl : l.length < 1000000000) : Says2 (l ++ [x]) (D.put (.int .i64 (500 + l.length)) (endD x.f0 x.f1)) := by
  intro n wn z
  by_cases he : n = 500 + l.length
  · subst he
    rw [Maps.atKey_put_same hD (pK_key _)]
    have : (if 500 ≤ (500 + (l.length : Int)) then (l ++ [x])[((500 + (l.length : Int)) - 500).toNat]? else none) = some x := by
      rw [if_pos (by omega), show ((500 + (l.length : Int)) - 500).toNat = l.length by omega]
      simp
    rw [this]
  · have hne : (Lit.int .i64 n) ≠ Lit.int .i64 (500 + l.length) := fun e => he (by injection e)
    rw [Maps.atKey_put_other hne, h n wn z]
    have : (if 500 ≤ n then (l ++ [x])[(n - 500).toNat]? else none) = (if 500 ≤ n then l[(n - 500).toNat]? else none) := by
      by_cases h5 : 500 ≤ n
      · rw [if_pos h5, if_pos h5]
        rw [List.getElem?_append]
        split
        · rfl
        · rename_i hge
          rw [List.getElem?_eq_none (by simp; omega), List.getElem?_eq_none (by omega)]
      · rw [if_neg h5, if_neg h5]
    rw [this]
theorem says2_again {l : List S34} {D : DataW Unit} {x : S34} (h : Says2 (l ++ [x]) D) (hD : Maps.IsMap D) (hl : l.length < 1000000000) : Says2 (l ++ [x]) (D.put (.int .i64 (500 + l.length)) (endD x.f0 x.f1)) := by
  intro n wn z
  by_cases he : n = 500 + l.length
  · subst he
    rw [Maps.atKey_put_same hD (pK_key _)]
    have : (if 500 ≤ (500 + (l.length : Int)) then (l ++ [x])[((500 + (l.length : Int)) - 500).toNat]? else none) = some x := by
      rw [if_pos (by omega), show ((500 + (l.length : Int)) - 500).toNat = l.length by omega]
      simp
    rw [this]
  · have hne : (Lit.int .i64 n) ≠ Lit.int .i64 (500 + l.length) := fun e => he (by injection e)
    rw [Maps.atKey_put_other hne, h n wn z]
theorem zero3 (w : World) : (zeroValue 3).run Tryz.prog w = .ok (.int .i64 0) w := by kernel_rfl
theorem zeroEnd (w : World) : (zeroValue 34).run Tryz.prog w = .ok (.agg #[.int .i64 0, .int .i64 0]) w := by kernel_rfl
structure Fr (w w' : World) (b1 b2 : Nat) : Prop where
  os : w'.os = w.os
  tape : w'.tape = w.tape
  output : w'.output = w.output
  size : w.heap.size ≤ w'.heap.size
  block : ∀ i, i < w.heap.size → i ≠ b1 → i ≠ b2 → w'.heap[i]? = w.heap[i]?
theorem Fr.refl (w : World) (b1 b2 : Nat) : Fr w w b1 b2 := ⟨rfl, rfl, rfl, Nat.le_refl _, fun _ _ _ _ => rfl⟩
theorem Fr.trans {w w' w'' : World} {b1 b2 : Nat} (h : Fr w w' b1 b2) (k : Fr w' w'' b1 b2) : Fr w w'' b1 b2 :=
  ⟨k.os.trans h.os, k.tape.trans h.tape, k.output.trans h.output, Nat.le_trans h.size k.size, fun i hi h1 h2 => (k.block i (Nat.lt_of_lt_of_le hi h.size) h1 h2).trans (h.block i hi h1 h2)⟩
theorem Fr.below {w w' w'' : World} {b1 b2 : Nat} (h : Fr w w' b1 b2) (k : Below w'.heap.size w' w'') : Fr w w'' b1 b2 :=
  h.trans ⟨k.os, k.tape, k.output, k.size, fun i hi _ _ => k.block i hi⟩
theorem Fr.one {w w' w'' : World} {b1 b2 : Nat} (h : Fr w w' b1 b2) (k : w'.grownBy w'' (some b1)) : Fr w w'' b1 b2 :=
  h.trans ⟨k.os, k.tape, k.output, k.size, fun i hi h1 _ => k.block i hi (by simpa using h1)⟩
theorem Fr.two {w w' w'' : World} {b1 b2 : Nat} (h : Fr w w' b1 b2) (k : w'.grownBy w'' (some b2)) : Fr w w'' b1 b2 :=
  h.trans ⟨k.os, k.tape, k.output, k.size, fun i hi _ h2 => k.block i hi (by simpa using h2)⟩
theorem Fr.set {w w' : World} {b1 b2 g j : Nat} {v : Value} (h : Fr w w' b1 b2) (hg : w.heap.size ≤ g) : Fr w (w'.setCell ⟨g, j, none⟩ v) b1 b2 :=
  ⟨h.os, h.tape, h.output, by simpa [World.setCell] using h.size, fun i hi h1 h2 => (heap_setCell_other w' ⟨g, j, none⟩ i v (fun e => by simp at e; omega)).trans (h.block i hi h1 h2)⟩
theorem om_below {k : TypeId} {R : Value → Option (DataW Unit × List MemPlace)} {w w' : World} {b n : Nat} {D : DataW Unit} (h : w.ownsMap Tryz.prog k R b n D) (hb : Below w.heap.size w w') : w'.ownsMap Tryz.prog k R b n D := by
  have hlt := h.lt
  obtain ⟨es, c, h1, h2⟩ := h
  exact ⟨es, c, (hb.block b hlt).trans h1, h2⟩
theorem om_ne {k : TypeId} {R : Value → Option (DataW Unit × List MemPlace)} {w : World} {b n g : Nat} {D : DataW Unit} {cs : Array Value} {t : TypeId} (h : w.ownsMap Tryz.prog k R b n D) (hg : w.heap[g]? = some (.cells cs t (0, 0))) : g ≠ b := by
  rintro rfl
  obtain ⟨es, c, h1, h2⟩ := h
  rw [hg] at h1
  cases h1
set_option maxHeartbeats 8000000 in
set_option maxRecDepth 100000 in
theorem set_old (b1 b2 n1 n2 : Nat) (D1 D2 : DataW Unit) (a b n : Int) (wa : I64 a) (wb : I64 b) (wn : I64 n) (w : World) (hne : b1 ≠ b2)
    (h1 : w.ownsMap Tryz.prog 34 (plainElem Tryz.prog 3) b1 n1 D1) (h2 : w.ownsMap Tryz.prog 3 endR b2 n2 D2) (hn1 : n1 < 1000000000) (hn2 : n2 < 1000000000)
    (f1 : Maps.has D1 (eK a b) = true) (f2 : Maps.has D2 (.int .i64 n) = false) :
    Calls Tryz.prog 87 #[.agg #[.map (some b1), .map (some b2)], .agg #[.int .i64 a, .int .i64 b], .int .i64 n] w fun e w' =>
      e = .returned (.tuple #[]) ∧ w'.ownsMap Tryz.prog 34 (plainElem Tryz.prog 3) b1 n1 D1 ∧ w'.ownsMap Tryz.prog 3 endR b2 (n2 + 1) (D2.put (.int .i64 n) (endD a b)) ∧ Fr w w' b1 b2 := by
  have H1 := Aside0.mk h1
  have H2 := Aside0.mk h2
  have F1 := Aside0.mk f1
  have F2 := Aside0.mk f2
  have HNE := Aside0.mk hne
  have HF := Aside0.mk (Fr.refl w b1 b2)
  have HN1 := Aside0.mk (show n1 < maxLen by simp only [maxLen]; omega)
  have HN2 := Aside0.mk (show n2 < maxLen by simp only [maxLen]; omega)
  clear h1 h2 f1 f2 hne hn1 hn2
  go_enter Tryz.func87, Tryz.ntmps87
  go_wp2_with (first
    | ((with_reducible refine gate_dst (N := 3) rfl ?_)
       refine box_event ?hg (N := 3) ?hd (cs := #[.map (some b1), .map (some b2)]) (t := 70) ?hr ?_
       (case hd => rfl)
       (case hg => rfl)
       (case hr => first | (go_simp; done) | (go_simp; rfl))
       intro g3 hg w3 hbox hb
       have n1_ := Aside0.mk (om_below (w' := w3) H1.out hb)
       have n2_ := Aside0.mk (om_below (w' := w3) H2.out hb)
       have n3_ := Aside0.mk (Fr.below HF.out (w'' := w3) hb)
       have BK3 := Aside0.mk hbox
       clear H1 H2 HF
       have H1 := n1_
       have H2 := n2_
       have HF := n3_
       clear n1_ n2_ n3_ hb hbox hg)
    | ((with_reducible refine gate_dst (N := 4) rfl ?_)
       refine box_event ?hg (N := 4) ?hd (cs := #[.int .i64 a, .int .i64 b]) (t := 34) ?hr ?_
       (case hd => rfl)
       (case hg => rfl)
       (case hr => first | (go_simp; done) | (go_simp; rfl))
       intro g4 hg w4 hbox hb
       have n1_ := Aside0.mk (om_below (w' := w4) H1.out hb)
       have n2_ := Aside0.mk (om_below (w' := w4) H2.out hb)
       have n3_ := Aside0.mk (Fr.below HF.out (w'' := w4) hb)
       have n4_ := bkB BK3 hb
       have BK4 := Aside0.mk hbox
       have NB := Aside0.mk (show g3 ≠ g4 from by rw [hg]; exact Nat.ne_of_lt (bkL BK3))
       clear H1 H2 HF BK3
       have H1 := n1_
       have H2 := n2_
       have HF := n3_
       have BK3 := n4_
       clear n1_ n2_ n3_ n4_ hb hbox hg
       have c30 : w4.cell? ⟨g3, 0, none⟩ = some (.map (some b1)) := (blk_cell BK3.out 0).trans rfl
       have c31 : w4.cell? ⟨g3, 1, none⟩ = some (.map (some b2)) := (blk_cell BK3.out 1).trans rfl
       have c40 : w4.cell? ⟨g4, 0, none⟩ = some (.int .i64 a) := (blk_cell BK4.out 0).trans rfl
       have c41 : w4.cell? ⟨g4, 1, none⟩ = some (.int .i64 b) := (blk_cell BK4.out 1).trans rfl)
    | ((with_reducible refine gate_dst (N := 14) rfl ?_)
       at_lookup
       refine wpList_lookup_own_ok_int _ rfl _ _ 67 rfl 34 3 .i64 endKeyed Tryz.underlying67 Tryz.underlying3 (zero3 _) b1 n1 D1 rfl H1.out _ _ rfl (endKey wa wb) ?_
       intro c14 hat hwc
       rw [F1.out]
       clear hat hwc)
    | ((with_reducible refine gate_dst (N := 27) rfl ?_)
       at_lookup
       refine wpList_lookup_own_ok _ rfl _ _ 68 rfl 3 34 intKeyed Tryz.underlying68 _ (zeroEnd _) (endD 0 0) [] (endR_mk 0 0) b2 n2 D2 rfl H2.out _ _ rfl (intKey wn) ?_
       intro v27 ps27 hv27
       rw [F2.out]
       obtain ⟨xa, xb, rfl, _⟩ := endR_inv hv27
       clear hv27)
    | ((with_reducible refine gate_dst (N := 8) rfl ?_)
       refine box_event ?hg (N := 8) ?hd (cs := #[.int .i64 0, .int .i64 0]) (t := 34) ?hr ?_
       (case hd => rfl)
       (case hg => rfl)
       (case hr => first | (go_simp; done) | (go_simp; rfl))
       intro g8 hg w8 hbox hb
       have n1_ := Aside0.mk (om_below (w' := w8) H1.out hb)
       have n2_ := Aside0.mk (om_below (w' := w8) H2.out hb)
       have n3_ := Aside0.mk (Fr.below HF.out (w'' := w8) hb)
       have n4_ := bkB BK3 hb
       have n5_ := bkB BK4 hb
       have BK8 := Aside0.mk hbox
       have GE8 := Aside0.mk (show w.heap.size ≤ g8 from by rw [hg]; exact HF.out.size)
       have e38 : g3 ≠ g8 := by rw [hg]; exact Nat.ne_of_lt (bkL BK3)
       have e48 : g4 ≠ g8 := by rw [hg]; exact Nat.ne_of_lt (bkL BK4)
       have e83 := e38.symm
       have e84 := e48.symm
       clear H1 H2 HF BK3 BK4 c30 c31 c40 c41
       have H1 := n1_
       have H2 := n2_
       have HF := n3_
       have BK3 := n4_
       have BK4 := n5_
       clear n1_ n2_ n3_ n4_ n5_ hb hbox hg
       have c30 : w8.cell? ⟨g3, 0, none⟩ = some (.map (some b1)) := (blk_cell BK3.out 0).trans rfl
       have c31 : w8.cell? ⟨g3, 1, none⟩ = some (.map (some b2)) := (blk_cell BK3.out 1).trans rfl
       have c40 : w8.cell? ⟨g4, 0, none⟩ = some (.int .i64 a) := (blk_cell BK4.out 0).trans rfl
       have c41 : w8.cell? ⟨g4, 1, none⟩ = some (.int .i64 b) := (blk_cell BK4.out 1).trans rfl
       have c80 : w8.cell? ⟨g8, 0, none⟩ = some (.int .i64 0) := (blk_cell BK8.out 0).trans rfl
       have c81 : w8.cell? ⟨g8, 1, none⟩ = some (.int .i64 0) := (blk_cell BK8.out 1).trans rfl
       have z80 := blk_frozen BK8.out 0
       have z81 := blk_frozen BK8.out 1)
    | (at_mapUpdate
       refine wpList_mapUpdate_own _ rfl _ _ _ 68 rfl 3 34 intKeyed Tryz.underlying68 _ b2 n2 D2 rfl ((H2.out.setCell (om_ne H2.out BK8.out).symm _).setCell (om_ne H2.out BK8.out).symm _) HN2.out _ _ _ rfl rfl (intKey wn) _ _ (endR_mk a b) ?_
       intro w33 hm hg
       have n1_ := Aside0.mk (((H1.out.setCell (om_ne H1.out BK8.out).symm _).setCell (om_ne H1.out BK8.out).symm _).kept hg (by simpa using HNE.out))
       have n2_ := Aside0.mk hm
       have n3_ := Aside0.mk (((HF.out.set GE8.out).set GE8.out).two hg)
       clear H1 H2 HF BK3 BK4 BK8 c30 c31 c40 c41 c80 c81 z80 z81 hm hg
       have H1 := n1_
       have H2 := n2_
       have HF := n3_
       clear n1_ n2_ n3_))
  first | go_end0 | ((try simp only [Exit.inBlock, Exit.then]); refine bodyPost_ret (results_none rfl _ _ _) rfl ?_)
  exact ⟨rfl, H1.out, H2.out, HF.out⟩
set_option maxHeartbeats 8000000 in
set_option maxRecDepth 100000 in
theorem set_new (b1 b2 n1 n2 : Nat) (D1 D2 : DataW Unit) (a b n : Int) (wa : I64 a) (wb : I64 b) (wn : I64 n) (w : World) (hne : b1 ≠ b2)
    (h1 : w.ownsMap Tryz.prog 34 (plainElem Tryz.prog 3) b1 n1 D1) (h2 : w.ownsMap Tryz.prog 3 endR b2 n2 D2) (hn1 : n1 < 1000000000) (hn2 : n2 < 1000000000)
    (f1 : Maps.has D1 (eK a b) = false) (f2 : Maps.has D2 (.int .i64 n) = false) :
    Calls Tryz.prog 87 #[.agg #[.map (some b1), .map (some b2)], .agg #[.int .i64 a, .int .i64 b], .int .i64 n] w fun e w' =>
      e = .returned (.tuple #[]) ∧ w'.ownsMap Tryz.prog 34 (plainElem Tryz.prog 3) b1 (n1 + 1) (D1.put (eK a b) (.lit (.int .i64 n))) ∧ w'.ownsMap Tryz.prog 3 endR b2 (n2 + 1) (D2.put (.int .i64 n) (endD a b)) ∧ Fr w w' b1 b2 := by
  have H1 := Aside0.mk h1
  have H2 := Aside0.mk h2
  have F1 := Aside0.mk f1
  have F2 := Aside0.mk f2
  have HNE := Aside0.mk hne
  have HF := Aside0.mk (Fr.refl w b1 b2)
  have HN1 := Aside0.mk (show n1 < maxLen by simp only [maxLen]; omega)
  have HN2 := Aside0.mk (show n2 < maxLen by simp only [maxLen]; omega)
  clear h1 h2 f1 f2 hne hn1 hn2
  go_enter Tryz.func87, Tryz.ntmps87
  go_wp2_with (first
    | ((with_reducible refine gate_dst (N := 3) rfl ?_)
       refine box_event ?hg (N := 3) ?hd (cs := #[.map (some b1), .map (some b2)]) (t := 70) ?hr ?_
       (case hd => rfl)
       (case hg => rfl)
       (case hr => first | (go_simp; done) | (go_simp; rfl))
       intro g3 hg w3 hbox hb
       have n1_ := Aside0.mk (om_below (w' := w3) H1.out hb)
       have n2_ := Aside0.mk (om_below (w' := w3) H2.out hb)
       have n3_ := Aside0.mk (Fr.below HF.out (w'' := w3) hb)
       have BK3 := Aside0.mk hbox
       clear H1 H2 HF
       have H1 := n1_
       have H2 := n2_
       have HF := n3_
       clear n1_ n2_ n3_ hb hbox hg)
    | ((with_reducible refine gate_dst (N := 4) rfl ?_)
       refine box_event ?hg (N := 4) ?hd (cs := #[.int .i64 a, .int .i64 b]) (t := 34) ?hr ?_
       (case hd => rfl)
       (case hg => rfl)
       (case hr => first | (go_simp; done) | (go_simp; rfl))
       intro g4 hg w4 hbox hb
       have n1_ := Aside0.mk (om_below (w' := w4) H1.out hb)
       have n2_ := Aside0.mk (om_below (w' := w4) H2.out hb)
       have n3_ := Aside0.mk (Fr.below HF.out (w'' := w4) hb)
       have n4_ := bkB BK3 hb
       have BK4 := Aside0.mk hbox
       have NB := Aside0.mk (show g3 ≠ g4 from by rw [hg]; exact Nat.ne_of_lt (bkL BK3))
       clear H1 H2 HF BK3
       have H1 := n1_
       have H2 := n2_
       have HF := n3_
       have BK3 := n4_
       clear n1_ n2_ n3_ n4_ hb hbox hg
       have c30 : w4.cell? ⟨g3, 0, none⟩ = some (.map (some b1)) := (blk_cell BK3.out 0).trans rfl
       have c31 : w4.cell? ⟨g3, 1, none⟩ = some (.map (some b2)) := (blk_cell BK3.out 1).trans rfl
       have c40 : w4.cell? ⟨g4, 0, none⟩ = some (.int .i64 a) := (blk_cell BK4.out 0).trans rfl
       have c41 : w4.cell? ⟨g4, 1, none⟩ = some (.int .i64 b) := (blk_cell BK4.out 1).trans rfl)
    | ((with_reducible refine gate_dst (N := 14) rfl ?_)
       at_lookup
       refine wpList_lookup_own_ok_int _ rfl _ _ 67 rfl 34 3 .i64 endKeyed Tryz.underlying67 Tryz.underlying3 (zero3 _) b1 n1 D1 rfl H1.out _ _ rfl (endKey wa wb) ?_
       intro c14 hat hwc
       rw [F1.out]
       clear hat hwc)
    | (at_mapUpdate
       refine wpList_mapUpdate_own _ rfl _ _ _ 67 rfl 34 3 endKeyed Tryz.underlying67 _ b1 n1 D1 rfl H1.out HN1.out _ _ _ rfl rfl (endKey wa wb) _ _ (plainElem_int Tryz.underlying3 wn) ?_
       intro w20 hm hg
       have n1_ := Aside0.mk hm
       have n2_ := Aside0.mk (H2.out.kept hg (by simpa using HNE.out.symm))
       have n3_ := Aside0.mk (HF.out.one hg)
       have n4_ : Aside0 (w20.heap[g3]? = some (.cells #[.map (some b1), .map (some b2)] 70 (0, 0))) := ⟨(hg.block g3 (blk_lt BK3.out) (by simpa using om_ne H1.out BK3.out)).trans BK3.out⟩
       have n5_ : Aside0 (w20.heap[g4]? = some (.cells #[.int .i64 a, .int .i64 b] 34 (0, 0))) := ⟨(hg.block g4 (blk_lt BK4.out) (by simpa using om_ne H1.out BK4.out)).trans BK4.out⟩
       clear H1 H2 HF BK3 BK4 c30 c31 c40 c41
       have H1 := n1_
       have H2 := n2_
       have HF := n3_
       have BK3 := n4_
       have BK4 := n5_
       clear n1_ n2_ n3_ n4_ n5_ hm hg
       have c30 : w20.cell? ⟨g3, 0, none⟩ = some (.map (some b1)) := (blk_cell BK3.out 0).trans rfl
       have c31 : w20.cell? ⟨g3, 1, none⟩ = some (.map (some b2)) := (blk_cell BK3.out 1).trans rfl
       have c40 : w20.cell? ⟨g4, 0, none⟩ = some (.int .i64 a) := (blk_cell BK4.out 0).trans rfl
       have c41 : w20.cell? ⟨g4, 1, none⟩ = some (.int .i64 b) := (blk_cell BK4.out 1).trans rfl)
    | ((with_reducible refine gate_dst (N := 27) rfl ?_)
       at_lookup
       refine wpList_lookup_own_ok _ rfl _ _ 68 rfl 3 34 intKeyed Tryz.underlying68 _ (zeroEnd _) (endD 0 0) [] (endR_mk 0 0) b2 n2 D2 rfl H2.out _ _ rfl (intKey wn) ?_
       intro v27 ps27 hv27
       rw [F2.out]
       obtain ⟨xa, xb, rfl, _⟩ := endR_inv hv27
       clear hv27)
    | ((with_reducible refine gate_dst (N := 8) rfl ?_)
       refine box_event ?hg (N := 8) ?hd (cs := #[.int .i64 0, .int .i64 0]) (t := 34) ?hr ?_
       (case hd => rfl)
       (case hg => rfl)
       (case hr => first | (go_simp; done) | (go_simp; rfl))
       intro g8 hg w8 hbox hb
       have n1_ := Aside0.mk (om_below (w' := w8) H1.out hb)
       have n2_ := Aside0.mk (om_below (w' := w8) H2.out hb)
       have n3_ := Aside0.mk (Fr.below HF.out (w'' := w8) hb)
       have n4_ := bkB BK3 hb
       have n5_ := bkB BK4 hb
       have BK8 := Aside0.mk hbox
       have GE8 := Aside0.mk (show w.heap.size ≤ g8 from by rw [hg]; exact HF.out.size)
       have e38 : g3 ≠ g8 := by rw [hg]; exact Nat.ne_of_lt (bkL BK3)
       have e48 : g4 ≠ g8 := by rw [hg]; exact Nat.ne_of_lt (bkL BK4)
       have e83 := e38.symm
       have e84 := e48.symm
       clear H1 H2 HF BK3 BK4 c30 c31 c40 c41
       have H1 := n1_
       have H2 := n2_
       have HF := n3_
       have BK3 := n4_
       have BK4 := n5_
       clear n1_ n2_ n3_ n4_ n5_ hb hbox hg
       have c30 : w8.cell? ⟨g3, 0, none⟩ = some (.map (some b1)) := (blk_cell BK3.out 0).trans rfl
       have c31 : w8.cell? ⟨g3, 1, none⟩ = some (.map (some b2)) := (blk_cell BK3.out 1).trans rfl
       have c40 : w8.cell? ⟨g4, 0, none⟩ = some (.int .i64 a) := (blk_cell BK4.out 0).trans rfl
       have c41 : w8.cell? ⟨g4, 1, none⟩ = some (.int .i64 b) := (blk_cell BK4.out 1).trans rfl
       have c80 : w8.cell? ⟨g8, 0, none⟩ = some (.int .i64 0) := (blk_cell BK8.out 0).trans rfl
       have c81 : w8.cell? ⟨g8, 1, none⟩ = some (.int .i64 0) := (blk_cell BK8.out 1).trans rfl
       have z80 := blk_frozen BK8.out 0
       have z81 := blk_frozen BK8.out 1)
    | (at_mapUpdate
       refine wpList_mapUpdate_own _ rfl _ _ _ 68 rfl 3 34 intKeyed Tryz.underlying68 _ b2 n2 D2 rfl ((H2.out.setCell (om_ne H2.out BK8.out).symm _).setCell (om_ne H2.out BK8.out).symm _) HN2.out _ _ _ rfl rfl (intKey wn) _ _ (endR_mk a b) ?_
       intro w33 hm hg
       have n1_ := Aside0.mk (((H1.out.setCell (om_ne H1.out BK8.out).symm _).setCell (om_ne H1.out BK8.out).symm _).kept hg (by simpa using HNE.out))
       have n2_ := Aside0.mk hm
       have n3_ := Aside0.mk (((HF.out.set GE8.out).set GE8.out).two hg)
       clear H1 H2 HF BK3 BK4 BK8 c30 c31 c40 c41 c80 c81 z80 z81 hm hg
       have H1 := n1_
       have H2 := n2_
       have HF := n3_
       clear n1_ n2_ n3_))
  first | go_end0 | ((try simp only [Exit.inBlock, Exit.then]); refine bodyPost_ret (results_none rfl _ _ _) rfl ?_)
  exact ⟨rfl, H1.out, H2.out, HF.out⟩
def Tab (w : World) (l : List S34) (b1 b2 : Nat) : Prop := ∃ n1 n2 D1 D2, w.ownsMap Tryz.prog 34 (plainElem Tryz.prog 3) b1 n1 D1 ∧ w.ownsMap Tryz.prog 3 endR b2 n2 D2 ∧ n1 ≤ l.length ∧ n2 ≤ 2 * l.length ∧ Says1 l D1 ∧ Says2 l D2
def Wf (x : S34) : Prop := I64 x.f0 ∧ I64 x.f1
theorem Tab.kept {w w' : World} {l : List S34} {b1 b2 : Nat} (h : Tab w l b1 b2) (hk : ∀ i, i < w.heap.size → i = b1 ∨ i = b2 → w'.heap[i]? = w.heap[i]?) : Tab w' l b1 b2 := by
  obtain ⟨n1, n2, D1, D2, h1, h2, r⟩ := h
  have l1 := h1.lt
  have l2 := h2.lt
  obtain ⟨es, c, q1, q2⟩ := h1
  obtain ⟨es', c', q1', q2'⟩ := h2
  exact ⟨n1, n2, D1, D2, ⟨es, c, (hk b1 l1 (.inl rfl)).trans q1, q2⟩, ⟨es', c', (hk b2 l2 (.inr rfl)).trans q1', q2'⟩, r⟩
theorem Tab.below {w w' : World} {l : List S34} {b1 b2 : Nat} (h : Tab w l b1 b2) (hb : Below w.heap.size w w') : Tab w' l b1 b2 := h.kept fun i hi _ => hb.block i hi
theorem Tab.ne {w : World} {l : List S34} {b1 b2 g : Nat} {cs : Array Value} {t : TypeId} (h : Tab w l b1 b2) (hg : w.heap[g]? = some (.cells cs t (0, 0))) : g ≠ b1 ∧ g ≠ b2 := by
  obtain ⟨n1, n2, D1, D2, h1, h2, r⟩ := h
  exact ⟨om_ne h1 hg, om_ne h2 hg⟩
theorem Tab.set {w : World} {l : List S34} {b1 b2 g j : Nat} {v : Value} {cs : Array Value} {t : TypeId} (h : Tab w l b1 b2) (hg : w.heap[g]? = some (.cells cs t (0, 0))) : Tab (w.setCell ⟨g, j, none⟩ v) l b1 b2 :=
  h.kept fun i _ hi => heap_setCell_other w ⟨g, j, none⟩ i v (fun e => by
    have := h.ne hg
    simp at e
    rcases hi with rfl | rfl
    · exact this.1 e.symm
    · exact this.2 e.symm)
theorem set_tab (b1 b2 : Nat) (l : List S34) (x : S34) (p : Int) (w : World) (hne : b1 ≠ b2) (hx : Wf x) (hl : l.length < 100000000) (hp : p = 500 + l.length) (h : Tab w l b1 b2) :
    Calls Tryz.prog 87 #[.agg #[.map (some b1), .map (some b2)], .agg #[.int .i64 x.f0, .int .i64 x.f1], .int .i64 p] w fun e w' =>
      e = .returned (.tuple #[]) ∧ (∃ n1 n2 D1 D2, w'.ownsMap Tryz.prog 34 (plainElem Tryz.prog 3) b1 n1 D1 ∧ w'.ownsMap Tryz.prog 3 endR b2 n2 D2 ∧ n1 ≤ l.length + 1 ∧ n2 ≤ 2 * l.length + 1 ∧ Says1 (l ++ [x]) D1 ∧ Says2 (l ++ [x]) D2) ∧ Fr w w' b1 b2 := by
  subst hp
  obtain ⟨n1, n2, D1, D2, h1, h2, hn1, hn2, s1, s2⟩ := h
  have wn : I64 (500 + l.length) := (i64_iff _).mpr (by omega)
  have f2 := says2_has s2 (by omega)
  have s2' := says2_put s2 h2.isMap x (by omega)
  cases hf : Maps.has D1 (eK x.f0 x.f1) with
  | true =>
    refine (set_old b1 b2 n1 n2 D1 D2 x.f0 x.f1 _ hx.1 hx.2 wn w hne h1 h2 (by omega) (by omega) hf f2).mono ?_
    rintro e w' ⟨rfl, k1, k2, k3⟩
    exact ⟨rfl, ⟨_, _, _, _, k1, k2, by omega, by omega, says1_old s1 x hx hf, s2'⟩, k3⟩
  | false =>
    refine (set_new b1 b2 n1 n2 D1 D2 x.f0 x.f1 _ hx.1 hx.2 wn w hne h1 h2 (by omega) (by omega) hf f2).mono ?_
    rintro e w' ⟨rfl, k1, k2, k3⟩
    exact ⟨rfl, ⟨_, _, _, _, k1, k2, by omega, by omega, says1_new s1 h1.isMap x hx hf, s2'⟩, k3⟩
theorem mk_event {P : Program} {w : World} {ops : Array Oper} {rest : List Oper} {o : Oper} {a : Act} {Q : Exit → Act → World → Prop} (hgd : o.guard = none) {N : Tmp} (_hd : o.dst = some N) (t : TypeId) (hop : o.op = Op.makeMap t none)
    (h : ∀ g w1, g = w.heap.size → w1.heap[g]? = some (.map #[] 0) → Below w.heap.size w w1 → wpList P ops Q rest (a.put o.dst (.map (some g))) w1) : wpList P ops Q (o :: rest) a w := by
  refine Kd.event_run hgd (v := .map (some w.heap.size)) (w1 := w.alloc (.map #[] 0)) ?_ (h _ _ rfl (heap_alloc_new w _) (below_alloc (Below.refl _ _) _))
  simp [execOp, hop, run_makeMap, Result.andThen]
theorem tab_made {w : World} {b1 b2 : Nat} (h1 : w.heap[b1]? = some (.map #[] 0)) (h2 : w.heap[b2]? = some (.map #[] 0)) : Tab w [] b1 b2 := by
  have q1 : ∀ (k : TypeId) (R : Value → Option (DataW Unit × List MemPlace)) (b : Nat), w.heap[b]? = some (.map #[] 0) → w.ownsMap Tryz.prog k R b 0 (.map []) := by
    intro k R b hb
    obtain ⟨es, c, z1, z2, z3, z4⟩ := World.ownsMap_made (default : World) Tryz.prog k R
    rw [heap_alloc_new] at z1
    injection z1 with z1
    injection z1 with z1 z1'
    subst z1; subst z1'
    exact ⟨_, _, hb, z2, z3, z4⟩
  exact ⟨0, 0, _, _, q1 _ _ _ h1, q1 _ _ _ h2, Nat.le_refl _, Nat.le_refl _, says1_nil, says2_nil⟩
theorem fr_blk {W w' : World} {b1 b2 g : Nat} {o : Obj} (hF : Fr W w' b1 b2) (h : W.heap[g]? = some o) (n : g ≠ b1 ∧ g ≠ b2) : w'.heap[g]? = some o := (hF.block g (blk_lt h) n.1 n.2).trans h
theorem below_fr {w W w' : World} {b1 b2 : Nat} (h : Below w.heap.size w W) (hF : Fr W w' b1 b2) (h1 : w.heap.size ≤ b1) (h2 : w.heap.size ≤ b2) : Below w.heap.size w w' :=
  ⟨hF.os.trans h.os, hF.tape.trans h.tape, hF.output.trans h.output, Nat.le_trans h.size hF.size, fun i hi => (hF.block i (Nat.lt_of_lt_of_le hi h.size) (by omega) (by omega)).trans (h.block i hi)⟩
theorem rd29_get {l : List S34} {i : Nat} (h : i < l.length) : rd_T34 l (i : Int) = l[i] := by
  unfold rd_T34
  simp [List.getD, h]
theorem map_below {w w' : World} {b : Nat} {o : Obj} (h : w.heap[b]? = some o) (hb : Below w.heap.size w w') : w'.heap[b]? = some o := blk_below h hb
theorem map_ne {w : World} {b g : Nat} {cs : Array Value} {t : TypeId} (h : w.heap[b]? = some (.map #[] 0)) (hg : w.heap[g]? = some (.cells cs t (0, 0))) : g ≠ b := by
  rintro rfl
  rw [h] at hg
  cases hg
set_option maxHeartbeats 8000000 in
set_option maxRecDepth 100000 in
theorem portsOf_walk (A : Option Addr) (c : Nat) (l : List S34) (w : World) (hr : Kd.C k34 w A l.length l) (hc : l.length ≤ c) (hl : l.length < 1000000) (hw : ∀ x ∈ l, Wf x) :
    Calls Tryz.prog 55 #[.agg #[.slice A l.length c]] w fun e w' => ∃ b1 b2, e = .returned (.agg #[.map (some b1), .map (some b2)]) ∧ Tab w' l b1 b2 ∧ Below w.heap.size w w' := by
  have HR := Aside0.mk hr
  have HW := Aside0.mk hw
  have HL := Aside0.mk hl
  clear hr hw hl hc
  have HB := Aside0.mk (Below.refl w.heap.size w)
  go_enter Tryz.func55, Tryz.ntmps55
  go_wp2_with (first
    | ((with_reducible refine gate_dst (N := 1) rfl ?_)
       refine box_event ?hg (N := 1) ?hd (cs := #[.slice A l.length c]) (t := 25) ?hr ?_
       (case hd => rfl)
       (case hg => rfl)
       (case hr => first | (go_simp; done) | (go_simp; rfl))
       intro g1 hg w3 hbox hb
       have n1_ := Aside0.mk (below_step (bl HB) hb)
       have G1 := Aside0.mk (show w.heap.size ≤ g1 from by rw [hg]; exact below_size (bl HB))
       have BK1 := Aside0.mk hbox
       clear HB
       have HB := n1_
       clear n1_ hg hbox hb)
    | ((with_reducible refine gate_dst (N := 2) rfl ?_)
       refine box_event ?hg (N := 2) ?hd (cs := #[.map none, .map none]) (t := 70) ?hr ?_
       (case hd => rfl)
       (case hg => rfl)
       (case hr => first | (go_simp; done) | (go_simp; rfl))
       intro g2 hg w4 hbox hb
       have n1_ := Aside0.mk (below_step (bl HB) hb)
       have n2_ := bkB BK1 hb
       have G2 := Aside0.mk (show w.heap.size ≤ g2 from by rw [hg]; exact below_size (bl HB))
       have E12 := Aside0.mk (show g1 ≠ g2 from by rw [hg]; exact Nat.ne_of_lt (bkL BK1))
       have BK2 := Aside0.mk hbox
       clear HB BK1
       have HB := n1_
       have BK1 := n2_
       clear n1_ n2_ hg hbox hb)
    | ((with_reducible refine gate_dst (N := 6) rfl ?_)
       refine mk_event ?hg (N := 6) ?hd _ rfl ?_
       (case hd => rfl)
       (case hg => rfl)
       intro b1 w5 hg hbox hb
       have n1_ := Aside0.mk (below_step (bl HB) hb)
       have n2_ := bkB BK1 hb
       have n3_ := bkB BK2 hb
       have GM1 := Aside0.mk (show w.heap.size ≤ b1 from by rw [hg]; exact below_size (bl HB))
       have MK1 := Aside0.mk hbox
       clear HB BK1 BK2
       have HB := n1_
       have BK1 := n2_
       have BK2 := n3_
       clear n1_ n2_ n3_ hg hbox hb)
    | ((with_reducible refine gate_dst (N := 7) rfl ?_)
       refine mk_event ?hg (N := 7) ?hd _ rfl ?_
       (case hd => rfl)
       (case hg => rfl)
       intro b2 w6 hg hbox hb
       have n1_ := Aside0.mk (below_step (bl HB) hb)
       have n2_ := bkB BK1 hb
       have n3_ := bkB BK2 hb
       have n4_ := bkB MK1 hb
       have GM2 := Aside0.mk (show w.heap.size ≤ b2 from by rw [hg]; exact below_size (bl HB))
       have HNE := Aside0.mk (show b1 ≠ b2 from by rw [hg]; exact Nat.ne_of_lt (bkL MK1))
       have MK2 := Aside0.mk hbox
       clear HB BK1 BK2 MK1
       have HB := n1_
       have BK1 := n2_
       have BK2 := n3_
       have MK1 := n4_
       clear n1_ n2_ n3_ n4_ hg hbox hb)
    | ((with_reducible refine gate_dst (N := 3) rfl ?_)
       refine box_event ?hg (N := 3) ?hd (cs := #[.map none, .map none]) (t := 70) ?hr ?_
       (case hd => rfl)
       (case hg => rfl)
       (case hr => first | (go_simp; done) | (go_simp; rfl))
       intro g3 hg w7 hbox hb
       have n1_ := Aside0.mk (below_step (bl HB) hb)
       have n2_ := bkB BK1 hb
       have n3_ := bkB BK2 hb
       have n4_ := bkB MK1 hb
       have n5_ := bkB MK2 hb
       have G3 := Aside0.mk (show w.heap.size ≤ g3 from by rw [hg]; exact below_size (bl HB))
       have e13 : g1 ≠ g3 := by rw [hg]; exact Nat.ne_of_lt (bkL BK1)
       have e31 := e13.symm
       have E23 := Aside0.mk (show g2 ≠ g3 from by rw [hg]; exact Nat.ne_of_lt (bkL BK2))
       have BK3 := Aside0.mk hbox
       clear HB BK1 BK2 MK1 MK2
       have HB := n1_
       have BK1 := n2_
       have BK2 := n3_
       have MK1 := n4_
       have MK2 := n5_
       clear n1_ n2_ n3_ n4_ n5_ hg hbox hb
       have c10 : w7.cell? ⟨g1, 0, none⟩ = some (.slice A l.length c) := (blk_cell BK1.out 0).trans rfl
       have c30 : w7.cell? ⟨g3, 0, none⟩ = some (.map none) := (blk_cell BK3.out 0).trans rfl
       have c31 : w7.cell? ⟨g3, 1, none⟩ = some (.map none) := (blk_cell BK3.out 1).trans rfl
       have z30 := blk_frozen BK3.out 0
       have z31 := blk_frozen BK3.out 1))
  have n1_ : Aside0 (((w7.setCell ⟨g3, 0, none⟩ (.map (some b1))).setCell ⟨g3, 1, none⟩ (.map (some b2))).heap[g1]? = some (.cells #[.slice A l.length c] 25 (0, 0))) := ⟨blk_far (blk_far BK1.out e13 _) e13 _⟩
  have n2_ : Aside0 (((w7.setCell ⟨g3, 0, none⟩ (.map (some b1))).setCell ⟨g3, 1, none⟩ (.map (some b2))).heap[g2]? = some (.cells #[.map none, .map none] 70 (0, 0))) := ⟨blk_far (blk_far BK2.out E23.out _) E23.out _⟩
  have n3_ : Aside0 (((w7.setCell ⟨g3, 0, none⟩ (.map (some b1))).setCell ⟨g3, 1, none⟩ (.map (some b2))).heap[g3]? = some (.cells #[.map (some b1), .map (some b2)] 70 (0, 0))) := ⟨by
    have z := blk_set (blk_set BK3.out 0 (.map (some b1))) 1 (.map (some b2))
    simpa using z⟩
  have n4_ : Aside0 (Tab ((w7.setCell ⟨g3, 0, none⟩ (.map (some b1))).setCell ⟨g3, 1, none⟩ (.map (some b2))) (l.take 0) b1 b2) := ⟨by
    have z := (tab_made MK1.out MK2.out).set (j := 0) (v := .map (some b1)) BK3.out
    exact z.set (j := 1) (v := .map (some b2)) (blk_set BK3.out 0 (.map (some b1)))⟩
  have n5_ : Aside0 (Below w.heap.size w ((w7.setCell ⟨g3, 0, none⟩ (.map (some b1))).setCell ⟨g3, 1, none⟩ (.map (some b2)))) := ⟨below_set (below_set HB.out G3.out) G3.out⟩
  clear c10 c30 c31 z30 z31 BK1 BK2 BK3 MK1 MK2 HB
  generalize (w7.setCell ⟨g3, 0, none⟩ (.map (some b1))).setCell ⟨g3, 1, none⟩ (.map (some b2)) = w8 at n1_ n2_ n3_ n4_ n5_ ⊢
  go_loopg [12] l.length (fun kq v12 w' => ∃ (x : Int) (m : Nat), v12 = .int .i64 x ∧ Aside0 (x = m) ∧ Aside0 (m + kq = l.length) ∧ Aside0 (w'.heap[g1]? = some (.cells #[.slice A l.length c] 25 (0, 0))) ∧ Aside0 (w'.heap[g2]? = some (.cells #[.map none, .map none] 70 (0, 0))) ∧ Aside0 (w'.heap[g3]? = some (.cells #[.map (some b1), .map (some b2)] 70 (0, 0))) ∧ Aside0 (Tab w' (l.take m) b1 b2) ∧ Aside0 (Below w.heap.size w w'))
  case atStart => exact ⟨0, 0, (by first | rfl | (simp; done)), ⟨rfl⟩, ⟨by omega⟩, n1_, n2_, n3_, n4_, n5_⟩
  case round =>
    clear n1_ n2_ n3_ n4_ n5_
    obtain ⟨x, m, rfl, HX, HM, BK1, BK2, BK3, HT, HB⟩ := hrel
    cases gk with
    | zero =>
      have hm : m = l.length := by have := HM.out; omega
      have HE := Aside0.mk hm
      have c0 : decide (x < (l.length : Int)) = false := by have := HX.out; simp; omega
      clear hm
      have c30 : wr.cell? ⟨g3, 0, none⟩ = some (.map (some b1)) := (blk_cell BK3.out 0).trans rfl
      have c31 : wr.cell? ⟨g3, 1, none⟩ = some (.map (some b2)) := (blk_cell BK3.out 1).trans rfl
      have c20 : wr.cell? ⟨g2, 0, none⟩ = some (.map none) := (blk_cell BK2.out 0).trans rfl
      have c21 : wr.cell? ⟨g2, 1, none⟩ = some (.map none) := (blk_cell BK2.out 1).trans rfl
      have z20 := blk_frozen BK2.out 0
      have z21 := blk_frozen BK2.out 1
      go_wp2
      refine bodyPost_ret (results_cell_row rfl _ _ g2 70 #[.map (some b1), .map (some b2)] (0, 0) _ rfl (by (with_reducible repeat refine bu ?_); refine blk_put (cs := #[.map (some b1), .map none]) ?_ 1 _ rfl; (with_reducible repeat refine bu ?_); refine blk_put (cs := #[.map none, .map none]) ?_ 0 _ rfl; (with_reducible repeat refine bu ?_); exact BK2.out) Tryz.underlying70 rfl (by kernel_rfl)) rfl ?_
      refine ⟨b1, b2, rfl, ?_, below_set (below_set HB.out G2.out) G2.out⟩
      have z := HT.out
      rw [HE.out, List.take_length] at z
      exact (z.set BK2.out).set (blk_set BK2.out 0 (.map (some b1)))
    | succ k1 =>
      have hm : m < l.length := by have := HM.out; omega
      have hx0 : (0 : Int) ≤ x := by have := HX.out; omega
      have hx1 : x < (l.length : Int) := by have := HX.out; omega
      have c0 : decide (x < (l.length : Int)) = true := decide_eq_true hx1
      obtain ⟨ad, e_, hc0, hc1⟩ := at_T34 (Kd.C_below HR.out HB.out) x hx0 hx1
      cases e_
      have WX := Aside0.mk (show Wf (rd_T34 l x) from by rw [HX.out, rd29_get hm]; exact HW.out _ (List.getElem_mem hm))
      have HTK := Aside0.mk (show l.take (m + 1) = l.take m ++ [rd_T34 l x] from by rw [HX.out, rd29_get hm]; exact List.take_succ_eq_append_getElem hm)
      have MM := Aside0.mk hm
      obtain ⟨p, hp⟩ : ∃ p : Int, p = 500 + ((l.take m).length : Int) := ⟨_, rfl⟩
      have hpw : IntKind.i64.wrap (500 + x) = p := by
        have := HX.out
        have hl' := HL.out
        rw [i64_w, hp, List.length_take]
        unfold wrap64
        omega
      have HP := Aside0.mk hp
      have HLT := Aside0.mk (show (l.take m).length < 100000000 from by have := HL.out; rw [List.length_take]; omega)
      clear hp hm
      replace hx0 := eq_true hx0
      replace hx1 := eq_true hx1
      go_wp2_with (first
        | ((with_reducible refine gate_dst (N := 5) rfl ?_)
           refine box_event ?hg (N := 5) ?hd (cs := #[.int .i64 0, .int .i64 0]) (t := 34) ?hr ?_
           (case hd => rfl)
           (case hg => rfl)
           (case hr => first | (go_simp; done) | (go_simp; rfl))
           intro g5 hg w9 hbox hb
           have n1_ := Aside0.mk (below_step (bl HB) hb)
           have n2_ := bkB BK1 hb
           have n3_ := bkB BK2 hb
           have n4_ := bkB BK3 hb
           have n5_ := Aside0.mk (Tab.below HT.out (w' := w9) hb)
           have G5 := Aside0.mk (show w.heap.size ≤ g5 from by rw [hg]; exact below_size (bl HB))
           have e15 : g1 ≠ g5 := by rw [hg]; exact Nat.ne_of_lt (bkL BK1)
           have e25 : g2 ≠ g5 := by rw [hg]; exact Nat.ne_of_lt (bkL BK2)
           have e35 : g3 ≠ g5 := by rw [hg]; exact Nat.ne_of_lt (bkL BK3)
           have e53 := e35.symm
           have BK5 := Aside0.mk hbox
           clear HB BK1 BK2 BK3 HT
           have HB := n1_
           have BK1 := n2_
           have BK2 := n3_
           have BK3 := n4_
           have HT := n5_
           clear n1_ n2_ n3_ n4_ n5_ hg hbox hb
           have c30 : w9.cell? ⟨g3, 0, none⟩ = some (.map (some b1)) := (blk_cell BK3.out 0).trans rfl
           have c31 : w9.cell? ⟨g3, 1, none⟩ = some (.map (some b2)) := (blk_cell BK3.out 1).trans rfl
           have c50 : w9.cell? ⟨g5, 0, none⟩ = some (.int .i64 0) := (blk_cell BK5.out 0).trans rfl
           have c51 : w9.cell? ⟨g5, 1, none⟩ = some (.int .i64 0) := (blk_cell BK5.out 1).trans rfl
           have z50 := blk_frozen BK5.out 0
           have z51 := blk_frozen BK5.out 1)
        | ((with_reducible refine gate_callee (f := 87) rfl ?_)
           refine goesL_ _ rfl rfl Tryz.func87 (by kernel_rfl) rfl #[.agg #[.map (some b1), .map (some b2)], .agg #[.int .i64 ((rd_T34 l x).f0), .int .i64 ((rd_T34 l x).f1)], .int .i64 p] rfl (by (try simp only [List.map_toArray, List.map_cons, List.map_nil]); first | done | rfl) ?_
           (with_reducible refine (set_tab b1 b2 (l.take m) (rd_T34 l x) p _ HNE.out WX.out HLT.out HP.out ?side).mono ?_)
           (case side => exact (HT.out.set BK5.out).set (blk_set BK5.out 0 (.int .i64 ((rd_T34 l x).f0))))
           rintro e w10 ⟨rfl, hT, hF⟩
           refine ⟨_, rfl, ?_⟩
           have n1_ := Aside0.mk (fr_blk hF (blk_far (blk_far BK1.out e15 _) e15 _) (HT.out.ne BK1.out))
           have n2_ := Aside0.mk (fr_blk hF (blk_far (blk_far BK2.out e25 _) e25 _) (HT.out.ne BK2.out))
           have n3_ := Aside0.mk (fr_blk hF (blk_far (blk_far BK3.out e35 _) e35 _) (HT.out.ne BK3.out))
           have n5_ : Aside0 (w10.heap[g5]? = some (.cells #[.int .i64 ((rd_T34 l x).f0), .int .i64 ((rd_T34 l x).f1)] 34 (0, 0))) := ⟨fr_blk hF (by
             have z := blk_set (blk_set BK5.out 0 (.int .i64 ((rd_T34 l x).f0))) 1 (.int .i64 ((rd_T34 l x).f1))
             simpa using z) (HT.out.ne BK5.out)⟩
           have n6_ := Aside0.mk (below_fr (below_set (below_set HB.out G5.out) G5.out) hF GM1.out GM2.out)
           have HT2 := Aside0.mk hT
           clear HT HB BK1 BK2 BK3 BK5 c30 c31 c50 c51 z50 z51 hT hF
           have BK1 := n1_
           have BK2 := n2_
           have BK3 := n3_
           have BK5 := n5_
           have HB := n6_
           clear n1_ n2_ n3_ n5_ n6_
           have c30 : w10.cell? ⟨g3, 0, none⟩ = some (.map (some b1)) := (blk_cell BK3.out 0).trans rfl
           have c31 : w10.cell? ⟨g3, 1, none⟩ = some (.map (some b2)) := (blk_cell BK3.out 1).trans rfl
           have c50 : w10.cell? ⟨g5, 0, none⟩ = some (.int .i64 ((rd_T34 l x).f0)) := (blk_cell BK5.out 0).trans rfl
           have c51 : w10.cell? ⟨g5, 1, none⟩ = some (.int .i64 ((rd_T34 l x).f1)) := (blk_cell BK5.out 1).trans rfl
           obtain ⟨n1, n2, D1, D2, h1, h2, hn1, hn2, s1, s2⟩ := HT2.out
           clear HT2
           have M1 := Aside0.mk h1
           have M2 := Aside0.mk h2
           have N1 := Aside0.mk hn1
           have N2 := Aside0.mk hn2
           have S1 := Aside0.mk s1
           have S2 := Aside0.mk s2
           clear h1 h2 hn1 hn2 s1 s2)
        | (at_mapUpdate
           refine wpList_mapUpdate_own _ rfl _ _ _ 68 rfl 3 34 intKeyed Tryz.underlying68 _ b2 n2 D2 rfl M2.out (by have := N2.out; have := HLT.out; simp only [maxLen]; omega) _ _ _ rfl rfl (intKey ((i64_iff _).mpr (by have := HP.out; have := HLT.out; omega))) _ _ (endR_mk _ _) ?_
           intro w33 hm hg
           have F : Fr w10 w33 b1 b2 := Fr.two (Fr.refl _ _ _) hg
           have TN : ∀ {g : Nat} {cs : Array Value} {t : TypeId}, w10.heap[g]? = some (.cells cs t (0, 0)) → g ≠ b1 ∧ g ≠ b2 := fun hg => ⟨om_ne M1.out hg, om_ne M2.out hg⟩
           have n1_ := Aside0.mk (fr_blk F BK1.out (TN BK1.out))
           have n2_ := Aside0.mk (fr_blk F BK2.out (TN BK2.out))
           have n3_ := Aside0.mk (fr_blk F BK3.out (TN BK3.out))
           have n6_ := Aside0.mk (below_fr HB.out F GM1.out GM2.out)
           have n7_ : Aside0 (Tab w33 (l.take (m + 1)) b1 b2) := ⟨by
             rw [HTK.out]
             refine ⟨n1, n2 + 1, D1, _, M1.out.kept hg (by simpa using HNE.out), hm, by have := N1.out; simp only [List.length_append, List.length_cons, List.length_nil]; omega, by have := N2.out; simp only [List.length_append, List.length_cons, List.length_nil]; omega, S1.out, ?_⟩
             rw [HP.out]
             exact says2_again S2.out M2.out.isMap (by have := HLT.out; omega)⟩
           clear HB BK1 BK2 BK3 BK5 c30 c31 c50 c51 M1 M2 N1 N2 S1 S2 hm hg F TN
           have BK1 := n1_
           have BK2 := n2_
           have BK3 := n3_
           have HB := n6_
           have HT := n7_
           clear n1_ n2_ n3_ n6_ n7_))
      go_roundg k1
      case measure => omega
      case rel => exact ⟨x + 1, m + 1, (by
        have := HX.out
        have := HL.out
        have := MM.out
        have e : wrap64 (x + 1) = x + 1 := by unfold wrap64; omega
        simp only [i64_w, e]), ⟨by have := HX.out; push_cast; omega⟩, ⟨by have := HM.out; omega⟩, BK1, BK2, BK3, HT, HB⟩
def wfB (n : Int) : Bool := (Lit.int .i64 n).wf
def wfE (x : S34) : Bool := wfB x.f0 && wfB x.f1
def portV (l : List S34) (a b : Int) : Int := match fnd l a b with | none => 0 | some i => 500 + i
def impl_MapPort.f (l : List S34) (a b : Int) : Option Int := if l.length < 1000000 ∧ l.all wfE = true ∧ wfB a = true ∧ wfB b = true then some (portV l a b) else none
def endV (l : List S34) (n : Int) : Option S34 := if 500 ≤ n then l[(n - 500).toNat]? else none
def impl_MapEnd.f (l : List S34) (n : Int) : Option (Int × Int × Bool) := if l.length < 1000000 ∧ l.all wfE = true ∧ wfB n = true then some (match endV l n with | none => (0, 0, false) | some x => (x.f0, x.f1, true)) else none
theorem wf_all {l : List S34} (h : l.all wfE = true) : ∀ x ∈ l, Wf x := by
  intro x hx
  have := List.all_eq_true.mp h x hx
  simp only [wfE, wfB, Bool.and_eq_true] at this
  exact this
theorem mapEnd_hit {l : List S34} {D : DataW Unit} {n xa xb r1 r2 : Int} {r3 : Bool} {ps : List MemPlace} (s : Says2 l D) (wn : I64 n) (hx : (D.atKey (.int .i64 n) (endD 0 0), ps).1 = endD xa xb)
    (q : (match endV l n with | none => (0, 0, false) | some x => (x.f0, x.f1, true)) = (r1, r2, r3)) : xa = r1 ∧ xb = r2 ∧ Maps.has D (.int .i64 n) = r3 := by
  have z := s n wn
  have hx' : D.atKey (.int .i64 n) (endD 0 0) = endD xa xb := hx
  unfold endV at q
  cases hm : (if 500 ≤ n then l[(n - 500).toNat]? else none) with
  | none =>
    rw [hm] at q
    have z' : ∀ y, D.atKey (.int .i64 n) y = y := fun y => by rw [z y, hm]
    rw [z'] at hx'
    obtain ⟨e1, e2⟩ := endD_inj hx'
    simp at q
    exact ⟨by omega, by omega, by rw [Maps.has_false_of_atKey z']; exact q.2.2.symm⟩
  | some x =>
    rw [hm] at q
    have z' : ∀ y, D.atKey (.int .i64 n) y = endD x.f0 x.f1 := fun y => by rw [z y, hm]
    rw [z'] at hx'
    obtain ⟨e1, e2⟩ := endD_inj hx'
    simp at q
    exact ⟨by omega, by omega, by rw [Maps.has_true_of_atKey z']; exact q.2.2.symm⟩
theorem field0 (b1 b2 : Nat) (w : World) : (Instr.field 70 (.agg #[.map (some b1), .map (some b2)]) 0).run Tryz.prog w = .ok (.map (some b1)) w := by kernel_rfl
theorem field1 (b1 b2 : Nat) (w : World) : (Instr.field 70 (.agg #[.map (some b1), .map (some b2)]) 1).run Tryz.prog w = .ok (.map (some b2)) w := by kernel_rfl
set_option maxHeartbeats 8000000 in
set_option maxRecDepth 100000 in
theorem impl_MapPort.calls (A0_0 : Option Addr) (c0_0 : Nat) (l0_0 : List (S34)) (a1_0 : Int) (a1_1 : Int) (r : Int) (w : World) (hr0_0 : Kd.C k34 w A0_0 l0_0.length l0_0) (hc0_0 : l0_0.length ≤ c0_0) (h : impl_MapPort.f l0_0 a1_0 a1_1 = some r) :
    Calls Tryz.prog 23 #[.agg #[.slice A0_0 l0_0.length c0_0], .agg #[.int .i64 a1_0, .int .i64 a1_1]] w fun e w' => e = .returned (.int .i64 r) ∧ Below w.heap.size w w' := by
  unfold impl_MapPort.f at h
  by_cases hq : l0_0.length < 1000000 ∧ l0_0.all wfE = true ∧ wfB a1_0 = true ∧ wfB a1_1 = true
  · rw [if_pos hq] at h
    have HP := Aside0.mk (Option.some.inj h)
    have HQ := Aside0.mk hq
    have HR := Aside0.mk hr0_0
    have HC := Aside0.mk hc0_0
    clear h hq hr0_0 hc0_0
    have HB := Aside0.mk (Below.refl w.heap.size w)
    have hu1 := Tryz.underlying70
    have hu2 := Tryz.underlying25
    have hu3 := Tryz.underlying34
    go_enter Tryz.func23, Tryz.ntmps23
    go_upto_region 1 with (first
      | ((with_reducible refine gate_dst (N := 2) rfl ?_)
         refine box_event ?hg (N := 2) ?hd (cs := #[.slice A0_0 l0_0.length c0_0]) (t := 25) ?hr ?_
         (case hd => rfl)
         (case hg => rfl)
         (case hr => first | (go_simp; done) | (go_simp; rfl))
         intro g2 hg w3 hbox hb
         have n1_ := Aside0.mk (below_step (bl HB) hb)
         have BK2 := Aside0.mk hbox
         clear HB
         have HB := n1_
         clear n1_ hg hbox hb)
      | ((with_reducible refine gate_dst (N := 3) rfl ?_)
         refine box_event ?hg (N := 3) ?hd (cs := #[.int .i64 a1_0, .int .i64 a1_1]) (t := 34) ?hr ?_
         (case hd => rfl)
         (case hg => rfl)
         (case hr => first | (go_simp; done) | (go_simp; rfl))
         intro g3 hg w4 hbox hb
         have n1_ := Aside0.mk (below_step (bl HB) hb)
         have n2_ := bkB BK2 hb
         have BK3 := Aside0.mk hbox
         clear HB BK2
         have HB := n1_
         have BK2 := n2_
         clear n1_ n2_ hg hbox hb))
    (try simp only [Act.put, List.setIfInBounds_toArray, List.set_cons_zero, List.set_cons_succ])
    have n1_ := Aside0.mk (blk_drew BK2.out)
    have n2_ := Aside0.mk (blk_drew BK3.out)
    have n3_ := Aside0.mk (below_drew1 HB.out)
    clear BK2 BK3 HB
    have BK2 := n1_
    have BK3 := n2_
    have HB := n3_
    clear n1_ n2_ n3_
    refine start_ (n := 6) (S := fun w' => w'.cell? ⟨g2, 0, none⟩ = some (.slice A0_0 l0_0.length c0_0) ∧ w'.cell? ⟨g3, 0, none⟩ = some (.int .i64 a1_0) ∧ w'.cell? ⟨g3, 1, none⟩ = some (.int .i64 a1_1)) (ds := []) #[false, false, false, false, false, false] (by kernel_rfl) rfl rfl ⟨(blk_cell BK2.out 0).trans rfl, (blk_cell BK3.out 0).trans rfl, (blk_cell BK3.out 1).trans rfl⟩ (fun hHeld => ?_)
    generalize w4.drew = w5 at BK2 BK3 HB hHeld ⊢
    refine take_ (i := 0) (N := some 5) (v := ?_) (a' := ?_) #[true, false, false, false, false, false] rfl rfl (by kernel_rfl) (fun _ _ _ h => h) (Or.inl ⟨by rfl, ?_⟩) hHeld ?_ ?_
    rotate_left
    · rintro w' ⟨s0, s1, s2⟩
      go_simp
      with_reducible rfl
    rotate_left
    · simp only [Act.put, List.setIfInBounds_toArray, List.set_cons_zero, List.set_cons_succ, i64_w, i32_w]
      rfl
    refine take_ (i := 3) (N := some 8) (v := ?_) (a' := ?_) #[true, false, false, true, false, false] rfl rfl (by kernel_rfl) (fun _ _ _ h => h) (Or.inl ⟨by rfl, ?_⟩) hHeld ?_ ?_
    rotate_left
    · rintro w' ⟨s0, s1, s2⟩
      go_simp
      with_reducible rfl
    rotate_left
    · simp only [Act.put, List.setIfInBounds_toArray, List.set_cons_zero, List.set_cons_succ, i64_w, i32_w]
      rfl
    refine one_ (i := 1) (N := some 6) #[true, true, false, true, false, false] rfl rfl (by kernel_rfl) (by decide) (fun K hK => ?_)
    refine goes_ Tryz.func55 (by kernel_rfl) rfl #[.agg #[.slice A0_0 l0_0.length c0_0]] (by rfl) rfl rfl (by (try simp only [List.map_toArray, List.map_cons, List.map_nil]); first | done | rfl) ?_
    with_reducible refine (portsOf_walk A0_0 c0_0 l0_0 _ (Kd.C_below HR.out HB.out) HC.out HQ.out.1 (wf_all HQ.out.2.1)).mono ?_
    rintro e w6 ⟨b1, b2, rfl, hT, hb⟩
    refine ⟨_, rfl, ?_⟩
    have n1_ := bkB BK2 hb
    have n2_ := bkB BK3 hb
    have n3_ := Aside0.mk (below_step HB.out hb)
    clear BK2 BK3 HB
    have BK2 := n1_
    have BK3 := n2_
    have HB := n3_
    have HT := Aside0.mk hT
    clear n1_ n2_ n3_ hT hb
    refine hK.out _ _ ⟨(blk_cell BK2.out 0).trans rfl, (blk_cell BK3.out 0).trans rfl, (blk_cell BK3.out 1).trans rfl⟩ (fun hHeld => ?_)
    clear hK K
    refine norm_ (a' := ?_) ?_ ?_
    rotate_left
    · show Act.put _ (some 6) _ = _
      simp only [Act.put, List.setIfInBounds_toArray, List.set_cons_zero, List.set_cons_succ, i64_w, i32_w]
      rfl
    refine pure_ (i := 2) (N := some 7) (v := ?_) (a' := ?_) #[true, true, true, true, false, false] rfl rfl (by kernel_rfl) (fun _ _ _ h => h) (Or.inl ⟨by rfl, ?_⟩) ?_ ?_
    rotate_left
    · intro w'
      have hf := field0 b1 b2
      go_simp
      with_reducible rfl
    rotate_left
    · simp only [Act.put, List.setIfInBounds_toArray, List.set_cons_zero, List.set_cons_succ, i64_w, i32_w]
      rfl
    refine one_ (i := 4) (N := some 9) #[true, true, true, true, true, false] rfl rfl (by kernel_rfl) (by decide) (fun K hK => ?_)
    obtain ⟨n1, n2, D1, D2, h1, h2, _, _, s1, s2⟩ := HT.out
    obtain ⟨c, hrun, hat, hwc⟩ := h1.lookup_int endKeyed Tryz.underlying67 Tryz.underlying3 (zero3 _) (endKey HQ.out.2.2.1 HQ.out.2.2.2)
    have hc : c = r := by
      rw [s1 _ _ HQ.out.2.2.1 HQ.out.2.2.2] at hat
      rw [← HP.out]
      unfold portV
      cases hf : fnd l0_0 a1_0 a1_1 <;> rw [hf] at hat <;> simp at hat <;> simp [hat]
    subst hc
    rw [if_pos (by rfl)]
    unfold Oper.wp
    simp [execOp, Act.eval, hrun, Result.andThen]
    refine hK.out _ _ ⟨(blk_cell BK2.out 0).trans rfl, (blk_cell BK3.out 0).trans rfl, (blk_cell BK3.out 1).trans rfl⟩ (fun hHeld => ?_)
    clear hK K
    refine norm_ (a' := ?_) ?_ ?_
    rotate_left
    · show Act.put _ (some 9) _ = _
      simp only [Act.put, List.setIfInBounds_toArray, List.set_cons_zero, List.set_cons_succ, i64_w, i32_w]
      rfl
    refine pure_ (i := 5) (N := some 4) (v := ?_) (a' := ?_) #[true, true, true, true, true, true] rfl rfl (by kernel_rfl) (fun _ _ _ h => h) (Or.inl ⟨by rfl, ?_⟩) ?_ ?_
    rotate_left
    · intro w'
      go_simp
      with_reducible rfl
    rotate_left
    · simp only [Act.put, List.setIfInBounds_toArray, List.set_cons_zero, List.set_cons_succ, i64_w, i32_w]
      rfl
    refine done_ (by kernel_rfl) ?_
    go_wp2
    go_ret
    exact ⟨rfl, HB.out⟩
  · rw [if_neg hq] at h
    cases h
set_option maxHeartbeats 8000000 in
set_option maxRecDepth 100000 in
theorem impl_MapEnd.calls (A0_0 : Option Addr) (c0_0 : Nat) (l0_0 : List (S34)) (a1 : Int) (r1 : Int) (r2 : Int) (r3 : Bool) (w : World) (hr0_0 : Kd.C k34 w A0_0 l0_0.length l0_0) (hc0_0 : l0_0.length ≤ c0_0) (h : impl_MapEnd.f l0_0 a1 = some (r1, r2, r3)) :
    Calls Tryz.prog 94 #[.agg #[.slice A0_0 l0_0.length c0_0], .int .i64 a1] w fun e w' => e = .returned (.tuple #[.agg #[.int .i64 r1, .int .i64 r2], .bool r3]) ∧ Below w.heap.size w w' := by
  unfold impl_MapEnd.f at h
  by_cases hq : l0_0.length < 1000000 ∧ l0_0.all wfE = true ∧ wfB a1 = true
  · rw [if_pos hq] at h
    have HP := Aside0.mk (Option.some.inj h)
    have HQ := Aside0.mk hq
    have HR := Aside0.mk hr0_0
    have HC := Aside0.mk hc0_0
    clear h hq hr0_0 hc0_0
    have HB := Aside0.mk (Below.refl w.heap.size w)
    have hu1 := Tryz.underlying70
    have hu2 := Tryz.underlying25
    have hu3 := Tryz.underlying34
    have hfl := field1
    go_enter Tryz.func94, Tryz.ntmps94
    go_wp2_with (first
      | ((with_reducible refine gate_dst (N := 2) rfl ?_)
         refine box_event ?hg (N := 2) ?hd (cs := #[.slice A0_0 l0_0.length c0_0]) (t := 25) ?hr ?_
         (case hd => rfl)
         (case hg => rfl)
         (case hr => first | (go_simp; done) | (go_simp; rfl))
         intro g2 hg w3 hbox hb
         have n1_ := Aside0.mk (below_step (bl HB) hb)
         have BK2 := Aside0.mk hbox
         clear HB
         have HB := n1_
         clear n1_ hg hbox hb
         have c20 : w3.cell? ⟨g2, 0, none⟩ = some (.slice A0_0 l0_0.length c0_0) := (blk_cell BK2.out 0).trans rfl)
      | ((with_reducible refine gate_dst (N := 4) rfl ?_)
         refine box_event ?hg (N := 4) ?hd (cs := #[.int .i64 0, .int .i64 0]) (t := 34) ?hr ?_
         (case hd => rfl)
         (case hg => rfl)
         (case hr => first | (go_simp; done) | (go_simp; rfl))
         intro g4 hg w4 hbox hb
         have n1_ := Aside0.mk (below_step (bl HB) hb)
         have n2_ := bkB BK2 hb
         have G4 := Aside0.mk (show w.heap.size ≤ g4 from by rw [hg]; exact below_size (bl HB))
         have BK4 := Aside0.mk hbox
         clear HB BK2 c20
         have HB := n1_
         have BK2 := n2_
         clear n1_ n2_ hg hbox hb
         have c20 : w4.cell? ⟨g2, 0, none⟩ = some (.slice A0_0 l0_0.length c0_0) := (blk_cell BK2.out 0).trans rfl)
      | ((with_reducible refine gate_callee (f := 55) rfl ?_)
         refine goesL_ _ rfl rfl Tryz.func55 (by kernel_rfl) rfl #[.agg #[.slice A0_0 l0_0.length c0_0]] rfl (by (try simp only [List.map_toArray, List.map_cons, List.map_nil]); first | done | rfl) ?_
         (with_reducible refine (portsOf_walk A0_0 c0_0 l0_0 _ (Kd.C_below HR.out HB.out) HC.out HQ.out.1 (wf_all HQ.out.2.1)).mono ?_)
         rintro e w6 ⟨b1, b2, rfl, hT, hb⟩
         refine ⟨_, rfl, ?_⟩
         have n1_ := bkB BK4 hb
         have n3_ := Aside0.mk (below_step (bl HB) hb)
         clear BK2 BK4 HB c20
         have BK4 := n1_
         have HB := n3_
         obtain ⟨n1, n2, D1, D2, h1, h2, _, _, s1, s2⟩ := hT
         have M2 := Aside0.mk h2
         have S2 := Aside0.mk s2
         clear n1_ n3_ hb h1 h2 s1 s2)
      | ((with_reducible refine gate_dst (N := 13) rfl ?_)
         at_lookup
         refine wpList_lookup_own_ok _ rfl _ _ 68 rfl 3 34 intKeyed Tryz.underlying68 _ (zeroEnd _) (endD 0 0) [] (endR_mk 0 0) b2 n2 D2 rfl M2.out _ _ rfl (intKey HQ.out.2.2) ?_
         intro v13 ps13 hv13
         obtain ⟨xa, xb, rfl, hx⟩ := endR_inv hv13
         have hh := mapEnd_hit S2.out HQ.out.2.2 hx HP.out
         obtain ⟨rfl, rfl, hh3⟩ := hh
         rw [hh3]
         clear hv13 hx hh3)
      | ((with_reducible refine gate_dst (N := 6) rfl ?_)
         refine box_event ?hg (N := 6) ?hd (cs := #[.int .i64 0, .int .i64 0]) (t := 34) ?hr ?_
         (case hd => rfl)
         (case hg => rfl)
         (case hr => first | (go_simp; done) | (go_simp; rfl))
         intro g6 hg w7 hbox hb
         have n1_ := Aside0.mk (below_step (bl HB) hb)
         have n2_ := bkB BK4 hb
         have G6 := Aside0.mk (show w.heap.size ≤ g6 from by rw [hg]; exact below_size (bl HB))
         have e46 : g4 ≠ g6 := by rw [hg]; exact Nat.ne_of_lt (bkL BK4)
         have e64 := e46.symm
         have BK6 := Aside0.mk hbox
         clear HB BK4
         have HB := n1_
         have BK4 := n2_
         clear n1_ n2_ hg hbox hb
         have c40 : w7.cell? ⟨g4, 0, none⟩ = some (.int .i64 0) := (blk_cell BK4.out 0).trans rfl
         have c41 : w7.cell? ⟨g4, 1, none⟩ = some (.int .i64 0) := (blk_cell BK4.out 1).trans rfl
         have c60 : w7.cell? ⟨g6, 0, none⟩ = some (.int .i64 0) := (blk_cell BK6.out 0).trans rfl
         have c61 : w7.cell? ⟨g6, 1, none⟩ = some (.int .i64 0) := (blk_cell BK6.out 1).trans rfl
         have z40 := blk_frozen BK4.out 0
         have z41 := blk_frozen BK4.out 1
         have z60 := blk_frozen BK6.out 0
         have z61 := blk_frozen BK6.out 1))
    refine bodyPost_ret (results_ct rfl _ _ g4 34 #[.int .i64 xa, .int .i64 xb] (0, 0) _ rfl (by (with_reducible repeat refine bu ?_); refine blk_put (cs := #[.int .i64 xa, .int .i64 0]) ?_ 1 _ rfl; (with_reducible repeat refine bu ?_); refine blk_put (cs := #[.int .i64 0, .int .i64 0]) ?_ 0 _ rfl; (with_reducible repeat refine bu ?_); refine blk_far ?_ e46 _; (with_reducible repeat refine bu ?_); refine blk_far ?_ e46 _; (with_reducible repeat refine bu ?_); exact BK4.out) Tryz.underlying34 rfl (by kernel_rfl)) rfl ?_
    exact ⟨rfl, below_set (below_set (below_set (below_set HB.out G6.out) G6.out) G4.out) G4.out⟩
  · rw [if_neg hq] at h
    cases h
theorem R_clip {α : Type} {d : Kd α} {e n c : Nat} {w : World} {base : Nat} {ok : Nat → Prop} {A : Option Addr} {xs : List α} (h : d.R e w base ok (.slice A n c) xs) : d.R e w base ok (.slice A n n) xs := by
  obtain ⟨h0, inner, ho, hr⟩ := h
  have hb : ∀ x y : Nat, (Value.slice A x x).ownBlock = (Value.slice A n c).ownBlock := by intro x y; cases A <;> rfl
  have hn : n = xs.length := by
    obtain ⟨A', c', he⟩ := own_slice ho
    injection he
  refine ⟨fun k hk => h0 k (by rw [← hb n n]; exact hk), inner, ?_, by rw [hb n n]; exact hr⟩
  obtain ⟨hl, h2⟩ := ho
  refine ⟨hl, ?_⟩
  rcases h2 with ⟨hv, hx⟩ | ⟨g, cap, cur, hv, hbg, hh, hnc, hcm, hcs, ht⟩
  · injection hv with h1 h2 h3
    subst h1; subst h2
    exact .inl ⟨rfl, hx⟩
  · injection hv with h1 h2 h3
    subst h1; subst h2; subst h3
    exact .inr ⟨g, xs.length, cur, rfl, hbg, hh, Nat.le_refl _, Nat.le_trans hnc hcm, Nat.le_trans (Nat.mul_le_mul_right _ hnc) hcs, ht⟩
set_option maxHeartbeats 8000000 in
set_option maxRecDepth 100000 in
theorem clip_end (A : Option Addr) (n c : Nat) (h : n ≤ c) (w : World) : Calls Tryz.prog 105 #[.slice A n c] w fun e w' => ∃ v, e = .returned v ∧ v = .slice A n n ∧ w' = w := by
  go_enter Tryz.func105, Tryz.ntmps105
  go_wp2
  go_ret
  exact ⟨_, rfl, rfl, rfl⟩
set_option maxHeartbeats 8000000 in
set_option maxRecDepth 100000 in
theorem clone_end (A : Option Addr) (c : Nat) (l : List S34) (w : World) (hr : Kd.C k34 w A l.length l) (hc : l.length ≤ c) (hl : l.length < 1000000000000) :
    Calls Tryz.prog 106 #[.slice A l.length c] w fun e w' => ∃ v, e = .returned v ∧ Kd.R k34 34 w' w.heap.size (fun _ => True) v l ∧ Below w.heap.size w w' := by
  have HR := Aside0.mk hr
  have HL := Aside0.mk hl
  clear hl
  have HB := Aside0.mk (Below.refl w.heap.size w)
  cases A with
  | none =>
    have h0 : l.length = 0 := by
      rcases Nat.eq_zero_or_pos l.length with h | h
      · exact h
      · obtain ⟨x, hx, _⟩ := hr.2.2 h
        cases hx
    have hnil := Aside0.mk (List.eq_nil_of_length_eq_zero h0)
    clear hr h0
    have hq := fun w' : World => Lib.run_eql_slice_nil (P := Tryz.prog) w' 23 34 none l.length c 0 0 Tryz.underlying23
    go_enter Tryz.func106, Tryz.ntmps106
    go_wp2
    go_ret
    exact ⟨_, rfl, by rw [hnil.out]; exact Kd.R_nil _ _ _ _ _, HB.out⟩
  | some ad =>
    clear hr
    have hq := fun w' : World => Lib.run_eql_slice_nil (P := Tryz.prog) w' 23 34 (some ad) l.length c 0 0 Tryz.underlying23
    go_enter Tryz.func106, Tryz.ntmps106
    go_wp2_with (first
      | ((with_reducible refine gate_dst (N := 5) rfl ?_)
         refine Kd.R_lit k34 _ 34 ?hg (N := 5) ?hd (xs := ([] : List (S34))) (inner := []) (ok := fun _ => True) (okp := fun _ => True) ?hr ?hp (fun _ hk => hk) trivial (Below.refl _ _) (Nat.le_refl _) (by simp) ?_
         (case hd => rfl)
         (case hg => rfl)
         (case hr => first | (go_simp; done) | (go_simp; rfl))
         (case hp => exact (Reps.none _ _))
         intro v5 w5 ho5 hb hg_ hnew_
         clear hg_ hnew_
         have HO := Aside0.mk (Kd.R_lower ho5 (below_size (bl HB)))
         have n3_ := Aside0.mk (below_step (bl HB) hb)
         clear HB
         have HB := n3_
         clear n3_ hb ho5)
      | ((with_reducible refine gate_builtin (b := .append) (xs := #[.tmp 5, .tmp 6]) rfl ?_)
         at_builtin
         refine Kd.R_append_rows k34 (w0 := w) w.heap.size rfl (.tmp 5) (.tmp 6) 23 34 (.agg #[(.int .i64 0), (.int .i64 0)]) 16 rfl Tryz.underlying23 info34 rfl (by decide) (by omega) v5 [] l _ _ _ (fun _ => True) (fun _ => False) rfl rfl ?aO ?aR (fun _ _ h => h) (fun _ h => h.elim) ?aF ?aB ?aS ?aL ?_
         (case aR => repeat (first | exact (Kd.C_below HR.out HB.out) | (with_reducible refine Kd.C_alloc ?_ _) | (with_reducible refine Kd.C_drewN ?_ _) | (with_reducible refine Kd.C_drew ?_)))
         (case aB => exact (bl HB))
         (case aF => exact (fun _ _ => trivial))
         (case aO => exact (rs HO))
         (case aS => exact (below_size (bl HB)))
         (case aL => have := HL.out; simp only [List.length_nil]; omega)
         intro v7 w7 ho hb hg hat
         have n2_ := Aside0.mk hb
         clear HB HO
         have HB := n2_
         have HO := Aside0.mk ho
         clear n2_ ho hb hg hat))
    go_ret
    exact ⟨_, rfl, HO.out, HB.out⟩
def impl_EndPoint_106.f (l : List S34) : Option (List S34) := if l.length < 1000000000000 then some l else none
theorem impl_EndPoint_106.calls (A0 : Option Addr) (c0 : Nat) (l0 : List (S34)) (r : List (S34)) (w : World) (hr0 : Kd.C k34 w A0 l0.length l0) (hc0 : l0.length ≤ c0) (h : impl_EndPoint_106.f l0 = some r) :
    Calls Tryz.prog 106 #[.slice A0 l0.length c0] w fun e w' => ∃ v0_ : Value, e = .returned (v0_) ∧ Kd.R k34 34 w' w.heap.size (fun _ => True) v0_ r ∧ Below w.heap.size w w' := by
  unfold impl_EndPoint_106.f at h
  by_cases hl : l0.length < 1000000000000
  · rw [if_pos hl] at h
    obtain rfl := Option.some.inj h
    exact clone_end A0 c0 l0 w hr0 hc0 hl
  · rw [if_neg hl] at h
    cases h
def impl_EndPoint_105.f (l : List S34) : Option (List S34 × List S34) := some (l, [])
theorem bkW {w W w' : World} {g : Nat} {o : Obj} (b : Aside0 (w.heap[g]? = some o)) (hw : w' = W) (s : w.heap[g]? = some o → W.heap[g]? = some o := by intro h; (with_reducible repeat refine bu ?_); exact h) : Aside0 (w'.heap[g]? = some o) := ⟨by rw [hw]; exact s b.out⟩
theorem blW {w W W' w' : World} {n : Nat} (b : Aside0 (Below n w W)) (hw : w' = W') (s : Below n w W → Below n w W' := by intro h; repeat (first | (with_reducible first | exact h | apply below_alloc | apply pw_below_drewN | apply below_drew1 | refine below_set ?_ (Aside0.out (by with_reducible assumption))) | exact h)) : Aside0 (Below n w w') := ⟨by rw [hw]; exact s b.out⟩
theorem clipNil {α : Type} {d : Kd α} {e : Nat} {w : World} {base : Nat} {ok : Nat → Prop} {u : Value} {xs r1 r2 : List α} (h : Aside0 (Kd.R d e w base ok u xs)) (w' : World) (hf : some (xs, ([] : List α)) = some (r1, r2)) : Aside0 (Kd.R d e w' base ok (.slice none 0 0) r2) := by
  injection hf with hf
  injection hf with _ h2
  subst h2
  exact ⟨Kd.R_nil _ _ _ _ _⟩
theorem clipR {α : Type} {d : Kd α} {e n c : Nat} {w W w' : World} {base : Nat} {ok ok' : Nat → Prop} {A : Option Addr} {v : Value} {xs r1 r2 : List α} (h : Aside0 (Kd.R d e w base ok (.slice A n c) xs)) (hv : v = .slice A n n) (hw : w' = W) (hf : some (xs, ([] : List α)) = some (r1, r2)) (hok : ∀ k, ok k → ok' k)
    (s : Kd.R d e w base ok (.slice A n c) xs → Kd.R d e W base ok (.slice A n c) xs := by intro h; (with_reducible repeat apply ru); exact h) : Aside0 (Kd.R d e w' base ok' v r1) := by
  injection hf with hf
  injection hf with h1 _
  subst h1
  subst hv
  subst hw
  exact ⟨Kd.R_mono (R_clip (s h.out)) hok⟩
section
attribute [local go_sem] max2_int min2_int max_two min_two max_three min_three max_four min_four
def impl_MapTab_copied.f (l0_0 : List (S34)) : Option ((List (S34))) := (impl_EndPoint_106.f l0_0).bind fun t362 => ((impl_EndPoint_105.f t362).bind fun bt365 => (some bt365.1))
set_option maxHeartbeats 8000000 in
set_option maxRecDepth 100000 in
theorem impl_MapTab_copied.calls (A0_0 : Option Addr) (c0_0 : Nat) (l0_0 : List (S34)) (r : List (S34)) (w : World) (hr0_0 : Kd.C k34 w A0_0 l0_0.length l0_0) (hc0_0 : l0_0.length ≤ c0_0) (h : impl_MapTab_copied.f l0_0 = some r) :
  Calls Tryz.prog 77 #[.agg #[.slice A0_0 l0_0.length c0_0]] w fun e w' => ∃ v0_ : Value, e = .returned (.agg #[v0_]) ∧ Kd.R k34 34 w' w.heap.size (fun _ => True) v0_ r ∧ Below w.heap.size w w' := by
 have hu25 := Tryz.underlying25
 have HR0_0 := am hr0_0
 have HC0_0 := am hc0_0
 clear hr0_0 hc0_0
 have HB := am (Below.refl w.heap.size w)
 have H : ((impl_EndPoint_106.f l0_0).bind fun t362 => ((impl_EndPoint_105.f t362).bind fun bt365 => (some bt365.1))) = some r := h
 clear h
 obtain ⟨t362, A2, H⟩ := bse H
 try dsimp only at H
 obtain ⟨⟨t365, t368⟩, A3, H⟩ := bse H
 try dsimp only at H
 obtain rfl := Option.some.inj H
 go_enter Tryz.func77, Tryz.ntmps77
 go_wp2_with (first | ((with_reducible refine gate_dst (N := 1) rfl ?_); refine box_event rfl (N := 1) rfl (cs := #[.slice A0_0 l0_0.length c0_0]) (t := 25) hr_ ?_; intro gb360 hg w4 hbox hb; have BK360 := am hbox; have GW360 := gwE HB hg; have GE360 := gwE HB hg; replace HB := hbS HB hb; clear hb hbox hg) | ((with_reducible refine gate_dst (N := 2) rfl ?_); refine box_event rfl (N := 2) rfl (cs := #[.slice none 0 0]) (t := 25) hr_ ?_; intro gb361 hg w5 hbox hb; have BK361 := am hbox; have GW361 := gwE HB hg; have GE361 := gwE HB hg; replace HB := hbS HB hb; have NB360_361 := neL BK360 hg; have NB361_360 := neG BK360 hg; replace BK360 := bkB BK360 hb; clear hb hbox hg; have := NB360_361.out; have := NB361_360.out; have := bcell BK360 0; have := bfz BK360 0) | ((with_reducible refine gate_callee (f := 106) rfl ?_); refine gL (some 5) Tryz.func106 #[.slice A0_0 l0_0.length c0_0] ?_; (with_reducible refine (impl_EndPoint_106.calls _ _ l0_0 t362 _ ?side1 ?side2 A2.out).mono ?_); (case side1 => exact m4_); (case side2 => exact HC0_0.out); rintro e w8 ⟨v363, rfl, ho0, hb⟩; refine ⟨_, rfl, ?_⟩; have HO364 := am (Kd.R_lower ho0 (below_size (bl HB))); replace BK360 := bkB BK360 hb; replace BK361 := bkB BK361 hb; replace HB := hbS HB hb; (try clear hb); (try clear ho0); obtain ⟨Ao9, co9, eo9⟩ := Kd.R_slice HO364.out; subst eo9) | ((with_reducible refine gate_callee (f := 105) rfl ?_); refine gL (some 6) Tryz.func105 #[.slice Ao9 t362.length co9] ?_; (with_reducible refine (clip_end Ao9 t362.length co9 (Kd.R_reads' HO364.out).2.1 _).mono ?_); rintro e w10 ⟨v366, rfl, hv_, hw_⟩; refine ⟨_, rfl, ?_⟩; replace BK360 := bkW BK360 hw_; replace BK361 := bkW BK361 hw_; have HO367 := clipR (ok' := fun k_ => some k_ ≠ (.slice none 0 0 : Value).ownBlock) HO364 hv_ hw_ A3.out (fun k_ hk_ => by first | exact ⟨by simp [Value.ownBlock], hk_⟩ | (simp [Value.ownBlock]; done) | exact hk_); replace HO364 := clipNil HO364 w10 A3.out; replace HB := blW HB hw_; clear hv_ hw_; obtain ⟨Ao11, co11, eo11⟩ := Kd.R_slice HO367.out; subst eo11; have := bcell BK361 0; have := bfz BK361 0))
 refine bodyPost_ret (results_cell_row rfl _ _ gb361 25 #[.slice Ao11 t365.length co11] (0, 0) _ rfl (by (with_reducible repeat refine bu ?_); refine blk_put (cs := #[.slice none 0 0]) ?_ 0 _ rfl; (with_reducible repeat refine bu ?_); exact BK361.out) Tryz.underlying25 rfl (by kernel_rfl)) rfl ?_
 exact ⟨_, fi_, by (with_reducible repeat apply ru); exact Kd.R_mono (Kd.R_far (p := ⟨gb361, 0, none⟩) (Kd.R_types HO367.out BK361.out (by decide)) (fun _ hk => hk.2) (.slice Ao11 t365.length co11)) (fun _ hk => trivial), m2_⟩
def impl_MapTab_put.f (l0_0 : List (S34)) (a1_0 : Int) (a1_1 : Int) : Option ((List (S34)) × Int) := (impl_MapTab_copied.f l0_0).bind fun t372 => ((impl_MapPort.f l0_0 a1_0 a1_1).bind fun t376 => (if t376 = 0 then (if (l0_0.length : Int) ≥ 6 then (some (t372, t376)) else (if t372.length < 8796093022208 then ((impl_EndPoint_105.f (t372 ++ [(⟨a1_0, a1_1⟩ : S34)])).bind fun bt380 => (some (bt380.1, wrap64 (500 + (l0_0.length : Int))))) else (none))) else (some (t372, t376))))
set_option maxHeartbeats 8000000 in
set_option maxRecDepth 100000 in
theorem impl_MapTab_put.calls (A0_0 : Option Addr) (c0_0 : Nat) (l0_0 : List (S34)) (a1_0 : Int) (a1_1 : Int) (r1 : List (S34)) (r2 : Int) (w : World) (hr0_0 : Kd.C k34 w A0_0 l0_0.length l0_0) (hc0_0 : l0_0.length ≤ c0_0) (h : impl_MapTab_put.f l0_0 a1_0 a1_1 = some (r1, r2)) :
  Calls Tryz.prog 78 #[.agg #[.slice A0_0 l0_0.length c0_0], .agg #[.int .i64 a1_0, .int .i64 a1_1]] w fun e w' => ∃ v0_ : Value, e = .returned (.tuple #[.agg #[v0_], .int .i64 r2]) ∧ Kd.R k34 34 w' w.heap.size (fun _ => True) v0_ r1 ∧ Below w.heap.size w w' := by
 have hu25 := Tryz.underlying25
 have hu34 := Tryz.underlying34
 have HR0_0 := am hr0_0
 have HC0_0 := am hc0_0
 clear hr0_0 hc0_0
 have HB := am (Below.refl w.heap.size w)
 have H : ((impl_MapTab_copied.f l0_0).bind fun t372 => ((impl_MapPort.f l0_0 a1_0 a1_1).bind fun t376 => (if t376 = 0 then (if (l0_0.length : Int) ≥ 6 then (some (t372, t376)) else (if t372.length < 8796093022208 then ((impl_EndPoint_105.f (t372 ++ [(⟨a1_0, a1_1⟩ : S34)])).bind fun bt380 => (some (bt380.1, wrap64 (500 + (l0_0.length : Int))))) else (none))) else (some (t372, t376))))) = some (r1, r2) := h
 clear h
 obtain ⟨t372, A3, H⟩ := bse H
 try dsimp only at H
 obtain ⟨t376, A4, H⟩ := bse H
 try dsimp only at H
 by_cases c5 : t376 = 0
 ·rw [if_pos c5] at H
  have c5b0 : (t376 == 0) = true := beq_iff_eq.mpr c5
  have c5b1 : (t376 != 0) = false := bne_eq_false_iff_eq.mpr c5
  clear c5
  by_cases c6 : (l0_0.length : Int) ≥ 6
  ·rw [if_pos c6] at H
   have c6b0 : decide (6 ≤ (l0_0.length : Int)) = true := decide_eq_true c6
   have c6b1 : decide (6 ≤ l0_0.length) = true := decide_eq_true (by omega)
   clear c6
   simp only [Option.some.injEq, Prod.mk.injEq] at H
   obtain ⟨rfl, rfl⟩ := H
   go_enter Tryz.func78, Tryz.ntmps78
   go_wp2_with (first | ((with_reducible refine gate_dst (N := 2) rfl ?_); refine box_event rfl (N := 2) rfl (cs := #[.slice A0_0 l0_0.length c0_0]) (t := 25) hr_ ?_; intro gb369 hg w7 hbox hb; have BK369 := am hbox; have GW369 := gwE HB hg; have GE369 := gwE HB hg; replace HB := hbS HB hb; clear hb hbox hg) | ((with_reducible refine gate_dst (N := 3) rfl ?_); refine box_event rfl (N := 3) rfl (cs := #[.int .i64 a1_0, .int .i64 a1_1]) (t := 34) hr_ ?_; intro gb370 hg w8 hbox hb; have BK370 := am hbox; have GW370 := gwE HB hg; have GE370 := gwE HB hg; replace HB := hbS HB hb; have NB369_370 := neL BK369 hg; have NB370_369 := neG BK369 hg; replace BK369 := bkB BK369 hb; clear hb hbox hg) | ((with_reducible refine gate_dst (N := 4) rfl ?_); refine box_event rfl (N := 4) rfl (cs := #[.slice none 0 0]) (t := 25) hr_ ?_; intro gb371 hg w9 hbox hb; have BK371 := am hbox; have GW371 := gwE HB hg; have GE371 := gwE HB hg; replace HB := hbS HB hb; have NB369_371 := neL BK369 hg; have NB371_369 := neG BK369 hg; replace BK369 := bkB BK369 hb; have NB370_371 := neL BK370 hg; have NB371_370 := neG BK370 hg; replace BK370 := bkB BK370 hb; clear hb hbox hg; have := NB369_370.out; have := NB370_369.out; have := NB369_371.out; have := NB371_369.out; have := bcell BK369 0; have := bfz BK369 0) | ((with_reducible refine gate_callee (f := 77) rfl ?_); refine gL (some 9) Tryz.func77 #[.agg #[.slice A0_0 l0_0.length c0_0]] ?_; (with_reducible refine (impl_MapTab_copied.calls _ _ l0_0 t372 _ ?side1 ?side2 A3.out).mono ?_); (case side1 => exact m4_); (case side2 => exact HC0_0.out); rintro e w13 ⟨v373, rfl, ho0, hb⟩; refine ⟨_, rfl, ?_⟩; have HO374 := am (Kd.R_lower (Kd.R_newB ho0 (g := gb370) (o := .cells #[.int .i64 a1_0, .int .i64 a1_1] 34 (0, 0)) (bk BK370)) (below_size (bl HB))); replace BK369 := bkB BK369 hb; replace BK370 := bkB BK370 hb; replace BK371 := bkB BK371 hb; replace HB := hbS HB hb; (try clear hb); (try clear ho0)) | ((with_reducible refine gate_dst (N := 6) rfl ?_); refine box_event rfl (N := 6) rfl (cs := #[.slice none 0 0]) (t := 25) hr_ ?_; intro gb375 hg w14 hbox hb; replace HO374 := am (Kd.R_below (rs HO374) hb); have BK375 := am hbox; have GW375 := gwE HB hg; have GE375 := gwE HB hg; replace HB := hbS HB hb; have NB369_375 := neL BK369 hg; have NB375_369 := neG BK369 hg; replace BK369 := bkB BK369 hb; have NB370_375 := neL BK370 hg; have NB375_370 := neG BK370 hg; replace BK370 := bkB BK370 hb; have NB371_375 := neL BK371 hg; have NB375_371 := neG BK371 hg; replace BK371 := bkB BK371 hb; clear hb hbox hg; obtain ⟨Ao15, co15, eo15⟩ := Kd.R_slice HO374.out; subst eo15; have := NB375_369.out; have := NB369_375.out; have := NB375_370.out; have := NB370_375.out; have := NB375_371.out; have := NB371_375.out; have := bcell BK375 0; have := bfz BK375 0; have := bcell BK369 0; have := bfz BK369 0; have := NB370_371.out; have := NB371_370.out; have := bcell BK370 0; have := bcell BK370 1; have := bfz BK370 0; have := bfz BK370 1) | ((with_reducible refine gate_callee (f := 23) rfl ?_); refine gL (some 12) Tryz.func23 #[.agg #[.slice A0_0 l0_0.length c0_0], .agg #[.int .i64 a1_0, .int .i64 a1_1]] ?_; (with_reducible refine (impl_MapPort.calls _ _ l0_0 a1_0 a1_1 t376 _ (Kd.C_below HR0_0.out (bl HB)) HC0_0.out A4.out).mono ?_); rintro e w23 ⟨rfl, hb⟩; refine ⟨_, rfl, ?_⟩; replace HO374 := am (Kd.R_below (by (with_reducible repeat apply ru); exact (Kd.R_mono (Kd.R_far (p := ⟨gb375, 0, none⟩) (Kd.R_types HO374.out BK375.out (by decide)) (fun _ hk => hk.2) (.slice Ao15 t372.length co15)) (fun _ h_ => h_.1))) hb); replace BK369 := am (blk_below (g := gb369) (o := .cells #[.slice A0_0 l0_0.length c0_0] 25 (0, 0)) (by (with_reducible repeat refine bu ?_); refine blk_far ?_ NB369_375.out _; (with_reducible repeat refine bu ?_); exact BK369.out) hb); replace BK370 := am (blk_below (g := gb370) (o := .cells #[.int .i64 a1_0, .int .i64 a1_1] 34 (0, 0)) (by (with_reducible repeat refine bu ?_); refine blk_far ?_ NB370_375.out _; (with_reducible repeat refine bu ?_); exact BK370.out) hb); replace BK371 := am (blk_below (g := gb371) (o := .cells #[.slice none 0 0] 25 (0, 0)) (by (with_reducible repeat refine bu ?_); refine blk_far ?_ NB371_375.out _; (with_reducible repeat refine bu ?_); exact BK371.out) hb); replace BK375 := am (blk_below (g := gb375) (o := .cells #[.slice Ao15 t372.length co15] 25 (0, 0)) (by (with_reducible repeat refine bu ?_); refine blk_put (cs := #[.slice none 0 0]) ?_ 0 _ rfl; (with_reducible repeat refine bu ?_); exact BK375.out) hb); replace HB := hbS HB hb; (try clear hb); (try clear hk); have := bcell BK369 0; have := bfz BK369 0; have := bcell BK375 0; have := bfz BK375 0; have := bcell BK371 0; have := bfz BK371 0))
   refine bodyPost_ret (results_ct rfl _ _ gb371 25 #[.slice Ao15 t372.length co15] (0, 0) _ rfl (by (with_reducible repeat refine bu ?_); refine blk_put (cs := #[.slice none 0 0]) ?_ 0 _ rfl; (with_reducible repeat refine bu ?_); exact BK371.out) Tryz.underlying25 rfl (by kernel_rfl)) rfl ?_
   exact ⟨_, fi_, by (with_reducible repeat apply ru); exact Kd.R_mono (Kd.R_far (p := ⟨gb371, 0, none⟩) (Kd.R_types HO374.out BK371.out (by decide)) (fun _ hk => hk.2) (.slice Ao15 t372.length co15)) (fun _ hk => trivial), m2_⟩
  ·rw [if_neg c6] at H
   have c6b0 : decide (6 ≤ (l0_0.length : Int)) = false := decide_eq_false c6
   have c6b1 : decide (6 ≤ l0_0.length) = false := decide_eq_false (by omega)
   clear c6
   by_cases c27 : t372.length < 8796093022208
   ·rw [if_pos c27] at H
    have LMc27 := am c27
    clear c27
    obtain ⟨y377, hy377⟩ : ∃ y_ : List (S34), y_ = (t372 ++ [(⟨a1_0, a1_1⟩ : S34)]) := ⟨_, rfl⟩
    replace H : ((impl_EndPoint_105.f y377).bind fun bt380 => (some (bt380.1, wrap64 (500 + (l0_0.length : Int))))) = some (r1, r2) := by first | (rw [hy377]; with_reducible exact H) | (have H2_ := (Option.bind_some _ _).symm.trans H; rw [hy377]; with_reducible exact H2_) | (have H2_ := (Option.bind_some _ _).symm.trans H; with_reducible exact H2_) | with_reducible exact H | (rw [hy377]; exact H) | exact H
    have Ny377 := am hy377
    clear hy377
    obtain ⟨⟨t380, t383⟩, A28, H⟩ := bse H
    try dsimp only at H
    simp only [Option.some.injEq, Prod.mk.injEq] at H
    obtain ⟨rfl, rfl⟩ := H
    go_enter Tryz.func78, Tryz.ntmps78
    try go_wp2_with (first | ((with_reducible refine gate_dst (N := 2) rfl ?_); refine box_event rfl (N := 2) rfl (cs := #[.slice A0_0 l0_0.length c0_0]) (t := 25) hr_ ?_; intro gb369 hg w29 hbox hb; have BK369 := am hbox; have GW369 := gwE HB hg; have GE369 := gwE HB hg; replace HB := hbS HB hb; clear hb hbox hg) | ((with_reducible refine gate_dst (N := 3) rfl ?_); refine box_event rfl (N := 3) rfl (cs := #[.int .i64 a1_0, .int .i64 a1_1]) (t := 34) hr_ ?_; intro gb370 hg w30 hbox hb; have BK370 := am hbox; have GW370 := gwE HB hg; have GE370 := gwE HB hg; replace HB := hbS HB hb; have NB369_370 := neL BK369 hg; have NB370_369 := neG BK369 hg; replace BK369 := bkB BK369 hb; clear hb hbox hg) | ((with_reducible refine gate_dst (N := 4) rfl ?_); refine box_event rfl (N := 4) rfl (cs := #[.slice none 0 0]) (t := 25) hr_ ?_; intro gb371 hg w31 hbox hb; have BK371 := am hbox; have GW371 := gwE HB hg; have GE371 := gwE HB hg; replace HB := hbS HB hb; have NB369_371 := neL BK369 hg; have NB371_369 := neG BK369 hg; replace BK369 := bkB BK369 hb; have NB370_371 := neL BK370 hg; have NB371_370 := neG BK370 hg; replace BK370 := bkB BK370 hb; clear hb hbox hg; have := NB369_370.out; have := NB370_369.out; have := NB369_371.out; have := NB371_369.out; have := bcell BK369 0; have := bfz BK369 0) | ((with_reducible refine gate_callee (f := 77) rfl ?_); refine gL (some 9) Tryz.func77 #[.agg #[.slice A0_0 l0_0.length c0_0]] ?_; (with_reducible refine (impl_MapTab_copied.calls _ _ l0_0 t372 _ ?side1 ?side2 A3.out).mono ?_); (case side1 => exact m4_); (case side2 => exact HC0_0.out); rintro e w35 ⟨v373, rfl, ho0, hb⟩; refine ⟨_, rfl, ?_⟩; have HO374 := am (Kd.R_lower (Kd.R_newB ho0 (g := gb370) (o := .cells #[.int .i64 a1_0, .int .i64 a1_1] 34 (0, 0)) (bk BK370)) (below_size (bl HB))); replace BK369 := bkB BK369 hb; replace BK370 := bkB BK370 hb; replace BK371 := bkB BK371 hb; replace HB := hbS HB hb; (try clear hb); (try clear ho0)) | ((with_reducible refine gate_dst (N := 6) rfl ?_); refine box_event rfl (N := 6) rfl (cs := #[.slice none 0 0]) (t := 25) hr_ ?_; intro gb375 hg w36 hbox hb; replace HO374 := am (Kd.R_below (rs HO374) hb); have BK375 := am hbox; have GW375 := gwE HB hg; have GE375 := gwE HB hg; replace HB := hbS HB hb; have NB369_375 := neL BK369 hg; have NB375_369 := neG BK369 hg; replace BK369 := bkB BK369 hb; have NB370_375 := neL BK370 hg; have NB375_370 := neG BK370 hg; replace BK370 := bkB BK370 hb; have NB371_375 := neL BK371 hg; have NB375_371 := neG BK371 hg; replace BK371 := bkB BK371 hb; clear hb hbox hg; obtain ⟨Ao37, co37, eo37⟩ := Kd.R_slice HO374.out; subst eo37; have := NB375_369.out; have := NB369_375.out; have := NB375_370.out; have := NB370_375.out; have := NB375_371.out; have := NB371_375.out; have := bcell BK375 0; have := bfz BK375 0; have := bcell BK369 0; have := bfz BK369 0; have := NB370_371.out; have := NB371_370.out; have := bcell BK370 0; have := bcell BK370 1; have := bfz BK370 0; have := bfz BK370 1) | ((with_reducible refine gate_callee (f := 23) rfl ?_); refine gL (some 12) Tryz.func23 #[.agg #[.slice A0_0 l0_0.length c0_0], .agg #[.int .i64 a1_0, .int .i64 a1_1]] ?_; (with_reducible refine (impl_MapPort.calls _ _ l0_0 a1_0 a1_1 t376 _ (Kd.C_below HR0_0.out (bl HB)) HC0_0.out A4.out).mono ?_); rintro e w45 ⟨rfl, hb⟩; refine ⟨_, rfl, ?_⟩; replace HO374 := am (Kd.R_below (by (with_reducible repeat apply ru); exact (Kd.R_mono (Kd.R_far (p := ⟨gb375, 0, none⟩) (Kd.R_types HO374.out BK375.out (by decide)) (fun _ hk => hk.2) (.slice Ao37 t372.length co37)) (fun _ h_ => h_.1))) hb); replace BK369 := am (blk_below (g := gb369) (o := .cells #[.slice A0_0 l0_0.length c0_0] 25 (0, 0)) (by (with_reducible repeat refine bu ?_); refine blk_far ?_ NB369_375.out _; (with_reducible repeat refine bu ?_); exact BK369.out) hb); replace BK370 := am (blk_below (g := gb370) (o := .cells #[.int .i64 a1_0, .int .i64 a1_1] 34 (0, 0)) (by (with_reducible repeat refine bu ?_); refine blk_far ?_ NB370_375.out _; (with_reducible repeat refine bu ?_); exact BK370.out) hb); replace BK371 := am (blk_below (g := gb371) (o := .cells #[.slice none 0 0] 25 (0, 0)) (by (with_reducible repeat refine bu ?_); refine blk_far ?_ NB371_375.out _; (with_reducible repeat refine bu ?_); exact BK371.out) hb); replace BK375 := am (blk_below (g := gb375) (o := .cells #[.slice Ao37 t372.length co37] 25 (0, 0)) (by (with_reducible repeat refine bu ?_); refine blk_put (cs := #[.slice none 0 0]) ?_ 0 _ rfl; (with_reducible repeat refine bu ?_); exact BK375.out) hb); replace HB := hbS HB hb; (try clear hb); (try clear hk); have := bcell BK369 0; have := bfz BK369 0; have := bcell BK375 0; have := bfz BK375 0; have := bcell BK370 0; have := bcell BK370 1; have := bfz BK370 0; have := bfz BK370 1) | ((with_reducible refine gate_builtin (b := .append) (xs := #[.tmp 24, .tmp 26]) rfl ?_); at_builtin; refine Kd.R_append k34 (w0 := w) w.heap.size rfl (.tmp 24) (.tmp 26) 23 34 (.agg #[(.int .i64 0), (.int .i64 0)]) 16 rfl Tryz.underlying23 info34 rfl (by decide) (by omega) (.slice Ao37 t372.length co37) t372 (⟨a1_0, a1_1⟩ : S34) [.int .i64 a1_0, .int .i64 a1_1] (fun k_ => k_ ≠ gb370) (fun _ => False) rfl rfl ?aP (fun _ hk => hk.elim) ?aF ?aO ?aB ?aS ?aL ?_; (case aP => exact k34_mkM _ _ _ (⟨a1_0, a1_1⟩ : S34)); (case aB => exact (bl HB)); (case aF => exact (fun k_ hk => Kd.freshB (g := gb370) (o := .cells #[.int .i64 a1_0, .int .i64 a1_1] 34 (0, 0)) (bk BK370) k_ hk)); (case aO => exact (by (with_reducible repeat apply ru); exact Kd.R_mono HO374.out (fun _ hk => hk.2))); (case aS => exact (below_size (bl HB))); (case aL => have := LMc27.out; omega); intro v378 w49 ho hb hg hat; rw [← Ny377.out] at ho; replace BK369 := am (blk_grown (g := gb369) (o := .cells #[.slice A0_0 l0_0.length c0_0] 25 (0, 0)) (bk BK369) hg (Kd.R_ne HO374.out BK369.out (by decide))); replace BK370 := am (blk_grown (g := gb370) (o := .cells #[.int .i64 a1_0, .int .i64 a1_1] 34 (0, 0)) (bk BK370) hg (Kd.R_away HO374.out (fun _ hk => hk.2))); replace BK371 := am (blk_grown (g := gb371) (o := .cells #[.slice none 0 0] 25 (0, 0)) (bk BK371) hg (Kd.R_ne HO374.out BK371.out (by decide))); replace BK375 := am (blk_grown (g := gb375) (o := .cells #[.slice Ao37 t372.length co37] 25 (0, 0)) (bk BK375) hg (Kd.R_ne HO374.out BK375.out (by decide))); replace HB := am hb; have HO379 := am (ho); clear HO374; clear ho hb hg hat; obtain ⟨Ao50, co50, eo50⟩ := Kd.R_slice HO379.out; subst eo50) | ((with_reducible refine gate_callee (f := 105) rfl ?_); refine gL (some 28) Tryz.func105 #[.slice Ao50 y377.length co50] ?_; (with_reducible refine (clip_end Ao50 y377.length co50 (Kd.R_reads' HO379.out).2.1 _).mono ?_); rintro e w51 ⟨v381, rfl, hv_, hw_⟩; refine ⟨_, rfl, ?_⟩; replace BK369 := bkW BK369 hw_; replace BK370 := bkW BK370 hw_; replace BK371 := bkW BK371 hw_; replace BK375 := bkW BK375 hw_; have HO382 := clipR (ok' := fun k_ => some k_ ≠ (.slice none 0 0 : Value).ownBlock ∧ k_ ≠ gb370) HO379 hv_ hw_ A28.out (fun k_ hk_ => by first | exact ⟨by simp [Value.ownBlock], hk_⟩ | (simp [Value.ownBlock]; done) | exact hk_); replace HO379 := clipNil HO379 w51 A28.out; replace HB := blW HB hw_; clear hv_ hw_; obtain ⟨Ao52, co52, eo52⟩ := Kd.R_slice HO382.out; subst eo52; have := bcell BK375 0; have := bfz BK375 0))
    have n0_ : Aside0 (Kd.R k34 34 (w51.setCell ⟨gb375, 0, none⟩ (.slice Ao52 t380.length co52)) w.heap.size (fun k_ => k_ ≠ gb370) (.slice none 0 0) t383) := ⟨by (with_reducible repeat apply ru); exact Kd.R_mono (Kd.R_far (p := ⟨gb375, 0, none⟩) (Kd.R_types HO379.out BK375.out (by decide)) (fun _ hk => hk.2) (.slice Ao52 t380.length co52)) (fun _ hk => hk.1)⟩
    have n1_ : Aside0 (Kd.R k34 34 (w51.setCell ⟨gb375, 0, none⟩ (.slice Ao52 t380.length co52)) w.heap.size (fun k_ => some k_ ≠ (.slice none 0 0 : Value).ownBlock ∧ k_ ≠ gb370) (.slice Ao52 t380.length co52) t380) := ⟨by (with_reducible repeat apply ru); exact Kd.R_mono (Kd.R_far (p := ⟨gb375, 0, none⟩) (Kd.R_types HO382.out BK375.out (by decide)) (fun _ hk => hk.2) (.slice Ao52 t380.length co52)) ok_⟩
    have n2_ : Aside0 ((w51.setCell ⟨gb375, 0, none⟩ (.slice Ao52 t380.length co52)).heap[gb369]? = some (.cells #[.slice A0_0 l0_0.length c0_0] 25 (0, 0))) := bf_ BK369
    have n3_ : Aside0 ((w51.setCell ⟨gb375, 0, none⟩ (.slice Ao52 t380.length co52)).heap[gb370]? = some (.cells #[.int .i64 a1_0, .int .i64 a1_1] 34 (0, 0))) := bf_ BK370
    have n4_ : Aside0 ((w51.setCell ⟨gb375, 0, none⟩ (.slice Ao52 t380.length co52)).heap[gb371]? = some (.cells #[.slice none 0 0] 25 (0, 0))) := bf_ BK371
    have n5_ : Aside0 ((w51.setCell ⟨gb375, 0, none⟩ (.slice Ao52 t380.length co52)).heap[gb375]? = some (.cells #[.slice Ao52 t380.length co52] 25 (0, 0))) := ⟨by (with_reducible repeat refine bu ?_); refine blk_put (cs := #[.slice Ao37 t372.length co37]) ?_ 0 _ rfl; (with_reducible repeat refine bu ?_); exact BK375.out⟩
    have n6_ : Aside0 (Below w.heap.size w (w51.setCell ⟨gb375, 0, none⟩ (.slice Ao52 t380.length co52))) := ⟨m2_⟩
    (try clear HO379)
    (try clear HO382)
    (try clear BK369)
    (try clear BK370)
    (try clear BK371)
    (try clear BK375)
    (try clear HB)
    generalize (w51.setCell ⟨gb375, 0, none⟩ (.slice Ao52 t380.length co52)) = w54 at n0_ n1_ n2_ n3_ n4_ n5_ n6_ ⊢
    have HO379 := n0_
    have HO382 := n1_
    have BK369 := n2_
    have BK370 := n3_
    have BK371 := n4_
    have BK375 := n5_
    have HB := n6_
    clear n0_ n1_ n2_ n3_ n4_ n5_ n6_
    replace HO379 := am (Kd.R_drew HO379.out)
    replace HO382 := am (Kd.R_drew HO382.out)
    replace BK369 := am (blk_drew BK369.out)
    replace BK370 := am (blk_drew BK370.out)
    replace BK371 := am (blk_drew BK371.out)
    replace BK375 := am (blk_drew BK375.out)
    replace HB := am (below_drew1 HB.out)
    refine start_ (n := 7) (S := fun w' => w'.cell? ⟨gb375, 0, none⟩ = some (.slice Ao52 t380.length co52) ∧ w'.cell? ⟨gb369, 0, none⟩ = some (.slice A0_0 l0_0.length c0_0)) (ds := []) #[false, false, false, false, false, false, false] (by kernel_rfl) rfl rfl ⟨bcell BK375 0, bcell BK369 0⟩ (fun hHeld => ?_)
    generalize w54.drew = w55 at HO379 HO382 BK369 BK370 BK371 BK375 HB hHeld ⊢
    refine pu_ 1 (some 31) (bm 7 2) ?_
    refine tk_ 0 (some 30) (bm 7 3) rfl (.inl ⟨rfl, m3_⟩) ?_
    refine tk_ 2 (some 32) (bm 7 7) rfl (.inl ⟨rfl, m3_⟩) ?_
    refine pu_ 3 (some 33) (bm 7 15) ?_
    refine pu_ 4 (some 34) (bm 7 31) ?_
    refine one_ (i := 5) (N := none) #[true, true, true, true, true, true, false] rfl rfl (by kernel_rfl) (by decide) (fun K hK => ?_)
    have : w55.cell? ⟨gb371, 0, none⟩ = some (.slice none 0 0) := bcell BK371 0
    have := bfz BK371 0
    have := NB369_371.out
    have := NB370_371.out
    have := NB375_371.out
    have := NB371_369.out
    have := NB371_370.out
    have := NB371_375.out
    refine skip_ (w1 := ?_) (by rfl) rfl ?_ ?_
    rotate_left
    ·go_simp
     rfl
    refine hK.out _ _ ⟨((cell_far (p := ⟨gb371, _, none⟩) NB375_371.out _).trans (hHeld.1)), ((cell_far (p := ⟨gb371, _, none⟩) NB369_371.out _).trans (hHeld.2))⟩ (fun hHeld => ?_)
    clear hK K
    refine pu_ 6 (some 5) (bm 7 127) ?_
    refine done_ (by kernel_rfl) ?_
    try go_wp2
    refine bodyPost_ret (results_ct rfl _ _ gb371 25 #[.slice Ao52 t380.length co52] (0, 0) _ rfl (by (with_reducible repeat refine bu ?_); refine blk_put (cs := #[.slice none 0 0]) ?_ 0 _ rfl; (with_reducible repeat refine bu ?_); exact BK371.out) Tryz.underlying25 rfl (by kernel_rfl)) rfl ?_
    exact ⟨_, fi_, by (with_reducible repeat apply ru); exact Kd.R_mono (Kd.R_far (p := ⟨gb371, 0, none⟩) (Kd.R_types HO382.out BK371.out (by decide)) (fun _ hk => hk.2) (.slice Ao52 t380.length co52)) (fun _ hk => trivial), m2_⟩
   ·rw [if_neg c27] at H
    exact absurd H (by simp)
 ·rw [if_neg c5] at H
  have c5b0 : (t376 == 0) = false := beq_eq_false_iff_ne.mpr c5
  have c5b1 : (t376 != 0) = true := bne_iff_ne.mpr c5
  simp only [Option.some.injEq, Prod.mk.injEq] at H
  obtain ⟨rfl, rfl⟩ := H
  go_enter Tryz.func78, Tryz.ntmps78
  go_wp2_with (first | ((with_reducible refine gate_dst (N := 2) rfl ?_); refine box_event rfl (N := 2) rfl (cs := #[.slice A0_0 l0_0.length c0_0]) (t := 25) hr_ ?_; intro gb369 hg w57 hbox hb; have BK369 := am hbox; have GW369 := gwE HB hg; have GE369 := gwE HB hg; replace HB := hbS HB hb; clear hb hbox hg) | ((with_reducible refine gate_dst (N := 3) rfl ?_); refine box_event rfl (N := 3) rfl (cs := #[.int .i64 a1_0, .int .i64 a1_1]) (t := 34) hr_ ?_; intro gb370 hg w58 hbox hb; have BK370 := am hbox; have GW370 := gwE HB hg; have GE370 := gwE HB hg; replace HB := hbS HB hb; have NB369_370 := neL BK369 hg; have NB370_369 := neG BK369 hg; replace BK369 := bkB BK369 hb; clear hb hbox hg) | ((with_reducible refine gate_dst (N := 4) rfl ?_); refine box_event rfl (N := 4) rfl (cs := #[.slice none 0 0]) (t := 25) hr_ ?_; intro gb371 hg w59 hbox hb; have BK371 := am hbox; have GW371 := gwE HB hg; have GE371 := gwE HB hg; replace HB := hbS HB hb; have NB369_371 := neL BK369 hg; have NB371_369 := neG BK369 hg; replace BK369 := bkB BK369 hb; have NB370_371 := neL BK370 hg; have NB371_370 := neG BK370 hg; replace BK370 := bkB BK370 hb; clear hb hbox hg; have := NB369_370.out; have := NB370_369.out; have := NB369_371.out; have := NB371_369.out; have := bcell BK369 0; have := bfz BK369 0) | ((with_reducible refine gate_callee (f := 77) rfl ?_); refine gL (some 9) Tryz.func77 #[.agg #[.slice A0_0 l0_0.length c0_0]] ?_; (with_reducible refine (impl_MapTab_copied.calls _ _ l0_0 t372 _ ?side1 ?side2 A3.out).mono ?_); (case side1 => exact m4_); (case side2 => exact HC0_0.out); rintro e w63 ⟨v373, rfl, ho0, hb⟩; refine ⟨_, rfl, ?_⟩; have HO374 := am (Kd.R_lower (Kd.R_newB ho0 (g := gb370) (o := .cells #[.int .i64 a1_0, .int .i64 a1_1] 34 (0, 0)) (bk BK370)) (below_size (bl HB))); replace BK369 := bkB BK369 hb; replace BK370 := bkB BK370 hb; replace BK371 := bkB BK371 hb; replace HB := hbS HB hb; (try clear hb); (try clear ho0)) | ((with_reducible refine gate_dst (N := 6) rfl ?_); refine box_event rfl (N := 6) rfl (cs := #[.slice none 0 0]) (t := 25) hr_ ?_; intro gb375 hg w64 hbox hb; replace HO374 := am (Kd.R_below (rs HO374) hb); have BK375 := am hbox; have GW375 := gwE HB hg; have GE375 := gwE HB hg; replace HB := hbS HB hb; have NB369_375 := neL BK369 hg; have NB375_369 := neG BK369 hg; replace BK369 := bkB BK369 hb; have NB370_375 := neL BK370 hg; have NB375_370 := neG BK370 hg; replace BK370 := bkB BK370 hb; have NB371_375 := neL BK371 hg; have NB375_371 := neG BK371 hg; replace BK371 := bkB BK371 hb; clear hb hbox hg; obtain ⟨Ao65, co65, eo65⟩ := Kd.R_slice HO374.out; subst eo65; have := NB375_369.out; have := NB369_375.out; have := NB375_370.out; have := NB370_375.out; have := NB375_371.out; have := NB371_375.out; have := bcell BK375 0; have := bfz BK375 0; have := bcell BK369 0; have := bfz BK369 0; have := NB370_371.out; have := NB371_370.out; have := bcell BK370 0; have := bcell BK370 1; have := bfz BK370 0; have := bfz BK370 1) | ((with_reducible refine gate_callee (f := 23) rfl ?_); refine gL (some 12) Tryz.func23 #[.agg #[.slice A0_0 l0_0.length c0_0], .agg #[.int .i64 a1_0, .int .i64 a1_1]] ?_; (with_reducible refine (impl_MapPort.calls _ _ l0_0 a1_0 a1_1 t376 _ (Kd.C_below HR0_0.out (bl HB)) HC0_0.out A4.out).mono ?_); rintro e w73 ⟨rfl, hb⟩; refine ⟨_, rfl, ?_⟩; replace HO374 := am (Kd.R_below (by (with_reducible repeat apply ru); exact (Kd.R_mono (Kd.R_far (p := ⟨gb375, 0, none⟩) (Kd.R_types HO374.out BK375.out (by decide)) (fun _ hk => hk.2) (.slice Ao65 t372.length co65)) (fun _ h_ => h_.1))) hb); replace BK369 := am (blk_below (g := gb369) (o := .cells #[.slice A0_0 l0_0.length c0_0] 25 (0, 0)) (by (with_reducible repeat refine bu ?_); refine blk_far ?_ NB369_375.out _; (with_reducible repeat refine bu ?_); exact BK369.out) hb); replace BK370 := am (blk_below (g := gb370) (o := .cells #[.int .i64 a1_0, .int .i64 a1_1] 34 (0, 0)) (by (with_reducible repeat refine bu ?_); refine blk_far ?_ NB370_375.out _; (with_reducible repeat refine bu ?_); exact BK370.out) hb); replace BK371 := am (blk_below (g := gb371) (o := .cells #[.slice none 0 0] 25 (0, 0)) (by (with_reducible repeat refine bu ?_); refine blk_far ?_ NB371_375.out _; (with_reducible repeat refine bu ?_); exact BK371.out) hb); replace BK375 := am (blk_below (g := gb375) (o := .cells #[.slice Ao65 t372.length co65] 25 (0, 0)) (by (with_reducible repeat refine bu ?_); refine blk_put (cs := #[.slice none 0 0]) ?_ 0 _ rfl; (with_reducible repeat refine bu ?_); exact BK375.out) hb); replace HB := hbS HB hb; (try clear hb); (try clear hk); have := bcell BK375 0; have := bfz BK375 0; have := bcell BK371 0; have := bfz BK371 0))
  refine bodyPost_ret (results_ct rfl _ _ gb371 25 #[.slice Ao65 t372.length co65] (0, 0) _ rfl (by (with_reducible repeat refine bu ?_); refine blk_put (cs := #[.slice none 0 0]) ?_ 0 _ rfl; (with_reducible repeat refine bu ?_); exact BK371.out) Tryz.underlying25 rfl (by kernel_rfl)) rfl ?_
  exact ⟨_, fi_, by (with_reducible repeat apply ru); exact Kd.R_mono (Kd.R_far (p := ⟨gb371, 0, none⟩) (Kd.R_types HO374.out BK371.out (by decide)) (fun _ hk => hk.2) (.slice Ao65 t372.length co65)) (fun _ hk => trivial), m2_⟩
end
section
attribute [local go_sem] max2_int min2_int max_two min_two max_three min_three max_four min_four
attribute [local go_sem high] eqA34
def impl_EndPoint_86.l0 : Nat → List (S34) → Int → Int → Int → Int → Option (Int)
 | 0, _, _, _, _, _ => none
 | k + 1, x0, x7, x8, x288000, x288001 => if x8 < x7 then (if 0 ≤ x8 then (if x8 < (x0.length : Int) then (if (x288000 == ((rd_T34 x0 x8).f0) && (x288001 == ((rd_T34 x0 x8).f1))) = true then (some x8) else (impl_EndPoint_86.l0 k x0 x7 (wrap64 (x8 + 1)) x288000 x288001)) else (none)) else (none)) else (some (-1))
def impl_EndPoint_86.f (k : Nat) (l0 : List (S34)) (a1_0 : Int) (a1_1 : Int) : Option (Int) := impl_EndPoint_86.l0 k l0 (l0.length : Int) 0 a1_0 a1_1
theorem impl_EndPoint_86.mono_l : ∀ k, (∀ y0 y1 y2 y3 y4, LeO (impl_EndPoint_86.l0 k y0 y1 y2 y3 y4) (impl_EndPoint_86.l0 (k + 1) y0 y1 y2 y3 y4))
 | 0 => fun _ _ _ _ _ r h => by simp [impl_EndPoint_86.l0] at h
 | k + 1 => by
  have ih0 := impl_EndPoint_86.mono_l k
  ·intro y0 y1 y2 y3 y4
   unfold impl_EndPoint_86.l0
   repeat' first | (with_reducible first | exact ih0 _ _ _ _ _ | exact LeO.refl _ | exact LeO.none _ | refine LeO.ite ?_ ?_ | refine LeO.bind ?_ (fun _ => ?_)) | exact ih0 _ _ _ _ _ | exact LeO.none _ | refine LeO.ite ?_ ?_ | refine LeO.bind ?_ (fun _ => ?_)
theorem impl_EndPoint_86.mono : ∀ a0 a1 a2 k, LeO (impl_EndPoint_86.f k a0 a1 a2) (impl_EndPoint_86.f (k + 1) a0 a1 a2) := by
 intro a0 a1 a2 k
 have ih0 := impl_EndPoint_86.mono_l k
 unfold impl_EndPoint_86.f
 repeat' first | (with_reducible first | exact ih0 _ _ _ _ _ | exact LeO.refl _ | exact LeO.none _ | refine LeO.ite ?_ ?_ | refine LeO.bind ?_ (fun _ => ?_)) | exact ih0 _ _ _ _ _ | exact LeO.none _ | refine LeO.ite ?_ ?_ | refine LeO.bind ?_ (fun _ => ?_)
set_option maxHeartbeats 8000000 in
set_option maxRecDepth 100000 in
theorem impl_EndPoint_86.calls (k : Nat) (A0 : Option Addr) (c0 : Nat) (l0 : List (S34)) (a1_0 : Int) (a1_1 : Int) (r : Int) (w : World) (hr0 : Kd.C k34 w A0 l0.length l0) (hc0 : l0.length ≤ c0) (h : impl_EndPoint_86.f k l0 a1_0 a1_1 = some r) :
  Calls Tryz.prog 86 #[.slice A0 l0.length c0, .agg #[.int .i64 a1_0, .int .i64 a1_1]] w fun e w' => e = .returned (.int .i64 r) ∧ Below w.heap.size w w' := by
 have hu34 := Tryz.underlying34
 have HR0 := am hr0
 have HC0 := am hc0
 clear hr0 hc0
 have HB := am (Below.refl w.heap.size w)
 have H : (impl_EndPoint_86.l0 k l0 (l0.length : Int) 0 a1_0 a1_1) = some r := h
 clear h
 have H' := am H
 clear H
 go_enter Tryz.func86, Tryz.ntmps86
 iterate 4 ((try go_quiet (fail)); (try go_wp2_with (first | ((with_reducible refine gate_dst (N := 3) rfl ?_); refine box_event rfl (N := 3) rfl (cs := #[.int .i64 a1_0, .int .i64 a1_1]) (t := 34) hr_ ?_; intro gb287 hg w3 hbox hb; have BK287 := am hbox; have GW287 := gwE HB hg; have GE287 := gwE HB hg; replace HB := hbS HB hb; clear hb hbox hg))))
 go_loopg [8] k (fun kq v8 w' => ∃ (x8_1 : Int), v8 = .int .i64 x8_1 ∧ Aside0 (impl_EndPoint_86.l0 kq l0 (l0.length : Int) x8_1 a1_0 a1_1 = some r) ∧ Aside0 (kq ≤ k) ∧ Aside0 (w'.heap[gb287]? = some (.cells #[.int .i64 a1_0, .int .i64 a1_1] 34 (0, 0))) ∧ Aside0 (Below w.heap.size w w'))
 case atStart => exact ⟨(0), rs_, H', ⟨Nat.le_refl _⟩, ⟨bk BK287⟩, ⟨m2_⟩⟩
 case round =>
  clear H'
  try clear p2
  obtain ⟨x8_1, rfl, HA, HK1, BK287, HB⟩ := hrel
  cases gk with
  | zero => exact absurd HA.out (by simp [impl_EndPoint_86.l0])
  | succ k1 =>
   have H := HA.out
   clear HA
   simp only [impl_EndPoint_86.l0] at H
   by_cases c4 : x8_1 < (l0.length : Int)
   ·rw [if_pos c4] at H
    have c4b0 : decide (x8_1 < (l0.length : Int)) = true := decide_eq_true c4
    clear c4
    by_cases c5 : 0 ≤ x8_1
    ·rw [if_pos c5] at H
     have c5b0 : decide (0 ≤ x8_1) = true := decide_eq_true c5
     clear c5
     by_cases c6 : x8_1 < (l0.length : Int)
     ·rw [if_pos c6] at H
      have c6b0 : decide (x8_1 < (l0.length : Int)) = true := decide_eq_true c6
      clear c6
      by_cases c7 : (a1_0 == ((rd_T34 l0 x8_1).f0) && (a1_1 == ((rd_T34 l0 x8_1).f1))) = true
      ·rw [if_pos c7] at H
       have c7b0 : (a1_0 == ((rd_T34 l0 x8_1).f0) && (a1_1 == ((rd_T34 l0 x8_1).f1))) = true := c7
       (try (have c7b1 : decide (a1_0 = ((rd_T34 l0 x8_1).f0) && (a1_1 == ((rd_T34 l0 x8_1).f1))) = true := by simpa using c7))
       (try (have c7b2 : (a1_0 == ((rd_T34 l0 x8_1).f0) && (a1_1 == ((rd_T34 l0 x8_1).f1))) = true := by simpa using c7))
       clear c7
       obtain rfl := Option.some.inj H
       have := bcell BK287 0
       have := bcell BK287 1
       have := bfz BK287 0
       have := bfz BK287 1
       have p288 : 0 ≤ (x8_1 : Int) := of_decide_eq_true da_
       have q288 : x8_1 < (l0.length : Int) := of_decide_eq_true da_
       obtain ⟨ad288, e288, hx288_0, hx288_1⟩ := at_T34 HR0.out x8_1 p288 q288
       cases e288
       replace hx288_0 := bcl HB hx288_0
       replace hx288_1 := bcl HB hx288_1
       replace p288 := eq_true p288
       replace q288 := eq_true q288
       go_wp2
       repeat (go_quiet (fail); try go_wp2)
       go_ret
       exact ⟨fi_, m2_⟩
      ·rw [if_neg c7] at H
       have c7b0 : (a1_0 == ((rd_T34 l0 x8_1).f0) && (a1_1 == ((rd_T34 l0 x8_1).f1))) = false := by simpa using c7
       (try (have c7b1 : decide (a1_0 = ((rd_T34 l0 x8_1).f0) && (a1_1 == ((rd_T34 l0 x8_1).f1))) = false := by simpa using c7))
       (try (have c7b2 : (a1_0 == ((rd_T34 l0 x8_1).f0) && (a1_1 == ((rd_T34 l0 x8_1).f1))) = false := by simpa using c7))
       (try (have c7b3 : ¬ (a1_0 = ((rd_T34 l0 x8_1).f0) && (a1_1 == ((rd_T34 l0 x8_1).f1))) := by simpa using c7))
       clear c7
       have H' := am H
       clear H
       have := bcell BK287 0
       have := bcell BK287 1
       have := bfz BK287 0
       have := bfz BK287 1
       have p288 : 0 ≤ (x8_1 : Int) := of_decide_eq_true da_
       have q288 : x8_1 < (l0.length : Int) := of_decide_eq_true da_
       obtain ⟨ad288, e288, hx288_0, hx288_1⟩ := at_T34 HR0.out x8_1 p288 q288
       cases e288
       replace hx288_0 := bcl HB hx288_0
       replace hx288_1 := bcl HB hx288_1
       replace p288 := eq_true p288
       replace q288 := eq_true q288
       go_wp2
       repeat (go_quiet (fail); try go_wp2)
       go_roundg k1
       case measure => have := HK1.out; omega
       case rel => exact ⟨(wrap64 (x8_1 + 1)), rs_, H', ⟨by have := HK1.out; omega⟩, ⟨bk BK287⟩, ⟨m2_⟩⟩
     ·rw [if_neg c6] at H
      exact absurd H (by simp)
    ·rw [if_neg c5] at H
     exact absurd H (by simp)
   ·rw [if_neg c4] at H
    have c4b0 : decide (x8_1 < (l0.length : Int)) = false := decide_eq_false c4
    clear c4
    obtain rfl := Option.some.inj H
    go_wp2
    repeat (go_quiet (fail); try go_wp2)
    go_ret
    exact ⟨fi_, m2_⟩
end
section
attribute [local go_sem] max2_int min2_int max_two min_two max_three min_three max_four min_four
def impl_EndPoint_53.f (k : Nat) (l0 : List (S34)) (a1_0 : Int) (a1_1 : Int) : Option (Bool) := (impl_EndPoint_86.f k l0 a1_0 a1_1).bind fun t290 => (some (decide (t290 ≥ 0)))
theorem impl_EndPoint_53.mono : ∀ a0 a1 a2 k, LeO (impl_EndPoint_53.f k a0 a1 a2) (impl_EndPoint_53.f (k + 1) a0 a1 a2) := by
 intro a0 a1 a2 k
 unfold impl_EndPoint_53.f
 repeat' first | (with_reducible first | exact impl_EndPoint_86.mono _ _ _ _ | exact LeO.refl _ | exact LeO.none _ | refine LeO.ite ?_ ?_ | refine LeO.bind ?_ (fun _ => ?_)) | exact impl_EndPoint_86.mono _ _ _ _ | exact LeO.none _ | refine LeO.ite ?_ ?_ | refine LeO.bind ?_ (fun _ => ?_)
set_option maxHeartbeats 8000000 in
set_option maxRecDepth 100000 in
theorem impl_EndPoint_53.calls (k : Nat) (A0 : Option Addr) (c0 : Nat) (l0 : List (S34)) (a1_0 : Int) (a1_1 : Int) (r : Bool) (w : World) (hr0 : Kd.C k34 w A0 l0.length l0) (hc0 : l0.length ≤ c0) (h : impl_EndPoint_53.f k l0 a1_0 a1_1 = some r) :
  Calls Tryz.prog 53 #[.slice A0 l0.length c0, .agg #[.int .i64 a1_0, .int .i64 a1_1]] w fun e w' => e = .returned (.bool r) ∧ Below w.heap.size w w' := by
 have hu34 := Tryz.underlying34
 have HR0 := am hr0
 have HC0 := am hc0
 clear hr0 hc0
 have HB := am (Below.refl w.heap.size w)
 have H : ((impl_EndPoint_86.f k l0 a1_0 a1_1).bind fun t290 => (some (decide (t290 ≥ 0)))) = some r := h
 clear h
 obtain ⟨t290, A3, H⟩ := bse H
 try dsimp only at H
 obtain rfl := Option.some.inj H
 go_enter Tryz.func53, Tryz.ntmps53
 go_wp2_with (first | ((with_reducible refine gate_dst (N := 3) rfl ?_); refine box_event rfl (N := 3) rfl (cs := #[.int .i64 a1_0, .int .i64 a1_1]) (t := 34) hr_ ?_; intro gb289 hg w4 hbox hb; have BK289 := am hbox; have GW289 := gwE HB hg; have GE289 := gwE HB hg; replace HB := hbS HB hb; clear hb hbox hg; have := bcell BK289 0; have := bcell BK289 1; have := bfz BK289 0; have := bfz BK289 1) | ((with_reducible refine gate_callee (f := 86) rfl ?_); refine gL (some 7) Tryz.func86 #[.slice A0 l0.length c0, .agg #[.int .i64 a1_0, .int .i64 a1_1]] ?_; (with_reducible refine (impl_EndPoint_86.calls k _ _ l0 a1_0 a1_1 t290 _ ?side1 ?side2 A3.out).mono ?_); (case side1 => exact m1_); (case side2 => exact HC0.out); rintro e w6 ⟨rfl, hb⟩; refine ⟨_, rfl, ?_⟩; replace BK289 := bkB BK289 hb; replace HB := hbS HB hb; (try clear hb)))
 go_ret
 exact ⟨fi_, m2_⟩
def impl_MapOk.l0 : Nat → List (S34) → Int → Int → List (S34) → Option (Bool)
 | 0, _, _, _, _ => none
 | k + 1, x6, x7, x8, x292000 => if x8 < x7 then (if 0 ≤ x8 then (if x8 < (x6.length : Int) then ((impl_EndInside.f ((rd_T34 x6 x8).f0) ((rd_T34 x6 x8).f1)).bind fun t294 => (if t294 = true then (if x8 ≤ (x292000.length : Int) then ((impl_EndPoint_53.f k (x292000.take (x8 : Int).toNat) ((rd_T34 x6 x8).f0) ((rd_T34 x6 x8).f1)).bind fun t299 => (if t299 = true then (some false) else (impl_MapOk.l0 k x6 x7 (wrap64 (x8 + 1)) x292000))) else (none)) else (some false))) else (none)) else (none)) else (some (decide ((x292000.length : Int) ≤ 6)))
def impl_MapOk.f (k : Nat) (l0_0 : List (S34)) : Option (Bool) := impl_MapOk.l0 k l0_0 (l0_0.length : Int) 0 l0_0
theorem impl_MapOk.mono_l : ∀ k, (∀ y0 y1 y2 y3, LeO (impl_MapOk.l0 k y0 y1 y2 y3) (impl_MapOk.l0 (k + 1) y0 y1 y2 y3))
 | 0 => fun _ _ _ _ r h => by simp [impl_MapOk.l0] at h
 | k + 1 => by
  have ih0 := impl_MapOk.mono_l k
  ·intro y0 y1 y2 y3
   unfold impl_MapOk.l0
   repeat' first | (with_reducible first | exact ih0 _ _ _ _ | exact impl_EndPoint_53.mono _ _ _ _ | exact LeO.refl _ | exact LeO.none _ | refine LeO.ite ?_ ?_ | refine LeO.bind ?_ (fun _ => ?_)) | exact ih0 _ _ _ _ | exact impl_EndPoint_53.mono _ _ _ _ | exact LeO.none _ | refine LeO.ite ?_ ?_ | refine LeO.bind ?_ (fun _ => ?_)
theorem impl_MapOk.mono : ∀ a0 k, LeO (impl_MapOk.f k a0) (impl_MapOk.f (k + 1) a0) := by
 intro a0 k
 have ih0 := impl_MapOk.mono_l k
 unfold impl_MapOk.f
 repeat' first | (with_reducible first | exact ih0 _ _ _ _ | exact impl_EndPoint_53.mono _ _ _ _ | exact LeO.refl _ | exact LeO.none _ | refine LeO.ite ?_ ?_ | refine LeO.bind ?_ (fun _ => ?_)) | exact ih0 _ _ _ _ | exact impl_EndPoint_53.mono _ _ _ _ | exact LeO.none _ | refine LeO.ite ?_ ?_ | refine LeO.bind ?_ (fun _ => ?_)
def impl_MapOk.T4 : Bool × List (List Nat × List Nat) := (true, [([], []), ([0], [0]), ([1], [1]), ([2, 1], [2]), ([3], [3]), ([4, 3], [3, 4]), ([3], [3]), ([5, 6, 3], [3, 5, 6]), ([3], [3]), ([7, 8, 3, 3], [3, 7, 8]), ([3, 9], [3, 9])])
def impl_MapOk.B4 : List Nat := [0, 1, 3, 7, 15, 31, 15, 127, 15, 511, 1023]
theorem impl_MapOk.tab4 : rtab .any (opsOf Tryz.f20 4) = impl_MapOk.T4 := by kernel_rfl
theorem impl_MapOk.bits4 : waitsOk impl_MapOk.T4.2 impl_MapOk.B4 = true := by kernel_rfl
set_option maxHeartbeats 8000000 in
set_option maxRecDepth 100000 in
theorem impl_MapOk.calls (k : Nat) (A0_0 : Option Addr) (c0_0 : Nat) (l0_0 : List (S34)) (r : Bool) (w : World) (hr0_0 : Kd.C k34 w A0_0 l0_0.length l0_0) (hc0_0 : l0_0.length ≤ c0_0) (h : impl_MapOk.f k l0_0 = some r) :
  Calls Tryz.prog 20 #[.agg #[.slice A0_0 l0_0.length c0_0]] w fun e w' => e = .returned (.bool r) ∧ Below w.heap.size w w' := by
 have hu25 := Tryz.underlying25
 have hu34 := Tryz.underlying34
 have HR0_0 := am hr0_0
 have HC0_0 := am hc0_0
 clear hr0_0 hc0_0
 have HB := am (Below.refl w.heap.size w)
 have H : (impl_MapOk.l0 k l0_0 (l0_0.length : Int) 0 l0_0) = some r := h
 clear h
 have H' := am H
 clear H
 go_enter Tryz.func20, Tryz.ntmps20
 go_wp2_with (first | ((with_reducible refine gate_dst (N := 1) rfl ?_); refine box_event rfl (N := 1) rfl (cs := #[.slice A0_0 l0_0.length c0_0]) (t := 25) hr_ ?_; intro gb291 hg w2 hbox hb; have BK291 := am hbox; have GW291 := gwE HB hg; have GE291 := gwE HB hg; replace HB := hbS HB hb; clear hb hbox hg; have hcz3_0 := bcell BK291 0; have hfz3_0 := blk_frozen BK291.out 0))
 go_loopg [8] k (fun kq v8 w' => ∃ (x8_1 : Int), v8 = .int .i64 x8_1 ∧ Aside0 (impl_MapOk.l0 kq l0_0 (l0_0.length : Int) x8_1 l0_0 = some r) ∧ Aside0 (kq ≤ k) ∧ Aside0 (w'.heap[gb291]? = some (.cells #[(.slice A0_0 l0_0.length c0_0)] 25 (0, 0))) ∧ Aside0 (Below w.heap.size w w'))
 case atStart => exact ⟨(0), rs_, H', ⟨Nat.le_refl _⟩, ⟨bk BK291⟩, ⟨m2_⟩⟩
 case round =>
  clear H'
  try clear c2
  try clear p2
  try clear hcz3_0
  try clear hfz3_0
  obtain ⟨x8_1, rfl, HA, HK1, BK291, HB⟩ := hrel
  cases gk with
  | zero => exact absurd HA.out (by simp [impl_MapOk.l0])
  | succ k1 =>
   have H := HA.out
   clear HA
   simp only [impl_MapOk.l0] at H
   by_cases c4 : x8_1 < (l0_0.length : Int)
   ·rw [if_pos c4] at H
    have c4b0 : decide (x8_1 < (l0_0.length : Int)) = true := decide_eq_true c4
    clear c4
    by_cases c5 : 0 ≤ x8_1
    ·rw [if_pos c5] at H
     have c5b0 : decide (0 ≤ x8_1) = true := decide_eq_true c5
     clear c5
     by_cases c6 : x8_1 < (l0_0.length : Int)
     ·rw [if_pos c6] at H
      have c6b0 : decide (x8_1 < (l0_0.length : Int)) = true := decide_eq_true c6
      clear c6
      obtain ⟨t294, A7, H⟩ := bse H
      try dsimp only at H
      by_cases c8 : t294 = true
      ·subst c8
       have H1 : (if x8_1 ≤ (l0_0.length : Int) then ((impl_EndPoint_53.f k1 (l0_0.take (x8_1 : Int).toNat) ((rd_T34 l0_0 x8_1).f0) ((rd_T34 l0_0 x8_1).f1)).bind fun t299 => (if t299 = true then (some false) else (impl_MapOk.l0 k1 l0_0 (l0_0.length : Int) (wrap64 (x8_1 + 1)) l0_0))) else (none)) = some r := by rw [if_pos rfl] at H; exact H
       clear H
       have H := H1
       clear H1
       have c9b0 := eq_true (of_decide_eq_true da_ : 0 ≤ x8_1)
       by_cases c10 : x8_1 ≤ (l0_0.length : Int)
       ·rw [if_pos c10] at H
        have c10b0 := eq_true c10
        have c10b1 : decide (x8_1 ≤ (l0_0.length : Int)) = true := decide_eq_true c10
        clear c10
        obtain ⟨y295, hy295⟩ : ∃ y_ : List (S34), y_ = (l0_0.take (x8_1 : Int).toNat) := ⟨_, rfl⟩
        replace H : ((impl_EndPoint_53.f k1 y295 ((rd_T34 l0_0 x8_1).f0) ((rd_T34 l0_0 x8_1).f1)).bind fun t299 => (if t299 = true then (some false) else (impl_MapOk.l0 k1 l0_0 (l0_0.length : Int) (wrap64 (x8_1 + 1)) l0_0))) = some r := by first | (rw [hy295]; with_reducible exact H) | (have H2_ := (Option.bind_some _ _).symm.trans H; rw [hy295]; with_reducible exact H2_) | (have H2_ := (Option.bind_some _ _).symm.trans H; with_reducible exact H2_) | with_reducible exact H | (rw [hy295]; exact H) | exact H
        have Ny295 := am hy295
        clear hy295
        obtain ⟨t299, A11, H⟩ := bse H
        try dsimp only at H
        by_cases c12 : t299 = true
        ·subst c12
         have H1 : (some false) = some r := by rw [if_pos rfl] at H; exact H
         clear H
         have H := H1
         clear H1
         obtain rfl := Option.some.inj H
         have p292 : 0 ≤ (x8_1 : Int) := of_decide_eq_true da_
         have q292 : x8_1 < (l0_0.length : Int) := of_decide_eq_true da_
         obtain ⟨ad292, e292, hx292_0, hx292_1⟩ := at_T34 HR0_0.out x8_1 p292 q292
         cases e292
         replace hx292_0 := bcl HB hx292_0
         replace hx292_1 := bcl HB hx292_1
         replace p292 := eq_true p292
         replace q292 := eq_true q292
         try go_wp2_with (first | ((with_reducible refine gate_dst (N := 4) rfl ?_); refine box_event rfl (N := 4) rfl (cs := #[.int .i64 0, .int .i64 0]) (t := 34) hr_ ?_; intro gb293 hg w13 hbox hb; have BK293 := am hbox; have GW293 := gwE HB hg; have GE293 := gwE HB hg; replace HB := hbS HB hb; have NB291_293 := neL BK291 hg; have NB293_291 := neG BK291 hg; replace BK291 := bkB BK291 hb; clear hb hbox hg; have := NB293_291.out; have := NB291_293.out; have := bcell BK293 0; have := bcell BK293 1; have := bfz BK293 0; have := bfz BK293 1))
         have n0_ : Aside0 (((w13.setCell ⟨gb293, 0, none⟩ (.int .i64 ((rd_T34 l0_0 x8_1).f0))).setCell ⟨gb293, 1, none⟩ (.int .i64 ((rd_T34 l0_0 x8_1).f1))).heap[gb291]? = some (.cells #[.slice (some ad292) l0_0.length c0_0] 25 (0, 0))) := bf_ BK291
         have n1_ : Aside0 (((w13.setCell ⟨gb293, 0, none⟩ (.int .i64 ((rd_T34 l0_0 x8_1).f0))).setCell ⟨gb293, 1, none⟩ (.int .i64 ((rd_T34 l0_0 x8_1).f1))).heap[gb293]? = some (.cells #[.int .i64 ((rd_T34 l0_0 x8_1).f0), .int .i64 ((rd_T34 l0_0 x8_1).f1)] 34 (0, 0))) := ⟨by (with_reducible repeat refine bu ?_); refine blk_put (cs := #[.int .i64 ((rd_T34 l0_0 x8_1).f0), .int .i64 0]) ?_ 1 _ rfl; (with_reducible repeat refine bu ?_); refine blk_put (cs := #[.int .i64 0, .int .i64 0]) ?_ 0 _ rfl; (with_reducible repeat refine bu ?_); exact BK293.out⟩
         have n2_ : Aside0 (Below w.heap.size w ((w13.setCell ⟨gb293, 0, none⟩ (.int .i64 ((rd_T34 l0_0 x8_1).f0))).setCell ⟨gb293, 1, none⟩ (.int .i64 ((rd_T34 l0_0 x8_1).f1)))) := ⟨m2_⟩
         (try clear BK291)
         (try clear BK293)
         (try clear HB)
         generalize ((w13.setCell ⟨gb293, 0, none⟩ (.int .i64 ((rd_T34 l0_0 x8_1).f0))).setCell ⟨gb293, 1, none⟩ (.int .i64 ((rd_T34 l0_0 x8_1).f1))) = w16 at n0_ n1_ n2_ ⊢
         have BK291 := n0_
         have BK293 := n1_
         have HB := n2_
         clear n0_ n1_ n2_
         replace BK291 := am (blk_drew BK291.out)
         replace BK293 := am (blk_drew BK293.out)
         replace HB := am (below_drew1 HB.out)
         refine start_ (n := 11) (S := fun w' => w'.cell? ⟨gb293, 0, none⟩ = some (.int .i64 ((rd_T34 l0_0 x8_1).f0)) ∧ w'.cell? ⟨gb293, 1, none⟩ = some (.int .i64 ((rd_T34 l0_0 x8_1).f1)) ∧ w'.cell? ⟨gb291, 0, none⟩ = some (.slice (some ad292) l0_0.length c0_0)) (ds := []) #[false, false, false, false, false, false, false, false, false, false, false] (by kernel_rfl) rfl rfl ⟨bcell BK293 0, bcell BK293 1, bcell BK291 0⟩ (fun hHeld => ?_); refine with_tabW impl_MapOk.tab4 impl_MapOk.bits4 (fun HT_ HW_ => ?_)
         generalize w16.drew = w17 at BK291 BK293 HB hHeld ⊢
         refine tk_ 0 (some 13) (bm 11 1) rfl (.inl ⟨rfl, m10_⟩) ?_
         refine on_ 1 (some 14) (bm 11 3) (fun K hK => ?_)
         refine gR Tryz.func52 #[.agg #[.int .i64 ((rd_T34 l0_0 x8_1).f0), .int .i64 ((rd_T34 l0_0 x8_1).f1)]] ?_
         with_reducible refine (impl_EndInside.calls ((rd_T34 l0_0 x8_1).f0) ((rd_T34 l0_0 x8_1).f1) true _ A7.out).mono ?_
         rintro e w18 ⟨rfl, hb⟩
         refine ⟨_, rfl, ?_⟩
         replace BK291 := bkB BK291 hb
         replace BK293 := bkB BK293 hb
         replace HB := hbS HB hb
         (try clear hb)
         (try clear hb2)
         (try clear hk)
         (try clear hi)
         have q19 : (x8_1 : Int) ≤ ((l0_0.length : Int) : Int) := of_decide_eq_true da_
         obtain ⟨i019, hi019, _, hsz19, _⟩ := info_parts info34
         have hroom19 : l0_0.length ≤ c0_0 := HC0_0.out
         have hC19 : Kd.C k34 _ (some ad292) l0_0.length l0_0 := HR0_0.out
         have hcut19 := cut_to (P := Tryz.prog) 23 34 .i64 Tryz.underlying23 hi019 (some ad292) l0_0.length c0_0 x8_1 (of_decide_eq_true da_) q19 hroom19
         have hr19 := Kd.C_take (m := (x8_1 : Int).toNat) hC19 (by omega)
         have hy19 : y295.length = (x8_1 : Int).toNat := (by rw [Ny295.out, List.length_take]; omega)
         rw [← Ny295.out] at hr19
         rw [← hy19] at hcut19
         have HR298 := am hr19
         have HC298 := am (show y295.length ≤ c0_0 from by omega)
         clear hr19 hC19 hroom19 hi019 hsz19
         have KY19 := am hy19
         clear hy19
         replace q19 := eq_true q19
         refine hK.out _ _ ⟨bcell BK293 0, bcell BK293 1, bcell BK291 0⟩ (fun hHeld => ?_)
         clear hK K
         refine nm_ ?_
         refine pu_ 2 (some 15) (bm 11 7) ?_
         refine pu_ 3 (some 16) (bm 11 15) ?_
         refine pu_ 4 (some 17) (bm 11 31) ?_
         refine pu_ 6 (some 19) (bm 11 95) ?_
         refine tk_ 5 (some 18) (bm 11 127) rfl (.inl ⟨rfl, m10_⟩) ?_
         refine pu_ 7 (some 20) (bm 11 255) ?_
         refine tk_ 8 (some 21) (bm 11 511) rfl (.inl ⟨rfl, m10_⟩) ?_
         refine on_ 9 (some 22) (bm 11 1023) (fun K hK => ?_)
         refine gR Tryz.func53 #[.slice (some ad292) y295.length c0_0, .agg #[.int .i64 ((rd_T34 l0_0 x8_1).f0), .int .i64 ((rd_T34 l0_0 x8_1).f1)]] ?_
         with_reducible refine (impl_EndPoint_53.calls k1 _ _ y295 ((rd_T34 l0_0 x8_1).f0) ((rd_T34 l0_0 x8_1).f1) true _ ?side1 ?side2 A11.out).mono ?_
         (case side1 => exact m11_)
         (case side2 => exact HC298.out)
         rintro e w20 ⟨rfl, hb⟩
         refine ⟨_, rfl, ?_⟩
         replace BK291 := bkB BK291 hb
         replace BK293 := bkB BK293 hb
         replace HB := hbS HB hb
         (try clear hb)
         (try clear hb2)
         (try clear hk)
         (try clear hi)
         refine hK.out _ _ ⟨bcell BK293 0, bcell BK293 1, bcell BK291 0⟩ (fun hHeld => ?_)
         clear hK K
         refine nm_ ?_
         refine pu_ 10 (some 23) (bm 11 2047) ?_
         refine done_ (done_of HT_.out (by kernel_rfl)) ?_
         try go_wp2
         go_ret
         exact ⟨fi_, m2_⟩
        ·replace c12 := Bool.eq_false_iff.mpr c12
         subst c12
         have H1 : (impl_MapOk.l0 k1 l0_0 (l0_0.length : Int) (wrap64 (x8_1 + 1)) l0_0) = some r := by rw [if_neg (show ¬ (false = true) by decide)] at H; exact H
         clear H
         have H := H1
         clear H1
         have H' := am H
         clear H
         have p292 : 0 ≤ (x8_1 : Int) := of_decide_eq_true da_
         have q292 : x8_1 < (l0_0.length : Int) := of_decide_eq_true da_
         obtain ⟨ad292, e292, hx292_0, hx292_1⟩ := at_T34 HR0_0.out x8_1 p292 q292
         cases e292
         replace hx292_0 := bcl HB hx292_0
         replace hx292_1 := bcl HB hx292_1
         replace p292 := eq_true p292
         replace q292 := eq_true q292
         try go_wp2_with (first | ((with_reducible refine gate_dst (N := 4) rfl ?_); refine box_event rfl (N := 4) rfl (cs := #[.int .i64 0, .int .i64 0]) (t := 34) hr_ ?_; intro gb293 hg w21 hbox hb; have BK293 := am hbox; have GW293 := gwE HB hg; have GE293 := gwE HB hg; replace HB := hbS HB hb; have NB291_293 := neL BK291 hg; have NB293_291 := neG BK291 hg; replace BK291 := bkB BK291 hb; clear hb hbox hg; have := NB293_291.out; have := NB291_293.out; have := bcell BK293 0; have := bcell BK293 1; have := bfz BK293 0; have := bfz BK293 1))
         have n0_ : Aside0 (((w21.setCell ⟨gb293, 0, none⟩ (.int .i64 ((rd_T34 l0_0 x8_1).f0))).setCell ⟨gb293, 1, none⟩ (.int .i64 ((rd_T34 l0_0 x8_1).f1))).heap[gb291]? = some (.cells #[.slice (some ad292) l0_0.length c0_0] 25 (0, 0))) := bf_ BK291
         have n1_ : Aside0 (((w21.setCell ⟨gb293, 0, none⟩ (.int .i64 ((rd_T34 l0_0 x8_1).f0))).setCell ⟨gb293, 1, none⟩ (.int .i64 ((rd_T34 l0_0 x8_1).f1))).heap[gb293]? = some (.cells #[.int .i64 ((rd_T34 l0_0 x8_1).f0), .int .i64 ((rd_T34 l0_0 x8_1).f1)] 34 (0, 0))) := ⟨by (with_reducible repeat refine bu ?_); refine blk_put (cs := #[.int .i64 ((rd_T34 l0_0 x8_1).f0), .int .i64 0]) ?_ 1 _ rfl; (with_reducible repeat refine bu ?_); refine blk_put (cs := #[.int .i64 0, .int .i64 0]) ?_ 0 _ rfl; (with_reducible repeat refine bu ?_); exact BK293.out⟩
         have n2_ : Aside0 (Below w.heap.size w ((w21.setCell ⟨gb293, 0, none⟩ (.int .i64 ((rd_T34 l0_0 x8_1).f0))).setCell ⟨gb293, 1, none⟩ (.int .i64 ((rd_T34 l0_0 x8_1).f1)))) := ⟨m2_⟩
         (try clear BK291)
         (try clear BK293)
         (try clear HB)
         generalize ((w21.setCell ⟨gb293, 0, none⟩ (.int .i64 ((rd_T34 l0_0 x8_1).f0))).setCell ⟨gb293, 1, none⟩ (.int .i64 ((rd_T34 l0_0 x8_1).f1))) = w24 at n0_ n1_ n2_ ⊢
         have BK291 := n0_
         have BK293 := n1_
         have HB := n2_
         clear n0_ n1_ n2_
         replace BK291 := am (blk_drew BK291.out)
         replace BK293 := am (blk_drew BK293.out)
         replace HB := am (below_drew1 HB.out)
         refine start_ (n := 11) (S := fun w' => w'.cell? ⟨gb293, 0, none⟩ = some (.int .i64 ((rd_T34 l0_0 x8_1).f0)) ∧ w'.cell? ⟨gb293, 1, none⟩ = some (.int .i64 ((rd_T34 l0_0 x8_1).f1)) ∧ w'.cell? ⟨gb291, 0, none⟩ = some (.slice (some ad292) l0_0.length c0_0)) (ds := []) #[false, false, false, false, false, false, false, false, false, false, false] (by kernel_rfl) rfl rfl ⟨bcell BK293 0, bcell BK293 1, bcell BK291 0⟩ (fun hHeld => ?_); refine with_tabW impl_MapOk.tab4 impl_MapOk.bits4 (fun HT_ HW_ => ?_)
         generalize w24.drew = w25 at BK291 BK293 HB hHeld ⊢
         refine tk_ 0 (some 13) (bm 11 1) rfl (.inl ⟨rfl, m10_⟩) ?_
         refine on_ 1 (some 14) (bm 11 3) (fun K hK => ?_)
         refine gR Tryz.func52 #[.agg #[.int .i64 ((rd_T34 l0_0 x8_1).f0), .int .i64 ((rd_T34 l0_0 x8_1).f1)]] ?_
         with_reducible refine (impl_EndInside.calls ((rd_T34 l0_0 x8_1).f0) ((rd_T34 l0_0 x8_1).f1) true _ A7.out).mono ?_
         rintro e w26 ⟨rfl, hb⟩
         refine ⟨_, rfl, ?_⟩
         replace BK291 := bkB BK291 hb
         replace BK293 := bkB BK293 hb
         replace HB := hbS HB hb
         (try clear hb)
         (try clear hb2)
         (try clear hk)
         (try clear hi)
         have q27 : (x8_1 : Int) ≤ ((l0_0.length : Int) : Int) := of_decide_eq_true da_
         obtain ⟨i027, hi027, _, hsz27, _⟩ := info_parts info34
         have hroom27 : l0_0.length ≤ c0_0 := HC0_0.out
         have hC27 : Kd.C k34 _ (some ad292) l0_0.length l0_0 := HR0_0.out
         have hcut27 := cut_to (P := Tryz.prog) 23 34 .i64 Tryz.underlying23 hi027 (some ad292) l0_0.length c0_0 x8_1 (of_decide_eq_true da_) q27 hroom27
         have hr27 := Kd.C_take (m := (x8_1 : Int).toNat) hC27 (by omega)
         have hy27 : y295.length = (x8_1 : Int).toNat := (by rw [Ny295.out, List.length_take]; omega)
         rw [← Ny295.out] at hr27
         rw [← hy27] at hcut27
         have HR298 := am hr27
         have HC298 := am (show y295.length ≤ c0_0 from by omega)
         clear hr27 hC27 hroom27 hi027 hsz27
         have KY27 := am hy27
         clear hy27
         replace q27 := eq_true q27
         refine hK.out _ _ ⟨bcell BK293 0, bcell BK293 1, bcell BK291 0⟩ (fun hHeld => ?_)
         clear hK K
         refine nm_ ?_
         refine pu_ 2 (some 15) (bm 11 7) ?_
         refine pu_ 3 (some 16) (bm 11 15) ?_
         refine pu_ 4 (some 17) (bm 11 31) ?_
         refine pu_ 6 (some 19) (bm 11 95) ?_
         refine tk_ 5 (some 18) (bm 11 127) rfl (.inl ⟨rfl, m10_⟩) ?_
         refine pu_ 7 (some 20) (bm 11 255) ?_
         refine tk_ 8 (some 21) (bm 11 511) rfl (.inl ⟨rfl, m10_⟩) ?_
         refine on_ 9 (some 22) (bm 11 1023) (fun K hK => ?_)
         refine gR Tryz.func53 #[.slice (some ad292) y295.length c0_0, .agg #[.int .i64 ((rd_T34 l0_0 x8_1).f0), .int .i64 ((rd_T34 l0_0 x8_1).f1)]] ?_
         with_reducible refine (impl_EndPoint_53.calls k1 _ _ y295 ((rd_T34 l0_0 x8_1).f0) ((rd_T34 l0_0 x8_1).f1) false _ ?side1 ?side2 A11.out).mono ?_
         (case side1 => exact m11_)
         (case side2 => exact HC298.out)
         rintro e w28 ⟨rfl, hb⟩
         refine ⟨_, rfl, ?_⟩
         replace BK291 := bkB BK291 hb
         replace BK293 := bkB BK293 hb
         replace HB := hbS HB hb
         (try clear hb)
         (try clear hb2)
         (try clear hk)
         (try clear hi)
         refine hK.out _ _ ⟨bcell BK293 0, bcell BK293 1, bcell BK291 0⟩ (fun hHeld => ?_)
         clear hK K
         refine nm_ ?_
         refine pu_ 10 (some 23) (bm 11 2047) ?_
         refine done_ (done_of HT_.out (by kernel_rfl)) ?_
         try go_wp2
         go_roundg k1
         case measure => have := HK1.out; omega
         case rel => exact ⟨(wrap64 (x8_1 + 1)), rs_, H', ⟨by have := HK1.out; omega⟩, ⟨bk BK291⟩, ⟨m2_⟩⟩
       ·rw [if_neg c10] at H
        exact absurd H (by simp)
      ·replace c8 := Bool.eq_false_iff.mpr c8
       subst c8
       have H1 : (some false) = some r := by rw [if_neg (show ¬ (false = true) by decide)] at H; exact H
       clear H
       have H := H1
       clear H1
       obtain rfl := Option.some.inj H
       have p292 : 0 ≤ (x8_1 : Int) := of_decide_eq_true da_
       have q292 : x8_1 < (l0_0.length : Int) := of_decide_eq_true da_
       obtain ⟨ad292, e292, hx292_0, hx292_1⟩ := at_T34 HR0_0.out x8_1 p292 q292
       cases e292
       replace hx292_0 := bcl HB hx292_0
       replace hx292_1 := bcl HB hx292_1
       replace p292 := eq_true p292
       replace q292 := eq_true q292
       try go_wp2_with (first | ((with_reducible refine gate_dst (N := 4) rfl ?_); refine box_event rfl (N := 4) rfl (cs := #[.int .i64 0, .int .i64 0]) (t := 34) hr_ ?_; intro gb293 hg w29 hbox hb; have BK293 := am hbox; have GW293 := gwE HB hg; have GE293 := gwE HB hg; replace HB := hbS HB hb; have NB291_293 := neL BK291 hg; have NB293_291 := neG BK291 hg; replace BK291 := bkB BK291 hb; clear hb hbox hg; have := NB293_291.out; have := NB291_293.out; have := bcell BK293 0; have := bcell BK293 1; have := bfz BK293 0; have := bfz BK293 1))
       have n0_ : Aside0 (((w29.setCell ⟨gb293, 0, none⟩ (.int .i64 ((rd_T34 l0_0 x8_1).f0))).setCell ⟨gb293, 1, none⟩ (.int .i64 ((rd_T34 l0_0 x8_1).f1))).heap[gb291]? = some (.cells #[.slice (some ad292) l0_0.length c0_0] 25 (0, 0))) := bf_ BK291
       have n1_ : Aside0 (((w29.setCell ⟨gb293, 0, none⟩ (.int .i64 ((rd_T34 l0_0 x8_1).f0))).setCell ⟨gb293, 1, none⟩ (.int .i64 ((rd_T34 l0_0 x8_1).f1))).heap[gb293]? = some (.cells #[.int .i64 ((rd_T34 l0_0 x8_1).f0), .int .i64 ((rd_T34 l0_0 x8_1).f1)] 34 (0, 0))) := ⟨by (with_reducible repeat refine bu ?_); refine blk_put (cs := #[.int .i64 ((rd_T34 l0_0 x8_1).f0), .int .i64 0]) ?_ 1 _ rfl; (with_reducible repeat refine bu ?_); refine blk_put (cs := #[.int .i64 0, .int .i64 0]) ?_ 0 _ rfl; (with_reducible repeat refine bu ?_); exact BK293.out⟩
       have n2_ : Aside0 (Below w.heap.size w ((w29.setCell ⟨gb293, 0, none⟩ (.int .i64 ((rd_T34 l0_0 x8_1).f0))).setCell ⟨gb293, 1, none⟩ (.int .i64 ((rd_T34 l0_0 x8_1).f1)))) := ⟨m2_⟩
       (try clear BK291)
       (try clear BK293)
       (try clear HB)
       generalize ((w29.setCell ⟨gb293, 0, none⟩ (.int .i64 ((rd_T34 l0_0 x8_1).f0))).setCell ⟨gb293, 1, none⟩ (.int .i64 ((rd_T34 l0_0 x8_1).f1))) = w32 at n0_ n1_ n2_ ⊢
       have BK291 := n0_
       have BK293 := n1_
       have HB := n2_
       clear n0_ n1_ n2_
       replace BK291 := am (blk_drew BK291.out)
       replace BK293 := am (blk_drew BK293.out)
       replace HB := am (below_drew1 HB.out)
       refine start_ (n := 11) (S := fun w' => w'.cell? ⟨gb293, 0, none⟩ = some (.int .i64 ((rd_T34 l0_0 x8_1).f0)) ∧ w'.cell? ⟨gb293, 1, none⟩ = some (.int .i64 ((rd_T34 l0_0 x8_1).f1))) (ds := []) #[false, false, false, false, false, false, false, false, false, false, false] (by kernel_rfl) rfl rfl ⟨bcell BK293 0, bcell BK293 1⟩ (fun hHeld => ?_); refine with_tabW impl_MapOk.tab4 impl_MapOk.bits4 (fun HT_ HW_ => ?_)
       generalize w32.drew = w33 at BK291 BK293 HB hHeld ⊢
       refine tk_ 0 (some 13) (bm 11 1) rfl (.inl ⟨rfl, m3_⟩) ?_
       refine on_ 1 (some 14) (bm 11 3) (fun K hK => ?_)
       refine gR Tryz.func52 #[.agg #[.int .i64 ((rd_T34 l0_0 x8_1).f0), .int .i64 ((rd_T34 l0_0 x8_1).f1)]] ?_
       with_reducible refine (impl_EndInside.calls ((rd_T34 l0_0 x8_1).f0) ((rd_T34 l0_0 x8_1).f1) false _ A7.out).mono ?_
       rintro e w34 ⟨rfl, hb⟩
       refine ⟨_, rfl, ?_⟩
       replace BK291 := bkB BK291 hb
       replace BK293 := bkB BK293 hb
       replace HB := hbS HB hb
       (try clear hb)
       (try clear hb2)
       (try clear hk)
       (try clear hi)
       refine hK.out _ _ ⟨bcell BK293 0, bcell BK293 1⟩ (fun hHeld => ?_)
       clear hK K
       refine nm_ ?_
       refine pu_ 2 (some 15) (bm 11 7) ?_
       refine pu_ 3 (some 16) (bm 11 15) ?_
       refine pv_ 4 (some 17) (bm 11 31) ?_
       refine pv_ 5 (some 18) (bm 11 63) ?_
       refine pv_ 6 (some 19) (bm 11 127) ?_
       refine pv_ 7 (some 20) (bm 11 255) ?_
       refine pv_ 8 (some 21) (bm 11 511) ?_
       refine pv_ 9 (some 22) (bm 11 1023) ?_
       refine pu_ 10 (some 23) (bm 11 2047) ?_
       refine done_ (done_of HT_.out (by kernel_rfl)) ?_
       try go_wp2
       go_ret
       exact ⟨fi_, m2_⟩
     ·rw [if_neg c6] at H
      exact absurd H (by simp)
    ·rw [if_neg c5] at H
     exact absurd H (by simp)
   ·rw [if_neg c4] at H
    have c4b0 : decide (x8_1 < (l0_0.length : Int)) = false := decide_eq_false c4
    clear c4
    obtain rfl := Option.some.inj H
    have := bcell BK291 0
    have := bfz BK291 0
    go_wp2
    go_ret
    exact ⟨fi_, m2_⟩
end
end Go.Proofs.YtffmbccgcaghjaaGreatDoor.P
