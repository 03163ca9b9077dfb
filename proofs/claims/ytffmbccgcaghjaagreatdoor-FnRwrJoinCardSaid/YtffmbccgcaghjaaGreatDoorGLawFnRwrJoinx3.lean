import Derived.Test.YtffmbccgcaghjaaGreatDoorGLawFnRwrJoinx2
import Derived.Test.YtffmbccgcaghjaaGreatDoorUFnRwrJoinOwn
import Derived.Shelf.Strings.BuilderK
import Derived.Lib.SliceRun
import Derived.Maps.OwnSet
import Derived.Maps.OwnOps
import Derived.Maps.Views
import Derived.DeepKeys4
namespace Go.Proofs.YtffmbccgcaghjaaGreatDoor.P
open Go.Proofs.YtffmbccgcaghjaaGreatDoorUFnRwrJoin.PrintLast Go.Proofs.YtffmbccgcaghjaaGreatDoorUFnRwrJoin.PrintMore Go.Proofs.YtffmbccgcaghjaaGreatDoorUFnRwrJoin.PrintWords Go.RowKit
set_option linter.unusedVariables false
set_option linter.unusedSimpArgs false
section
attribute [local go_sem] max2_int min2_int max_two min_two max_three min_three max_four min_four
def impl_StrOk.l0 : Nat → ByteArray → List ByteArray → Int → Int → Option (Bool)
 | 0, _, _, _, _ => none
 | k + 1, x0, x15, x16, x17 => if x17 < x16 then (if 0 ≤ x17 then (if x17 < (x15.length : Int) then ((impl_LinOk.f (rdOf ByteArray.empty x15 x17)).bind fun t707 => (if t707 = true then (impl_StrOk.l0 k x0 x15 x16 (wrap64 (x17 + 1))) else (some false))) else (none)) else (none)) else (some (decide ((x0.size : Int) ≤ 120)))
def impl_StrOk.f (k : Nat) (a0 : ByteArray) : Option (Bool) := (impl_StrLines.f a0).bind fun bt699 => (if bt699.1.length < 8796093022208 then ((some (bt699.1 ++ [bt699.2] : List ByteArray)).bind fun y703 => (impl_StrOk.l0 k a0 y703 (y703.length : Int) 0)) else (none))
theorem impl_StrOk.mono_l : ∀ k, (∀ y0 y1 y2 y3, LeO (impl_StrOk.l0 k y0 y1 y2 y3) (impl_StrOk.l0 (k + 1) y0 y1 y2 y3))
 | 0 => fun _ _ _ _ r h => by simp [impl_StrOk.l0] at h
 | k + 1 => by
  have ih0 := impl_StrOk.mono_l k
  ·intro y0 y1 y2 y3
   unfold impl_StrOk.l0
   repeat' first | (with_reducible first | exact ih0 _ _ _ _ | exact LeO.refl _ | exact LeO.none _ | refine LeO.ite ?_ ?_ | refine LeO.bind ?_ (fun _ => ?_)) | exact ih0 _ _ _ _ | exact LeO.none _ | refine LeO.ite ?_ ?_ | refine LeO.bind ?_ (fun _ => ?_)
theorem impl_StrOk.mono : ∀ a0 k, LeO (impl_StrOk.f k a0) (impl_StrOk.f (k + 1) a0) := by
 intro a0 k
 have ih0 := impl_StrOk.mono_l k
 unfold impl_StrOk.f
 repeat' first | (with_reducible first | exact ih0 _ _ _ _ | exact LeO.refl _ | exact LeO.none _ | refine LeO.ite ?_ ?_ | refine LeO.bind ?_ (fun _ => ?_)) | exact ih0 _ _ _ _ | exact LeO.none _ | refine LeO.ite ?_ ?_ | refine LeO.bind ?_ (fun _ => ?_)
set_option maxHeartbeats 8000000 in
set_option maxRecDepth 100000 in
theorem impl_StrOk.calls (k : Nat) (a0 : ByteArray) (r : Bool) (w : World) (h : impl_StrOk.f k a0 = some r) (hE : Env w) :
  Calls Tryz.prog 68 #[.string a0] w fun e w' => e = .returned (.bool r) ∧ Below w.heap.size w w' := by
 have HB := am (Below.refl w.heap.size w)
 have H : ((impl_StrLines.f a0).bind fun bt699 => (if bt699.1.length < 8796093022208 then ((some (bt699.1 ++ [bt699.2] : List ByteArray)).bind fun y703 => (impl_StrOk.l0 k a0 y703 (y703.length : Int) 0)) else (none))) = some r := h
 clear h
 obtain ⟨⟨t699, t700⟩, A2, H⟩ := bse H
 try dsimp only at H
 by_cases c3 : t699.length < 8796093022208
 ·rw [if_pos c3] at H
  have LMc3 := am c3
  clear c3
  obtain ⟨y703, hy703⟩ : ∃ y_ : List ByteArray, y_ = (t699 ++ [t700]) := ⟨_, rfl⟩
  replace H : (impl_StrOk.l0 k a0 y703 (y703.length : Int) 0) = some r := by first | (rw [hy703]; with_reducible exact H) | (have H2_ := (Option.bind_some _ _).symm.trans H; rw [hy703]; with_reducible exact H2_) | (have H2_ := (Option.bind_some _ _).symm.trans H; with_reducible exact H2_) | with_reducible exact H | (rw [hy703]; exact H) | exact H
  have Ny703 := am hy703
  clear hy703
  have H' := am H
  clear H
  go_enter Tryz.func68, Tryz.ntmps68
  go_wp2_with (first | ((with_reducible refine gate_callee (f := 36) rfl ?_); refine gL (some 9) Tryz.func36 #[.string a0] ?_; (with_reducible refine (impl_StrLines.calls a0 t699 t700 _ A2.out (Env.below hE (bl HB))).mono ?_); rintro e w4 ⟨v701, rfl, ho0, hb⟩; refine ⟨_, rfl, ?_⟩; have HO702 := am (Kd.R_lower ho0 (below_size (bl HB))); replace HB := hbS HB hb; (try clear hb); (try clear ho0)) | ((with_reducible refine gate_builtin (b := .append) (xs := #[.tmp 12, .tmp 14]) rfl ?_); at_builtin; refine Kd.R_append Kd.string (w0 := w) w.heap.size rfl (.tmp 12) (.tmp 14) 51 9 (.string ⟨#[]⟩) 16 rfl Tryz.underlying51 info9 rfl (by decide) (by omega) v701 t699 t700 [.string t700] (fun _ => True) (fun _ => False) rfl rfl ?aP (fun _ hk => hk.elim) ?aF ?aO ?aB ?aS ?aL ?_; (case aP => exact rfl); (case aB => exact (bl HB)); (case aF => exact (fun _ _ => trivial)); (case aO => exact (rs HO702)); (case aS => exact (below_size (bl HB))); (case aL => have := LMc3.out; omega); intro v704 w5 ho hb hg hat; rw [← Ny703.out] at ho; replace HB := am hb; have HO705 := am (ho); clear HO702; clear ho hb hg hat; obtain ⟨Ao6, co6, eo6⟩ := Kd.R_slice HO705.out; subst eo6))
  go_loopg [17] k (fun kq v17 w' => ∃ (x17_1 : Int), v17 = .int .i64 x17_1 ∧ Aside0 (impl_StrOk.l0 kq a0 y703 (y703.length : Int) x17_1 = some r) ∧ Aside0 (kq ≤ k) ∧ Aside0 (Kd.R Kd.string 9 w' w.heap.size (fun _ => True) (.slice Ao6 y703.length co6) y703) ∧ Aside0 (Below w.heap.size w w'))
  case atStart => exact ⟨(0), rs_, H', ⟨Nat.le_refl _⟩, ⟨by (with_reducible repeat apply ru); exact HO705.out⟩, ⟨m0_⟩⟩
  case round =>
   clear H'
   try clear p2
   try clear c3
   try clear c6
   obtain ⟨x17_1, rfl, HA, HK1, HO_15, HB⟩ := hrel
   cases gk with
   | zero => exact absurd HA.out (by simp [impl_StrOk.l0])
   | succ k1 =>
    have H := HA.out
    clear HA
    simp only [impl_StrOk.l0] at H
    by_cases c7 : x17_1 < (y703.length : Int)
    ·rw [if_pos c7] at H
     have c7b0 : decide (x17_1 < (y703.length : Int)) = true := decide_eq_true c7
     clear c7
     by_cases c8 : 0 ≤ x17_1
     ·rw [if_pos c8] at H
      have c8b0 : decide (0 ≤ x17_1) = true := decide_eq_true c8
      clear c8
      by_cases c9 : x17_1 < (y703.length : Int)
      ·rw [if_pos c9] at H
       have c9b0 : decide (x17_1 < (y703.length : Int)) = true := decide_eq_true c9
       clear c9
       obtain ⟨t707, A10, H⟩ := bse H
       try dsimp only at H
       by_cases c11 : t707 = true
       ·subst c11
        have H1 : (impl_StrOk.l0 k1 a0 y703 (y703.length : Int) (wrap64 (x17_1 + 1))) = some r := by rw [if_pos rfl] at H; exact H
        clear H
        have H := H1
        clear H1
        have H' := am H
        clear H
        have p706 : 0 ≤ (x17_1 : Int) := of_decide_eq_true da_
        have q706 : x17_1 < (y703.length : Int) := of_decide_eq_true da_
        obtain ⟨ad706, e706, hx706_0⟩ := Kd.at_string (Kd.R_reads' HO_15.out).2.2 x17_1 p706 q706
        cases e706
        replace p706 := eq_true p706
        replace q706 := eq_true q706
        go_wp2_with (first | ((with_reducible refine gate_callee (f := 22) rfl ?_); refine gL (some 22) Tryz.func22 #[.string (rdOf ByteArray.empty y703 x17_1)] ?_; (with_reducible refine (impl_LinOk.calls (rdOf ByteArray.empty y703 x17_1) true _ A10.out).mono ?_); rintro e w12 ⟨rfl, hb⟩; refine ⟨_, rfl, ?_⟩; replace HO_15 := am (Kd.R_below (rs HO_15) hb); replace HB := hbS HB hb; (try clear hb)))
        go_roundg k1
        case measure => have := HK1.out; omega
        case rel => exact ⟨(wrap64 (x17_1 + 1)), rs_, H', ⟨by have := HK1.out; omega⟩, ⟨by (with_reducible repeat apply ru); exact HO_15.out⟩, ⟨m0_⟩⟩
       ·replace c11 := Bool.eq_false_iff.mpr c11
        subst c11
        have H1 : (some false) = some r := by rw [if_neg (show ¬ (false = true) by decide)] at H; exact H
        clear H
        have H := H1
        clear H1
        obtain rfl := Option.some.inj H
        have p706 : 0 ≤ (x17_1 : Int) := of_decide_eq_true da_
        have q706 : x17_1 < (y703.length : Int) := of_decide_eq_true da_
        obtain ⟨ad706, e706, hx706_0⟩ := Kd.at_string (Kd.R_reads' HO_15.out).2.2 x17_1 p706 q706
        cases e706
        replace p706 := eq_true p706
        replace q706 := eq_true q706
        go_wp2_with (first | ((with_reducible refine gate_callee (f := 22) rfl ?_); refine gL (some 22) Tryz.func22 #[.string (rdOf ByteArray.empty y703 x17_1)] ?_; (with_reducible refine (impl_LinOk.calls (rdOf ByteArray.empty y703 x17_1) false _ A10.out).mono ?_); rintro e w13 ⟨rfl, hb⟩; refine ⟨_, rfl, ?_⟩; replace HO_15 := am (Kd.R_below (rs HO_15) hb); replace HB := hbS HB hb; (try clear hb)))
        go_ret
        exact ⟨fi_, m0_⟩
      ·rw [if_neg c9] at H
       exact absurd H (by simp)
     ·rw [if_neg c8] at H
      exact absurd H (by simp)
    ·rw [if_neg c7] at H
     have c7b0 : decide (x17_1 < (y703.length : Int)) = false := decide_eq_false c7
     clear c7
     obtain rfl := Option.some.inj H
     go_wp2
     go_ret
     exact ⟨fi_, m0_⟩
 ·rw [if_neg c3] at H
  exact absurd H (by simp)
end
end Go.Proofs.YtffmbccgcaghjaaGreatDoor.P
namespace Go.Proofs.YtffmbccgcaghjaaGreatDoor.P
open Go.RowKit Go.Shelf
set_option linter.unusedVariables false
set_option linter.unusedSimpArgs false
set_option maxHeartbeats 1000000 in
set_option maxRecDepth 100000 in
theorem copyCheck_used (b : Nat) (w : World) (h0 : w.cell? ⟨b, 0, none⟩ = some (.pointer (some ⟨b, 0, none⟩))) :
    Calls Tryz.prog 115 #[.pointer (some ⟨b, 0, none⟩)] w fun e w' => e = .returned (.tuple #[]) ∧ w = w' := by
  obtain ⟨j, hj, _⟩ := Option.map_eq_some_iff.1 Tryz.Builder_Extra_169.sizeBuilder
  go_enter Tryz.func115, Tryz.ntmps115
  go_wp2
  rw [Lib.run_neq_ptr_same w _ Tryz.underlying105 hj]
  go_wp2
  go_end0
  exact ⟨rfl, rfl⟩
set_option maxHeartbeats 1000000 in
set_option maxRecDepth 100000 in
theorem copyCheck_fresh (b : Nat) (w : World) (h0 : w.cell? ⟨b, 0, none⟩ = some (.pointer none)) (hsh : w.shape? b = some (107, 2)) (hfz : w.frozen? ⟨b, 0, none⟩ = false) :
    Calls Tryz.prog 115 #[.pointer (some ⟨b, 0, none⟩)] w fun e w' => e = .returned (.tuple #[]) ∧ w' = w.setCell ⟨b, 0, none⟩ (.pointer (some ⟨b, 0, none⟩)) := by
  obtain ⟨j, hj, hjs⟩ := Option.map_eq_some_iff.1 Tryz.Builder_Extra_169.sizeBuilder
  go_enter Tryz.func115, Tryz.ntmps115
  go_wp2
  rw [Lib.run_to_unsafe w ⟨b, 0, none⟩ Tryz.underlying105 Tryz.underlying123 hj (by rw [hjs]; decide) hsh (Nat.zero_lt_succ 1)]
  simp only [Result.andThen]
  rw [Oper.upon_value]
  go_wp2
  rw [run_callFunc_extern Tryz.func125 (by kernel_rfl) (by kernel_rfl) (by kernel_rfl) (e := Extern.AbiNoEscape.same) (by kernel_rfl)]
  rw [Lib.run_noEscape]
  simp only [Result.andThen]
  rw [Oper.upon_value]
  go_wp2
  rw [Lib.run_from_unsafe w ⟨b, 0, none⟩ Tryz.underlying123 Tryz.underlying105 hj hsh Tryz.Builder_Extra_169.liesBuilder]
  simp only [Result.andThen]
  rw [Oper.upon_value]
  go_wp2
  go_end0
  exact ⟨rfl, rfl⟩
theorem copyCheck_k (B b : Nat) (bs : List Value) (w : World) (h : Lib.IsBuilderF 107 5 B b bs w) :
    Calls Tryz.prog 115 #[.pointer (some ⟨b, 0, none⟩)] w fun e w' => e = .returned (.tuple #[]) ∧ (Lib.BuilderAtF 107 5 B b (.pointer (some ⟨b, 0, none⟩)) bs w' ∧ Below B w w' ∧ Lib.OthersKept 5 (some b) w w') := by
  rcases h with h | h
  · refine (copyCheck_fresh b w h.cell0 h.shape h.frozen0).mono ?_
    rintro e w' ⟨rfl, rfl⟩
    exact ⟨rfl, h.used _, (Below.refl B w).setCell (p := ⟨b, 0, none⟩) h.1 _, (Lib.OthersKept.refl _ _ w).setCell ⟨b, 0, none⟩ rfl _⟩
  · refine (copyCheck_used b w h.cell0).mono ?_
    rintro e w' ⟨rfl, rfl⟩
    exact ⟨rfl, h, Below.refl B _, Lib.OthersKept.refl _ _ _⟩
set_option maxHeartbeats 2000000 in
set_option maxRecDepth 100000 in
theorem writeString_k (B b : Nat) (bs : List Value) (s : ByteArray) (w : World) (h : Lib.IsBuilderF 107 5 B b bs w) (hlen : bs.length + s.size ≤ 140737488355328) (hBw : B ≤ w.heap.size) :
    Calls Tryz.prog 96 #[.pointer (some ⟨b, 0, none⟩), .string s] w fun e w' => e = .returned (.tuple #[.int .i64 s.size, .nilIface]) ∧ (Lib.BuilderAtF 107 5 B b (.pointer (some ⟨b, 0, none⟩)) (bs ++ Lib.strCells s) w' ∧ Below B w w' ∧ Lib.OthersKept 5 (some b) w w') := by
  obtain ⟨i0, hi, hz0, hz1, hz2⟩ := info_parts Tryz.Builder_Extra_169.infoByte
  go_enter Tryz.func96, Tryz.ntmps96
  go_wp2_with (go_at_call 115; refine (copyCheck_k B b bs _ h).mono ?_)
  rintro e w1 ⟨rfl, h1, hb1, hk1⟩
  obtain ⟨hB, v, hbk, hown, hne⟩ := h1
  have c0 : w1.cell? ⟨b, 0, none⟩ = some (.pointer (some ⟨b, 0, none⟩)) := by rw [Lib.cell_of_heap hbk]; rfl
  have c1 : w1.cell? ⟨b, 1, none⟩ = some v := by rw [Lib.cell_of_heap hbk]; rfl
  go_wp2_with (at_builtin; refine Lib.wpList_append_own_stringF _ rfl _ _ 22 9 rfl B 5 i0 Tryz.underlying22 Tryz.underlying9 hi hz0 hz1 hz2 _ _ _ rfl hown s rfl ?c3 ?c4 ?c5 ?_)
  case c3 => unfold maxLen; omega
  case c4 => omega
  case c5 => have := hb1.size; omega
  intro v' w2 hown' hgrow _
  have hlt : b < w1.heap.size := by
    rcases Nat.lt_or_ge b w1.heap.size with h' | h'
    · exact h'
    · simp [Array.getElem?_eq_none h'] at hbk
  have hb2 : w2.heap[b]? = some (.cells #[.pointer (some ⟨b, 0, none⟩), v] 107 (0, 0)) := by
    rw [hgrow.block b hlt (fun e => hne e.symm)]
    exact hbk
  have d0 : w2.cell? ⟨b, 0, none⟩ = some (.pointer (some ⟨b, 0, none⟩)) := by rw [Lib.cell_of_heap hb2]; rfl
  have d1 : w2.cell? ⟨b, 1, none⟩ = some v := by rw [Lib.cell_of_heap hb2]; rfl
  have f1 : w2.frozen? ⟨b, 1, none⟩ = false := Lib.frozen_of_heap hb2 1
  obtain ⟨ao, n', cap, rfl⟩ : ∃ ao n' cap, v' = .slice ao n' cap := by
    rcases hown'.2 with ⟨hv, _⟩ | ⟨g, cap, cur, fz, hv, _⟩
    · exact ⟨_, _, _, hv⟩
    · exact ⟨_, _, _, hv⟩
  go_wp2
  go_ret2
  refine ⟨rfl, ?_, ?_, (hk1.grown hgrow (Lib.ownsRowF_kind hown)).setCell ⟨b, 1, none⟩ rfl _⟩
  · exact Lib.BuilderAtF.put (T := 107) (e := 5) hB hb2 (bs' := bs ++ Lib.strCells s) (by simpa [Lib.strCells_length] using hown') Tryz.Builder_Extra_169.neB5
  · exact (hb1.grown hgrow (by have := hb1.size; omega) (fun k hk => (hown.lt k hk).1)).setCell (p := ⟨b, 1, none⟩) hB _
end Go.Proofs.YtffmbccgcaghjaaGreatDoor.P
namespace Go.Proofs.YtffmbccgcaghjaaGreatDoor.P
open Go.Proofs.YtffmbccgcaghjaaGreatDoorUFnRwrJoin.PrintLast Go.Proofs.YtffmbccgcaghjaaGreatDoorUFnRwrJoin.PrintMore Go.Proofs.YtffmbccgcaghjaaGreatDoorUFnRwrJoin.PrintWords Go.RowKit
set_option linter.unusedVariables false
set_option linter.unusedSimpArgs false
section
attribute [local go_sem] max2_int min2_int max_two min_two max_three min_three max_four min_four
def impl_outside.f (a0 : Int) : Option (Bool) := (impl_within.f a0 100 109).bind fun t303 => (some t303)
set_option maxHeartbeats 8000000 in
set_option maxRecDepth 100000 in
theorem impl_outside.calls (a0 : Int) (r : Bool) (w : World) (h : impl_outside.f a0 = some r) :
  Calls Tryz.prog 88 #[.int .i64 a0] w fun e w' => e = .returned (.bool r) ∧ Drawn0 w w' := by
 have H : ((impl_within.f a0 100 109).bind fun t303 => (some t303)) = some r := h
 clear h
 obtain ⟨t303, A2, H⟩ := bse H
 try dsimp only at H
 obtain rfl := Option.some.inj H
 go_enter Tryz.func88, Tryz.ntmps88
 go_wp2_with (first | ((with_reducible refine gate_callee (f := 111) rfl ?_); refine gL (some 4) Tryz.func111 #[.int .i64 a0, .int .i64 100, .int .i64 109] ?_; (with_reducible refine (impl_within.calls a0 100 109 t303 _ A2.out).mono ?_); rintro e w' ⟨rfl, ⟨nd, rfl⟩⟩; refine ⟨_, rfl, ?_⟩))
 go_ret
 exact ⟨by first | rfl | (simp; done) | (simp [*]; done), by repeat (first | exact Drawn0.refl _ | apply Drawn0.step)⟩
end
def inB (n lo hi : Int) : Bool := decide (lo ≤ n) && decide (n ≤ hi)
theorem within_f (n lo hi : Int) : impl_within.f n lo hi = some (inB n lo hi) := by
  unfold impl_within.f inB
  by_cases h : lo ≤ n <;> simp [h]
theorem inside_f (n : Int) : impl_inside.f n = some (inB n 1 9) := by unfold impl_inside.f; rw [within_f]; rfl
theorem outside_f (n : Int) : impl_outside.f n = some (inB n 100 109) := by unfold impl_outside.f; rw [within_f]; rfl
theorem portOk_f (n : Int) : impl_portOk.f n = some (inB n 1 999) := by unfold impl_portOk.f; rw [within_f]; rfl
def endIn (a p : Int) : Bool := inB a 1 9 && inB p 1 999
def endOut (a p : Int) : Bool := inB a 100 109 && inB p 1 999
theorem EndInside_f (a p : Int) : impl_EndInside.f a p = some (endIn a p) := by
  unfold impl_EndInside.f endIn
  rw [inside_f, Option.bind_some]
  cases h : inB a 1 9 <;> simp [portOk_f]
def endOkB (a p : Int) : Bool := (inB a 1 9 || inB a 100 109 || decide (a = 50)) && inB p 1 999
def etext (a p : Int) : ByteArray := if endOkB a p then (numB a ++ (⟨#[32]⟩ : ByteArray)) ++ numB p else ⟨#[]⟩
def cutW (s : ByteArray) : ByteArray × ByteArray := (⟨(Lib.cut s.data.toList [32]).1.toArray⟩, ⟨(Lib.cut s.data.toList [32]).2.1.toArray⟩)
def readEndW (t : ByteArray) : Option (Int × Int) := (atoiO (cutW t).1).bind fun a => (atoiO (cutW t).2).bind fun p => if etext a p = t then some (a, p) else none
def portL : List UInt8 := [112, 111, 114, 116, 32]
def trimW (s : ByteArray) : ByteArray := ⟨(Lib.trimPrefix s.data.toList portL).toArray⟩
def saidW (s : ByteArray) : Int × Int × Bool := match readEndW (trimW s) with
  | some (a, p) => (a, p, Lib.hasPrefix s.data.toList portL)
  | none => (0, 0, false)
theorem endOkB_le {a p : Int} (h : endOkB a p = true) : (1 ≤ a ∧ a ≤ 109) ∧ (1 ≤ p ∧ p ≤ 999) := by
  simp only [endOkB, inB, Bool.and_eq_true, Bool.or_eq_true, decide_eq_true_eq] at h
  omega
section
attribute [local go_sem] max2_int min2_int max_two min_two max_three min_three max_four min_four
def impl_EndOk.f (a0_0 : Int) (a0_1 : Int) : Option (Bool) := (impl_inside.f a0_0).bind fun t305 => (if t305 = true then ((impl_portOk.f a0_1).bind fun t306 => (some t306)) else ((impl_outside.f a0_0).bind fun t307 => (if t307 = true then ((impl_portOk.f a0_1).bind fun t308 => (some t308)) else (if a0_0 = 50 then ((impl_portOk.f a0_1).bind fun t309 => (some t309)) else (some false)))))
set_option maxHeartbeats 8000000 in
set_option maxRecDepth 100000 in
theorem impl_EndOk.calls (a0_0 : Int) (a0_1 : Int) (r : Bool) (w : World) (h : impl_EndOk.f a0_0 a0_1 = some r) :
  Calls Tryz.prog 56 #[.agg #[.int .i64 a0_0, .int .i64 a0_1]] w fun e w' => e = .returned (.bool r) ∧ Below w.heap.size w w' := by
 have hu34 := Tryz.underlying34
 have HB := am (Below.refl w.heap.size w)
 have H : ((impl_inside.f a0_0).bind fun t305 => (if t305 = true then ((impl_portOk.f a0_1).bind fun t306 => (some t306)) else ((impl_outside.f a0_0).bind fun t307 => (if t307 = true then ((impl_portOk.f a0_1).bind fun t308 => (some t308)) else (if a0_0 = 50 then ((impl_portOk.f a0_1).bind fun t309 => (some t309)) else (some false)))))) = some r := h
 clear h
 obtain ⟨t305, A2, H⟩ := bse H
 try dsimp only at H
 by_cases c3 : t305 = true
 ·subst c3
  have H1 : ((impl_portOk.f a0_1).bind fun t306 => (some t306)) = some r := by rw [if_pos rfl] at H; exact H
  clear H
  have H := H1
  clear H1
  obtain ⟨t306, A4, H⟩ := bse H
  try dsimp only at H
  obtain rfl := Option.some.inj H
  go_enter Tryz.func56, Tryz.ntmps56
  go_wp2_with (first | ((with_reducible refine gate_dst (N := 1) rfl ?_); refine box_event rfl (N := 1) rfl (cs := #[.int .i64 a0_0, .int .i64 a0_1]) (t := 34) hr_ ?_; intro gb304 hg w5 hbox hb; have BK304 := am hbox; have GW304 := gwE HB hg; have GE304 := gwE HB hg; replace HB := hbS HB hb; clear hb hbox hg; have := bcell BK304 0; have := bcell BK304 1; have := bfz BK304 0; have := bfz BK304 1) | ((with_reducible refine gate_callee (f := 84) rfl ?_); refine gL (some 5) Tryz.func84 #[.int .i64 a0_0] ?_; (with_reducible refine (impl_inside.calls a0_0 true _ A2.out).mono ?_); rintro e w' ⟨rfl, ⟨nd, rfl⟩⟩; refine ⟨_, rfl, ?_⟩) | (go_at_call 85; (with_reducible refine (impl_portOk.calls a0_1 t306 _ A4.out).mono ?_); rintro e w' ⟨rfl, ⟨nd, rfl⟩⟩))
  go_ret
  exact ⟨fi_, m2_⟩
 ·replace c3 := Bool.eq_false_iff.mpr c3
  subst c3
  have H1 : ((impl_outside.f a0_0).bind fun t307 => (if t307 = true then ((impl_portOk.f a0_1).bind fun t308 => (some t308)) else (if a0_0 = 50 then ((impl_portOk.f a0_1).bind fun t309 => (some t309)) else (some false)))) = some r := by rw [if_neg (show ¬ (false = true) by decide)] at H; exact H
  clear H
  have H := H1
  clear H1
  obtain ⟨t307, A7, H⟩ := bse H
  try dsimp only at H
  by_cases c8 : t307 = true
  ·subst c8
   have H1 : ((impl_portOk.f a0_1).bind fun t308 => (some t308)) = some r := by rw [if_pos rfl] at H; exact H
   clear H
   have H := H1
   clear H1
   obtain ⟨t308, A9, H⟩ := bse H
   try dsimp only at H
   obtain rfl := Option.some.inj H
   go_enter Tryz.func56, Tryz.ntmps56
   go_wp2_with (first | ((with_reducible refine gate_dst (N := 1) rfl ?_); refine box_event rfl (N := 1) rfl (cs := #[.int .i64 a0_0, .int .i64 a0_1]) (t := 34) hr_ ?_; intro gb304 hg w10 hbox hb; have BK304 := am hbox; have GW304 := gwE HB hg; have GE304 := gwE HB hg; replace HB := hbS HB hb; clear hb hbox hg; have := bcell BK304 0; have := bcell BK304 1; have := bfz BK304 0; have := bfz BK304 1) | ((with_reducible refine gate_callee (f := 84) rfl ?_); refine gL (some 5) Tryz.func84 #[.int .i64 a0_0] ?_; (with_reducible refine (impl_inside.calls a0_0 false _ A2.out).mono ?_); rintro e w' ⟨rfl, ⟨nd, rfl⟩⟩; refine ⟨_, rfl, ?_⟩) | (go_at_call 88; (with_reducible refine (impl_outside.calls a0_0 true _ A7.out).mono ?_); rintro e w' ⟨rfl, ⟨nd, rfl⟩⟩) | (go_at_call 85; (with_reducible refine (impl_portOk.calls a0_1 t308 _ A9.out).mono ?_); rintro e w' ⟨rfl, ⟨nd, rfl⟩⟩))
   go_ret
   exact ⟨fi_, m2_⟩
  ·replace c8 := Bool.eq_false_iff.mpr c8
   subst c8
   have H1 : (if a0_0 = 50 then ((impl_portOk.f a0_1).bind fun t309 => (some t309)) else (some false)) = some r := by rw [if_neg (show ¬ (false = true) by decide)] at H; exact H
   clear H
   have H := H1
   clear H1
   by_cases c12 : a0_0 = 50
   ·rw [if_pos c12] at H
    have c12b0 : (a0_0 == 50) = true := beq_iff_eq.mpr c12
    have c12b1 : (a0_0 != 50) = false := bne_eq_false_iff_eq.mpr c12
    clear c12
    obtain ⟨t309, A13, H⟩ := bse H
    try dsimp only at H
    obtain rfl := Option.some.inj H
    go_enter Tryz.func56, Tryz.ntmps56
    go_wp2_with (first | ((with_reducible refine gate_dst (N := 1) rfl ?_); refine box_event rfl (N := 1) rfl (cs := #[.int .i64 a0_0, .int .i64 a0_1]) (t := 34) hr_ ?_; intro gb304 hg w14 hbox hb; have BK304 := am hbox; have GW304 := gwE HB hg; have GE304 := gwE HB hg; replace HB := hbS HB hb; clear hb hbox hg; have := bcell BK304 0; have := bcell BK304 1; have := bfz BK304 0; have := bfz BK304 1) | ((with_reducible refine gate_callee (f := 84) rfl ?_); refine gL (some 5) Tryz.func84 #[.int .i64 a0_0] ?_; (with_reducible refine (impl_inside.calls a0_0 false _ A2.out).mono ?_); rintro e w' ⟨rfl, ⟨nd, rfl⟩⟩; refine ⟨_, rfl, ?_⟩) | (go_at_call 88; (with_reducible refine (impl_outside.calls a0_0 false _ A7.out).mono ?_); rintro e w' ⟨rfl, ⟨nd, rfl⟩⟩) | (go_at_call 85; (with_reducible refine (impl_portOk.calls a0_1 t309 _ A13.out).mono ?_); rintro e w' ⟨rfl, ⟨nd, rfl⟩⟩))
    go_ret
    exact ⟨fi_, m2_⟩
   ·rw [if_neg c12] at H
    have c12b0 : (a0_0 == 50) = false := beq_eq_false_iff_ne.mpr c12
    have c12b1 : (a0_0 != 50) = true := bne_iff_ne.mpr c12
    obtain rfl := Option.some.inj H
    go_enter Tryz.func56, Tryz.ntmps56
    go_wp2_with (first | ((with_reducible refine gate_dst (N := 1) rfl ?_); refine box_event rfl (N := 1) rfl (cs := #[.int .i64 a0_0, .int .i64 a0_1]) (t := 34) hr_ ?_; intro gb304 hg w16 hbox hb; have BK304 := am hbox; have GW304 := gwE HB hg; have GE304 := gwE HB hg; replace HB := hbS HB hb; clear hb hbox hg; have := bcell BK304 0; have := bcell BK304 1; have := bfz BK304 0; have := bfz BK304 1) | ((with_reducible refine gate_callee (f := 84) rfl ?_); refine gL (some 5) Tryz.func84 #[.int .i64 a0_0] ?_; (with_reducible refine (impl_inside.calls a0_0 false _ A2.out).mono ?_); rintro e w' ⟨rfl, ⟨nd, rfl⟩⟩; refine ⟨_, rfl, ?_⟩) | (go_at_call 88; (with_reducible refine (impl_outside.calls a0_0 false _ A7.out).mono ?_); rintro e w' ⟨rfl, ⟨nd, rfl⟩⟩))
    go_ret
    exact ⟨fi_, m2_⟩
end
end Go.Proofs.YtffmbccgcaghjaaGreatDoor.P
namespace Go.Proofs.YtffmbccgcaghjaaGreatDoor.P
open Go Go.Proofs.YtffmbccgcaghjaaGreatDoorUFnRwrJoin.PrintLast Go.Proofs.YtffmbccgcaghjaaGreatDoorUFnRwrJoin.PrintMore Go.Proofs.YtffmbccgcaghjaaGreatDoorUFnRwrJoin.PrintWords Go.RowKit Go.Sort
set_option linter.unusedVariables false
def strconv_Itoa_89.f (n : Int) : Option ByteArray := if 0 ≤ n ∧ n ≤ 999 then some (numB n) else none
theorem strconv_Itoa_89.calls (a0 : Int) (r : ByteArray) (w : World) (h : strconv_Itoa_89.f a0 = some r) (hE : EnvT w) :
    Calls Tryz.prog 89 #[.int .i64 a0] w fun e w' => e = .returned (.string r) ∧ Below w.heap.size w w' := by
  unfold strconv_Itoa_89.f at h
  by_cases hq : 0 ≤ a0 ∧ a0 ≤ 999
  · rw [if_pos hq] at h
    refine (num_calls a0 hq.1 hq.2 w hE).mono ?_
    rintro e w' ⟨b, rfl, hb, _, hB⟩
    cases h
    exact ⟨by rw [hb], hB⟩
  · rw [if_neg hq] at h; cases h
end Go.Proofs.YtffmbccgcaghjaaGreatDoor.P
namespace Go.Proofs.YtffmbccgcaghjaaGreatDoor.P
open Go.Proofs.YtffmbccgcaghjaaGreatDoorUFnRwrJoin.PrintLast Go.Proofs.YtffmbccgcaghjaaGreatDoorUFnRwrJoin.PrintMore Go.Proofs.YtffmbccgcaghjaaGreatDoorUFnRwrJoin.PrintWords Go.RowKit
set_option linter.unusedVariables false
set_option linter.unusedSimpArgs false
section
attribute [local go_sem] max2_int min2_int max_two min_two max_three min_three max_four min_four
def impl_EndText.f (a0_0 : Int) (a0_1 : Int) : Option (ByteArray) := (impl_EndOk.f a0_0 a0_1).bind fun t330 => (if t330 = true then ((strconv_Itoa_89.f a0_0).bind fun t331 => (if t331.size + 1 ≤ 9223372036854775807 then ((strconv_Itoa_89.f a0_1).bind fun t332 => (if (t331 ++ (⟨#[32]⟩ : ByteArray)).size + t332.size ≤ 9223372036854775807 then (some ((t331 ++ (⟨#[32]⟩ : ByteArray)) ++ t332)) else (none))) else (none))) else (some (⟨#[]⟩ : ByteArray)))
def impl_EndText.T3 : Bool × List (List Nat × List Nat) := (true, [([], []), ([0], [0]), ([1], [1]), ([2], [2]), ([], []), ([4], [4]), ([5, 2], [5]), ([3, 6], [3, 6]), ([7, 6, 0, 1, 2, 3, 4, 5, 6, 7], [7])])
def impl_EndText.B3 : List Nat := [0, 1, 3, 7, 0, 16, 55, 127, 255]
theorem impl_EndText.tab3 : rtab .any (opsOf Tryz.f57 3) = impl_EndText.T3 := by kernel_rfl
theorem impl_EndText.bits3 : waitsOk impl_EndText.T3.2 impl_EndText.B3 = true := by kernel_rfl
set_option maxHeartbeats 8000000 in
set_option maxRecDepth 100000 in
theorem impl_EndText.calls (a0_0 : Int) (a0_1 : Int) (r : ByteArray) (w : World) (h : impl_EndText.f a0_0 a0_1 = some r) (hE : EnvT w) :
  Calls Tryz.prog 57 #[.agg #[.int .i64 a0_0, .int .i64 a0_1]] w fun e w' => e = .returned (.string r) ∧ Below w.heap.size w w' := by
 have hu34 := Tryz.underlying34
 have HB := am (Below.refl w.heap.size w)
 have H : ((impl_EndOk.f a0_0 a0_1).bind fun t330 => (if t330 = true then ((strconv_Itoa_89.f a0_0).bind fun t331 => (if t331.size + 1 ≤ 9223372036854775807 then ((strconv_Itoa_89.f a0_1).bind fun t332 => (if (t331 ++ (⟨#[32]⟩ : ByteArray)).size + t332.size ≤ 9223372036854775807 then (some ((t331 ++ (⟨#[32]⟩ : ByteArray)) ++ t332)) else (none))) else (none))) else (some (⟨#[]⟩ : ByteArray)))) = some r := h
 clear h
 obtain ⟨t330, A2, H⟩ := bse H
 try dsimp only at H
 by_cases c3 : t330 = true
 ·subst c3
  have H1 : ((strconv_Itoa_89.f a0_0).bind fun t331 => (if t331.size + 1 ≤ 9223372036854775807 then ((strconv_Itoa_89.f a0_1).bind fun t332 => (if (t331 ++ (⟨#[32]⟩ : ByteArray)).size + t332.size ≤ 9223372036854775807 then (some ((t331 ++ (⟨#[32]⟩ : ByteArray)) ++ t332)) else (none))) else (none))) = some r := by rw [if_pos rfl] at H; exact H
  clear H
  have H := H1
  clear H1
  obtain ⟨t331, A4, H⟩ := bse H
  try dsimp only at H
  by_cases c5 : t331.size + 1 ≤ 9223372036854775807
  ·rw [if_pos c5] at H
   have c5b0 := eq_true c5
   have c5b1 : decide (t331.size + 1 ≤ 9223372036854775807) = true := decide_eq_true c5
   try have c5b2 : (9223372036854775807 < t331.size + 1) = False := eq_false (Nat.not_lt.2 c5)
   obtain ⟨t332, A6, H⟩ := bse H
   try dsimp only at H
   by_cases c7 : (t331 ++ (⟨#[32]⟩ : ByteArray)).size + t332.size ≤ 9223372036854775807
   ·rw [if_pos c7] at H
    have c7b0 := eq_true c7
    have c7b1 : decide ((t331 ++ (⟨#[32]⟩ : ByteArray)).size + t332.size ≤ 9223372036854775807) = true := decide_eq_true c7
    try have c7b2 : (9223372036854775807 < (t331 ++ (⟨#[32]⟩ : ByteArray)).size + t332.size) = False := eq_false (Nat.not_lt.2 c7)
    try have c7b3 : (9223372036854775807 < t331.size + 1 + t332.size) = False := (by have z_ := c7b2; simp only [ByteArray.size_append] at z_; exact z_)
    obtain rfl := Option.some.inj H
    go_enter Tryz.func57, Tryz.ntmps57
    try go_wp2_with (first | ((with_reducible refine gate_dst (N := 1) rfl ?_); refine box_event rfl (N := 1) rfl (cs := #[.int .i64 a0_0, .int .i64 a0_1]) (t := 34) hr_ ?_; intro gb329 hg w8 hbox hb; have BK329 := am hbox; have GW329 := gwE HB hg; have GE329 := gwE HB hg; replace HB := hbS HB hb; clear hb hbox hg; have := bcell BK329 0; have := bcell BK329 1; have := bfz BK329 0; have := bfz BK329 1) | ((with_reducible refine gate_callee (f := 56) rfl ?_); refine gL (some 4) Tryz.func56 #[.agg #[.int .i64 a0_0, .int .i64 a0_1]] ?_; (with_reducible refine (impl_EndOk.calls a0_0 a0_1 true _ A2.out).mono ?_); rintro e w10 ⟨rfl, hb⟩; refine ⟨_, rfl, ?_⟩; replace BK329 := bkB BK329 hb; replace HB := hbS HB hb; (try clear hb)))
    replace BK329 := am (blk_drew BK329.out)
    replace HB := am (below_drew1 HB.out)
    refine start_ (n := 9) (S := fun w' => w'.cell? ⟨gb329, 0, none⟩ = some (.int .i64 a0_0) ∧ w'.cell? ⟨gb329, 1, none⟩ = some (.int .i64 a0_1)) (ds := []) #[false, false, false, false, false, false, false, false, false] (by kernel_rfl) rfl rfl ⟨bcell BK329 0, bcell BK329 1⟩ (fun hHeld => ?_); refine with_tabW impl_EndText.tab3 impl_EndText.bits3 (fun HT_ HW_ => ?_)
    generalize w10.drew = w11 at BK329 HB hHeld ⊢
    refine pu_ 0 (some 6) (bm 9 1) ?_
    refine pu_ 4 (some 10) (bm 9 17) ?_
    refine tk_ 1 (some 7) (bm 9 19) rfl (.inl ⟨rfl, m3_⟩) ?_
    refine tk_ 5 (some 11) (bm 9 51) rfl (.inl ⟨rfl, m3_⟩) ?_
    refine on_ 2 (some 8) (bm 9 55) (fun K hK => ?_)
    refine gR Tryz.func89 #[.int .i64 a0_0] ?_
    with_reducible refine (strconv_Itoa_89.calls a0_0 t331 _ A4.out (EnvT.below hE (bl HB))).mono ?_
    rintro e w12 ⟨rfl, hb⟩
    refine ⟨_, rfl, ?_⟩
    replace BK329 := bkB BK329 hb
    replace HB := hbS HB hb
    (try clear hb)
    (try clear hb2)
    (try clear hk)
    (try clear hi)
    refine hK.out _ _ ⟨bcell BK329 0, bcell BK329 1⟩ (fun hHeld => ?_)
    clear hK K
    refine nm_ ?_
    refine pu_ 3 (some 9) (bm 9 63) ?_
    refine on_ 6 (some 12) (bm 9 127) (fun K hK => ?_)
    refine gR Tryz.func89 #[.int .i64 a0_1] ?_
    with_reducible refine (strconv_Itoa_89.calls a0_1 t332 _ A6.out (EnvT.below hE (bl HB))).mono ?_
    rintro e w13 ⟨rfl, hb⟩
    refine ⟨_, rfl, ?_⟩
    replace BK329 := bkB BK329 hb
    replace HB := hbS HB hb
    (try clear hb)
    (try clear hb2)
    (try clear hk)
    (try clear hi)
    refine hK.out _ _ ⟨bcell BK329 0, bcell BK329 1⟩ (fun hHeld => ?_)
    clear hK K
    refine nm_ ?_
    refine pu_ 7 (some 13) (bm 9 255) ?_
    refine pu_ 8 (some 2) (bm 9 511) ?_
    refine done_ (done_of HT_.out (by kernel_rfl)) ?_
    try go_wp2
    go_ret
    exact ⟨fi_, m2_⟩
   ·rw [if_neg c7] at H
    exact absurd H (by simp)
  ·rw [if_neg c5] at H
   exact absurd H (by simp)
 ·replace c3 := Bool.eq_false_iff.mpr c3
  subst c3
  have H1 : (some (⟨#[]⟩ : ByteArray)) = some r := by rw [if_neg (show ¬ (false = true) by decide)] at H; exact H
  clear H
  have H := H1
  clear H1
  obtain rfl := Option.some.inj H
  go_enter Tryz.func57, Tryz.ntmps57
  go_wp2_with (first | ((with_reducible refine gate_dst (N := 1) rfl ?_); refine box_event rfl (N := 1) rfl (cs := #[.int .i64 a0_0, .int .i64 a0_1]) (t := 34) hr_ ?_; intro gb329 hg w14 hbox hb; have BK329 := am hbox; have GW329 := gwE HB hg; have GE329 := gwE HB hg; replace HB := hbS HB hb; clear hb hbox hg; have := bcell BK329 0; have := bcell BK329 1; have := bfz BK329 0; have := bfz BK329 1) | ((with_reducible refine gate_callee (f := 56) rfl ?_); refine gL (some 4) Tryz.func56 #[.agg #[.int .i64 a0_0, .int .i64 a0_1]] ?_; (with_reducible refine (impl_EndOk.calls a0_0 a0_1 false _ A2.out).mono ?_); rintro e w16 ⟨rfl, hb⟩; refine ⟨_, rfl, ?_⟩; replace BK329 := bkB BK329 hb; replace HB := hbS HB hb; (try clear hb)))
  go_ret
  exact ⟨fi_, m2_⟩
end
theorem set_ne {W : World} {g i k : Nat} {v : Value} (hk : k ≠ g) : (W.setCell ⟨g, i, none⟩ v).heap[k]? = W.heap[k]? := Below.heap_setCell W ⟨g, i, none⟩ v k hk
theorem put2 {W : World} {g : Nat} {t : TypeId} {c0 c1 : Value} (h : W.heap[g]? = some (.cells #[c0, c1] t (0, 0))) (v0 v1 : Value) {W' : World}
    (hw : W' = (W.setCell ⟨g, 0, none⟩ v0).setCell ⟨g, 1, none⟩ v1) :
    W'.heap[g]? = some (.cells #[v0, v1] t (0, 0)) ∧ (∀ k, k ≠ g → W'.heap[k]? = W.heap[k]?) ∧ (∀ w : World, w.heap.size ≤ g → Below w.heap.size w W → Below w.heap.size w W') := by
  subst hw
  refine ⟨?_, ?_, ?_⟩
  · refine blk_put (cs := #[v0, c1]) ?_ 1 _ rfl
    exact blk_put h 0 _ rfl
  · intro k hk
    simp only [set_ne hk]
  · intro w hg hb
    exact below_set (below_set hb hg) hg
theorem cell_lt {w : World} {g : Nat} {v : Value} (h : w.cell? ⟨g, 0, none⟩ = some v) : g < w.heap.size := by
  simp only [World.cell?] at h
  cases hk : w.heap[g]? with
  | none => rw [hk] at h; simp at h
  | some o => exact (Array.getElem?_eq_some_iff.1 hk).1
theorem cut_calls (s : ByteArray) (hs : s.size < 4294967281) (w : World) (hE : Env w) :
    Calls Tryz.prog 102 #[.string s, .string (⟨#[32]⟩ : ByteArray)] w fun e w' => ∃ fl : Bool, e = .returned (.tuple #[.string (cutW s).1, .string (cutW s).2, .bool fl]) ∧ Below w.heap.size w w' := by
  obtain ⟨m, hm⟩ := hE.max
  refine (Tryz.strings_Cut s _ m w hs hm).mono ?_
  rintro e w' ⟨rfl, n, rfl⟩
  exact ⟨_, rfl, Go.below_drewN (Below.refl _ _) n⟩
theorem cutW_size (s : ByteArray) : (cutW s).1.size ≤ s.size ∧ (cutW s).2.size ≤ s.size := by
  have hl : s.data.toList.length = s.size := by rw [Array.length_toList]; rfl
  unfold cutW Lib.cut
  by_cases h : 0 ≤ Lib.index s.data.toList [32]
  · rw [if_pos h]
    simp only [ByteArray.size, List.size_toArray, List.length_take, List.length_drop]
    rw [hl]
    show _ ≤ s.size ∧ _ ≤ s.size
    omega
  · rw [if_neg h]
    show s.data.toList.toArray.size ≤ s.size ∧ ([] : List UInt8).toArray.size ≤ s.size
    rw [List.size_toArray, hl]
    exact ⟨Nat.le_refl _, Nat.zero_le _⟩
theorem EndOk_f (a p : Int) : impl_EndOk.f a p = some (endOkB a p) := by
  unfold impl_EndOk.f endOkB
  simp only [inside_f, outside_f, portOk_f, Option.bind_some]
  by_cases h3 : a = 50 <;> cases inB a 1 9 <;> cases inB a 100 109 <;> cases inB p 1 999 <;> simp [h3]
theorem EndText_f (a p : Int) : impl_EndText.f a p = some (etext a p) := by
  unfold impl_EndText.f etext
  rw [EndOk_f, Option.bind_some]
  cases hk : endOkB a p with
  | false => simp
  | true =>
    have hb := endOkB_le hk
    have h1 := numB_size (n := a) (by omega) (by omega)
    have h2 := numB_size (n := p) (by omega) (by omega)
    have h3 : ((⟨#[32]⟩ : ByteArray)).size = 1 := rfl
    unfold strconv_Itoa_89.f
    rw [if_pos rfl, if_pos ⟨by omega, by omega⟩, Option.bind_some, if_pos (by omega), if_pos ⟨by omega, by omega⟩, Option.bind_some, if_pos (by rw [ByteArray.size_append]; omega)]
    rfl
set_option maxHeartbeats 8000000 in
set_option maxRecDepth 100000 in
theorem readEnd_noA (s : ByteArray) (hs : s.size ≤ 4000000000) (ha : atoiO (cutW s).1 = none) (w : World) (hE : EnvE w) :
    Calls Tryz.prog 83 #[.string s] w fun e w' => ∃ t p, e = .returned (.tuple #[.agg #[.int .i64 0, .int .i64 0], .iface t p]) ∧ Below w.heap.size w w' := by
  obtain ⟨te, pe, he⟩ := hE.err
  have herr : ∀ w' : World, Below w.heap.size w w' → w'.cell? ⟨0, 0, none⟩ = some (.iface te pe) := fun w' b => cell_below he b
  have HLT := Aside0.mk (cell_lt he)
  clear he
  have HS := Aside0.mk hs
  have HE := Aside0.mk hE
  have HZ := Aside0.mk (cutW_size s)
  have HB := Aside0.mk (Below.refl w.heap.size w)
  have hu := Tryz.underlying34
  have HA := Aside0.mk ha
  clear ha
  clear hs hE
  go_enter Tryz.func83, Tryz.ntmps83
  go_wp2_with (first
      | ((with_reducible refine gate_dst (N := 2) rfl ?_)
         refine box_event ?hg (N := 2) ?hd (cs := #[.int .i64 0, .int .i64 0]) (t := 34) ?hr ?_
         (case hd => rfl)
         (case hg => rfl)
         (case hr => first | (go_simp; done) | (go_simp; rfl))
         intro g2 hg w1 hbox hb
         have GE2 : Aside0 (w.heap.size ≤ g2) := ⟨by rw [hg]; exact below_size (bl HB)⟩
         have BK2 := Aside0.mk hbox
         have n0_ := Aside0.mk (below_step (bl HB) hb)
         clear HB 
         have HB := n0_
         clear n0_ 
         clear hb hbox hg)
      | (go_at_call 102; refine (cut_calls _ (by have := HS.out; omega) _ (Env.below HE.out.e (bl HB))).mono ?_; rintro e w2 ⟨fl, rfl, hb⟩
         have n0_ := Aside0.mk (below_step (bl HB) hb)
         have m0_ := bkB BK2 hb
         clear HB BK2
         have HB := n0_
         have BK2 := m0_
         clear n0_ m0_
         clear hb)
      | (go_at_call 110; (with_reducible refine (atoi_no (cutW s).1 (by have := HS.out; have := HZ.out; omega) HA.out _ (Env.below HE.out.e (bl HB))).mono ?_); rintro e w3 ⟨v1, t1, p1, rfl, hb⟩
         have n0_ := Aside0.mk (below_step (bl HB) hb)
         have m0_ := bkB BK2 hb
         clear HB BK2
         have HB := n0_
         have BK2 := m0_
         clear n0_ m0_
         clear hb)
      | (go_at_call 110; (with_reducible refine (atoi_calls (cutW s).2 (by have := HS.out; have := HZ.out; omega) _ (Env.below HE.out.e (bl HB))).mono ?_); rintro e w4 ⟨v2, ev2, rfl, hev, hb⟩
         have n0_ := Aside0.mk (below_step (bl HB) hb)
         have m0_ := bkB BK2 hb
         clear HB BK2
         have HB := n0_
         have BK2 := m0_
         clear n0_ m0_
         clear hb hev)
      | ((with_reducible refine gate_dst (N := 11) rfl ?_)
         refine box_event ?hg (N := 11) ?hd (cs := #[.int .i64 0, .int .i64 0]) (t := 34) ?hr ?_
         (case hd => rfl)
         (case hg => rfl)
         (case hr => first | (go_simp; done) | (go_simp; rfl))
         intro g11 hg w5 hbox hb
         have GE11 : Aside0 (w.heap.size ≤ g11) := ⟨by rw [hg]; exact below_size (bl HB)⟩
         have NE : Aside0 (g2 ≠ g11) := ⟨by rw [hg]; have := bkL BK2; omega⟩
         have BK11 := Aside0.mk hbox
         have zc0 := (blk_cell BK11.out 0).trans rfl
         have zf0 := blk_frozen BK11.out 0
         have zc1 := (blk_cell BK11.out 1).trans rfl
         have zf1 := blk_frozen BK11.out 1
         have n0_ := Aside0.mk (below_step (bl HB) hb)
         have m0_ := bkB BK2 hb
         clear HB BK2
         have HB := n0_
         have BK2 := m0_
         clear n0_ m0_
         clear hb hbox hg))
  have hp := put2 BK11.out (.int .i64 v1) (.int .i64 v2) rfl
  have kb := Aside0.mk (hp.2.2 w GE11.out HB.out)
  have k2 := (hp.2.1 _ NE.out).trans BK2.out
  have he2 := herr _ kb.out
  clear herr
  generalize (w5.setCell ⟨g11, 0, none⟩ (.int .i64 v1)).setCell ⟨g11, 1, none⟩ (.int .i64 v2) = X at kb k2 he2 ⊢
  have KB := Aside0.mk (blk_drew k2)
  have hne : g2 ≠ 0 := by have := GE2.out; have := HLT.out; omega
  have hne' := hne.symm
  have xc0 := (blk_cell k2 0).trans rfl
  have xc1 := (blk_cell k2 1).trans rfl
  have xf0 := blk_frozen k2 0
  have xf1 := blk_frozen k2 1
  clear k2
  go_region
  all_goals go_wp2
  all_goals
    have hq := put2 KB.out (.int .i64 0) (.int .i64 0) rfl
    refine bodyPost_ret (results_ct rfl _ _ g2 34 #[.int .i64 0, .int .i64 0] (0, 0) _ rfl hq.1 Tryz.underlying34 rfl (by kernel_rfl)) rfl ?_
    exact ⟨_, _, rfl, hq.2.2 w GE2.out (below_drew1 kb.out)⟩
set_option maxHeartbeats 8000000 in
set_option maxRecDepth 100000 in
theorem readEnd_noB (s : ByteArray) (hs : s.size ≤ 4000000000) (x : Int) (ha : atoiO (cutW s).1 = some x) (ha2 : atoiO (cutW s).2 = none) (w : World) (hE : EnvE w) :
    Calls Tryz.prog 83 #[.string s] w fun e w' => ∃ t p, e = .returned (.tuple #[.agg #[.int .i64 0, .int .i64 0], .iface t p]) ∧ Below w.heap.size w w' := by
  obtain ⟨te, pe, he⟩ := hE.err
  have herr : ∀ w' : World, Below w.heap.size w w' → w'.cell? ⟨0, 0, none⟩ = some (.iface te pe) := fun w' b => cell_below he b
  have HLT := Aside0.mk (cell_lt he)
  clear he
  have HS := Aside0.mk hs
  have HE := Aside0.mk hE
  have HZ := Aside0.mk (cutW_size s)
  have HB := Aside0.mk (Below.refl w.heap.size w)
  have hu := Tryz.underlying34
  have HA := Aside0.mk ha
  have HA2 := Aside0.mk ha2
  clear ha ha2
  clear hs hE
  go_enter Tryz.func83, Tryz.ntmps83
  go_wp2_with (first
      | ((with_reducible refine gate_dst (N := 2) rfl ?_)
         refine box_event ?hg (N := 2) ?hd (cs := #[.int .i64 0, .int .i64 0]) (t := 34) ?hr ?_
         (case hd => rfl)
         (case hg => rfl)
         (case hr => first | (go_simp; done) | (go_simp; rfl))
         intro g2 hg w1 hbox hb
         have GE2 : Aside0 (w.heap.size ≤ g2) := ⟨by rw [hg]; exact below_size (bl HB)⟩
         have BK2 := Aside0.mk hbox
         have n0_ := Aside0.mk (below_step (bl HB) hb)
         clear HB 
         have HB := n0_
         clear n0_ 
         clear hb hbox hg)
      | (go_at_call 102; refine (cut_calls _ (by have := HS.out; omega) _ (Env.below HE.out.e (bl HB))).mono ?_; rintro e w2 ⟨fl, rfl, hb⟩
         have n0_ := Aside0.mk (below_step (bl HB) hb)
         have m0_ := bkB BK2 hb
         clear HB BK2
         have HB := n0_
         have BK2 := m0_
         clear n0_ m0_
         clear hb)
      | (go_at_call 110; (with_reducible refine (atoi_ok (cutW s).1 (by have := HS.out; have := HZ.out; omega) x HA.out _ (Env.below HE.out.e (bl HB))).mono ?_); rintro e w3 ⟨rfl, hb⟩
         have n0_ := Aside0.mk (below_step (bl HB) hb)
         have m0_ := bkB BK2 hb
         clear HB BK2
         have HB := n0_
         have BK2 := m0_
         clear n0_ m0_
         clear hb)
      | (go_at_call 110; (with_reducible refine (atoi_no (cutW s).2 (by have := HS.out; have := HZ.out; omega) HA2.out _ (Env.below HE.out.e (bl HB))).mono ?_); rintro e w4 ⟨v2, t2, p2, rfl, hb⟩
         have n0_ := Aside0.mk (below_step (bl HB) hb)
         have m0_ := bkB BK2 hb
         clear HB BK2
         have HB := n0_
         have BK2 := m0_
         clear n0_ m0_
         clear hb)
      | ((with_reducible refine gate_dst (N := 11) rfl ?_)
         refine box_event ?hg (N := 11) ?hd (cs := #[.int .i64 0, .int .i64 0]) (t := 34) ?hr ?_
         (case hd => rfl)
         (case hg => rfl)
         (case hr => first | (go_simp; done) | (go_simp; rfl))
         intro g11 hg w5 hbox hb
         have GE11 : Aside0 (w.heap.size ≤ g11) := ⟨by rw [hg]; exact below_size (bl HB)⟩
         have NE : Aside0 (g2 ≠ g11) := ⟨by rw [hg]; have := bkL BK2; omega⟩
         have BK11 := Aside0.mk hbox
         have zc0 := (blk_cell BK11.out 0).trans rfl
         have zf0 := blk_frozen BK11.out 0
         have zc1 := (blk_cell BK11.out 1).trans rfl
         have zf1 := blk_frozen BK11.out 1
         have n0_ := Aside0.mk (below_step (bl HB) hb)
         have m0_ := bkB BK2 hb
         clear HB BK2
         have HB := n0_
         have BK2 := m0_
         clear n0_ m0_
         clear hb hbox hg))
  have hp := put2 BK11.out (.int .i64 x) (.int .i64 v2) rfl
  have kb := Aside0.mk (hp.2.2 w GE11.out HB.out)
  have k2 := (hp.2.1 _ NE.out).trans BK2.out
  have he2 := herr _ kb.out
  clear herr
  generalize (w5.setCell ⟨g11, 0, none⟩ (.int .i64 x)).setCell ⟨g11, 1, none⟩ (.int .i64 v2) = X at kb k2 he2 ⊢
  have KB := Aside0.mk (blk_drew k2)
  have hne : g2 ≠ 0 := by have := GE2.out; have := HLT.out; omega
  have hne' := hne.symm
  have xc0 := (blk_cell k2 0).trans rfl
  have xc1 := (blk_cell k2 1).trans rfl
  have xf0 := blk_frozen k2 0
  have xf1 := blk_frozen k2 1
  clear k2
  go_region
  all_goals go_wp2
  all_goals
    have hq := put2 KB.out (.int .i64 0) (.int .i64 0) rfl
    refine bodyPost_ret (results_ct rfl _ _ g2 34 #[.int .i64 0, .int .i64 0] (0, 0) _ rfl hq.1 Tryz.underlying34 rfl (by kernel_rfl)) rfl ?_
    exact ⟨_, _, rfl, hq.2.2 w GE2.out (below_drew1 kb.out)⟩
set_option maxHeartbeats 8000000 in
set_option maxRecDepth 100000 in
theorem readEnd_noC (s : ByteArray) (hs : s.size ≤ 4000000000) (x y : Int) (ha : atoiO (cutW s).1 = some x) (ha2 : atoiO (cutW s).2 = some y) (hq : etext x y ≠ s) (w : World) (hE : EnvE w) :
    Calls Tryz.prog 83 #[.string s] w fun e w' => ∃ t p, e = .returned (.tuple #[.agg #[.int .i64 0, .int .i64 0], .iface t p]) ∧ Below w.heap.size w w' := by
  obtain ⟨te, pe, he⟩ := hE.err
  have herr : ∀ w' : World, Below w.heap.size w w' → w'.cell? ⟨0, 0, none⟩ = some (.iface te pe) := fun w' b => cell_below he b
  have HLT := Aside0.mk (cell_lt he)
  clear he
  have HS := Aside0.mk hs
  have HE := Aside0.mk hE
  have HZ := Aside0.mk (cutW_size s)
  have HB := Aside0.mk (Below.refl w.heap.size w)
  have hu := Tryz.underlying34
  have HA := Aside0.mk ha
  have HA2 := Aside0.mk ha2
  obtain ⟨T, hT⟩ : ∃ T, etext x y = T := ⟨_, rfl⟩
  have HT := Aside0.mk (show impl_EndText.f x y = some T from hT ▸ EndText_f x y)
  rw [hT] at hq
  clear hT ha ha2
  have hq1 : (T.toList == s.toList) = false := beq_eq_false_iff_ne.mpr (fun e => hq (toList_inj e))
  have hq2 : (T.toList != s.toList) = true := by rw [bne, hq1]; rfl
  clear hq
  clear hs hE
  go_enter Tryz.func83, Tryz.ntmps83
  go_wp2_with (first
      | ((with_reducible refine gate_dst (N := 2) rfl ?_)
         refine box_event ?hg (N := 2) ?hd (cs := #[.int .i64 0, .int .i64 0]) (t := 34) ?hr ?_
         (case hd => rfl)
         (case hg => rfl)
         (case hr => first | (go_simp; done) | (go_simp; rfl))
         intro g2 hg w1 hbox hb
         have GE2 : Aside0 (w.heap.size ≤ g2) := ⟨by rw [hg]; exact below_size (bl HB)⟩
         have BK2 := Aside0.mk hbox
         have n0_ := Aside0.mk (below_step (bl HB) hb)
         clear HB 
         have HB := n0_
         clear n0_ 
         clear hb hbox hg)
      | (go_at_call 102; refine (cut_calls _ (by have := HS.out; omega) _ (Env.below HE.out.e (bl HB))).mono ?_; rintro e w2 ⟨fl, rfl, hb⟩
         have n0_ := Aside0.mk (below_step (bl HB) hb)
         have m0_ := bkB BK2 hb
         clear HB BK2
         have HB := n0_
         have BK2 := m0_
         clear n0_ m0_
         clear hb)
      | (go_at_call 110; (with_reducible refine (atoi_ok (cutW s).1 (by have := HS.out; have := HZ.out; omega) x HA.out _ (Env.below HE.out.e (bl HB))).mono ?_); rintro e w3 ⟨rfl, hb⟩
         have n0_ := Aside0.mk (below_step (bl HB) hb)
         have m0_ := bkB BK2 hb
         clear HB BK2
         have HB := n0_
         have BK2 := m0_
         clear n0_ m0_
         clear hb)
      | (go_at_call 110; (with_reducible refine (atoi_ok (cutW s).2 (by have := HS.out; have := HZ.out; omega) y HA2.out _ (Env.below HE.out.e (bl HB))).mono ?_); rintro e w4 ⟨rfl, hb⟩
         have n0_ := Aside0.mk (below_step (bl HB) hb)
         have m0_ := bkB BK2 hb
         clear HB BK2
         have HB := n0_
         have BK2 := m0_
         clear n0_ m0_
         clear hb)
      | ((with_reducible refine gate_dst (N := 11) rfl ?_)
         refine box_event ?hg (N := 11) ?hd (cs := #[.int .i64 0, .int .i64 0]) (t := 34) ?hr ?_
         (case hd => rfl)
         (case hg => rfl)
         (case hr => first | (go_simp; done) | (go_simp; rfl))
         intro g11 hg w5 hbox hb
         have GE11 : Aside0 (w.heap.size ≤ g11) := ⟨by rw [hg]; exact below_size (bl HB)⟩
         have NE : Aside0 (g2 ≠ g11) := ⟨by rw [hg]; have := bkL BK2; omega⟩
         have BK11 := Aside0.mk hbox
         have zc0 := (blk_cell BK11.out 0).trans rfl
         have zf0 := blk_frozen BK11.out 0
         have zc1 := (blk_cell BK11.out 1).trans rfl
         have zf1 := blk_frozen BK11.out 1
         have n0_ := Aside0.mk (below_step (bl HB) hb)
         have m0_ := bkB BK2 hb
         clear HB BK2
         have HB := n0_
         have BK2 := m0_
         clear n0_ m0_
         clear hb hbox hg)
      | (go_at_call 57; have hp := put2 BK11.out (.int .i64 x) (.int .i64 y) rfl; refine (impl_EndText.calls _ _ T _ HT.out (EnvT.below HE.out.e.t (hp.2.2 w GE11.out HB.out))).mono ?_; rintro e w6 ⟨rfl, hb⟩
         have n0_ := Aside0.mk (below_step (hp.2.2 w GE11.out HB.out) hb)
         have m0_ := Aside0.mk (blk_below ((hp.2.1 _ NE.out).trans BK2.out) hb)
         have m1_ := Aside0.mk (blk_below hp.1 hb)
         clear HB BK2 BK11 hp hb zc0 zf0 zc1 zf1
         have HB := n0_
         have BK2 := m0_
         have BK11 := m1_
         clear n0_ m0_ m1_))
  have kb := HB
  have k2 := BK2.out
  have he2 := herr _ kb.out
  clear herr
  generalize w6 = X at kb k2 he2 ⊢
  have KB := Aside0.mk (blk_drew k2)
  have hne : g2 ≠ 0 := by have := GE2.out; have := HLT.out; omega
  have hne' := hne.symm
  have xc0 := (blk_cell k2 0).trans rfl
  have xc1 := (blk_cell k2 1).trans rfl
  have xf0 := blk_frozen k2 0
  have xf1 := blk_frozen k2 1
  clear k2
  go_region
  all_goals go_wp2
  all_goals
    have hq := put2 KB.out (.int .i64 0) (.int .i64 0) rfl
    refine bodyPost_ret (results_ct rfl _ _ g2 34 #[.int .i64 0, .int .i64 0] (0, 0) _ rfl hq.1 Tryz.underlying34 rfl (by kernel_rfl)) rfl ?_
    exact ⟨_, _, rfl, hq.2.2 w GE2.out (below_drew1 kb.out)⟩
set_option maxHeartbeats 8000000 in
set_option maxRecDepth 100000 in
theorem readEnd_ok (s : ByteArray) (hs : s.size ≤ 4000000000) (x y : Int) (ha : atoiO (cutW s).1 = some x) (ha2 : atoiO (cutW s).2 = some y) (hq : etext x y = s) (w : World) (hE : EnvE w) :
    Calls Tryz.prog 83 #[.string s] w fun e w' => e = .returned (.tuple #[.agg #[.int .i64 x, .int .i64 y], .nilIface]) ∧ Below w.heap.size w w' := by
  obtain ⟨te, pe, he⟩ := hE.err
  have herr : ∀ w' : World, Below w.heap.size w w' → w'.cell? ⟨0, 0, none⟩ = some (.iface te pe) := fun w' b => cell_below he b
  have HLT := Aside0.mk (cell_lt he)
  clear he
  have HS := Aside0.mk hs
  have HE := Aside0.mk hE
  have HZ := Aside0.mk (cutW_size s)
  have HB := Aside0.mk (Below.refl w.heap.size w)
  have hu := Tryz.underlying34
  have HA := Aside0.mk ha
  have HA2 := Aside0.mk ha2
  obtain ⟨T, hT⟩ : ∃ T, etext x y = T := ⟨_, rfl⟩
  have HT := Aside0.mk (show impl_EndText.f x y = some T from hT ▸ EndText_f x y)
  rw [hT] at hq
  clear hT ha ha2
  have hq1 : (T.toList == s.toList) = true := by rw [hq]; exact beq_self_eq_true _
  have hq2 : (T.toList != s.toList) = false := by rw [bne, hq1]; rfl
  clear hq
  clear hs hE
  go_enter Tryz.func83, Tryz.ntmps83
  go_wp2_with (first
      | ((with_reducible refine gate_dst (N := 2) rfl ?_)
         refine box_event ?hg (N := 2) ?hd (cs := #[.int .i64 0, .int .i64 0]) (t := 34) ?hr ?_
         (case hd => rfl)
         (case hg => rfl)
         (case hr => first | (go_simp; done) | (go_simp; rfl))
         intro g2 hg w1 hbox hb
         have GE2 : Aside0 (w.heap.size ≤ g2) := ⟨by rw [hg]; exact below_size (bl HB)⟩
         have BK2 := Aside0.mk hbox
         have n0_ := Aside0.mk (below_step (bl HB) hb)
         clear HB 
         have HB := n0_
         clear n0_ 
         clear hb hbox hg)
      | (go_at_call 102; refine (cut_calls _ (by have := HS.out; omega) _ (Env.below HE.out.e (bl HB))).mono ?_; rintro e w2 ⟨fl, rfl, hb⟩
         have n0_ := Aside0.mk (below_step (bl HB) hb)
         have m0_ := bkB BK2 hb
         clear HB BK2
         have HB := n0_
         have BK2 := m0_
         clear n0_ m0_
         clear hb)
      | (go_at_call 110; (with_reducible refine (atoi_ok (cutW s).1 (by have := HS.out; have := HZ.out; omega) x HA.out _ (Env.below HE.out.e (bl HB))).mono ?_); rintro e w3 ⟨rfl, hb⟩
         have n0_ := Aside0.mk (below_step (bl HB) hb)
         have m0_ := bkB BK2 hb
         clear HB BK2
         have HB := n0_
         have BK2 := m0_
         clear n0_ m0_
         clear hb)
      | (go_at_call 110; (with_reducible refine (atoi_ok (cutW s).2 (by have := HS.out; have := HZ.out; omega) y HA2.out _ (Env.below HE.out.e (bl HB))).mono ?_); rintro e w4 ⟨rfl, hb⟩
         have n0_ := Aside0.mk (below_step (bl HB) hb)
         have m0_ := bkB BK2 hb
         clear HB BK2
         have HB := n0_
         have BK2 := m0_
         clear n0_ m0_
         clear hb)
      | ((with_reducible refine gate_dst (N := 11) rfl ?_)
         refine box_event ?hg (N := 11) ?hd (cs := #[.int .i64 0, .int .i64 0]) (t := 34) ?hr ?_
         (case hd => rfl)
         (case hg => rfl)
         (case hr => first | (go_simp; done) | (go_simp; rfl))
         intro g11 hg w5 hbox hb
         have GE11 : Aside0 (w.heap.size ≤ g11) := ⟨by rw [hg]; exact below_size (bl HB)⟩
         have NE : Aside0 (g2 ≠ g11) := ⟨by rw [hg]; have := bkL BK2; omega⟩
         have BK11 := Aside0.mk hbox
         have zc0 := (blk_cell BK11.out 0).trans rfl
         have zf0 := blk_frozen BK11.out 0
         have zc1 := (blk_cell BK11.out 1).trans rfl
         have zf1 := blk_frozen BK11.out 1
         have n0_ := Aside0.mk (below_step (bl HB) hb)
         have m0_ := bkB BK2 hb
         clear HB BK2
         have HB := n0_
         have BK2 := m0_
         clear n0_ m0_
         clear hb hbox hg)
      | (go_at_call 57; have hp := put2 BK11.out (.int .i64 x) (.int .i64 y) rfl; refine (impl_EndText.calls _ _ T _ HT.out (EnvT.below HE.out.e.t (hp.2.2 w GE11.out HB.out))).mono ?_; rintro e w6 ⟨rfl, hb⟩
         have n0_ := Aside0.mk (below_step (hp.2.2 w GE11.out HB.out) hb)
         have m0_ := Aside0.mk (blk_below ((hp.2.1 _ NE.out).trans BK2.out) hb)
         have m1_ := Aside0.mk (blk_below hp.1 hb)
         clear HB BK2 BK11 hp hb zc0 zf0 zc1 zf1
         have HB := n0_
         have BK2 := m0_
         have BK11 := m1_
         clear n0_ m0_ m1_
         have xc0 := (blk_cell BK2.out 0).trans rfl
         have xf0 := blk_frozen BK2.out 0
         have xc1 := (blk_cell BK2.out 1).trans rfl
         have xf1 := blk_frozen BK2.out 1
         have yc0 := (blk_cell BK11.out 0).trans rfl
         have yf0 := blk_frozen BK11.out 0
         have yc1 := (blk_cell BK11.out 1).trans rfl
         have yf1 := blk_frozen BK11.out 1))
  have hq := put2 BK2.out (.int .i64 x) (.int .i64 y) rfl
  refine bodyPost_ret (results_ct rfl _ _ g2 34 #[.int .i64 x, .int .i64 y] (0, 0) _ rfl hq.1 Tryz.underlying34 rfl (by kernel_rfl)) rfl ?_
  exact ⟨rfl, hq.2.2 w GE2.out HB.out⟩
theorem readEnd_some (s : ByteArray) (hs : s.size ≤ 4000000000) (x y : Int) (h : readEndW s = some (x, y)) (w : World) (hE : EnvE w) :
    Calls Tryz.prog 83 #[.string s] w fun e w' => e = .returned (.tuple #[.agg #[.int .i64 x, .int .i64 y], .nilIface]) ∧ Below w.heap.size w w' := by
  unfold readEndW at h
  simp only [Option.bind_eq_some_iff] at h
  obtain ⟨x', h1, y', h2, h3⟩ := h
  by_cases ht : etext x' y' = s
  · rw [if_pos ht] at h3
    cases h3
    exact readEnd_ok s hs x y h1 h2 ht w hE
  · rw [if_neg ht] at h3; cases h3
theorem readEnd_none (s : ByteArray) (hs : s.size ≤ 4000000000) (h : readEndW s = none) (w : World) (hE : EnvE w) :
    Calls Tryz.prog 83 #[.string s] w fun e w' => ∃ t p, e = .returned (.tuple #[.agg #[.int .i64 0, .int .i64 0], .iface t p]) ∧ Below w.heap.size w w' := by
  cases h1 : atoiO (cutW s).1 with
  | none => exact readEnd_noA s hs h1 w hE
  | some x =>
    cases h2 : atoiO (cutW s).2 with
    | none => exact readEnd_noB s hs x h1 h2 w hE
    | some y =>
      refine readEnd_noC s hs x y h1 h2 (fun e => ?_) w hE
      unfold readEndW at h
      rw [h1, h2] at h
      simp only [Option.bind_some] at h
      rw [if_pos e] at h
      cases h
theorem trim_size (s : ByteArray) : (trimW s).size ≤ s.size := by
  have hl : s.data.toList.length = s.size := by rw [Array.length_toList]; rfl
  unfold trimW Lib.trimPrefix
  show (List.toArray _).size ≤ s.size
  rw [List.size_toArray]
  split
  · rw [List.length_drop]; omega
  · omega
theorem prefix_calls (s : ByteArray) (w : World) :
    Calls Tryz.prog 82 #[.string s, .string (⟨#[112, 111, 114, 116, 32]⟩ : ByteArray)] w fun e w' => e = .returned (.tuple #[.string (trimW s), .bool (Lib.hasPrefix s.data.toList portL)]) ∧ w' = w := Tryz.strings_CutPrefix s _ w
def impl_said.f (s : ByteArray) : Option (Int × Int × Bool) := if s.size ≤ 4000000000 then some (saidW s) else none
set_option maxHeartbeats 8000000 in
set_option maxRecDepth 100000 in
theorem said_some_true (s : ByteArray) (hs : s.size ≤ 4000000000) (x y : Int) (ha : readEndW (trimW s) = some (x, y)) (hp0 : Lib.hasPrefix s.data.toList portL = true) (w : World) (hE : EnvE w) :
    Calls Tryz.prog 51 #[.string s] w fun e w' => e = .returned (.tuple #[.agg #[.int .i64 x, .int .i64 y], .bool true]) ∧ Below w.heap.size w w' := by
  have HS := Aside0.mk hs
  have HE := Aside0.mk hE
  have HA := Aside0.mk ha
  have HZ := Aside0.mk (trim_size s)
  have HP := Aside0.mk hp0
  have HB := Aside0.mk (Below.refl w.heap.size w)
  have hu := Tryz.underlying34
  clear hs hE ha hp0
  go_enter Tryz.func51, Tryz.ntmps51
  go_wp2_with (first
      | ((with_reducible refine gate_dst (N := 2) rfl ?_)
         refine box_event ?hg (N := 2) ?hd (cs := #[.int .i64 0, .int .i64 0]) (t := 34) ?hr ?_
         (case hd => rfl)
         (case hg => rfl)
         (case hr => first | (go_simp; done) | (go_simp; rfl))
         intro g2 hg w1 hbox hb
         have GE2 : Aside0 (w.heap.size ≤ g2) := ⟨by rw [hg]; exact below_size (bl HB)⟩
         have BK2 := Aside0.mk hbox
         have n0_ := Aside0.mk (below_step (bl HB) hb)
         clear HB 
         have HB := n0_
         clear n0_ 
         clear hb hbox hg)
      | (go_at_call 82; refine (prefix_calls s _).mono ?_; rw [HP.out]; rintro e w2 ⟨rfl, rfl⟩)
      | (go_at_call 83; refine (readEnd_some (trimW s) (by have := HS.out; have := HZ.out; omega) x y HA.out _ (EnvE.below HE.out (bl HB))).mono ?_; rintro e w4 ⟨rfl, hb⟩
         have n0_ := Aside0.mk (below_step (bl HB) hb)
         have m0_ := bkB BK2 hb
         clear HB BK2
         have HB := n0_
         have BK2 := m0_
         clear n0_ m0_
         clear hb)
      | ((with_reducible refine gate_dst (N := 6) rfl ?_)
         refine box_event ?hg (N := 6) ?hd (cs := #[.int .i64 0, .int .i64 0]) (t := 34) ?hr ?_
         (case hd => rfl)
         (case hg => rfl)
         (case hr => first | (go_simp; done) | (go_simp; rfl))
         intro g6 hg w5 hbox hb
         have GE6 : Aside0 (w.heap.size ≤ g6) := ⟨by rw [hg]; exact below_size (bl HB)⟩
         have NE : Aside0 (g2 ≠ g6) := ⟨by rw [hg]; have := bkL BK2; omega⟩
         have BK6 := Aside0.mk hbox
         have zc0 := (blk_cell BK6.out 0).trans rfl
         have zf0 := blk_frozen BK6.out 0
         have zc1 := (blk_cell BK6.out 1).trans rfl
         have zf1 := blk_frozen BK6.out 1
         have n0_ := Aside0.mk (below_step (bl HB) hb)
         have m0_ := bkB BK2 hb
         clear HB BK2
         have HB := n0_
         have BK2 := m0_
         clear n0_ m0_
         clear hb hbox hg))
  have hp := put2 BK6.out (.int .i64 x) (.int .i64 y) rfl
  have kb := Aside0.mk (hp.2.2 w GE6.out HB.out)
  have k2 := (hp.2.1 _ NE.out).trans BK2.out
  have k6 := hp.1
  generalize (w5.setCell ⟨g6, 0, none⟩ (.int .i64 x)).setCell ⟨g6, 1, none⟩ (.int .i64 y) = X at kb k2 k6 ⊢
  clear hp zc0 zc1 zf0 zf1
  have KB := Aside0.mk (blk_drew k2)
  have hne := NE.out
  have hne' := NE.out.symm
  have xc0 := (blk_cell k2 0).trans rfl
  have xc1 := (blk_cell k2 1).trans rfl
  have xf0 := blk_frozen k2 0
  have xf1 := blk_frozen k2 1
  have yc0 := (blk_cell k6 0).trans rfl
  have yc1 := (blk_cell k6 1).trans rfl
  clear k2 k6
  go_region
  all_goals go_wp2
  all_goals
    have hq := put2 KB.out (.int .i64 x) (.int .i64 y) rfl
    refine bodyPost_ret (results_ct rfl _ _ g2 34 #[.int .i64 x, .int .i64 y] (0, 0) _ rfl hq.1 Tryz.underlying34 rfl (by kernel_rfl)) rfl ?_
    exact ⟨rfl, hq.2.2 w GE2.out (below_drew1 kb.out)⟩
set_option maxHeartbeats 8000000 in
set_option maxRecDepth 100000 in
theorem said_none_true (s : ByteArray) (hs : s.size ≤ 4000000000) (ha : readEndW (trimW s) = none) (hp0 : Lib.hasPrefix s.data.toList portL = true) (w : World) (hE : EnvE w) :
    Calls Tryz.prog 51 #[.string s] w fun e w' => e = .returned (.tuple #[.agg #[.int .i64 0, .int .i64 0], .bool false]) ∧ Below w.heap.size w w' := by
  have HS := Aside0.mk hs
  have HE := Aside0.mk hE
  have HA := Aside0.mk ha
  have HZ := Aside0.mk (trim_size s)
  have HP := Aside0.mk hp0
  have HB := Aside0.mk (Below.refl w.heap.size w)
  have hu := Tryz.underlying34
  clear hs hE ha hp0
  go_enter Tryz.func51, Tryz.ntmps51
  go_wp2_with (first
      | ((with_reducible refine gate_dst (N := 2) rfl ?_)
         refine box_event ?hg (N := 2) ?hd (cs := #[.int .i64 0, .int .i64 0]) (t := 34) ?hr ?_
         (case hd => rfl)
         (case hg => rfl)
         (case hr => first | (go_simp; done) | (go_simp; rfl))
         intro g2 hg w1 hbox hb
         have GE2 : Aside0 (w.heap.size ≤ g2) := ⟨by rw [hg]; exact below_size (bl HB)⟩
         have BK2 := Aside0.mk hbox
         have n0_ := Aside0.mk (below_step (bl HB) hb)
         clear HB 
         have HB := n0_
         clear n0_ 
         clear hb hbox hg)
      | (go_at_call 82; refine (prefix_calls s _).mono ?_; rw [HP.out]; rintro e w2 ⟨rfl, rfl⟩)
      | (go_at_call 83; refine (readEnd_none (trimW s) (by have := HS.out; have := HZ.out; omega) HA.out _ (EnvE.below HE.out (bl HB))).mono ?_; rintro e w4 ⟨t1, p1, rfl, hb⟩
         have n0_ := Aside0.mk (below_step (bl HB) hb)
         have m0_ := bkB BK2 hb
         clear HB BK2
         have HB := n0_
         have BK2 := m0_
         clear n0_ m0_
         clear hb)
      | ((with_reducible refine gate_dst (N := 6) rfl ?_)
         refine box_event ?hg (N := 6) ?hd (cs := #[.int .i64 0, .int .i64 0]) (t := 34) ?hr ?_
         (case hd => rfl)
         (case hg => rfl)
         (case hr => first | (go_simp; done) | (go_simp; rfl))
         intro g6 hg w5 hbox hb
         have GE6 : Aside0 (w.heap.size ≤ g6) := ⟨by rw [hg]; exact below_size (bl HB)⟩
         have NE : Aside0 (g2 ≠ g6) := ⟨by rw [hg]; have := bkL BK2; omega⟩
         have BK6 := Aside0.mk hbox
         have zc0 := (blk_cell BK6.out 0).trans rfl
         have zf0 := blk_frozen BK6.out 0
         have zc1 := (blk_cell BK6.out 1).trans rfl
         have zf1 := blk_frozen BK6.out 1
         have n0_ := Aside0.mk (below_step (bl HB) hb)
         have m0_ := bkB BK2 hb
         clear HB BK2
         have HB := n0_
         have BK2 := m0_
         clear n0_ m0_
         clear hb hbox hg))
  have hp := put2 BK6.out (.int .i64 0) (.int .i64 0) rfl
  have kb := Aside0.mk (hp.2.2 w GE6.out HB.out)
  have k2 := (hp.2.1 _ NE.out).trans BK2.out
  have k6 := hp.1
  generalize (w5.setCell ⟨g6, 0, none⟩ (.int .i64 0)).setCell ⟨g6, 1, none⟩ (.int .i64 0) = X at kb k2 k6 ⊢
  clear hp zc0 zc1 zf0 zf1
  have KB := Aside0.mk (blk_drew k2)
  have hne := NE.out
  have hne' := NE.out.symm
  have xc0 := (blk_cell k2 0).trans rfl
  have xc1 := (blk_cell k2 1).trans rfl
  have xf0 := blk_frozen k2 0
  have xf1 := blk_frozen k2 1
  have yc0 := (blk_cell k6 0).trans rfl
  have yc1 := (blk_cell k6 1).trans rfl
  clear k2 k6
  go_region
  all_goals go_wp2
  all_goals
    have hq := put2 KB.out (.int .i64 0) (.int .i64 0) rfl
    refine bodyPost_ret (results_ct rfl _ _ g2 34 #[.int .i64 0, .int .i64 0] (0, 0) _ rfl hq.1 Tryz.underlying34 rfl (by kernel_rfl)) rfl ?_
    exact ⟨rfl, hq.2.2 w GE2.out (below_drew1 kb.out)⟩
set_option maxHeartbeats 8000000 in
set_option maxRecDepth 100000 in
theorem said_some_false (s : ByteArray) (hs : s.size ≤ 4000000000) (x y : Int) (ha : readEndW (trimW s) = some (x, y)) (hp0 : Lib.hasPrefix s.data.toList portL = false) (w : World) (hE : EnvE w) :
    Calls Tryz.prog 51 #[.string s] w fun e w' => e = .returned (.tuple #[.agg #[.int .i64 x, .int .i64 y], .bool false]) ∧ Below w.heap.size w w' := by
  have HS := Aside0.mk hs
  have HE := Aside0.mk hE
  have HA := Aside0.mk ha
  have HZ := Aside0.mk (trim_size s)
  have HP := Aside0.mk hp0
  have HB := Aside0.mk (Below.refl w.heap.size w)
  have hu := Tryz.underlying34
  clear hs hE ha hp0
  go_enter Tryz.func51, Tryz.ntmps51
  go_wp2_with (first
      | ((with_reducible refine gate_dst (N := 2) rfl ?_)
         refine box_event ?hg (N := 2) ?hd (cs := #[.int .i64 0, .int .i64 0]) (t := 34) ?hr ?_
         (case hd => rfl)
         (case hg => rfl)
         (case hr => first | (go_simp; done) | (go_simp; rfl))
         intro g2 hg w1 hbox hb
         have GE2 : Aside0 (w.heap.size ≤ g2) := ⟨by rw [hg]; exact below_size (bl HB)⟩
         have BK2 := Aside0.mk hbox
         have n0_ := Aside0.mk (below_step (bl HB) hb)
         clear HB 
         have HB := n0_
         clear n0_ 
         clear hb hbox hg)
      | (go_at_call 82; refine (prefix_calls s _).mono ?_; rw [HP.out]; rintro e w2 ⟨rfl, rfl⟩)
      | (go_at_call 83; refine (readEnd_some (trimW s) (by have := HS.out; have := HZ.out; omega) x y HA.out _ (EnvE.below HE.out (bl HB))).mono ?_; rintro e w4 ⟨rfl, hb⟩
         have n0_ := Aside0.mk (below_step (bl HB) hb)
         have m0_ := bkB BK2 hb
         clear HB BK2
         have HB := n0_
         have BK2 := m0_
         clear n0_ m0_
         clear hb)
      | ((with_reducible refine gate_dst (N := 6) rfl ?_)
         refine box_event ?hg (N := 6) ?hd (cs := #[.int .i64 0, .int .i64 0]) (t := 34) ?hr ?_
         (case hd => rfl)
         (case hg => rfl)
         (case hr => first | (go_simp; done) | (go_simp; rfl))
         intro g6 hg w5 hbox hb
         have GE6 : Aside0 (w.heap.size ≤ g6) := ⟨by rw [hg]; exact below_size (bl HB)⟩
         have NE : Aside0 (g2 ≠ g6) := ⟨by rw [hg]; have := bkL BK2; omega⟩
         have BK6 := Aside0.mk hbox
         have zc0 := (blk_cell BK6.out 0).trans rfl
         have zf0 := blk_frozen BK6.out 0
         have zc1 := (blk_cell BK6.out 1).trans rfl
         have zf1 := blk_frozen BK6.out 1
         have n0_ := Aside0.mk (below_step (bl HB) hb)
         have m0_ := bkB BK2 hb
         clear HB BK2
         have HB := n0_
         have BK2 := m0_
         clear n0_ m0_
         clear hb hbox hg))
  have hp := put2 BK6.out (.int .i64 x) (.int .i64 y) rfl
  have kb := Aside0.mk (hp.2.2 w GE6.out HB.out)
  have k2 := (hp.2.1 _ NE.out).trans BK2.out
  have k6 := hp.1
  generalize (w5.setCell ⟨g6, 0, none⟩ (.int .i64 x)).setCell ⟨g6, 1, none⟩ (.int .i64 y) = X at kb k2 k6 ⊢
  clear hp zc0 zc1 zf0 zf1
  have KB := Aside0.mk (blk_drew k2)
  have hne := NE.out
  have hne' := NE.out.symm
  have xc0 := (blk_cell k2 0).trans rfl
  have xc1 := (blk_cell k2 1).trans rfl
  have xf0 := blk_frozen k2 0
  have xf1 := blk_frozen k2 1
  have yc0 := (blk_cell k6 0).trans rfl
  have yc1 := (blk_cell k6 1).trans rfl
  clear k2 k6
  go_region
  all_goals go_wp2
  all_goals
    have hq := put2 KB.out (.int .i64 x) (.int .i64 y) rfl
    refine bodyPost_ret (results_ct rfl _ _ g2 34 #[.int .i64 x, .int .i64 y] (0, 0) _ rfl hq.1 Tryz.underlying34 rfl (by kernel_rfl)) rfl ?_
    exact ⟨rfl, hq.2.2 w GE2.out (below_drew1 kb.out)⟩
set_option maxHeartbeats 8000000 in
set_option maxRecDepth 100000 in
theorem said_none_false (s : ByteArray) (hs : s.size ≤ 4000000000) (ha : readEndW (trimW s) = none) (hp0 : Lib.hasPrefix s.data.toList portL = false) (w : World) (hE : EnvE w) :
    Calls Tryz.prog 51 #[.string s] w fun e w' => e = .returned (.tuple #[.agg #[.int .i64 0, .int .i64 0], .bool false]) ∧ Below w.heap.size w w' := by
  have HS := Aside0.mk hs
  have HE := Aside0.mk hE
  have HA := Aside0.mk ha
  have HZ := Aside0.mk (trim_size s)
  have HP := Aside0.mk hp0
  have HB := Aside0.mk (Below.refl w.heap.size w)
  have hu := Tryz.underlying34
  clear hs hE ha hp0
  go_enter Tryz.func51, Tryz.ntmps51
  go_wp2_with (first
      | ((with_reducible refine gate_dst (N := 2) rfl ?_)
         refine box_event ?hg (N := 2) ?hd (cs := #[.int .i64 0, .int .i64 0]) (t := 34) ?hr ?_
         (case hd => rfl)
         (case hg => rfl)
         (case hr => first | (go_simp; done) | (go_simp; rfl))
         intro g2 hg w1 hbox hb
         have GE2 : Aside0 (w.heap.size ≤ g2) := ⟨by rw [hg]; exact below_size (bl HB)⟩
         have BK2 := Aside0.mk hbox
         have n0_ := Aside0.mk (below_step (bl HB) hb)
         clear HB 
         have HB := n0_
         clear n0_ 
         clear hb hbox hg)
      | (go_at_call 82; refine (prefix_calls s _).mono ?_; rw [HP.out]; rintro e w2 ⟨rfl, rfl⟩)
      | (go_at_call 83; refine (readEnd_none (trimW s) (by have := HS.out; have := HZ.out; omega) HA.out _ (EnvE.below HE.out (bl HB))).mono ?_; rintro e w4 ⟨t1, p1, rfl, hb⟩
         have n0_ := Aside0.mk (below_step (bl HB) hb)
         have m0_ := bkB BK2 hb
         clear HB BK2
         have HB := n0_
         have BK2 := m0_
         clear n0_ m0_
         clear hb)
      | ((with_reducible refine gate_dst (N := 6) rfl ?_)
         refine box_event ?hg (N := 6) ?hd (cs := #[.int .i64 0, .int .i64 0]) (t := 34) ?hr ?_
         (case hd => rfl)
         (case hg => rfl)
         (case hr => first | (go_simp; done) | (go_simp; rfl))
         intro g6 hg w5 hbox hb
         have GE6 : Aside0 (w.heap.size ≤ g6) := ⟨by rw [hg]; exact below_size (bl HB)⟩
         have NE : Aside0 (g2 ≠ g6) := ⟨by rw [hg]; have := bkL BK2; omega⟩
         have BK6 := Aside0.mk hbox
         have zc0 := (blk_cell BK6.out 0).trans rfl
         have zf0 := blk_frozen BK6.out 0
         have zc1 := (blk_cell BK6.out 1).trans rfl
         have zf1 := blk_frozen BK6.out 1
         have n0_ := Aside0.mk (below_step (bl HB) hb)
         have m0_ := bkB BK2 hb
         clear HB BK2
         have HB := n0_
         have BK2 := m0_
         clear n0_ m0_
         clear hb hbox hg))
  have hp := put2 BK6.out (.int .i64 0) (.int .i64 0) rfl
  have kb := Aside0.mk (hp.2.2 w GE6.out HB.out)
  have k2 := (hp.2.1 _ NE.out).trans BK2.out
  have k6 := hp.1
  generalize (w5.setCell ⟨g6, 0, none⟩ (.int .i64 0)).setCell ⟨g6, 1, none⟩ (.int .i64 0) = X at kb k2 k6 ⊢
  clear hp zc0 zc1 zf0 zf1
  have KB := Aside0.mk (blk_drew k2)
  have hne := NE.out
  have hne' := NE.out.symm
  have xc0 := (blk_cell k2 0).trans rfl
  have xc1 := (blk_cell k2 1).trans rfl
  have xf0 := blk_frozen k2 0
  have xf1 := blk_frozen k2 1
  have yc0 := (blk_cell k6 0).trans rfl
  have yc1 := (blk_cell k6 1).trans rfl
  clear k2 k6
  go_region
  all_goals go_wp2
  all_goals
    have hq := put2 KB.out (.int .i64 0) (.int .i64 0) rfl
    refine bodyPost_ret (results_ct rfl _ _ g2 34 #[.int .i64 0, .int .i64 0] (0, 0) _ rfl hq.1 Tryz.underlying34 rfl (by kernel_rfl)) rfl ?_
    exact ⟨rfl, hq.2.2 w GE2.out (below_drew1 kb.out)⟩
theorem impl_said.calls (a0 : ByteArray) (r1 : Int) (r2 : Int) (r3 : Bool) (w : World) (h : impl_said.f a0 = some (r1, r2, r3)) (hE : EnvE w) :
    Calls Tryz.prog 51 #[.string a0] w fun e w' => e = .returned (.tuple #[.agg #[.int .i64 r1, .int .i64 r2], .bool r3]) ∧ Below w.heap.size w w' := by
  unfold impl_said.f at h
  by_cases hs : a0.size ≤ 4000000000
  · rw [if_pos hs] at h
    have h := Option.some.inj h
    unfold saidW at h
    cases hr : readEndW (trimW a0) with
    | none =>
      rw [hr] at h
      cases h
      cases hp : Lib.hasPrefix a0.data.toList portL with
      | true => exact said_none_true a0 hs hr hp w hE
      | false => exact said_none_false a0 hs hr hp w hE
    | some r =>
      obtain ⟨x, y⟩ := r
      rw [hr] at h
      cases h
      cases hp : Lib.hasPrefix a0.data.toList portL with
      | true => exact said_some_true a0 hs _ _ hr hp w hE
      | false => exact said_some_false a0 hs _ _ hr hp w hE
  · rw [if_neg hs] at h; cases h
section
attribute [local go_sem] max2_int min2_int max_two min_two max_three min_three max_four min_four
def impl_LinSays.f (a0 : ByteArray) : Option (Int × Int × Bool) := (impl_said.f a0).bind fun bt352 => (if bt352.2.2 = true then ((impl_EndInside.f bt352.1 bt352.2.1).bind fun t356 => (if t356 = true then (some (bt352.1, bt352.2.1, true)) else (some (0, 0, false)))) else (some (0, 0, false)))
set_option maxHeartbeats 8000000 in
set_option maxRecDepth 100000 in
theorem impl_LinSays.calls (a0 : ByteArray) (r1 : Int) (r2 : Int) (r3 : Bool) (w : World) (h : impl_LinSays.f a0 = some (r1, r2, r3)) (hE : EnvE w) :
  Calls Tryz.prog 19 #[.string a0] w fun e w' => e = .returned (.tuple #[.agg #[.int .i64 r1, .int .i64 r2], .bool r3]) ∧ Below w.heap.size w w' := by
 have hu34 := Tryz.underlying34
 have HB := am (Below.refl w.heap.size w)
 have H : ((impl_said.f a0).bind fun bt352 => (if bt352.2.2 = true then ((impl_EndInside.f bt352.1 bt352.2.1).bind fun t356 => (if t356 = true then (some (bt352.1, bt352.2.1, true)) else (some (0, 0, false)))) else (some (0, 0, false)))) = some (r1, r2, r3) := h
 clear h
 obtain ⟨⟨t352, t353, t354⟩, A2, H⟩ := bse H
 try dsimp only at H
 by_cases c3 : t354 = true
 ·subst c3
  have H1 : ((impl_EndInside.f t352 t353).bind fun t356 => (if t356 = true then (some (t352, t353, true)) else (some (0, 0, false)))) = some (r1, r2, r3) := by rw [if_pos rfl] at H; exact H
  clear H
  have H := H1
  clear H1
  obtain ⟨t356, A4, H⟩ := bse H
  try dsimp only at H
  by_cases c5 : t356 = true
  ·subst c5
   have H1 : (some (t352, t353, true)) = some (r1, r2, r3) := by rw [if_pos rfl] at H; exact H
   clear H
   have H := H1
   clear H1
   simp only [Option.some.injEq, Prod.mk.injEq] at H
   obtain ⟨rfl, rfl, rfl⟩ := H
   go_enter Tryz.func19, Tryz.ntmps19
   go_wp2_with (first | ((with_reducible refine gate_dst (N := 2) rfl ?_); refine box_event rfl (N := 2) rfl (cs := #[.int .i64 0, .int .i64 0]) (t := 34) hr_ ?_; intro gb351 hg w6 hbox hb; have BK351 := am hbox; have GW351 := gwE HB hg; have GE351 := gwE HB hg; replace HB := hbS HB hb; clear hb hbox hg) | ((with_reducible refine gate_callee (f := 51) rfl ?_); refine gL (some 8) Tryz.func51 #[.string a0] ?_; (with_reducible refine (impl_said.calls a0 t352 t353 true _ A2.out (EnvE.below hE (bl HB))).mono ?_); rintro e w7 ⟨rfl, hb⟩; refine ⟨_, rfl, ?_⟩; replace BK351 := bkB BK351 hb; replace HB := hbS HB hb; (try clear hb)) | ((with_reducible refine gate_dst (N := 4) rfl ?_); refine box_event rfl (N := 4) rfl (cs := #[.int .i64 0, .int .i64 0]) (t := 34) hr_ ?_; intro gb355 hg w8 hbox hb; have BK355 := am hbox; have GW355 := gwE HB hg; have GE355 := gwE HB hg; replace HB := hbS HB hb; have NB351_355 := neL BK351 hg; have NB355_351 := neG BK351 hg; replace BK351 := bkB BK351 hb; clear hb hbox hg; have := NB355_351.out; have := NB351_355.out; have := bcell BK355 0; have := bcell BK355 1; have := bfz BK355 0; have := bfz BK355 1) | (go_at_call 52; (with_reducible refine (impl_EndInside.calls t352 t353 true _ A4.out).mono ?_); rintro e w11 ⟨rfl, hb⟩; replace BK351 := am (blk_below (g := gb351) (o := .cells #[.int .i64 0, .int .i64 0] 34 (0, 0)) (by (with_reducible repeat refine bu ?_); refine blk_far ?_ NB351_355.out _; (with_reducible repeat refine bu ?_); refine blk_far ?_ NB351_355.out _; (with_reducible repeat refine bu ?_); exact BK351.out) hb); replace BK355 := am (blk_below (g := gb355) (o := .cells #[.int .i64 t352, .int .i64 t353] 34 (0, 0)) (by (with_reducible repeat refine bu ?_); refine blk_put (cs := #[.int .i64 t352, .int .i64 0]) ?_ 1 _ rfl; (with_reducible repeat refine bu ?_); refine blk_put (cs := #[.int .i64 0, .int .i64 0]) ?_ 0 _ rfl; (with_reducible repeat refine bu ?_); exact BK355.out) hb); replace HB := hbS HB hb; (try clear hb); have := bcell BK355 0; have := bcell BK355 1; have := bfz BK355 0; have := bfz BK355 1; have := bcell BK351 0; have := bcell BK351 1; have := bfz BK351 0; have := bfz BK351 1))
   refine bodyPost_ret (results_ct rfl _ _ gb351 34 #[.int .i64 t352, .int .i64 t353] (0, 0) _ rfl (by (with_reducible repeat refine bu ?_); refine blk_put (cs := #[.int .i64 t352, .int .i64 0]) ?_ 1 _ rfl; (with_reducible repeat refine bu ?_); refine blk_put (cs := #[.int .i64 0, .int .i64 0]) ?_ 0 _ rfl; (with_reducible repeat refine bu ?_); exact BK351.out) Tryz.underlying34 rfl (by kernel_rfl)) rfl ?_
   exact ⟨fi_, m2_⟩
  ·replace c5 := Bool.eq_false_iff.mpr c5
   subst c5
   have H1 : (some (0, 0, false)) = some (r1, r2, r3) := by rw [if_neg (show ¬ (false = true) by decide)] at H; exact H
   clear H
   have H := H1
   clear H1
   simp only [Option.some.injEq, Prod.mk.injEq] at H
   obtain ⟨rfl, rfl, rfl⟩ := H
   go_enter Tryz.func19, Tryz.ntmps19
   go_wp2_with (first | ((with_reducible refine gate_dst (N := 2) rfl ?_); refine box_event rfl (N := 2) rfl (cs := #[.int .i64 0, .int .i64 0]) (t := 34) hr_ ?_; intro gb351 hg w14 hbox hb; have BK351 := am hbox; have GW351 := gwE HB hg; have GE351 := gwE HB hg; replace HB := hbS HB hb; clear hb hbox hg) | ((with_reducible refine gate_callee (f := 51) rfl ?_); refine gL (some 8) Tryz.func51 #[.string a0] ?_; (with_reducible refine (impl_said.calls a0 t352 t353 true _ A2.out (EnvE.below hE (bl HB))).mono ?_); rintro e w15 ⟨rfl, hb⟩; refine ⟨_, rfl, ?_⟩; replace BK351 := bkB BK351 hb; replace HB := hbS HB hb; (try clear hb)) | ((with_reducible refine gate_dst (N := 4) rfl ?_); refine box_event rfl (N := 4) rfl (cs := #[.int .i64 0, .int .i64 0]) (t := 34) hr_ ?_; intro gb355 hg w16 hbox hb; have BK355 := am hbox; have GW355 := gwE HB hg; have GE355 := gwE HB hg; replace HB := hbS HB hb; have NB351_355 := neL BK351 hg; have NB355_351 := neG BK351 hg; replace BK351 := bkB BK351 hb; clear hb hbox hg; have := NB355_351.out; have := NB351_355.out; have := bcell BK355 0; have := bcell BK355 1; have := bfz BK355 0; have := bfz BK355 1) | (go_at_call 52; (with_reducible refine (impl_EndInside.calls t352 t353 false _ A4.out).mono ?_); rintro e w19 ⟨rfl, hb⟩; replace BK351 := am (blk_below (g := gb351) (o := .cells #[.int .i64 0, .int .i64 0] 34 (0, 0)) (by (with_reducible repeat refine bu ?_); refine blk_far ?_ NB351_355.out _; (with_reducible repeat refine bu ?_); refine blk_far ?_ NB351_355.out _; (with_reducible repeat refine bu ?_); exact BK351.out) hb); replace BK355 := am (blk_below (g := gb355) (o := .cells #[.int .i64 t352, .int .i64 t353] 34 (0, 0)) (by (with_reducible repeat refine bu ?_); refine blk_put (cs := #[.int .i64 t352, .int .i64 0]) ?_ 1 _ rfl; (with_reducible repeat refine bu ?_); refine blk_put (cs := #[.int .i64 0, .int .i64 0]) ?_ 0 _ rfl; (with_reducible repeat refine bu ?_); exact BK355.out) hb); replace HB := hbS HB hb; (try clear hb); have := bcell BK351 0; have := bcell BK351 1; have := bfz BK351 0; have := bfz BK351 1))
   refine bodyPost_ret (results_ct rfl _ _ gb351 34 #[.int .i64 0, .int .i64 0] (0, 0) _ rfl (by (with_reducible repeat refine bu ?_); refine blk_put (cs := #[.int .i64 0, .int .i64 0]) ?_ 1 _ rfl; (with_reducible repeat refine bu ?_); refine blk_put (cs := #[.int .i64 0, .int .i64 0]) ?_ 0 _ rfl; (with_reducible repeat refine bu ?_); exact BK351.out) Tryz.underlying34 rfl (by kernel_rfl)) rfl ?_
   exact ⟨fi_, m2_⟩
 ·replace c3 := Bool.eq_false_iff.mpr c3
  subst c3
  have H1 : (some (0, 0, false)) = some (r1, r2, r3) := by rw [if_neg (show ¬ (false = true) by decide)] at H; exact H
  clear H
  have H := H1
  clear H1
  simp only [Option.some.injEq, Prod.mk.injEq] at H
  obtain ⟨rfl, rfl, rfl⟩ := H
  go_enter Tryz.func19, Tryz.ntmps19
  go_wp2_with (first | ((with_reducible refine gate_dst (N := 2) rfl ?_); refine box_event rfl (N := 2) rfl (cs := #[.int .i64 0, .int .i64 0]) (t := 34) hr_ ?_; intro gb351 hg w21 hbox hb; have BK351 := am hbox; have GW351 := gwE HB hg; have GE351 := gwE HB hg; replace HB := hbS HB hb; clear hb hbox hg) | ((with_reducible refine gate_callee (f := 51) rfl ?_); refine gL (some 8) Tryz.func51 #[.string a0] ?_; (with_reducible refine (impl_said.calls a0 t352 t353 false _ A2.out (EnvE.below hE (bl HB))).mono ?_); rintro e w22 ⟨rfl, hb⟩; refine ⟨_, rfl, ?_⟩; replace BK351 := bkB BK351 hb; replace HB := hbS HB hb; (try clear hb)) | ((with_reducible refine gate_dst (N := 4) rfl ?_); refine box_event rfl (N := 4) rfl (cs := #[.int .i64 0, .int .i64 0]) (t := 34) hr_ ?_; intro gb355 hg w23 hbox hb; have BK355 := am hbox; have GW355 := gwE HB hg; have GE355 := gwE HB hg; replace HB := hbS HB hb; have NB351_355 := neL BK351 hg; have NB355_351 := neG BK351 hg; replace BK351 := bkB BK351 hb; clear hb hbox hg; have := NB355_351.out; have := NB351_355.out; have := bcell BK355 0; have := bcell BK355 1; have := bfz BK355 0; have := bfz BK355 1; have := bcell BK351 0; have := bcell BK351 1; have := bfz BK351 0; have := bfz BK351 1))
  refine bodyPost_ret (results_ct rfl _ _ gb351 34 #[.int .i64 0, .int .i64 0] (0, 0) _ rfl (by (with_reducible repeat refine bu ?_); refine blk_put (cs := #[.int .i64 0, .int .i64 0]) ?_ 1 _ rfl; (with_reducible repeat refine bu ?_); refine blk_put (cs := #[.int .i64 0, .int .i64 0]) ?_ 0 _ rfl; (with_reducible repeat refine bu ?_); refine blk_far ?_ NB351_355.out _; (with_reducible repeat refine bu ?_); refine blk_far ?_ NB351_355.out _; (with_reducible repeat refine bu ?_); exact BK351.out) Tryz.underlying34 rfl (by kernel_rfl)) rfl ?_
  exact ⟨fi_, m2_⟩
def impl_LinPort.f (a0_0 : Int) (a0_1 : Int) : Option (ByteArray) := (impl_EndOk.f a0_0 a0_1).bind fun t358 => (if t358 = true then ((impl_EndText.f a0_0 a0_1).bind fun t359 => (if 5 + t359.size ≤ 9223372036854775807 then (some ((⟨#[112, 111, 114, 116, 32]⟩ : ByteArray) ++ t359)) else (none))) else (some (⟨#[]⟩ : ByteArray)))
set_option maxHeartbeats 8000000 in
set_option maxRecDepth 100000 in
theorem impl_LinPort.calls (a0_0 : Int) (a0_1 : Int) (r : ByteArray) (w : World) (h : impl_LinPort.f a0_0 a0_1 = some r) (hE : EnvT w) :
  Calls Tryz.prog 24 #[.agg #[.int .i64 a0_0, .int .i64 a0_1]] w fun e w' => e = .returned (.string r) ∧ Below w.heap.size w w' := by
 have hu34 := Tryz.underlying34
 have HB := am (Below.refl w.heap.size w)
 have H : ((impl_EndOk.f a0_0 a0_1).bind fun t358 => (if t358 = true then ((impl_EndText.f a0_0 a0_1).bind fun t359 => (if 5 + t359.size ≤ 9223372036854775807 then (some ((⟨#[112, 111, 114, 116, 32]⟩ : ByteArray) ++ t359)) else (none))) else (some (⟨#[]⟩ : ByteArray)))) = some r := h
 clear h
 obtain ⟨t358, A2, H⟩ := bse H
 try dsimp only at H
 by_cases c3 : t358 = true
 ·subst c3
  have H1 : ((impl_EndText.f a0_0 a0_1).bind fun t359 => (if 5 + t359.size ≤ 9223372036854775807 then (some ((⟨#[112, 111, 114, 116, 32]⟩ : ByteArray) ++ t359)) else (none))) = some r := by rw [if_pos rfl] at H; exact H
  clear H
  have H := H1
  clear H1
  obtain ⟨t359, A4, H⟩ := bse H
  try dsimp only at H
  by_cases c5 : 5 + t359.size ≤ 9223372036854775807
  ·rw [if_pos c5] at H
   have c5b0 := eq_true c5
   have c5b1 : decide (5 + t359.size ≤ 9223372036854775807) = true := decide_eq_true c5
   try have c5b2 : (9223372036854775807 < 5 + t359.size) = False := eq_false (Nat.not_lt.2 c5)
   obtain rfl := Option.some.inj H
   go_enter Tryz.func24, Tryz.ntmps24
   go_wp2_with (first | ((with_reducible refine gate_dst (N := 1) rfl ?_); refine box_event rfl (N := 1) rfl (cs := #[.int .i64 a0_0, .int .i64 a0_1]) (t := 34) hr_ ?_; intro gb357 hg w6 hbox hb; have BK357 := am hbox; have GW357 := gwE HB hg; have GE357 := gwE HB hg; replace HB := hbS HB hb; clear hb hbox hg; have := bcell BK357 0; have := bcell BK357 1; have := bfz BK357 0; have := bfz BK357 1) | ((with_reducible refine gate_callee (f := 56) rfl ?_); refine gL (some 4) Tryz.func56 #[.agg #[.int .i64 a0_0, .int .i64 a0_1]] ?_; (with_reducible refine (impl_EndOk.calls a0_0 a0_1 true _ A2.out).mono ?_); rintro e w8 ⟨rfl, hb⟩; refine ⟨_, rfl, ?_⟩; replace BK357 := bkB BK357 hb; replace HB := hbS HB hb; (try clear hb); have := bcell BK357 0; have := bcell BK357 1; have := bfz BK357 0; have := bfz BK357 1) | ((with_reducible refine gate_callee (f := 57) rfl ?_); refine gL (some 7) Tryz.func57 #[.agg #[.int .i64 a0_0, .int .i64 a0_1]] ?_; (with_reducible refine (impl_EndText.calls a0_0 a0_1 t359 _ A4.out (EnvT.below hE (bl HB))).mono ?_); rintro e w10 ⟨rfl, hb⟩; refine ⟨_, rfl, ?_⟩; replace BK357 := bkB BK357 hb; replace HB := hbS HB hb; (try clear hb)))
   go_ret
   exact ⟨fi_, m2_⟩
  ·rw [if_neg c5] at H
   exact absurd H (by simp)
 ·replace c3 := Bool.eq_false_iff.mpr c3
  subst c3
  have H1 : (some (⟨#[]⟩ : ByteArray)) = some r := by rw [if_neg (show ¬ (false = true) by decide)] at H; exact H
  clear H
  have H := H1
  clear H1
  obtain rfl := Option.some.inj H
  go_enter Tryz.func24, Tryz.ntmps24
  go_wp2_with (first | ((with_reducible refine gate_dst (N := 1) rfl ?_); refine box_event rfl (N := 1) rfl (cs := #[.int .i64 a0_0, .int .i64 a0_1]) (t := 34) hr_ ?_; intro gb357 hg w11 hbox hb; have BK357 := am hbox; have GW357 := gwE HB hg; have GE357 := gwE HB hg; replace HB := hbS HB hb; clear hb hbox hg; have := bcell BK357 0; have := bcell BK357 1; have := bfz BK357 0; have := bfz BK357 1) | ((with_reducible refine gate_callee (f := 56) rfl ?_); refine gL (some 4) Tryz.func56 #[.agg #[.int .i64 a0_0, .int .i64 a0_1]] ?_; (with_reducible refine (impl_EndOk.calls a0_0 a0_1 false _ A2.out).mono ?_); rintro e w13 ⟨rfl, hb⟩; refine ⟨_, rfl, ?_⟩; replace BK357 := bkB BK357 hb; replace HB := hbS HB hb; (try clear hb)))
  go_ret
  exact ⟨fi_, m2_⟩
end
theorem R_clip {α : Type} {d : Kd α} {e n c : Nat} {w : World} {base : Nat} {ok : Nat → Prop} {A : Option Addr} {xs : List α} (h : d.R e w base ok (.slice A n c) xs) : d.R e w base ok (.slice A n n) xs := by
  obtain ⟨h0, inner, ho, hr⟩ := h
  have hb : ∀ x y : Nat, (Value.slice A x x).ownBlock = (Value.slice A n c).ownBlock := by intro x y; cases A <;> rfl
  have hn : n = xs.length := by
    obtain ⟨A', c', he⟩ := own_slice ho
    injection he
  refine ⟨fun k hk => h0 k (by rw [← hb n n]; exact hk), inner, ?_, by rw [hb n n]; exact hr⟩
  obtain ⟨hl, h2⟩ := ho
  refine ⟨hl, ?_⟩
  rcases h2 with ⟨hv, hx⟩ | ⟨g, cap, cur, hv, hbg, hh, hnc, hcm, hcs, ht⟩
  · injection hv with h1 h2 h3
    subst h1; subst h2
    exact .inl ⟨rfl, hx⟩
  · injection hv with h1 h2 h3
    subst h1; subst h2; subst h3
    exact .inr ⟨g, xs.length, cur, rfl, hbg, hh, Nat.le_refl _, Nat.le_trans hnc hcm, Nat.le_trans (Nat.mul_le_mul_right _ hnc) hcs, ht⟩
set_option maxHeartbeats 8000000 in
set_option maxRecDepth 100000 in
theorem clip_end (A : Option Addr) (n c : Nat) (h : n ≤ c) (w : World) : Calls Tryz.prog 105 #[.slice A n c] w fun e w' => ∃ v, e = .returned v ∧ v = .slice A n n ∧ w' = w := by
  go_enter Tryz.func105, Tryz.ntmps105
  go_wp2
  go_ret
  exact ⟨_, rfl, rfl, rfl⟩
set_option maxHeartbeats 8000000 in
set_option maxRecDepth 100000 in
theorem clone_end (A : Option Addr) (c : Nat) (l : List S34) (w : World) (hr : Kd.C k34 w A l.length l) (hc : l.length ≤ c) (hl : l.length < 1000000000000) :
    Calls Tryz.prog 106 #[.slice A l.length c] w fun e w' => ∃ v, e = .returned v ∧ Kd.R k34 34 w' w.heap.size (fun _ => True) v l ∧ Below w.heap.size w w' := by
  have HR := Aside0.mk hr
  have HL := Aside0.mk hl
  clear hl
  have HB := Aside0.mk (Below.refl w.heap.size w)
  cases A with
  | none =>
    have h0 : l.length = 0 := by
      rcases Nat.eq_zero_or_pos l.length with h | h
      · exact h
      · obtain ⟨x, hx, _⟩ := hr.2.2 h
        cases hx
    have hnil := Aside0.mk (List.eq_nil_of_length_eq_zero h0)
    clear hr h0
    have hq := fun w' : World => Lib.run_eql_slice_nil (P := Tryz.prog) w' 23 34 none l.length c 0 0 Tryz.underlying23
    go_enter Tryz.func106, Tryz.ntmps106
    go_wp2
    go_ret
    exact ⟨_, rfl, by rw [hnil.out]; exact Kd.R_nil _ _ _ _ _, HB.out⟩
  | some ad =>
    clear hr
    have hq := fun w' : World => Lib.run_eql_slice_nil (P := Tryz.prog) w' 23 34 (some ad) l.length c 0 0 Tryz.underlying23
    go_enter Tryz.func106, Tryz.ntmps106
    go_wp2_with (first
      | ((with_reducible refine gate_dst (N := 5) rfl ?_)
         refine Kd.R_lit k34 _ 34 ?hg (N := 5) ?hd (xs := ([] : List (S34))) (inner := []) (ok := fun _ => True) (okp := fun _ => True) ?hr ?hp (fun _ hk => hk) trivial (Below.refl _ _) (Nat.le_refl _) (by simp) ?_
         (case hd => rfl)
         (case hg => rfl)
         (case hr => first | (go_simp; done) | (go_simp; rfl))
         (case hp => exact (Reps.none _ _))
         intro v5 w5 ho5 hb hg_ hnew_
         clear hg_ hnew_
         have HO := Aside0.mk (Kd.R_lower ho5 (below_size (bl HB)))
         have n3_ := Aside0.mk (below_step (bl HB) hb)
         clear HB
         have HB := n3_
         clear n3_ hb ho5)
      | ((with_reducible refine gate_builtin (b := .append) (xs := #[.tmp 5, .tmp 6]) rfl ?_)
         at_builtin
         refine Kd.R_append_rows k34 (w0 := w) w.heap.size rfl (.tmp 5) (.tmp 6) 23 34 (.agg #[(.int .i64 0), (.int .i64 0)]) 16 rfl Tryz.underlying23 info34 rfl (by decide) (by omega) v5 [] l _ _ _ (fun _ => True) (fun _ => False) rfl rfl ?aO ?aR (fun _ _ h => h) (fun _ h => h.elim) ?aF ?aB ?aS ?aL ?_
         (case aR => repeat (first | exact (Kd.C_below HR.out HB.out) | (with_reducible refine Kd.C_alloc ?_ _) | (with_reducible refine Kd.C_drewN ?_ _) | (with_reducible refine Kd.C_drew ?_)))
         (case aB => exact (bl HB))
         (case aF => exact (fun _ _ => trivial))
         (case aO => exact (rs HO))
         (case aS => exact (below_size (bl HB)))
         (case aL => have := HL.out; simp only [List.length_nil]; omega)
         intro v7 w7 ho hb hg hat
         have n2_ := Aside0.mk hb
         clear HB HO
         have HB := n2_
         have HO := Aside0.mk ho
         clear n2_ ho hb hg hat))
    go_ret
    exact ⟨_, rfl, HO.out, HB.out⟩
def impl_EndPoint_106.f (l : List S34) : Option (List S34) := if l.length < 1000000000000 then some l else none
theorem impl_EndPoint_106.calls (A0 : Option Addr) (c0 : Nat) (l0 : List (S34)) (r : List (S34)) (w : World) (hr0 : Kd.C k34 w A0 l0.length l0) (hc0 : l0.length ≤ c0) (h : impl_EndPoint_106.f l0 = some r) :
    Calls Tryz.prog 106 #[.slice A0 l0.length c0] w fun e w' => ∃ v0_ : Value, e = .returned (v0_) ∧ Kd.R k34 34 w' w.heap.size (fun _ => True) v0_ r ∧ Below w.heap.size w w' := by
  unfold impl_EndPoint_106.f at h
  by_cases hl : l0.length < 1000000000000
  · rw [if_pos hl] at h
    obtain rfl := Option.some.inj h
    exact clone_end A0 c0 l0 w hr0 hc0 hl
  · rw [if_neg hl] at h
    cases h
def impl_EndPoint_105.f (l : List S34) : Option (List S34 × List S34) := some (l, [])
theorem bkW {w W w' : World} {g : Nat} {o : Obj} (b : Aside0 (w.heap[g]? = some o)) (hw : w' = W) (s : w.heap[g]? = some o → W.heap[g]? = some o := by intro h; (with_reducible repeat refine bu ?_); exact h) : Aside0 (w'.heap[g]? = some o) := ⟨by rw [hw]; exact s b.out⟩
theorem blW {w W W' w' : World} {n : Nat} (b : Aside0 (Below n w W)) (hw : w' = W') (s : Below n w W → Below n w W' := by intro h; repeat (first | (with_reducible first | exact h | apply below_alloc | apply pw_below_drewN | apply below_drew1 | refine below_set ?_ (Aside0.out (by with_reducible assumption))) | exact h)) : Aside0 (Below n w w') := ⟨by rw [hw]; exact s b.out⟩
theorem clipNil {α : Type} {d : Kd α} {e : Nat} {w : World} {base : Nat} {ok : Nat → Prop} {u : Value} {xs r1 r2 : List α} (h : Aside0 (Kd.R d e w base ok u xs)) (w' : World) (hf : some (xs, ([] : List α)) = some (r1, r2)) : Aside0 (Kd.R d e w' base ok (.slice none 0 0) r2) := by
  injection hf with hf
  injection hf with _ h2
  subst h2
  exact ⟨Kd.R_nil _ _ _ _ _⟩
theorem clipR {α : Type} {d : Kd α} {e n c : Nat} {w W w' : World} {base : Nat} {ok ok' : Nat → Prop} {A : Option Addr} {v : Value} {xs r1 r2 : List α} (h : Aside0 (Kd.R d e w base ok (.slice A n c) xs)) (hv : v = .slice A n n) (hw : w' = W) (hf : some (xs, ([] : List α)) = some (r1, r2)) (hok : ∀ k, ok k → ok' k)
    (s : Kd.R d e w base ok (.slice A n c) xs → Kd.R d e W base ok (.slice A n c) xs := by intro h; (with_reducible repeat apply ru); exact h) : Aside0 (Kd.R d e w' base ok' v r1) := by
  injection hf with hf
  injection hf with h1 _
  subst h1
  subst hv
  subst hw
  exact ⟨Kd.R_mono (R_clip (s h.out)) hok⟩
section
attribute [local go_sem] max2_int min2_int max_two min_two max_three min_three max_four min_four
def impl_MapTab_copied.f (l0_0 : List (S34)) : Option ((List (S34))) := (impl_EndPoint_106.f l0_0).bind fun t362 => ((impl_EndPoint_105.f t362).bind fun bt365 => (some bt365.1))
set_option maxHeartbeats 8000000 in
set_option maxRecDepth 100000 in
theorem impl_MapTab_copied.calls (A0_0 : Option Addr) (c0_0 : Nat) (l0_0 : List (S34)) (r : List (S34)) (w : World) (hr0_0 : Kd.C k34 w A0_0 l0_0.length l0_0) (hc0_0 : l0_0.length ≤ c0_0) (h : impl_MapTab_copied.f l0_0 = some r) :
  Calls Tryz.prog 77 #[.agg #[.slice A0_0 l0_0.length c0_0]] w fun e w' => ∃ v0_ : Value, e = .returned (.agg #[v0_]) ∧ Kd.R k34 34 w' w.heap.size (fun _ => True) v0_ r ∧ Below w.heap.size w w' := by
 have hu25 := Tryz.underlying25
 have HR0_0 := am hr0_0
 have HC0_0 := am hc0_0
 clear hr0_0 hc0_0
 have HB := am (Below.refl w.heap.size w)
 have H : ((impl_EndPoint_106.f l0_0).bind fun t362 => ((impl_EndPoint_105.f t362).bind fun bt365 => (some bt365.1))) = some r := h
 clear h
 obtain ⟨t362, A2, H⟩ := bse H
 try dsimp only at H
 obtain ⟨⟨t365, t368⟩, A3, H⟩ := bse H
 try dsimp only at H
 obtain rfl := Option.some.inj H
 go_enter Tryz.func77, Tryz.ntmps77
 go_wp2_with (first | ((with_reducible refine gate_dst (N := 1) rfl ?_); refine box_event rfl (N := 1) rfl (cs := #[.slice A0_0 l0_0.length c0_0]) (t := 25) hr_ ?_; intro gb360 hg w4 hbox hb; have BK360 := am hbox; have GW360 := gwE HB hg; have GE360 := gwE HB hg; replace HB := hbS HB hb; clear hb hbox hg) | ((with_reducible refine gate_dst (N := 2) rfl ?_); refine box_event rfl (N := 2) rfl (cs := #[.slice none 0 0]) (t := 25) hr_ ?_; intro gb361 hg w5 hbox hb; have BK361 := am hbox; have GW361 := gwE HB hg; have GE361 := gwE HB hg; replace HB := hbS HB hb; have NB360_361 := neL BK360 hg; have NB361_360 := neG BK360 hg; replace BK360 := bkB BK360 hb; clear hb hbox hg; have := NB360_361.out; have := NB361_360.out; have := bcell BK360 0; have := bfz BK360 0) | ((with_reducible refine gate_callee (f := 106) rfl ?_); refine gL (some 5) Tryz.func106 #[.slice A0_0 l0_0.length c0_0] ?_; (with_reducible refine (impl_EndPoint_106.calls _ _ l0_0 t362 _ ?side1 ?side2 A2.out).mono ?_); (case side1 => exact m4_); (case side2 => exact HC0_0.out); rintro e w8 ⟨v363, rfl, ho0, hb⟩; refine ⟨_, rfl, ?_⟩; have HO364 := am (Kd.R_lower ho0 (below_size (bl HB))); replace BK360 := bkB BK360 hb; replace BK361 := bkB BK361 hb; replace HB := hbS HB hb; (try clear hb); (try clear ho0); obtain ⟨Ao9, co9, eo9⟩ := Kd.R_slice HO364.out; subst eo9) | ((with_reducible refine gate_callee (f := 105) rfl ?_); refine gL (some 6) Tryz.func105 #[.slice Ao9 t362.length co9] ?_; (with_reducible refine (clip_end Ao9 t362.length co9 (Kd.R_reads' HO364.out).2.1 _).mono ?_); rintro e w10 ⟨v366, rfl, hv_, hw_⟩; refine ⟨_, rfl, ?_⟩; replace BK360 := bkW BK360 hw_; replace BK361 := bkW BK361 hw_; have HO367 := clipR (ok' := fun k_ => some k_ ≠ (.slice none 0 0 : Value).ownBlock) HO364 hv_ hw_ A3.out (fun k_ hk_ => by first | exact ⟨by simp [Value.ownBlock], hk_⟩ | (simp [Value.ownBlock]; done) | exact hk_); replace HO364 := clipNil HO364 w10 A3.out; replace HB := blW HB hw_; clear hv_ hw_; obtain ⟨Ao11, co11, eo11⟩ := Kd.R_slice HO367.out; subst eo11; have := bcell BK361 0; have := bfz BK361 0))
 refine bodyPost_ret (results_cell_row rfl _ _ gb361 25 #[.slice Ao11 t365.length co11] (0, 0) _ rfl (by (with_reducible repeat refine bu ?_); refine blk_put (cs := #[.slice none 0 0]) ?_ 0 _ rfl; (with_reducible repeat refine bu ?_); exact BK361.out) Tryz.underlying25 rfl (by kernel_rfl)) rfl ?_
 exact ⟨_, fi_, by (with_reducible repeat apply ru); exact Kd.R_mono (Kd.R_far (p := ⟨gb361, 0, none⟩) (Kd.R_types HO367.out BK361.out (by decide)) (fun _ hk => hk.2) (.slice Ao11 t365.length co11)) (fun _ hk => trivial), m2_⟩
end
def I64 (n : Int) : Prop := (Lit.int .i64 n).wf = true
theorem i64_iff (n : Int) : I64 n ↔ -9223372036854775808 ≤ n ∧ n ≤ 9223372036854775807 := by
  unfold I64
  simp [Lit.wf, IntKind.min, IntKind.max, IntKind.signed, IntKind.bits]
theorem mapLaid : laidOutB Tryz.prog = true := by kernel_rfl
theorem endKeyed : Maps.Keyed Tryz.prog 34 := Maps.Keyed.of_law (deep_law_laid mapLaid (m := 2) (by omega) (of_decide_eq_true (by kernel_rfl)) (by kernel_rfl) (by rw [Tryz.underlying34]))
theorem intKeyed : Maps.Keyed Tryz.prog 3 := Maps.int_keyed Tryz.underlying3
def eK (a b : Int) : Lit := .string (keyBytes [.int .i64 a, .int .i64 b])
theorem eK_key (a b : Int) : WideAt.IsKeyLit (eK a b) := trivial
theorem pK_key (n : Int) : WideAt.IsKeyLit (Lit.int .i64 n) := trivial
theorem endKey {a b : Int} (wa : I64 a) (wb : I64 b) : keyOf Tryz.prog 34 (.agg #[.int .i64 a, .int .i64 b]) = some (eK a b) := by
  have hk : Tryz.prog.keyType 34 = true := by kernel_rfl
  have hc : Tryz.prog.cellsOf 34 = 2 := by kernel_rfl
  have hc3 : Tryz.prog.cellsOf 3 = 1 := by kernel_rfl
  obtain ⟨m, hm⟩ : ∃ m, Tryz.prog.types.size = m + 2 := ⟨Tryz.prog.types.size - 2, by kernel_rfl⟩
  unfold I64 at wa wb
  unfold keyOf eK
  simp only [Tryz.underlying34]
  rw [if_pos (by simp [hk, Value.formed, Tryz.underlying34, hc]), hm]
  unfold Program.keyLits
  simp only [Tryz.underlying34, Value.cells]
  rw [if_pos (by rw [hc]; exact ⟨rfl, by simp⟩)]
  simp [hc3, Program.keyLits, Tryz.underlying3, wa, wb]
theorem intKey {n : Int} (w : I64 n) : keyOf Tryz.prog 3 (.int .i64 n) = some (.int .i64 n) := by
  unfold I64 at w
  simp [keyOf, mapKey, Tryz.underlying3, w]
theorem eK_inj {a b c d : Int} (wa : I64 a) (wb : I64 b) (wc : I64 c) (wd : I64 d) (h : eK a b = eK c d) : a = c ∧ b = d := by
  have := endKeyed.inj (endKey wa wb) (by rw [h]; exact endKey wc wd)
  simpa using this
def endD (a b : Int) : DataW Unit := .map [(.int .i64 0, .lit (.int .i64 a)), (.int .i64 0, .lit (.int .i64 b))]
def endR (v : Value) : Option (DataW Unit × List MemPlace) := match v with
  | .agg cs => (match cs.toList with
    | [.int .i64 a, .int .i64 b] => some (endD a b, [])
    | _ => none)
  | _ => none
theorem endR_mk (a b : Int) : endR (.agg #[.int .i64 a, .int .i64 b]) = some (endD a b, []) := rfl
theorem endR_inv {v : Value} {z : DataW Unit × List MemPlace} (h : endR v = some z) : ∃ a b, v = .agg #[.int .i64 a, .int .i64 b] ∧ z.1 = endD a b := by
  unfold endR at h
  split at h
  · rename_i cs
    split at h
    · rename_i a b he
      obtain ⟨l⟩ := cs
      simp at he
      subst he
      injection h with h
      subst h
      exact ⟨a, b, rfl, rfl⟩
    · cases h
  · cases h
theorem endD_inj {a b c d : Int} (h : endD a b = endD c d) : a = c ∧ b = d := by
  unfold endD at h
  simpa using h
def fnd (l : List S34) (a b : Int) : Option Nat := l.findIdx? (fun x => x.f0 == a && x.f1 == b)
theorem fnd_snoc (l : List S34) (x : S34) (a b : Int) : fnd (l ++ [x]) a b = (match fnd l a b with | some i => some i | none => if x.f0 = a ∧ x.f1 = b then some l.length else none) := by
  unfold fnd
  rw [List.findIdx?_append]
  cases l.findIdx? (fun x => x.f0 == a && x.f1 == b) with
  | some i => simp
  | none => by_cases h : x.f0 = a ∧ x.f1 = b <;> simp [List.findIdx?_cons, h]
def Says1 (l : List S34) (D : DataW Unit) : Prop := ∀ a b, I64 a → I64 b → ∀ z, D.atKey (eK a b) z = (match fnd l a b with | none => z | some i => .lit (.int .i64 (500 + i)))
def Says2 (l : List S34) (D : DataW Unit) : Prop := ∀ n, I64 n → ∀ z, D.atKey (.int .i64 n) z = (match (if 500 ≤ n then l[(n - 500).toNat]? else none) with | none => z | some x => endD x.f0 x.f1)
theorem says1_nil : Says1 [] (.map []) := fun a b _ _ z => rfl
theorem says2_nil : Says2 [] (.map []) := fun n _ z => by
  have : (if 500 ≤ n then ([] : List S34)[(n - 500).toNat]? else none) = none := by split <;> rfl
  rw [this]; rfl
theorem says1_has {l : List S34} {D : DataW Unit} (h : Says1 l D) {a b : Int} (wa : I64 a) (wb : I64 b) : Maps.has D (eK a b) = (fnd l a b).isSome := by
  cases hf : fnd l a b with
  | none => exact Maps.has_false_of_atKey (fun z => by rw [h a b wa wb z, hf])
  | some i => exact Maps.has_true_of_atKey (fun z => by rw [h a b wa wb z, hf])
theorem says1_old {l : List S34} {D : DataW Unit} (h : Says1 l D) (x : S34) (wx : I64 x.f0 ∧ I64 x.f1) (hx : Maps.has D (eK x.f0 x.f1) = true) : Says1 (l ++ [x]) D := by
  intro a b wa wb z
  rw [h a b wa wb z, fnd_snoc]
  cases hf : fnd l a b with
  | some i => rfl
  | none =>
    have hne : ¬ (x.f0 = a ∧ x.f1 = b) := by
      rintro ⟨rfl, rfl⟩
      rw [says1_has h wx.1 wx.2, hf] at hx
      cases hx
    simp [hne]
theorem says1_new {l : List S34} {D : DataW Unit} (h : Says1 l D) (hD : Maps.IsMap D) (x : S34) (wx : I64 x.f0 ∧ I64 x.f1) (hx : Maps.has D (eK x.f0 x.f1) = false) : Says1 (l ++ [x]) (D.put (eK x.f0 x.f1) (.lit (.int .i64 (500 + l.length)))) := by
  intro a b wa wb z
  rw [fnd_snoc]
  by_cases he : x.f0 = a ∧ x.f1 = b
  · obtain ⟨rfl, rfl⟩ := he
    rw [says1_has h wx.1 wx.2] at hx
    cases hf : fnd l x.f0 x.f1 with
    | some i => rw [hf] at hx; cases hx
    | none =>
      rw [Maps.atKey_put_same hD (eK_key _ _)]
      simp
  · have hne : eK a b ≠ eK x.f0 x.f1 := fun e => he (by obtain ⟨h1, h2⟩ := eK_inj wa wb wx.1 wx.2 e; exact ⟨h1.symm, h2.symm⟩)
    rw [Maps.atKey_put_other hne, h a b wa wb z]
    cases fnd l a b <;> simp [he]
theorem says2_has {l : List S34} {D : DataW Unit} (h : Says2 l D) (hl : l.length < 1000000000) : Maps.has D (.int .i64 (500 + l.length)) = false :=
  Maps.has_false_of_atKey (fun z => by
    rw [h _ ((i64_iff _).mpr (by omega)) z]
    have : (if 500 ≤ (500 + (l.length : Int)) then l[((500 + (l.length : Int)) - 500).toNat]? else none) = none := by
      rw [if_pos (by omega)]
      exact List.getElem?_eq_none (by omega)
    rw [this])
theorem says2_put {l : List S34} {D : DataW Unit} (h : Says2 l D) (hD : Maps.IsMap D) (x : S34) (hl : l.length < 1000000000) : Says2 (l ++ [x]) (D.put (.int .i64 (500 + l.length)) (endD x.f0 x.f1)) := by
  intro n wn z
  by_cases he : n = 500 + l.length
  · subst he
    rw [Maps.atKey_put_same hD (pK_key _)]
    have : (if 500 ≤ (500 + (l.length : Int)) then (l ++ [x])[((500 + (l.length : Int)) - 500).toNat]? else none) = some x := by
      rw [if_pos (by omega), show ((500 + (l.length : Int)) - 500).toNat = l.length by omega]
      simp
    rw [this]
  · have hne : (Lit.int .i64 n) ≠ Lit.int .i64 (500 + l.length) := fun e => he (by injection e)
    rw [Maps.atKey_put_other hne, h n wn z]
    have : (if 500 ≤ n then (l ++ [x])[(n - 500).toNat]? else none) = (if 500 ≤ n then l[(n - 500).toNat]? else none) := by
      by_cases h5 : 500 ≤ n
      · rw [if_pos h5, if_pos h5]
        rw [List.getElem?_append]
        split
        · rfl
        · rename_i hge
          rw [List.getElem?_eq_none (by simp; omega), List.getElem?_eq_none (by omega)]
      · rw [if_neg h5, if_neg h5]
    rw [this]
theorem says2_again {l : List S34} {D : DataW Unit} {x : S34} (h : Says2 (l ++ [x]) D) (hD : Maps.IsMap D) (hl : l.length < 1000000000) : Says2 (l ++ [x]) (D.put (.int .i64 (500 + l.length)) (endD x.f0 x.f1)) := by
  intro n wn z
  by_cases he : n = 500 + l.length
  · subst he
    rw [Maps.atKey_put_same hD (pK_key _)]
    have : (if 500 ≤ (500 + (l.length : Int)) then (l ++ [x])[((500 + (l.length : Int)) - 500).toNat]? else none) = some x := by
      rw [if_pos (by omega), show ((500 + (l.length : Int)) - 500).toNat = l.length by omega]
      simp
    rw [this]
  · have hne : (Lit.int .i64 n) ≠ Lit.int .i64 (500 + l.length) := fun e => he (by injection e)
    rw [Maps.atKey_put_other hne, h n wn z]
theorem zero3 (w : World) : (zeroValue 3).run Tryz.prog w = .ok (.int .i64 0) w := by kernel_rfl
theorem zeroEnd (w : World) : (zeroValue 34).run Tryz.prog w = .ok (.agg #[.int .i64 0, .int .i64 0]) w := by kernel_rfl
structure Fr (w w' : World) (b1 b2 : Nat) : Prop where
  os : w'.os = w.os
  tape : w'.tape = w.tape
  output : w'.output = w.output
  size : w.heap.size ≤ w'.heap.size
  block : ∀ i, i < w.heap.size → i ≠ b1 → i ≠ b2 → w'.heap[i]? = w.heap[i]?
theorem Fr.refl (w : World) (b1 b2 : Nat) : Fr w w b1 b2 := ⟨rfl, rfl, rfl, Nat.le_refl _, fun _ _ _ _ => rfl⟩
theorem Fr.trans {w w' w'' : World} {b1 b2 : Nat} (h : Fr w w' b1 b2) (k : Fr w' w'' b1 b2) : Fr w w'' b1 b2 :=
  ⟨k.os.trans h.os, k.tape.trans h.tape, k.output.trans h.output, Nat.le_trans h.size k.size, fun i hi h1 h2 => (k.block i (Nat.lt_of_lt_of_le hi h.size) h1 h2).trans (h.block i hi h1 h2)⟩
theorem Fr.below {w w' w'' : World} {b1 b2 : Nat} (h : Fr w w' b1 b2) (k : Below w'.heap.size w' w'') : Fr w w'' b1 b2 :=
  h.trans ⟨k.os, k.tape, k.output, k.size, fun i hi _ _ => k.block i hi⟩
theorem Fr.one {w w' w'' : World} {b1 b2 : Nat} (h : Fr w w' b1 b2) (k : w'.grownBy w'' (some b1)) : Fr w w'' b1 b2 :=
  h.trans ⟨k.os, k.tape, k.output, k.size, fun i hi h1 _ => k.block i hi (by simpa using h1)⟩
theorem Fr.two {w w' w'' : World} {b1 b2 : Nat} (h : Fr w w' b1 b2) (k : w'.grownBy w'' (some b2)) : Fr w w'' b1 b2 :=
  h.trans ⟨k.os, k.tape, k.output, k.size, fun i hi _ h2 => k.block i hi (by simpa using h2)⟩
theorem Fr.set {w w' : World} {b1 b2 g j : Nat} {v : Value} (h : Fr w w' b1 b2) (hg : w.heap.size ≤ g) : Fr w (w'.setCell ⟨g, j, none⟩ v) b1 b2 :=
  ⟨h.os, h.tape, h.output, by simpa [World.setCell] using h.size, fun i hi h1 h2 => (heap_setCell_other w' ⟨g, j, none⟩ i v (fun e => by simp at e; omega)).trans (h.block i hi h1 h2)⟩
theorem om_below {k : TypeId} {R : Value → Option (DataW Unit × List MemPlace)} {w w' : World} {b n : Nat} {D : DataW Unit} (h : w.ownsMap Tryz.prog k R b n D) (hb : Below w.heap.size w w') : w'.ownsMap Tryz.prog k R b n D := by
  have hlt := h.lt
  obtain ⟨es, c, h1, h2⟩ := h
  exact ⟨es, c, (hb.block b hlt).trans h1, h2⟩
theorem om_ne {k : TypeId} {R : Value → Option (DataW Unit × List MemPlace)} {w : World} {b n g : Nat} {D : DataW Unit} {cs : Array Value} {t : TypeId} (h : w.ownsMap Tryz.prog k R b n D) (hg : w.heap[g]? = some (.cells cs t (0, 0))) : g ≠ b := by
  rintro rfl
  obtain ⟨es, c, h1, h2⟩ := h
  rw [hg] at h1
  cases h1
set_option maxHeartbeats 8000000 in
set_option maxRecDepth 100000 in
theorem set_old (b1 b2 n1 n2 : Nat) (D1 D2 : DataW Unit) (a b n : Int) (wa : I64 a) (wb : I64 b) (wn : I64 n) (w : World) (hne : b1 ≠ b2)
    (h1 : w.ownsMap Tryz.prog 34 (plainElem Tryz.prog 3) b1 n1 D1) (h2 : w.ownsMap Tryz.prog 3 endR b2 n2 D2) (hn1 : n1 < 1000000000) (hn2 : n2 < 1000000000)
    (f1 : Maps.has D1 (eK a b) = true) (f2 : Maps.has D2 (.int .i64 n) = false) :
    Calls Tryz.prog 87 #[.agg #[.map (some b1), .map (some b2)], .agg #[.int .i64 a, .int .i64 b], .int .i64 n] w fun e w' =>
      e = .returned (.tuple #[]) ∧ w'.ownsMap Tryz.prog 34 (plainElem Tryz.prog 3) b1 n1 D1 ∧ w'.ownsMap Tryz.prog 3 endR b2 (n2 + 1) (D2.put (.int .i64 n) (endD a b)) ∧ Fr w w' b1 b2 := by
  have H1 := Aside0.mk h1
  have H2 := Aside0.mk h2
  have F1 := Aside0.mk f1
  have F2 := Aside0.mk f2
  have HNE := Aside0.mk hne
  have HF := Aside0.mk (Fr.refl w b1 b2)
  have HN1 := Aside0.mk (show n1 < maxLen by simp only [maxLen]; omega)
  have HN2 := Aside0.mk (show n2 < maxLen by simp only [maxLen]; omega)
  clear h1 h2 f1 f2 hne hn1 hn2
  go_enter Tryz.func87, Tryz.ntmps87
  go_wp2_with (first
    | ((with_reducible refine gate_dst (N := 3) rfl ?_)
       refine box_event ?hg (N := 3) ?hd (cs := #[.map (some b1), .map (some b2)]) (t := 70) ?hr ?_
       (case hd => rfl)
       (case hg => rfl)
       (case hr => first | (go_simp; done) | (go_simp; rfl))
       intro g3 hg w3 hbox hb
       have n1_ := Aside0.mk (om_below (w' := w3) H1.out hb)
       have n2_ := Aside0.mk (om_below (w' := w3) H2.out hb)
       have n3_ := Aside0.mk (Fr.below HF.out (w'' := w3) hb)
       have BK3 := Aside0.mk hbox
       clear H1 H2 HF
       have H1 := n1_
       have H2 := n2_
       have HF := n3_
       clear n1_ n2_ n3_ hb hbox hg)
    | ((with_reducible refine gate_dst (N := 4) rfl ?_)
       refine box_event ?hg (N := 4) ?hd (cs := #[.int .i64 a, .int .i64 b]) (t := 34) ?hr ?_
       (case hd => rfl)
       (case hg => rfl)
       (case hr => first | (go_simp; done) | (go_simp; rfl))
       intro g4 hg w4 hbox hb
       have n1_ := Aside0.mk (om_below (w' := w4) H1.out hb)
       have n2_ := Aside0.mk (om_below (w' := w4) H2.out hb)
       have n3_ := Aside0.mk (Fr.below HF.out (w'' := w4) hb)
       have n4_ := bkB BK3 hb
       have BK4 := Aside0.mk hbox
       have NB := Aside0.mk (show g3 ≠ g4 from by rw [hg]; exact Nat.ne_of_lt (bkL BK3))
       clear H1 H2 HF BK3
       have H1 := n1_
       have H2 := n2_
       have HF := n3_
       have BK3 := n4_
       clear n1_ n2_ n3_ n4_ hb hbox hg
       have c30 : w4.cell? ⟨g3, 0, none⟩ = some (.map (some b1)) := (blk_cell BK3.out 0).trans rfl
       have c31 : w4.cell? ⟨g3, 1, none⟩ = some (.map (some b2)) := (blk_cell BK3.out 1).trans rfl
       have c40 : w4.cell? ⟨g4, 0, none⟩ = some (.int .i64 a) := (blk_cell BK4.out 0).trans rfl
       have c41 : w4.cell? ⟨g4, 1, none⟩ = some (.int .i64 b) := (blk_cell BK4.out 1).trans rfl)
    | ((with_reducible refine gate_dst (N := 14) rfl ?_)
       at_lookup
       refine wpList_lookup_own_ok_int _ rfl _ _ 67 rfl 34 3 .i64 endKeyed Tryz.underlying67 Tryz.underlying3 (zero3 _) b1 n1 D1 rfl H1.out _ _ rfl (endKey wa wb) ?_
       intro c14 hat hwc
       rw [F1.out]
       clear hat hwc)
    | ((with_reducible refine gate_dst (N := 27) rfl ?_)
       at_lookup
       refine wpList_lookup_own_ok _ rfl _ _ 68 rfl 3 34 intKeyed Tryz.underlying68 _ (zeroEnd _) (endD 0 0) [] (endR_mk 0 0) b2 n2 D2 rfl H2.out _ _ rfl (intKey wn) ?_
       intro v27 ps27 hv27
       rw [F2.out]
       obtain ⟨xa, xb, rfl, _⟩ := endR_inv hv27
       clear hv27)
    | ((with_reducible refine gate_dst (N := 8) rfl ?_)
       refine box_event ?hg (N := 8) ?hd (cs := #[.int .i64 0, .int .i64 0]) (t := 34) ?hr ?_
       (case hd => rfl)
       (case hg => rfl)
       (case hr => first | (go_simp; done) | (go_simp; rfl))
       intro g8 hg w8 hbox hb
       have n1_ := Aside0.mk (om_below (w' := w8) H1.out hb)
       have n2_ := Aside0.mk (om_below (w' := w8) H2.out hb)
       have n3_ := Aside0.mk (Fr.below HF.out (w'' := w8) hb)
       have n4_ := bkB BK3 hb
       have n5_ := bkB BK4 hb
       have BK8 := Aside0.mk hbox
       have GE8 := Aside0.mk (show w.heap.size ≤ g8 from by rw [hg]; exact HF.out.size)
       have e38 : g3 ≠ g8 := by rw [hg]; exact Nat.ne_of_lt (bkL BK3)
       have e48 : g4 ≠ g8 := by rw [hg]; exact Nat.ne_of_lt (bkL BK4)
       have e83 := e38.symm
       have e84 := e48.symm
       clear H1 H2 HF BK3 BK4 c30 c31 c40 c41
       have H1 := n1_
       have H2 := n2_
       have HF := n3_
       have BK3 := n4_
       have BK4 := n5_
       clear n1_ n2_ n3_ n4_ n5_ hb hbox hg
       have c30 : w8.cell? ⟨g3, 0, none⟩ = some (.map (some b1)) := (blk_cell BK3.out 0).trans rfl
       have c31 : w8.cell? ⟨g3, 1, none⟩ = some (.map (some b2)) := (blk_cell BK3.out 1).trans rfl
       have c40 : w8.cell? ⟨g4, 0, none⟩ = some (.int .i64 a) := (blk_cell BK4.out 0).trans rfl
       have c41 : w8.cell? ⟨g4, 1, none⟩ = some (.int .i64 b) := (blk_cell BK4.out 1).trans rfl
       have c80 : w8.cell? ⟨g8, 0, none⟩ = some (.int .i64 0) := (blk_cell BK8.out 0).trans rfl
       have c81 : w8.cell? ⟨g8, 1, none⟩ = some (.int .i64 0) := (blk_cell BK8.out 1).trans rfl
       have z80 := blk_frozen BK8.out 0
       have z81 := blk_frozen BK8.out 1)
    | (at_mapUpdate
       refine wpList_mapUpdate_own _ rfl _ _ _ 68 rfl 3 34 intKeyed Tryz.underlying68 _ b2 n2 D2 rfl ((H2.out.setCell (om_ne H2.out BK8.out).symm _).setCell (om_ne H2.out BK8.out).symm _) HN2.out _ _ _ rfl rfl (intKey wn) _ _ (endR_mk a b) ?_
       intro w33 hm hg
       have n1_ := Aside0.mk (((H1.out.setCell (om_ne H1.out BK8.out).symm _).setCell (om_ne H1.out BK8.out).symm _).kept hg (by simpa using HNE.out))
       have n2_ := Aside0.mk hm
       have n3_ := Aside0.mk (((HF.out.set GE8.out).set GE8.out).two hg)
       clear H1 H2 HF BK3 BK4 BK8 c30 c31 c40 c41 c80 c81 z80 z81 hm hg
       have H1 := n1_
       have H2 := n2_
       have HF := n3_
       clear n1_ n2_ n3_))
  first | go_end0 | ((try simp only [Exit.inBlock, Exit.then]); refine bodyPost_ret (results_none rfl _ _ _) rfl ?_)
  exact ⟨rfl, H1.out, H2.out, HF.out⟩
set_option maxHeartbeats 8000000 in
set_option maxRecDepth 100000 in
theorem set_new (b1 b2 n1 n2 : Nat) (D1 D2 : DataW Unit) (a b n : Int) (wa : I64 a) (wb : I64 b) (wn : I64 n) (w : World) (hne : b1 ≠ b2)
    (h1 : w.ownsMap Tryz.prog 34 (plainElem Tryz.prog 3) b1 n1 D1) (h2 : w.ownsMap Tryz.prog 3 endR b2 n2 D2) (hn1 : n1 < 1000000000) (hn2 : n2 < 1000000000)
    (f1 : Maps.has D1 (eK a b) = false) (f2 : Maps.has D2 (.int .i64 n) = false) :
    Calls Tryz.prog 87 #[.agg #[.map (some b1), .map (some b2)], .agg #[.int .i64 a, .int .i64 b], .int .i64 n] w fun e w' =>
      e = .returned (.tuple #[]) ∧ w'.ownsMap Tryz.prog 34 (plainElem Tryz.prog 3) b1 (n1 + 1) (D1.put (eK a b) (.lit (.int .i64 n))) ∧ w'.ownsMap Tryz.prog 3 endR b2 (n2 + 1) (D2.put (.int .i64 n) (endD a b)) ∧ Fr w w' b1 b2 := by
  have H1 := Aside0.mk h1
  have H2 := Aside0.mk h2
  have F1 := Aside0.mk f1
  have F2 := Aside0.mk f2
  have HNE := Aside0.mk hne
  have HF := Aside0.mk (Fr.refl w b1 b2)
  have HN1 := Aside0.mk (show n1 < maxLen by simp only [maxLen]; omega)
  have HN2 := Aside0.mk (show n2 < maxLen by simp only [maxLen]; omega)
  clear h1 h2 f1 f2 hne hn1 hn2
  go_enter Tryz.func87, Tryz.ntmps87
  go_wp2_with (first
    | ((with_reducible refine gate_dst (N := 3) rfl ?_)
       refine box_event ?hg (N := 3) ?hd (cs := #[.map (some b1), .map (some b2)]) (t := 70) ?hr ?_
       (case hd => rfl)
       (case hg => rfl)
       (case hr => first | (go_simp; done) | (go_simp; rfl))
       intro g3 hg w3 hbox hb
       have n1_ := Aside0.mk (om_below (w' := w3) H1.out hb)
       have n2_ := Aside0.mk (om_below (w' := w3) H2.out hb)
       have n3_ := Aside0.mk (Fr.below HF.out (w'' := w3) hb)
       have BK3 := Aside0.mk hbox
       clear H1 H2 HF
       have H1 := n1_
       have H2 := n2_
       have HF := n3_
       clear n1_ n2_ n3_ hb hbox hg)
    | ((with_reducible refine gate_dst (N := 4) rfl ?_)
       refine box_event ?hg (N := 4) ?hd (cs := #[.int .i64 a, .int .i64 b]) (t := 34) ?hr ?_
       (case hd => rfl)
       (case hg => rfl)
       (case hr => first | (go_simp; done) | (go_simp; rfl))
       intro g4 hg w4 hbox hb
       have n1_ := Aside0.mk (om_below (w' := w4) H1.out hb)
       have n2_ := Aside0.mk (om_below (w' := w4) H2.out hb)
       have n3_ := Aside0.mk (Fr.below HF.out (w'' := w4) hb)
       have n4_ := bkB BK3 hb
       have BK4 := Aside0.mk hbox
       have NB := Aside0.mk (show g3 ≠ g4 from by rw [hg]; exact Nat.ne_of_lt (bkL BK3))
       clear H1 H2 HF BK3
       have H1 := n1_
       have H2 := n2_
       have HF := n3_
       have BK3 := n4_
       clear n1_ n2_ n3_ n4_ hb hbox hg
       have c30 : w4.cell? ⟨g3, 0, none⟩ = some (.map (some b1)) := (blk_cell BK3.out 0).trans rfl
       have c31 : w4.cell? ⟨g3, 1, none⟩ = some (.map (some b2)) := (blk_cell BK3.out 1).trans rfl
       have c40 : w4.cell? ⟨g4, 0, none⟩ = some (.int .i64 a) := (blk_cell BK4.out 0).trans rfl
       have c41 : w4.cell? ⟨g4, 1, none⟩ = some (.int .i64 b) := (blk_cell BK4.out 1).trans rfl)
    | ((with_reducible refine gate_dst (N := 14) rfl ?_)
       at_lookup
       refine wpList_lookup_own_ok_int _ rfl _ _ 67 rfl 34 3 .i64 endKeyed Tryz.underlying67 Tryz.underlying3 (zero3 _) b1 n1 D1 rfl H1.out _ _ rfl (endKey wa wb) ?_
       intro c14 hat hwc
       rw [F1.out]
       clear hat hwc)
    | (at_mapUpdate
       refine wpList_mapUpdate_own _ rfl _ _ _ 67 rfl 34 3 endKeyed Tryz.underlying67 _ b1 n1 D1 rfl H1.out HN1.out _ _ _ rfl rfl (endKey wa wb) _ _ (plainElem_int Tryz.underlying3 wn) ?_
       intro w20 hm hg
       have n1_ := Aside0.mk hm
       have n2_ := Aside0.mk (H2.out.kept hg (by simpa using HNE.out.symm))
       have n3_ := Aside0.mk (HF.out.one hg)
       have n4_ : Aside0 (w20.heap[g3]? = some (.cells #[.map (some b1), .map (some b2)] 70 (0, 0))) := ⟨(hg.block g3 (blk_lt BK3.out) (by simpa using om_ne H1.out BK3.out)).trans BK3.out⟩
       have n5_ : Aside0 (w20.heap[g4]? = some (.cells #[.int .i64 a, .int .i64 b] 34 (0, 0))) := ⟨(hg.block g4 (blk_lt BK4.out) (by simpa using om_ne H1.out BK4.out)).trans BK4.out⟩
       clear H1 H2 HF BK3 BK4 c30 c31 c40 c41
       have H1 := n1_
       have H2 := n2_
       have HF := n3_
       have BK3 := n4_
       have BK4 := n5_
       clear n1_ n2_ n3_ n4_ n5_ hm hg
       have c30 : w20.cell? ⟨g3, 0, none⟩ = some (.map (some b1)) := (blk_cell BK3.out 0).trans rfl
       have c31 : w20.cell? ⟨g3, 1, none⟩ = some (.map (some b2)) := (blk_cell BK3.out 1).trans rfl
       have c40 : w20.cell? ⟨g4, 0, none⟩ = some (.int .i64 a) := (blk_cell BK4.out 0).trans rfl
       have c41 : w20.cell? ⟨g4, 1, none⟩ = some (.int .i64 b) := (blk_cell BK4.out 1).trans rfl)
    | ((with_reducible refine gate_dst (N := 27) rfl ?_)
       at_lookup
       refine wpList_lookup_own_ok _ rfl _ _ 68 rfl 3 34 intKeyed Tryz.underlying68 _ (zeroEnd _) (endD 0 0) [] (endR_mk 0 0) b2 n2 D2 rfl H2.out _ _ rfl (intKey wn) ?_
       intro v27 ps27 hv27
       rw [F2.out]
       obtain ⟨xa, xb, rfl, _⟩ := endR_inv hv27
       clear hv27)
    | ((with_reducible refine gate_dst (N := 8) rfl ?_)
       refine box_event ?hg (N := 8) ?hd (cs := #[.int .i64 0, .int .i64 0]) (t := 34) ?hr ?_
       (case hd => rfl)
       (case hg => rfl)
       (case hr => first | (go_simp; done) | (go_simp; rfl))
       intro g8 hg w8 hbox hb
       have n1_ := Aside0.mk (om_below (w' := w8) H1.out hb)
       have n2_ := Aside0.mk (om_below (w' := w8) H2.out hb)
       have n3_ := Aside0.mk (Fr.below HF.out (w'' := w8) hb)
       have n4_ := bkB BK3 hb
       have n5_ := bkB BK4 hb
       have BK8 := Aside0.mk hbox
       have GE8 := Aside0.mk (show w.heap.size ≤ g8 from by rw [hg]; exact HF.out.size)
       have e38 : g3 ≠ g8 := by rw [hg]; exact Nat.ne_of_lt (bkL BK3)
       have e48 : g4 ≠ g8 := by rw [hg]; exact Nat.ne_of_lt (bkL BK4)
       have e83 := e38.symm
       have e84 := e48.symm
       clear H1 H2 HF BK3 BK4 c30 c31 c40 c41
       have H1 := n1_
       have H2 := n2_
       have HF := n3_
       have BK3 := n4_
       have BK4 := n5_
       clear n1_ n2_ n3_ n4_ n5_ hb hbox hg
       have c30 : w8.cell? ⟨g3, 0, none⟩ = some (.map (some b1)) := (blk_cell BK3.out 0).trans rfl
       have c31 : w8.cell? ⟨g3, 1, none⟩ = some (.map (some b2)) := (blk_cell BK3.out 1).trans rfl
       have c40 : w8.cell? ⟨g4, 0, none⟩ = some (.int .i64 a) := (blk_cell BK4.out 0).trans rfl
       have c41 : w8.cell? ⟨g4, 1, none⟩ = some (.int .i64 b) := (blk_cell BK4.out 1).trans rfl
       have c80 : w8.cell? ⟨g8, 0, none⟩ = some (.int .i64 0) := (blk_cell BK8.out 0).trans rfl
       have c81 : w8.cell? ⟨g8, 1, none⟩ = some (.int .i64 0) := (blk_cell BK8.out 1).trans rfl
       have z80 := blk_frozen BK8.out 0
       have z81 := blk_frozen BK8.out 1)
    | (at_mapUpdate
       refine wpList_mapUpdate_own _ rfl _ _ _ 68 rfl 3 34 intKeyed Tryz.underlying68 _ b2 n2 D2 rfl ((H2.out.setCell (om_ne H2.out BK8.out).symm _).setCell (om_ne H2.out BK8.out).symm _) HN2.out _ _ _ rfl rfl (intKey wn) _ _ (endR_mk a b) ?_
       intro w33 hm hg
       have n1_ := Aside0.mk (((H1.out.setCell (om_ne H1.out BK8.out).symm _).setCell (om_ne H1.out BK8.out).symm _).kept hg (by simpa using HNE.out))
       have n2_ := Aside0.mk hm
       have n3_ := Aside0.mk (((HF.out.set GE8.out).set GE8.out).two hg)
       clear H1 H2 HF BK3 BK4 BK8 c30 c31 c40 c41 c80 c81 z80 z81 hm hg
       have H1 := n1_
       have H2 := n2_
       have HF := n3_
       clear n1_ n2_ n3_))
  first | go_end0 | ((try simp only [Exit.inBlock, Exit.then]); refine bodyPost_ret (results_none rfl _ _ _) rfl ?_)
  exact ⟨rfl, H1.out, H2.out, HF.out⟩
def Tab (w : World) (l : List S34) (b1 b2 : Nat) : Prop := ∃ n1 n2 D1 D2, w.ownsMap Tryz.prog 34 (plainElem Tryz.prog 3) b1 n1 D1 ∧ w.ownsMap Tryz.prog 3 endR b2 n2 D2 ∧ n1 ≤ l.length ∧ n2 ≤ 2 * l.length ∧ Says1 l D1 ∧ Says2 l D2
def Wf (x : S34) : Prop := I64 x.f0 ∧ I64 x.f1
theorem Tab.kept {w w' : World} {l : List S34} {b1 b2 : Nat} (h : Tab w l b1 b2) (hk : ∀ i, i < w.heap.size → i = b1 ∨ i = b2 → w'.heap[i]? = w.heap[i]?) : Tab w' l b1 b2 := by
  obtain ⟨n1, n2, D1, D2, h1, h2, r⟩ := h
  have l1 := h1.lt
  have l2 := h2.lt
  obtain ⟨es, c, q1, q2⟩ := h1
  obtain ⟨es', c', q1', q2'⟩ := h2
  exact ⟨n1, n2, D1, D2, ⟨es, c, (hk b1 l1 (.inl rfl)).trans q1, q2⟩, ⟨es', c', (hk b2 l2 (.inr rfl)).trans q1', q2'⟩, r⟩
theorem Tab.below {w w' : World} {l : List S34} {b1 b2 : Nat} (h : Tab w l b1 b2) (hb : Below w.heap.size w w') : Tab w' l b1 b2 := h.kept fun i hi _ => hb.block i hi
theorem Tab.ne {w : World} {l : List S34} {b1 b2 g : Nat} {cs : Array Value} {t : TypeId} (h : Tab w l b1 b2) (hg : w.heap[g]? = some (.cells cs t (0, 0))) : g ≠ b1 ∧ g ≠ b2 := by
  obtain ⟨n1, n2, D1, D2, h1, h2, r⟩ := h
  exact ⟨om_ne h1 hg, om_ne h2 hg⟩
theorem Tab.set {w : World} {l : List S34} {b1 b2 g j : Nat} {v : Value} {cs : Array Value} {t : TypeId} (h : Tab w l b1 b2) (hg : w.heap[g]? = some (.cells cs t (0, 0))) : Tab (w.setCell ⟨g, j, none⟩ v) l b1 b2 :=
  h.kept fun i _ hi => heap_setCell_other w ⟨g, j, none⟩ i v (fun e => by
    have := h.ne hg
    simp at e
    rcases hi with rfl | rfl
    · exact this.1 e.symm
    · exact this.2 e.symm)
theorem set_tab (b1 b2 : Nat) (l : List S34) (x : S34) (p : Int) (w : World) (hne : b1 ≠ b2) (hx : Wf x) (hl : l.length < 100000000) (hp : p = 500 + l.length) (h : Tab w l b1 b2) :
    Calls Tryz.prog 87 #[.agg #[.map (some b1), .map (some b2)], .agg #[.int .i64 x.f0, .int .i64 x.f1], .int .i64 p] w fun e w' =>
      e = .returned (.tuple #[]) ∧ (∃ n1 n2 D1 D2, w'.ownsMap Tryz.prog 34 (plainElem Tryz.prog 3) b1 n1 D1 ∧ w'.ownsMap Tryz.prog 3 endR b2 n2 D2 ∧ n1 ≤ l.length + 1 ∧ n2 ≤ 2 * l.length + 1 ∧ Says1 (l ++ [x]) D1 ∧ Says2 (l ++ [x]) D2) ∧ Fr w w' b1 b2 := by
  subst hp
  obtain ⟨n1, n2, D1, D2, h1, h2, hn1, hn2, s1, s2⟩ := h
  have wn : I64 (500 + l.length) := (i64_iff _).mpr (by omega)
  have f2 := says2_has s2 (by omega)
  have s2' := says2_put s2 h2.isMap x (by omega)
  cases hf : Maps.has D1 (eK x.f0 x.f1) with
  | true =>
    refine (set_old b1 b2 n1 n2 D1 D2 x.f0 x.f1 _ hx.1 hx.2 wn w hne h1 h2 (by omega) (by omega) hf f2).mono ?_
    rintro e w' ⟨rfl, k1, k2, k3⟩
    exact ⟨rfl, ⟨_, _, _, _, k1, k2, by omega, by omega, says1_old s1 x hx hf, s2'⟩, k3⟩
  | false =>
    refine (set_new b1 b2 n1 n2 D1 D2 x.f0 x.f1 _ hx.1 hx.2 wn w hne h1 h2 (by omega) (by omega) hf f2).mono ?_
    rintro e w' ⟨rfl, k1, k2, k3⟩
    exact ⟨rfl, ⟨_, _, _, _, k1, k2, by omega, by omega, says1_new s1 h1.isMap x hx hf, s2'⟩, k3⟩
theorem mk_event {P : Program} {w : World} {ops : Array Oper} {rest : List Oper} {o : Oper} {a : Act} {Q : Exit → Act → World → Prop} (hgd : o.guard = none) {N : Tmp} (_hd : o.dst = some N) (t : TypeId) (hop : o.op = Op.makeMap t none)
    (h : ∀ g w1, g = w.heap.size → w1.heap[g]? = some (.map #[] 0) → Below w.heap.size w w1 → wpList P ops Q rest (a.put o.dst (.map (some g))) w1) : wpList P ops Q (o :: rest) a w := by
  refine Kd.event_run hgd (v := .map (some w.heap.size)) (w1 := w.alloc (.map #[] 0)) ?_ (h _ _ rfl (heap_alloc_new w _) (below_alloc (Below.refl _ _) _))
  simp [execOp, hop, run_makeMap, Result.andThen]
theorem tab_made {w : World} {b1 b2 : Nat} (h1 : w.heap[b1]? = some (.map #[] 0)) (h2 : w.heap[b2]? = some (.map #[] 0)) : Tab w [] b1 b2 := by
  have q1 : ∀ (k : TypeId) (R : Value → Option (DataW Unit × List MemPlace)) (b : Nat), w.heap[b]? = some (.map #[] 0) → w.ownsMap Tryz.prog k R b 0 (.map []) := by
    intro k R b hb
    obtain ⟨es, c, z1, z2, z3, z4⟩ := World.ownsMap_made (default : World) Tryz.prog k R
    rw [heap_alloc_new] at z1
    injection z1 with z1
    injection z1 with z1 z1'
    subst z1; subst z1'
    exact ⟨_, _, hb, z2, z3, z4⟩
  exact ⟨0, 0, _, _, q1 _ _ _ h1, q1 _ _ _ h2, Nat.le_refl _, Nat.le_refl _, says1_nil, says2_nil⟩
theorem fr_blk {W w' : World} {b1 b2 g : Nat} {o : Obj} (hF : Fr W w' b1 b2) (h : W.heap[g]? = some o) (n : g ≠ b1 ∧ g ≠ b2) : w'.heap[g]? = some o := (hF.block g (blk_lt h) n.1 n.2).trans h
theorem below_fr {w W w' : World} {b1 b2 : Nat} (h : Below w.heap.size w W) (hF : Fr W w' b1 b2) (h1 : w.heap.size ≤ b1) (h2 : w.heap.size ≤ b2) : Below w.heap.size w w' :=
  ⟨hF.os.trans h.os, hF.tape.trans h.tape, hF.output.trans h.output, Nat.le_trans h.size hF.size, fun i hi => (hF.block i (Nat.lt_of_lt_of_le hi h.size) (by omega) (by omega)).trans (h.block i hi)⟩
theorem rd29_get {l : List S34} {i : Nat} (h : i < l.length) : rd_T34 l (i : Int) = l[i] := by
  unfold rd_T34
  simp [List.getD, h]
theorem map_below {w w' : World} {b : Nat} {o : Obj} (h : w.heap[b]? = some o) (hb : Below w.heap.size w w') : w'.heap[b]? = some o := blk_below h hb
theorem map_ne {w : World} {b g : Nat} {cs : Array Value} {t : TypeId} (h : w.heap[b]? = some (.map #[] 0)) (hg : w.heap[g]? = some (.cells cs t (0, 0))) : g ≠ b := by
  rintro rfl
  rw [h] at hg
  cases hg
set_option maxHeartbeats 8000000 in
set_option maxRecDepth 100000 in
theorem portsOf_walk (A : Option Addr) (c : Nat) (l : List S34) (w : World) (hr : Kd.C k34 w A l.length l) (hc : l.length ≤ c) (hl : l.length < 1000000) (hw : ∀ x ∈ l, Wf x) :
    Calls Tryz.prog 55 #[.agg #[.slice A l.length c]] w fun e w' => ∃ b1 b2, e = .returned (.agg #[.map (some b1), .map (some b2)]) ∧ Tab w' l b1 b2 ∧ Below w.heap.size w w' := by
  have HR := Aside0.mk hr
  have HW := Aside0.mk hw
  have HL := Aside0.mk hl
  clear hr hw hl hc
  have HB := Aside0.mk (Below.refl w.heap.size w)
  go_enter Tryz.func55, Tryz.ntmps55
  go_wp2_with (first
    | ((with_reducible refine gate_dst (N := 1) rfl ?_)
       refine box_event ?hg (N := 1) ?hd (cs := #[.slice A l.length c]) (t := 25) ?hr ?_
       (case hd => rfl)
       (case hg => rfl)
       (case hr => first | (go_simp; done) | (go_simp; rfl))
       intro g1 hg w3 hbox hb
       have n1_ := Aside0.mk (below_step (bl HB) hb)
       have G1 := Aside0.mk (show w.heap.size ≤ g1 from by rw [hg]; exact below_size (bl HB))
       have BK1 := Aside0.mk hbox
       clear HB
       have HB := n1_
       clear n1_ hg hbox hb)
    | ((with_reducible refine gate_dst (N := 2) rfl ?_)
       refine box_event ?hg (N := 2) ?hd (cs := #[.map none, .map none]) (t := 70) ?hr ?_
       (case hd => rfl)
       (case hg => rfl)
       (case hr => first | (go_simp; done) | (go_simp; rfl))
       intro g2 hg w4 hbox hb
       have n1_ := Aside0.mk (below_step (bl HB) hb)
       have n2_ := bkB BK1 hb
       have G2 := Aside0.mk (show w.heap.size ≤ g2 from by rw [hg]; exact below_size (bl HB))
       have E12 := Aside0.mk (show g1 ≠ g2 from by rw [hg]; exact Nat.ne_of_lt (bkL BK1))
       have BK2 := Aside0.mk hbox
       clear HB BK1
       have HB := n1_
       have BK1 := n2_
       clear n1_ n2_ hg hbox hb)
    | ((with_reducible refine gate_dst (N := 6) rfl ?_)
       refine mk_event ?hg (N := 6) ?hd _ rfl ?_
       (case hd => rfl)
       (case hg => rfl)
       intro b1 w5 hg hbox hb
       have n1_ := Aside0.mk (below_step (bl HB) hb)
       have n2_ := bkB BK1 hb
       have n3_ := bkB BK2 hb
       have GM1 := Aside0.mk (show w.heap.size ≤ b1 from by rw [hg]; exact below_size (bl HB))
       have MK1 := Aside0.mk hbox
       clear HB BK1 BK2
       have HB := n1_
       have BK1 := n2_
       have BK2 := n3_
       clear n1_ n2_ n3_ hg hbox hb)
    | ((with_reducible refine gate_dst (N := 7) rfl ?_)
       refine mk_event ?hg (N := 7) ?hd _ rfl ?_
       (case hd => rfl)
       (case hg => rfl)
       intro b2 w6 hg hbox hb
       have n1_ := Aside0.mk (below_step (bl HB) hb)
       have n2_ := bkB BK1 hb
       have n3_ := bkB BK2 hb
       have n4_ := bkB MK1 hb
       have GM2 := Aside0.mk (show w.heap.size ≤ b2 from by rw [hg]; exact below_size (bl HB))
       have HNE := Aside0.mk (show b1 ≠ b2 from by rw [hg]; exact Nat.ne_of_lt (bkL MK1))
       have MK2 := Aside0.mk hbox
       clear HB BK1 BK2 MK1
       have HB := n1_
       have BK1 := n2_
       have BK2 := n3_
       have MK1 := n4_
       clear n1_ n2_ n3_ n4_ hg hbox hb)
    | ((with_reducible refine gate_dst (N := 3) rfl ?_)
       refine box_event ?hg (N := 3) ?hd (cs := #[.map none, .map none]) (t := 70) ?hr ?_
       (case hd => rfl)
       (case hg => rfl)
       (case hr => first | (go_simp; done) | (go_simp; rfl))
       intro g3 hg w7 hbox hb
       have n1_ := Aside0.mk (below_step (bl HB) hb)
       have n2_ := bkB BK1 hb
       have n3_ := bkB BK2 hb
       have n4_ := bkB MK1 hb
       have n5_ := bkB MK2 hb
       have G3 := Aside0.mk (show w.heap.size ≤ g3 from by rw [hg]; exact below_size (bl HB))
       have e13 : g1 ≠ g3 := by rw [hg]; exact Nat.ne_of_lt (bkL BK1)
       have e31 := e13.symm
       have E23 := Aside0.mk (show g2 ≠ g3 from by rw [hg]; exact Nat.ne_of_lt (bkL BK2))
       have BK3 := Aside0.mk hbox
       clear HB BK1 BK2 MK1 MK2
       have HB := n1_
       have BK1 := n2_
       have BK2 := n3_
       have MK1 := n4_
       have MK2 := n5_
       clear n1_ n2_ n3_ n4_ n5_ hg hbox hb
       have c10 : w7.cell? ⟨g1, 0, none⟩ = some (.slice A l.length c) := (blk_cell BK1.out 0).trans rfl
       have c30 : w7.cell? ⟨g3, 0, none⟩ = some (.map none) := (blk_cell BK3.out 0).trans rfl
       have c31 : w7.cell? ⟨g3, 1, none⟩ = some (.map none) := (blk_cell BK3.out 1).trans rfl
       have z30 := blk_frozen BK3.out 0
       have z31 := blk_frozen BK3.out 1))
  have n1_ : Aside0 (((w7.setCell ⟨g3, 0, none⟩ (.map (some b1))).setCell ⟨g3, 1, none⟩ (.map (some b2))).heap[g1]? = some (.cells #[.slice A l.length c] 25 (0, 0))) := ⟨blk_far (blk_far BK1.out e13 _) e13 _⟩
  have n2_ : Aside0 (((w7.setCell ⟨g3, 0, none⟩ (.map (some b1))).setCell ⟨g3, 1, none⟩ (.map (some b2))).heap[g2]? = some (.cells #[.map none, .map none] 70 (0, 0))) := ⟨blk_far (blk_far BK2.out E23.out _) E23.out _⟩
  have n3_ : Aside0 (((w7.setCell ⟨g3, 0, none⟩ (.map (some b1))).setCell ⟨g3, 1, none⟩ (.map (some b2))).heap[g3]? = some (.cells #[.map (some b1), .map (some b2)] 70 (0, 0))) := ⟨by
    have z := blk_set (blk_set BK3.out 0 (.map (some b1))) 1 (.map (some b2))
    simpa using z⟩
  have n4_ : Aside0 (Tab ((w7.setCell ⟨g3, 0, none⟩ (.map (some b1))).setCell ⟨g3, 1, none⟩ (.map (some b2))) (l.take 0) b1 b2) := ⟨by
    have z := (tab_made MK1.out MK2.out).set (j := 0) (v := .map (some b1)) BK3.out
    exact z.set (j := 1) (v := .map (some b2)) (blk_set BK3.out 0 (.map (some b1)))⟩
  have n5_ : Aside0 (Below w.heap.size w ((w7.setCell ⟨g3, 0, none⟩ (.map (some b1))).setCell ⟨g3, 1, none⟩ (.map (some b2)))) := ⟨below_set (below_set HB.out G3.out) G3.out⟩
  clear c10 c30 c31 z30 z31 BK1 BK2 BK3 MK1 MK2 HB
  generalize (w7.setCell ⟨g3, 0, none⟩ (.map (some b1))).setCell ⟨g3, 1, none⟩ (.map (some b2)) = w8 at n1_ n2_ n3_ n4_ n5_ ⊢
  go_loopg [12] l.length (fun kq v12 w' => ∃ (x : Int) (m : Nat), v12 = .int .i64 x ∧ Aside0 (x = m) ∧ Aside0 (m + kq = l.length) ∧ Aside0 (w'.heap[g1]? = some (.cells #[.slice A l.length c] 25 (0, 0))) ∧ Aside0 (w'.heap[g2]? = some (.cells #[.map none, .map none] 70 (0, 0))) ∧ Aside0 (w'.heap[g3]? = some (.cells #[.map (some b1), .map (some b2)] 70 (0, 0))) ∧ Aside0 (Tab w' (l.take m) b1 b2) ∧ Aside0 (Below w.heap.size w w'))
  case atStart => exact ⟨0, 0, (by first | rfl | (simp; done)), ⟨rfl⟩, ⟨by omega⟩, n1_, n2_, n3_, n4_, n5_⟩
  case round =>
    clear n1_ n2_ n3_ n4_ n5_
    obtain ⟨x, m, rfl, HX, HM, BK1, BK2, BK3, HT, HB⟩ := hrel
    cases gk with
    | zero =>
      have hm : m = l.length := by have := HM.out; omega
      have HE := Aside0.mk hm
      have c0 : decide (x < (l.length : Int)) = false := by have := HX.out; simp; omega
      clear hm
      have c30 : wr.cell? ⟨g3, 0, none⟩ = some (.map (some b1)) := (blk_cell BK3.out 0).trans rfl
      have c31 : wr.cell? ⟨g3, 1, none⟩ = some (.map (some b2)) := (blk_cell BK3.out 1).trans rfl
      have c20 : wr.cell? ⟨g2, 0, none⟩ = some (.map none) := (blk_cell BK2.out 0).trans rfl
      have c21 : wr.cell? ⟨g2, 1, none⟩ = some (.map none) := (blk_cell BK2.out 1).trans rfl
      have z20 := blk_frozen BK2.out 0
      have z21 := blk_frozen BK2.out 1
      go_wp2
      refine bodyPost_ret (results_cell_row rfl _ _ g2 70 #[.map (some b1), .map (some b2)] (0, 0) _ rfl (by (with_reducible repeat refine bu ?_); refine blk_put (cs := #[.map (some b1), .map none]) ?_ 1 _ rfl; (with_reducible repeat refine bu ?_); refine blk_put (cs := #[.map none, .map none]) ?_ 0 _ rfl; (with_reducible repeat refine bu ?_); exact BK2.out) Tryz.underlying70 rfl (by kernel_rfl)) rfl ?_
      refine ⟨b1, b2, rfl, ?_, below_set (below_set HB.out G2.out) G2.out⟩
      have z := HT.out
      rw [HE.out, List.take_length] at z
      exact (z.set BK2.out).set (blk_set BK2.out 0 (.map (some b1)))
    | succ k1 =>
      have hm : m < l.length := by have := HM.out; omega
      have hx0 : (0 : Int) ≤ x := by have := HX.out; omega
      have hx1 : x < (l.length : Int) := by have := HX.out; omega
      have c0 : decide (x < (l.length : Int)) = true := decide_eq_true hx1
      obtain ⟨ad, e_, hc0, hc1⟩ := at_T34 (Kd.C_below HR.out HB.out) x hx0 hx1
      cases e_
      have WX := Aside0.mk (show Wf (rd_T34 l x) from by rw [HX.out, rd29_get hm]; exact HW.out _ (List.getElem_mem hm))
      have HTK := Aside0.mk (show l.take (m + 1) = l.take m ++ [rd_T34 l x] from by rw [HX.out, rd29_get hm]; exact List.take_succ_eq_append_getElem hm)
      have MM := Aside0.mk hm
      obtain ⟨p, hp⟩ : ∃ p : Int, p = 500 + ((l.take m).length : Int) := ⟨_, rfl⟩
      have hpw : IntKind.i64.wrap (500 + x) = p := by
        have := HX.out
        have hl' := HL.out
        rw [i64_w, hp, List.length_take]
        unfold wrap64
        omega
      have HP := Aside0.mk hp
      have HLT := Aside0.mk (show (l.take m).length < 100000000 from by have := HL.out; rw [List.length_take]; omega)
      clear hp hm
      replace hx0 := eq_true hx0
      replace hx1 := eq_true hx1
      go_wp2_with (first
        | ((with_reducible refine gate_dst (N := 5) rfl ?_)
           refine box_event ?hg (N := 5) ?hd (cs := #[.int .i64 0, .int .i64 0]) (t := 34) ?hr ?_
           (case hd => rfl)
           (case hg => rfl)
           (case hr => first | (go_simp; done) | (go_simp; rfl))
           intro g5 hg w9 hbox hb
           have n1_ := Aside0.mk (below_step (bl HB) hb)
           have n2_ := bkB BK1 hb
           have n3_ := bkB BK2 hb
           have n4_ := bkB BK3 hb
           have n5_ := Aside0.mk (Tab.below HT.out (w' := w9) hb)
           have G5 := Aside0.mk (show w.heap.size ≤ g5 from by rw [hg]; exact below_size (bl HB))
           have e15 : g1 ≠ g5 := by rw [hg]; exact Nat.ne_of_lt (bkL BK1)
           have e25 : g2 ≠ g5 := by rw [hg]; exact Nat.ne_of_lt (bkL BK2)
           have e35 : g3 ≠ g5 := by rw [hg]; exact Nat.ne_of_lt (bkL BK3)
           have e53 := e35.symm
           have BK5 := Aside0.mk hbox
           clear HB BK1 BK2 BK3 HT
           have HB := n1_
           have BK1 := n2_
           have BK2 := n3_
           have BK3 := n4_
           have HT := n5_
           clear n1_ n2_ n3_ n4_ n5_ hg hbox hb
           have c30 : w9.cell? ⟨g3, 0, none⟩ = some (.map (some b1)) := (blk_cell BK3.out 0).trans rfl
           have c31 : w9.cell? ⟨g3, 1, none⟩ = some (.map (some b2)) := (blk_cell BK3.out 1).trans rfl
           have c50 : w9.cell? ⟨g5, 0, none⟩ = some (.int .i64 0) := (blk_cell BK5.out 0).trans rfl
           have c51 : w9.cell? ⟨g5, 1, none⟩ = some (.int .i64 0) := (blk_cell BK5.out 1).trans rfl
           have z50 := blk_frozen BK5.out 0
           have z51 := blk_frozen BK5.out 1)
        | ((with_reducible refine gate_callee (f := 87) rfl ?_)
           refine goesL_ _ rfl rfl Tryz.func87 (by kernel_rfl) rfl #[.agg #[.map (some b1), .map (some b2)], .agg #[.int .i64 ((rd_T34 l x).f0), .int .i64 ((rd_T34 l x).f1)], .int .i64 p] rfl (by (try simp only [List.map_toArray, List.map_cons, List.map_nil]); first | done | rfl) ?_
           (with_reducible refine (set_tab b1 b2 (l.take m) (rd_T34 l x) p _ HNE.out WX.out HLT.out HP.out ?side).mono ?_)
           (case side => exact (HT.out.set BK5.out).set (blk_set BK5.out 0 (.int .i64 ((rd_T34 l x).f0))))
           rintro e w10 ⟨rfl, hT, hF⟩
           refine ⟨_, rfl, ?_⟩
           have n1_ := Aside0.mk (fr_blk hF (blk_far (blk_far BK1.out e15 _) e15 _) (HT.out.ne BK1.out))
           have n2_ := Aside0.mk (fr_blk hF (blk_far (blk_far BK2.out e25 _) e25 _) (HT.out.ne BK2.out))
           have n3_ := Aside0.mk (fr_blk hF (blk_far (blk_far BK3.out e35 _) e35 _) (HT.out.ne BK3.out))
           have n5_ : Aside0 (w10.heap[g5]? = some (.cells #[.int .i64 ((rd_T34 l x).f0), .int .i64 ((rd_T34 l x).f1)] 34 (0, 0))) := ⟨fr_blk hF (by
             have z := blk_set (blk_set BK5.out 0 (.int .i64 ((rd_T34 l x).f0))) 1 (.int .i64 ((rd_T34 l x).f1))
             simpa using z) (HT.out.ne BK5.out)⟩
           have n6_ := Aside0.mk (below_fr (below_set (below_set HB.out G5.out) G5.out) hF GM1.out GM2.out)
           have HT2 := Aside0.mk hT
           clear HT HB BK1 BK2 BK3 BK5 c30 c31 c50 c51 z50 z51 hT hF
           have BK1 := n1_
           have BK2 := n2_
           have BK3 := n3_
           have BK5 := n5_
           have HB := n6_
           clear n1_ n2_ n3_ n5_ n6_
           have c30 : w10.cell? ⟨g3, 0, none⟩ = some (.map (some b1)) := (blk_cell BK3.out 0).trans rfl
           have c31 : w10.cell? ⟨g3, 1, none⟩ = some (.map (some b2)) := (blk_cell BK3.out 1).trans rfl
           have c50 : w10.cell? ⟨g5, 0, none⟩ = some (.int .i64 ((rd_T34 l x).f0)) := (blk_cell BK5.out 0).trans rfl
           have c51 : w10.cell? ⟨g5, 1, none⟩ = some (.int .i64 ((rd_T34 l x).f1)) := (blk_cell BK5.out 1).trans rfl
           obtain ⟨n1, n2, D1, D2, h1, h2, hn1, hn2, s1, s2⟩ := HT2.out
           clear HT2
           have M1 := Aside0.mk h1
           have M2 := Aside0.mk h2
           have N1 := Aside0.mk hn1
           have N2 := Aside0.mk hn2
           have S1 := Aside0.mk s1
           have S2 := Aside0.mk s2
           clear h1 h2 hn1 hn2 s1 s2)
        | (at_mapUpdate
           refine wpList_mapUpdate_own _ rfl _ _ _ 68 rfl 3 34 intKeyed Tryz.underlying68 _ b2 n2 D2 rfl M2.out (by have := N2.out; have := HLT.out; simp only [maxLen]; omega) _ _ _ rfl rfl (intKey ((i64_iff _).mpr (by have := HP.out; have := HLT.out; omega))) _ _ (endR_mk _ _) ?_
           intro w33 hm hg
           have F : Fr w10 w33 b1 b2 := Fr.two (Fr.refl _ _ _) hg
           have TN : ∀ {g : Nat} {cs : Array Value} {t : TypeId}, w10.heap[g]? = some (.cells cs t (0, 0)) → g ≠ b1 ∧ g ≠ b2 := fun hg => ⟨om_ne M1.out hg, om_ne M2.out hg⟩
           have n1_ := Aside0.mk (fr_blk F BK1.out (TN BK1.out))
           have n2_ := Aside0.mk (fr_blk F BK2.out (TN BK2.out))
           have n3_ := Aside0.mk (fr_blk F BK3.out (TN BK3.out))
           have n6_ := Aside0.mk (below_fr HB.out F GM1.out GM2.out)
           have n7_ : Aside0 (Tab w33 (l.take (m + 1)) b1 b2) := ⟨by
             rw [HTK.out]
             refine ⟨n1, n2 + 1, D1, _, M1.out.kept hg (by simpa using HNE.out), hm, by have := N1.out; simp only [List.length_append, List.length_cons, List.length_nil]; omega, by have := N2.out; simp only [List.length_append, List.length_cons, List.length_nil]; omega, S1.out, ?_⟩
             rw [HP.out]
             exact says2_again S2.out M2.out.isMap (by have := HLT.out; omega)⟩
           clear HB BK1 BK2 BK3 BK5 c30 c31 c50 c51 M1 M2 N1 N2 S1 S2 hm hg F TN
           have BK1 := n1_
           have BK2 := n2_
           have BK3 := n3_
           have HB := n6_
           have HT := n7_
           clear n1_ n2_ n3_ n6_ n7_))
      go_roundg k1
      case measure => omega
      case rel => exact ⟨x + 1, m + 1, (by
        have := HX.out
        have := HL.out
        have := MM.out
        have e : wrap64 (x + 1) = x + 1 := by unfold wrap64; omega
        simp only [i64_w, e]), ⟨by have := HX.out; push_cast; omega⟩, ⟨by have := HM.out; omega⟩, BK1, BK2, BK3, HT, HB⟩
def wfB (n : Int) : Bool := (Lit.int .i64 n).wf
def wfE (x : S34) : Bool := wfB x.f0 && wfB x.f1
def portV (l : List S34) (a b : Int) : Int := match fnd l a b with | none => 0 | some i => 500 + i
def impl_MapPort.f (l : List S34) (a b : Int) : Option Int := if l.length < 1000000 ∧ l.all wfE = true ∧ wfB a = true ∧ wfB b = true then some (portV l a b) else none
def endV (l : List S34) (n : Int) : Option S34 := if 500 ≤ n then l[(n - 500).toNat]? else none
def impl_MapEnd.f (l : List S34) (n : Int) : Option (Int × Int × Bool) := if l.length < 1000000 ∧ l.all wfE = true ∧ wfB n = true then some (match endV l n with | none => (0, 0, false) | some x => (x.f0, x.f1, true)) else none
theorem wf_all {l : List S34} (h : l.all wfE = true) : ∀ x ∈ l, Wf x := by
  intro x hx
  have := List.all_eq_true.mp h x hx
  simp only [wfE, wfB, Bool.and_eq_true] at this
  exact this
theorem mapEnd_hit {l : List S34} {D : DataW Unit} {n xa xb r1 r2 : Int} {r3 : Bool} {ps : List MemPlace} (s : Says2 l D) (wn : I64 n) (hx : (D.atKey (.int .i64 n) (endD 0 0), ps).1 = endD xa xb)
    (q : (match endV l n with | none => (0, 0, false) | some x => (x.f0, x.f1, true)) = (r1, r2, r3)) : xa = r1 ∧ xb = r2 ∧ Maps.has D (.int .i64 n) = r3 := by
  have z := s n wn
  have hx' : D.atKey (.int .i64 n) (endD 0 0) = endD xa xb := hx
  unfold endV at q
  cases hm : (if 500 ≤ n then l[(n - 500).toNat]? else none) with
  | none =>
    rw [hm] at q
    have z' : ∀ y, D.atKey (.int .i64 n) y = y := fun y => by rw [z y, hm]
    rw [z'] at hx'
    obtain ⟨e1, e2⟩ := endD_inj hx'
    simp at q
    exact ⟨by omega, by omega, by rw [Maps.has_false_of_atKey z']; exact q.2.2.symm⟩
  | some x =>
    rw [hm] at q
    have z' : ∀ y, D.atKey (.int .i64 n) y = endD x.f0 x.f1 := fun y => by rw [z y, hm]
    rw [z'] at hx'
    obtain ⟨e1, e2⟩ := endD_inj hx'
    simp at q
    exact ⟨by omega, by omega, by rw [Maps.has_true_of_atKey z']; exact q.2.2.symm⟩
theorem field0 (b1 b2 : Nat) (w : World) : (Instr.field 70 (.agg #[.map (some b1), .map (some b2)]) 0).run Tryz.prog w = .ok (.map (some b1)) w := by kernel_rfl
theorem field1 (b1 b2 : Nat) (w : World) : (Instr.field 70 (.agg #[.map (some b1), .map (some b2)]) 1).run Tryz.prog w = .ok (.map (some b2)) w := by kernel_rfl
set_option maxHeartbeats 8000000 in
set_option maxRecDepth 100000 in
theorem impl_MapPort.calls (A0_0 : Option Addr) (c0_0 : Nat) (l0_0 : List (S34)) (a1_0 : Int) (a1_1 : Int) (r : Int) (w : World) (hr0_0 : Kd.C k34 w A0_0 l0_0.length l0_0) (hc0_0 : l0_0.length ≤ c0_0) (h : impl_MapPort.f l0_0 a1_0 a1_1 = some r) :
    Calls Tryz.prog 23 #[.agg #[.slice A0_0 l0_0.length c0_0], .agg #[.int .i64 a1_0, .int .i64 a1_1]] w fun e w' => e = .returned (.int .i64 r) ∧ Below w.heap.size w w' := by
  unfold impl_MapPort.f at h
  by_cases hq : l0_0.length < 1000000 ∧ l0_0.all wfE = true ∧ wfB a1_0 = true ∧ wfB a1_1 = true
  · rw [if_pos hq] at h
    have HP := Aside0.mk (Option.some.inj h)
    have HQ := Aside0.mk hq
    have HR := Aside0.mk hr0_0
    have HC := Aside0.mk hc0_0
    clear h hq hr0_0 hc0_0
    have HB := Aside0.mk (Below.refl w.heap.size w)
    have hu1 := Tryz.underlying70
    have hu2 := Tryz.underlying25
    have hu3 := Tryz.underlying34
    go_enter Tryz.func23, Tryz.ntmps23
    go_upto_region 1 with (first
      | ((with_reducible refine gate_dst (N := 2) rfl ?_)
         refine box_event ?hg (N := 2) ?hd (cs := #[.slice A0_0 l0_0.length c0_0]) (t := 25) ?hr ?_
         (case hd => rfl)
         (case hg => rfl)
         (case hr => first | (go_simp; done) | (go_simp; rfl))
         intro g2 hg w3 hbox hb
         have n1_ := Aside0.mk (below_step (bl HB) hb)
         have BK2 := Aside0.mk hbox
         clear HB
         have HB := n1_
         clear n1_ hg hbox hb)
      | ((with_reducible refine gate_dst (N := 3) rfl ?_)
         refine box_event ?hg (N := 3) ?hd (cs := #[.int .i64 a1_0, .int .i64 a1_1]) (t := 34) ?hr ?_
         (case hd => rfl)
         (case hg => rfl)
         (case hr => first | (go_simp; done) | (go_simp; rfl))
         intro g3 hg w4 hbox hb
         have n1_ := Aside0.mk (below_step (bl HB) hb)
         have n2_ := bkB BK2 hb
         have BK3 := Aside0.mk hbox
         clear HB BK2
         have HB := n1_
         have BK2 := n2_
         clear n1_ n2_ hg hbox hb))
    (try simp only [Act.put, List.setIfInBounds_toArray, List.set_cons_zero, List.set_cons_succ])
    have n1_ := Aside0.mk (blk_drew BK2.out)
    have n2_ := Aside0.mk (blk_drew BK3.out)
    have n3_ := Aside0.mk (below_drew1 HB.out)
    clear BK2 BK3 HB
    have BK2 := n1_
    have BK3 := n2_
    have HB := n3_
    clear n1_ n2_ n3_
    refine start_ (n := 6) (S := fun w' => w'.cell? ⟨g2, 0, none⟩ = some (.slice A0_0 l0_0.length c0_0) ∧ w'.cell? ⟨g3, 0, none⟩ = some (.int .i64 a1_0) ∧ w'.cell? ⟨g3, 1, none⟩ = some (.int .i64 a1_1)) (ds := []) #[false, false, false, false, false, false] (by kernel_rfl) rfl rfl ⟨(blk_cell BK2.out 0).trans rfl, (blk_cell BK3.out 0).trans rfl, (blk_cell BK3.out 1).trans rfl⟩ (fun hHeld => ?_)
    generalize w4.drew = w5 at BK2 BK3 HB hHeld ⊢
    refine take_ (i := 0) (N := some 5) (v := ?_) (a' := ?_) #[true, false, false, false, false, false] rfl rfl (by kernel_rfl) (fun _ _ _ h => h) (Or.inl ⟨by rfl, ?_⟩) hHeld ?_ ?_
    rotate_left
    · rintro w' ⟨s0, s1, s2⟩
      go_simp
      with_reducible rfl
    rotate_left
    · simp only [Act.put, List.setIfInBounds_toArray, List.set_cons_zero, List.set_cons_succ, i64_w, i32_w]
      rfl
    refine take_ (i := 3) (N := some 8) (v := ?_) (a' := ?_) #[true, false, false, true, false, false] rfl rfl (by kernel_rfl) (fun _ _ _ h => h) (Or.inl ⟨by rfl, ?_⟩) hHeld ?_ ?_
    rotate_left
    · rintro w' ⟨s0, s1, s2⟩
      go_simp
      with_reducible rfl
    rotate_left
    · simp only [Act.put, List.setIfInBounds_toArray, List.set_cons_zero, List.set_cons_succ, i64_w, i32_w]
      rfl
    refine one_ (i := 1) (N := some 6) #[true, true, false, true, false, false] rfl rfl (by kernel_rfl) (by decide) (fun K hK => ?_)
    refine goes_ Tryz.func55 (by kernel_rfl) rfl #[.agg #[.slice A0_0 l0_0.length c0_0]] (by rfl) rfl rfl (by (try simp only [List.map_toArray, List.map_cons, List.map_nil]); first | done | rfl) ?_
    with_reducible refine (portsOf_walk A0_0 c0_0 l0_0 _ (Kd.C_below HR.out HB.out) HC.out HQ.out.1 (wf_all HQ.out.2.1)).mono ?_
    rintro e w6 ⟨b1, b2, rfl, hT, hb⟩
    refine ⟨_, rfl, ?_⟩
    have n1_ := bkB BK2 hb
    have n2_ := bkB BK3 hb
    have n3_ := Aside0.mk (below_step HB.out hb)
    clear BK2 BK3 HB
    have BK2 := n1_
    have BK3 := n2_
    have HB := n3_
    have HT := Aside0.mk hT
    clear n1_ n2_ n3_ hT hb
    refine hK.out _ _ ⟨(blk_cell BK2.out 0).trans rfl, (blk_cell BK3.out 0).trans rfl, (blk_cell BK3.out 1).trans rfl⟩ (fun hHeld => ?_)
    clear hK K
    refine norm_ (a' := ?_) ?_ ?_
    rotate_left
    · show Act.put _ (some 6) _ = _
      simp only [Act.put, List.setIfInBounds_toArray, List.set_cons_zero, List.set_cons_succ, i64_w, i32_w]
      rfl
    refine pure_ (i := 2) (N := some 7) (v := ?_) (a' := ?_) #[true, true, true, true, false, false] rfl rfl (by kernel_rfl) (fun _ _ _ h => h) (Or.inl ⟨by rfl, ?_⟩) ?_ ?_
    rotate_left
    · intro w'
      have hf := field0 b1 b2
      go_simp
      with_reducible rfl
    rotate_left
    · simp only [Act.put, List.setIfInBounds_toArray, List.set_cons_zero, List.set_cons_succ, i64_w, i32_w]
      rfl
    refine one_ (i := 4) (N := some 9) #[true, true, true, true, true, false] rfl rfl (by kernel_rfl) (by decide) (fun K hK => ?_)
    obtain ⟨n1, n2, D1, D2, h1, h2, _, _, s1, s2⟩ := HT.out
    obtain ⟨c, hrun, hat, hwc⟩ := h1.lookup_int endKeyed Tryz.underlying67 Tryz.underlying3 (zero3 _) (endKey HQ.out.2.2.1 HQ.out.2.2.2)
    have hc : c = r := by
      rw [s1 _ _ HQ.out.2.2.1 HQ.out.2.2.2] at hat
      rw [← HP.out]
      unfold portV
      cases hf : fnd l0_0 a1_0 a1_1 <;> rw [hf] at hat <;> simp at hat <;> simp [hat]
    subst hc
    rw [if_pos (by rfl)]
    unfold Oper.wp
    simp [execOp, Act.eval, hrun, Result.andThen]
    refine hK.out _ _ ⟨(blk_cell BK2.out 0).trans rfl, (blk_cell BK3.out 0).trans rfl, (blk_cell BK3.out 1).trans rfl⟩ (fun hHeld => ?_)
    clear hK K
    refine norm_ (a' := ?_) ?_ ?_
    rotate_left
    · show Act.put _ (some 9) _ = _
      simp only [Act.put, List.setIfInBounds_toArray, List.set_cons_zero, List.set_cons_succ, i64_w, i32_w]
      rfl
    refine pure_ (i := 5) (N := some 4) (v := ?_) (a' := ?_) #[true, true, true, true, true, true] rfl rfl (by kernel_rfl) (fun _ _ _ h => h) (Or.inl ⟨by rfl, ?_⟩) ?_ ?_
    rotate_left
    · intro w'
      go_simp
      with_reducible rfl
    rotate_left
    · simp only [Act.put, List.setIfInBounds_toArray, List.set_cons_zero, List.set_cons_succ, i64_w, i32_w]
      rfl
    refine done_ (by kernel_rfl) ?_
    go_wp2
    go_ret
    exact ⟨rfl, HB.out⟩
  · rw [if_neg hq] at h
    cases h
set_option maxHeartbeats 8000000 in
set_option maxRecDepth 100000 in
theorem impl_MapEnd.calls (A0_0 : Option Addr) (c0_0 : Nat) (l0_0 : List (S34)) (a1 : Int) (r1 : Int) (r2 : Int) (r3 : Bool) (w : World) (hr0_0 : Kd.C k34 w A0_0 l0_0.length l0_0) (hc0_0 : l0_0.length ≤ c0_0) (h : impl_MapEnd.f l0_0 a1 = some (r1, r2, r3)) :
    Calls Tryz.prog 94 #[.agg #[.slice A0_0 l0_0.length c0_0], .int .i64 a1] w fun e w' => e = .returned (.tuple #[.agg #[.int .i64 r1, .int .i64 r2], .bool r3]) ∧ Below w.heap.size w w' := by
  unfold impl_MapEnd.f at h
  by_cases hq : l0_0.length < 1000000 ∧ l0_0.all wfE = true ∧ wfB a1 = true
  · rw [if_pos hq] at h
    have HP := Aside0.mk (Option.some.inj h)
    have HQ := Aside0.mk hq
    have HR := Aside0.mk hr0_0
    have HC := Aside0.mk hc0_0
    clear h hq hr0_0 hc0_0
    have HB := Aside0.mk (Below.refl w.heap.size w)
    have hu1 := Tryz.underlying70
    have hu2 := Tryz.underlying25
    have hu3 := Tryz.underlying34
    have hfl := field1
    go_enter Tryz.func94, Tryz.ntmps94
    go_wp2_with (first
      | ((with_reducible refine gate_dst (N := 2) rfl ?_)
         refine box_event ?hg (N := 2) ?hd (cs := #[.slice A0_0 l0_0.length c0_0]) (t := 25) ?hr ?_
         (case hd => rfl)
         (case hg => rfl)
         (case hr => first | (go_simp; done) | (go_simp; rfl))
         intro g2 hg w3 hbox hb
         have n1_ := Aside0.mk (below_step (bl HB) hb)
         have BK2 := Aside0.mk hbox
         clear HB
         have HB := n1_
         clear n1_ hg hbox hb
         have c20 : w3.cell? ⟨g2, 0, none⟩ = some (.slice A0_0 l0_0.length c0_0) := (blk_cell BK2.out 0).trans rfl)
      | ((with_reducible refine gate_dst (N := 4) rfl ?_)
         refine box_event ?hg (N := 4) ?hd (cs := #[.int .i64 0, .int .i64 0]) (t := 34) ?hr ?_
         (case hd => rfl)
         (case hg => rfl)
         (case hr => first | (go_simp; done) | (go_simp; rfl))
         intro g4 hg w4 hbox hb
         have n1_ := Aside0.mk (below_step (bl HB) hb)
         have n2_ := bkB BK2 hb
         have G4 := Aside0.mk (show w.heap.size ≤ g4 from by rw [hg]; exact below_size (bl HB))
         have BK4 := Aside0.mk hbox
         clear HB BK2 c20
         have HB := n1_
         have BK2 := n2_
         clear n1_ n2_ hg hbox hb
         have c20 : w4.cell? ⟨g2, 0, none⟩ = some (.slice A0_0 l0_0.length c0_0) := (blk_cell BK2.out 0).trans rfl)
      | ((with_reducible refine gate_callee (f := 55) rfl ?_)
         refine goesL_ _ rfl rfl Tryz.func55 (by kernel_rfl) rfl #[.agg #[.slice A0_0 l0_0.length c0_0]] rfl (by (try simp only [List.map_toArray, List.map_cons, List.map_nil]); first | done | rfl) ?_
         (with_reducible refine (portsOf_walk A0_0 c0_0 l0_0 _ (Kd.C_below HR.out HB.out) HC.out HQ.out.1 (wf_all HQ.out.2.1)).mono ?_)
         rintro e w6 ⟨b1, b2, rfl, hT, hb⟩
         refine ⟨_, rfl, ?_⟩
         have n1_ := bkB BK4 hb
         have n3_ := Aside0.mk (below_step (bl HB) hb)
         clear BK2 BK4 HB c20
         have BK4 := n1_
         have HB := n3_
         obtain ⟨n1, n2, D1, D2, h1, h2, _, _, s1, s2⟩ := hT
         have M2 := Aside0.mk h2
         have S2 := Aside0.mk s2
         clear n1_ n3_ hb h1 h2 s1 s2)
      | ((with_reducible refine gate_dst (N := 13) rfl ?_)
         at_lookup
         refine wpList_lookup_own_ok _ rfl _ _ 68 rfl 3 34 intKeyed Tryz.underlying68 _ (zeroEnd _) (endD 0 0) [] (endR_mk 0 0) b2 n2 D2 rfl M2.out _ _ rfl (intKey HQ.out.2.2) ?_
         intro v13 ps13 hv13
         obtain ⟨xa, xb, rfl, hx⟩ := endR_inv hv13
         have hh := mapEnd_hit S2.out HQ.out.2.2 hx HP.out
         obtain ⟨rfl, rfl, hh3⟩ := hh
         rw [hh3]
         clear hv13 hx hh3)
      | ((with_reducible refine gate_dst (N := 6) rfl ?_)
         refine box_event ?hg (N := 6) ?hd (cs := #[.int .i64 0, .int .i64 0]) (t := 34) ?hr ?_
         (case hd => rfl)
         (case hg => rfl)
         (case hr => first | (go_simp; done) | (go_simp; rfl))
         intro g6 hg w7 hbox hb
         have n1_ := Aside0.mk (below_step (bl HB) hb)
         have n2_ := bkB BK4 hb
         have G6 := Aside0.mk (show w.heap.size ≤ g6 from by rw [hg]; exact below_size (bl HB))
         have e46 : g4 ≠ g6 := by rw [hg]; exact Nat.ne_of_lt (bkL BK4)
         have e64 := e46.symm
         have BK6 := Aside0.mk hbox
         clear HB BK4
         have HB := n1_
         have BK4 := n2_
         clear n1_ n2_ hg hbox hb
         have c40 : w7.cell? ⟨g4, 0, none⟩ = some (.int .i64 0) := (blk_cell BK4.out 0).trans rfl
         have c41 : w7.cell? ⟨g4, 1, none⟩ = some (.int .i64 0) := (blk_cell BK4.out 1).trans rfl
         have c60 : w7.cell? ⟨g6, 0, none⟩ = some (.int .i64 0) := (blk_cell BK6.out 0).trans rfl
         have c61 : w7.cell? ⟨g6, 1, none⟩ = some (.int .i64 0) := (blk_cell BK6.out 1).trans rfl
         have z40 := blk_frozen BK4.out 0
         have z41 := blk_frozen BK4.out 1
         have z60 := blk_frozen BK6.out 0
         have z61 := blk_frozen BK6.out 1))
    refine bodyPost_ret (results_ct rfl _ _ g4 34 #[.int .i64 xa, .int .i64 xb] (0, 0) _ rfl (by (with_reducible repeat refine bu ?_); refine blk_put (cs := #[.int .i64 xa, .int .i64 0]) ?_ 1 _ rfl; (with_reducible repeat refine bu ?_); refine blk_put (cs := #[.int .i64 0, .int .i64 0]) ?_ 0 _ rfl; (with_reducible repeat refine bu ?_); refine blk_far ?_ e46 _; (with_reducible repeat refine bu ?_); refine blk_far ?_ e46 _; (with_reducible repeat refine bu ?_); exact BK4.out) Tryz.underlying34 rfl (by kernel_rfl)) rfl ?_
    exact ⟨rfl, below_set (below_set (below_set (below_set HB.out G6.out) G6.out) G4.out) G4.out⟩
  · rw [if_neg hq] at h
    cases h
section
attribute [local go_sem] max2_int min2_int max_two min_two max_three min_three max_four min_four
def impl_MapTab_put.f (l0_0 : List (S34)) (a1_0 : Int) (a1_1 : Int) : Option ((List (S34)) × Int) := (impl_MapTab_copied.f l0_0).bind fun t372 => ((impl_MapPort.f l0_0 a1_0 a1_1).bind fun t376 => (if t376 = 0 then (if (l0_0.length : Int) ≥ 6 then (some (t372, t376)) else (if t372.length < 8796093022208 then ((impl_EndPoint_105.f (t372 ++ [(⟨a1_0, a1_1⟩ : S34)])).bind fun bt380 => (some (bt380.1, wrap64 (500 + (l0_0.length : Int))))) else (none))) else (some (t372, t376))))
set_option maxHeartbeats 8000000 in
set_option maxRecDepth 100000 in
theorem impl_MapTab_put.calls (A0_0 : Option Addr) (c0_0 : Nat) (l0_0 : List (S34)) (a1_0 : Int) (a1_1 : Int) (r1 : List (S34)) (r2 : Int) (w : World) (hr0_0 : Kd.C k34 w A0_0 l0_0.length l0_0) (hc0_0 : l0_0.length ≤ c0_0) (h : impl_MapTab_put.f l0_0 a1_0 a1_1 = some (r1, r2)) :
  Calls Tryz.prog 78 #[.agg #[.slice A0_0 l0_0.length c0_0], .agg #[.int .i64 a1_0, .int .i64 a1_1]] w fun e w' => ∃ v0_ : Value, e = .returned (.tuple #[.agg #[v0_], .int .i64 r2]) ∧ Kd.R k34 34 w' w.heap.size (fun _ => True) v0_ r1 ∧ Below w.heap.size w w' := by
 have hu25 := Tryz.underlying25
 have hu34 := Tryz.underlying34
 have HR0_0 := am hr0_0
 have HC0_0 := am hc0_0
 clear hr0_0 hc0_0
 have HB := am (Below.refl w.heap.size w)
 have H : ((impl_MapTab_copied.f l0_0).bind fun t372 => ((impl_MapPort.f l0_0 a1_0 a1_1).bind fun t376 => (if t376 = 0 then (if (l0_0.length : Int) ≥ 6 then (some (t372, t376)) else (if t372.length < 8796093022208 then ((impl_EndPoint_105.f (t372 ++ [(⟨a1_0, a1_1⟩ : S34)])).bind fun bt380 => (some (bt380.1, wrap64 (500 + (l0_0.length : Int))))) else (none))) else (some (t372, t376))))) = some (r1, r2) := h
 clear h
 obtain ⟨t372, A3, H⟩ := bse H
 try dsimp only at H
 obtain ⟨t376, A4, H⟩ := bse H
 try dsimp only at H
 by_cases c5 : t376 = 0
 ·rw [if_pos c5] at H
  have c5b0 : (t376 == 0) = true := beq_iff_eq.mpr c5
  have c5b1 : (t376 != 0) = false := bne_eq_false_iff_eq.mpr c5
  clear c5
  by_cases c6 : (l0_0.length : Int) ≥ 6
  ·rw [if_pos c6] at H
   have c6b0 : decide (6 ≤ (l0_0.length : Int)) = true := decide_eq_true c6
   have c6b1 : decide (6 ≤ l0_0.length) = true := decide_eq_true (by omega)
   clear c6
   simp only [Option.some.injEq, Prod.mk.injEq] at H
   obtain ⟨rfl, rfl⟩ := H
   go_enter Tryz.func78, Tryz.ntmps78
   go_wp2_with (first | ((with_reducible refine gate_dst (N := 2) rfl ?_); refine box_event rfl (N := 2) rfl (cs := #[.slice A0_0 l0_0.length c0_0]) (t := 25) hr_ ?_; intro gb369 hg w7 hbox hb; have BK369 := am hbox; have GW369 := gwE HB hg; have GE369 := gwE HB hg; replace HB := hbS HB hb; clear hb hbox hg) | ((with_reducible refine gate_dst (N := 3) rfl ?_); refine box_event rfl (N := 3) rfl (cs := #[.int .i64 a1_0, .int .i64 a1_1]) (t := 34) hr_ ?_; intro gb370 hg w8 hbox hb; have BK370 := am hbox; have GW370 := gwE HB hg; have GE370 := gwE HB hg; replace HB := hbS HB hb; have NB369_370 := neL BK369 hg; have NB370_369 := neG BK369 hg; replace BK369 := bkB BK369 hb; clear hb hbox hg) | ((with_reducible refine gate_dst (N := 4) rfl ?_); refine box_event rfl (N := 4) rfl (cs := #[.slice none 0 0]) (t := 25) hr_ ?_; intro gb371 hg w9 hbox hb; have BK371 := am hbox; have GW371 := gwE HB hg; have GE371 := gwE HB hg; replace HB := hbS HB hb; have NB369_371 := neL BK369 hg; have NB371_369 := neG BK369 hg; replace BK369 := bkB BK369 hb; have NB370_371 := neL BK370 hg; have NB371_370 := neG BK370 hg; replace BK370 := bkB BK370 hb; clear hb hbox hg; have := NB369_370.out; have := NB370_369.out; have := NB369_371.out; have := NB371_369.out; have := bcell BK369 0; have := bfz BK369 0) | ((with_reducible refine gate_callee (f := 77) rfl ?_); refine gL (some 9) Tryz.func77 #[.agg #[.slice A0_0 l0_0.length c0_0]] ?_; (with_reducible refine (impl_MapTab_copied.calls _ _ l0_0 t372 _ ?side1 ?side2 A3.out).mono ?_); (case side1 => exact m4_); (case side2 => exact HC0_0.out); rintro e w13 ⟨v373, rfl, ho0, hb⟩; refine ⟨_, rfl, ?_⟩; have HO374 := am (Kd.R_lower (Kd.R_newB ho0 (g := gb370) (o := .cells #[.int .i64 a1_0, .int .i64 a1_1] 34 (0, 0)) (bk BK370)) (below_size (bl HB))); replace BK369 := bkB BK369 hb; replace BK370 := bkB BK370 hb; replace BK371 := bkB BK371 hb; replace HB := hbS HB hb; (try clear hb); (try clear ho0)) | ((with_reducible refine gate_dst (N := 6) rfl ?_); refine box_event rfl (N := 6) rfl (cs := #[.slice none 0 0]) (t := 25) hr_ ?_; intro gb375 hg w14 hbox hb; replace HO374 := am (Kd.R_below (rs HO374) hb); have BK375 := am hbox; have GW375 := gwE HB hg; have GE375 := gwE HB hg; replace HB := hbS HB hb; have NB369_375 := neL BK369 hg; have NB375_369 := neG BK369 hg; replace BK369 := bkB BK369 hb; have NB370_375 := neL BK370 hg; have NB375_370 := neG BK370 hg; replace BK370 := bkB BK370 hb; have NB371_375 := neL BK371 hg; have NB375_371 := neG BK371 hg; replace BK371 := bkB BK371 hb; clear hb hbox hg; obtain ⟨Ao15, co15, eo15⟩ := Kd.R_slice HO374.out; subst eo15; have := NB375_369.out; have := NB369_375.out; have := NB375_370.out; have := NB370_375.out; have := NB375_371.out; have := NB371_375.out; have := bcell BK375 0; have := bfz BK375 0; have := bcell BK369 0; have := bfz BK369 0; have := NB370_371.out; have := NB371_370.out; have := bcell BK370 0; have := bcell BK370 1; have := bfz BK370 0; have := bfz BK370 1) | ((with_reducible refine gate_callee (f := 23) rfl ?_); refine gL (some 12) Tryz.func23 #[.agg #[.slice A0_0 l0_0.length c0_0], .agg #[.int .i64 a1_0, .int .i64 a1_1]] ?_; (with_reducible refine (impl_MapPort.calls _ _ l0_0 a1_0 a1_1 t376 _ (Kd.C_below HR0_0.out (bl HB)) HC0_0.out A4.out).mono ?_); rintro e w23 ⟨rfl, hb⟩; refine ⟨_, rfl, ?_⟩; replace HO374 := am (Kd.R_below (by (with_reducible repeat apply ru); exact (Kd.R_mono (Kd.R_far (p := ⟨gb375, 0, none⟩) (Kd.R_types HO374.out BK375.out (by decide)) (fun _ hk => hk.2) (.slice Ao15 t372.length co15)) (fun _ h_ => h_.1))) hb); replace BK369 := am (blk_below (g := gb369) (o := .cells #[.slice A0_0 l0_0.length c0_0] 25 (0, 0)) (by (with_reducible repeat refine bu ?_); refine blk_far ?_ NB369_375.out _; (with_reducible repeat refine bu ?_); exact BK369.out) hb); replace BK370 := am (blk_below (g := gb370) (o := .cells #[.int .i64 a1_0, .int .i64 a1_1] 34 (0, 0)) (by (with_reducible repeat refine bu ?_); refine blk_far ?_ NB370_375.out _; (with_reducible repeat refine bu ?_); exact BK370.out) hb); replace BK371 := am (blk_below (g := gb371) (o := .cells #[.slice none 0 0] 25 (0, 0)) (by (with_reducible repeat refine bu ?_); refine blk_far ?_ NB371_375.out _; (with_reducible repeat refine bu ?_); exact BK371.out) hb); replace BK375 := am (blk_below (g := gb375) (o := .cells #[.slice Ao15 t372.length co15] 25 (0, 0)) (by (with_reducible repeat refine bu ?_); refine blk_put (cs := #[.slice none 0 0]) ?_ 0 _ rfl; (with_reducible repeat refine bu ?_); exact BK375.out) hb); replace HB := hbS HB hb; (try clear hb); (try clear hk); have := bcell BK369 0; have := bfz BK369 0; have := bcell BK375 0; have := bfz BK375 0; have := bcell BK371 0; have := bfz BK371 0))
   refine bodyPost_ret (results_ct rfl _ _ gb371 25 #[.slice Ao15 t372.length co15] (0, 0) _ rfl (by (with_reducible repeat refine bu ?_); refine blk_put (cs := #[.slice none 0 0]) ?_ 0 _ rfl; (with_reducible repeat refine bu ?_); exact BK371.out) Tryz.underlying25 rfl (by kernel_rfl)) rfl ?_
   exact ⟨_, fi_, by (with_reducible repeat apply ru); exact Kd.R_mono (Kd.R_far (p := ⟨gb371, 0, none⟩) (Kd.R_types HO374.out BK371.out (by decide)) (fun _ hk => hk.2) (.slice Ao15 t372.length co15)) (fun _ hk => trivial), m2_⟩
  ·rw [if_neg c6] at H
   have c6b0 : decide (6 ≤ (l0_0.length : Int)) = false := decide_eq_false c6
   have c6b1 : decide (6 ≤ l0_0.length) = false := decide_eq_false (by omega)
   clear c6
   by_cases c27 : t372.length < 8796093022208
   ·rw [if_pos c27] at H
    have LMc27 := am c27
    clear c27
    obtain ⟨y377, hy377⟩ : ∃ y_ : List (S34), y_ = (t372 ++ [(⟨a1_0, a1_1⟩ : S34)]) := ⟨_, rfl⟩
    replace H : ((impl_EndPoint_105.f y377).bind fun bt380 => (some (bt380.1, wrap64 (500 + (l0_0.length : Int))))) = some (r1, r2) := by first | (rw [hy377]; with_reducible exact H) | (have H2_ := (Option.bind_some _ _).symm.trans H; rw [hy377]; with_reducible exact H2_) | (have H2_ := (Option.bind_some _ _).symm.trans H; with_reducible exact H2_) | with_reducible exact H | (rw [hy377]; exact H) | exact H
    have Ny377 := am hy377
    clear hy377
    obtain ⟨⟨t380, t383⟩, A28, H⟩ := bse H
    try dsimp only at H
    simp only [Option.some.injEq, Prod.mk.injEq] at H
    obtain ⟨rfl, rfl⟩ := H
    go_enter Tryz.func78, Tryz.ntmps78
    try go_wp2_with (first | ((with_reducible refine gate_dst (N := 2) rfl ?_); refine box_event rfl (N := 2) rfl (cs := #[.slice A0_0 l0_0.length c0_0]) (t := 25) hr_ ?_; intro gb369 hg w29 hbox hb; have BK369 := am hbox; have GW369 := gwE HB hg; have GE369 := gwE HB hg; replace HB := hbS HB hb; clear hb hbox hg) | ((with_reducible refine gate_dst (N := 3) rfl ?_); refine box_event rfl (N := 3) rfl (cs := #[.int .i64 a1_0, .int .i64 a1_1]) (t := 34) hr_ ?_; intro gb370 hg w30 hbox hb; have BK370 := am hbox; have GW370 := gwE HB hg; have GE370 := gwE HB hg; replace HB := hbS HB hb; have NB369_370 := neL BK369 hg; have NB370_369 := neG BK369 hg; replace BK369 := bkB BK369 hb; clear hb hbox hg) | ((with_reducible refine gate_dst (N := 4) rfl ?_); refine box_event rfl (N := 4) rfl (cs := #[.slice none 0 0]) (t := 25) hr_ ?_; intro gb371 hg w31 hbox hb; have BK371 := am hbox; have GW371 := gwE HB hg; have GE371 := gwE HB hg; replace HB := hbS HB hb; have NB369_371 := neL BK369 hg; have NB371_369 := neG BK369 hg; replace BK369 := bkB BK369 hb; have NB370_371 := neL BK370 hg; have NB371_370 := neG BK370 hg; replace BK370 := bkB BK370 hb; clear hb hbox hg; have := NB369_370.out; have := NB370_369.out; have := NB369_371.out; have := NB371_369.out; have := bcell BK369 0; have := bfz BK369 0) | ((with_reducible refine gate_callee (f := 77) rfl ?_); refine gL (some 9) Tryz.func77 #[.agg #[.slice A0_0 l0_0.length c0_0]] ?_; (with_reducible refine (impl_MapTab_copied.calls _ _ l0_0 t372 _ ?side1 ?side2 A3.out).mono ?_); (case side1 => exact m4_); (case side2 => exact HC0_0.out); rintro e w35 ⟨v373, rfl, ho0, hb⟩; refine ⟨_, rfl, ?_⟩; have HO374 := am (Kd.R_lower (Kd.R_newB ho0 (g := gb370) (o := .cells #[.int .i64 a1_0, .int .i64 a1_1] 34 (0, 0)) (bk BK370)) (below_size (bl HB))); replace BK369 := bkB BK369 hb; replace BK370 := bkB BK370 hb; replace BK371 := bkB BK371 hb; replace HB := hbS HB hb; (try clear hb); (try clear ho0)) | ((with_reducible refine gate_dst (N := 6) rfl ?_); refine box_event rfl (N := 6) rfl (cs := #[.slice none 0 0]) (t := 25) hr_ ?_; intro gb375 hg w36 hbox hb; replace HO374 := am (Kd.R_below (rs HO374) hb); have BK375 := am hbox; have GW375 := gwE HB hg; have GE375 := gwE HB hg; replace HB := hbS HB hb; have NB369_375 := neL BK369 hg; have NB375_369 := neG BK369 hg; replace BK369 := bkB BK369 hb; have NB370_375 := neL BK370 hg; have NB375_370 := neG BK370 hg; replace BK370 := bkB BK370 hb; have NB371_375 := neL BK371 hg; have NB375_371 := neG BK371 hg; replace BK371 := bkB BK371 hb; clear hb hbox hg; obtain ⟨Ao37, co37, eo37⟩ := Kd.R_slice HO374.out; subst eo37; have := NB375_369.out; have := NB369_375.out; have := NB375_370.out; have := NB370_375.out; have := NB375_371.out; have := NB371_375.out; have := bcell BK375 0; have := bfz BK375 0; have := bcell BK369 0; have := bfz BK369 0; have := NB370_371.out; have := NB371_370.out; have := bcell BK370 0; have := bcell BK370 1; have := bfz BK370 0; have := bfz BK370 1) | ((with_reducible refine gate_callee (f := 23) rfl ?_); refine gL (some 12) Tryz.func23 #[.agg #[.slice A0_0 l0_0.length c0_0], .agg #[.int .i64 a1_0, .int .i64 a1_1]] ?_; (with_reducible refine (impl_MapPort.calls _ _ l0_0 a1_0 a1_1 t376 _ (Kd.C_below HR0_0.out (bl HB)) HC0_0.out A4.out).mono ?_); rintro e w45 ⟨rfl, hb⟩; refine ⟨_, rfl, ?_⟩; replace HO374 := am (Kd.R_below (by (with_reducible repeat apply ru); exact (Kd.R_mono (Kd.R_far (p := ⟨gb375, 0, none⟩) (Kd.R_types HO374.out BK375.out (by decide)) (fun _ hk => hk.2) (.slice Ao37 t372.length co37)) (fun _ h_ => h_.1))) hb); replace BK369 := am (blk_below (g := gb369) (o := .cells #[.slice A0_0 l0_0.length c0_0] 25 (0, 0)) (by (with_reducible repeat refine bu ?_); refine blk_far ?_ NB369_375.out _; (with_reducible repeat refine bu ?_); exact BK369.out) hb); replace BK370 := am (blk_below (g := gb370) (o := .cells #[.int .i64 a1_0, .int .i64 a1_1] 34 (0, 0)) (by (with_reducible repeat refine bu ?_); refine blk_far ?_ NB370_375.out _; (with_reducible repeat refine bu ?_); exact BK370.out) hb); replace BK371 := am (blk_below (g := gb371) (o := .cells #[.slice none 0 0] 25 (0, 0)) (by (with_reducible repeat refine bu ?_); refine blk_far ?_ NB371_375.out _; (with_reducible repeat refine bu ?_); exact BK371.out) hb); replace BK375 := am (blk_below (g := gb375) (o := .cells #[.slice Ao37 t372.length co37] 25 (0, 0)) (by (with_reducible repeat refine bu ?_); refine blk_put (cs := #[.slice none 0 0]) ?_ 0 _ rfl; (with_reducible repeat refine bu ?_); exact BK375.out) hb); replace HB := hbS HB hb; (try clear hb); (try clear hk); have := bcell BK369 0; have := bfz BK369 0; have := bcell BK375 0; have := bfz BK375 0; have := bcell BK370 0; have := bcell BK370 1; have := bfz BK370 0; have := bfz BK370 1) | ((with_reducible refine gate_builtin (b := .append) (xs := #[.tmp 24, .tmp 26]) rfl ?_); at_builtin; refine Kd.R_append k34 (w0 := w) w.heap.size rfl (.tmp 24) (.tmp 26) 23 34 (.agg #[(.int .i64 0), (.int .i64 0)]) 16 rfl Tryz.underlying23 info34 rfl (by decide) (by omega) (.slice Ao37 t372.length co37) t372 (⟨a1_0, a1_1⟩ : S34) [.int .i64 a1_0, .int .i64 a1_1] (fun k_ => k_ ≠ gb370) (fun _ => False) rfl rfl ?aP (fun _ hk => hk.elim) ?aF ?aO ?aB ?aS ?aL ?_; (case aP => exact k34_mkM _ _ _ (⟨a1_0, a1_1⟩ : S34)); (case aB => exact (bl HB)); (case aF => exact (fun k_ hk => Kd.freshB (g := gb370) (o := .cells #[.int .i64 a1_0, .int .i64 a1_1] 34 (0, 0)) (bk BK370) k_ hk)); (case aO => exact (by (with_reducible repeat apply ru); exact Kd.R_mono HO374.out (fun _ hk => hk.2))); (case aS => exact (below_size (bl HB))); (case aL => have := LMc27.out; omega); intro v378 w49 ho hb hg hat; rw [← Ny377.out] at ho; replace BK369 := am (blk_grown (g := gb369) (o := .cells #[.slice A0_0 l0_0.length c0_0] 25 (0, 0)) (bk BK369) hg (Kd.R_ne HO374.out BK369.out (by decide))); replace BK370 := am (blk_grown (g := gb370) (o := .cells #[.int .i64 a1_0, .int .i64 a1_1] 34 (0, 0)) (bk BK370) hg (Kd.R_away HO374.out (fun _ hk => hk.2))); replace BK371 := am (blk_grown (g := gb371) (o := .cells #[.slice none 0 0] 25 (0, 0)) (bk BK371) hg (Kd.R_ne HO374.out BK371.out (by decide))); replace BK375 := am (blk_grown (g := gb375) (o := .cells #[.slice Ao37 t372.length co37] 25 (0, 0)) (bk BK375) hg (Kd.R_ne HO374.out BK375.out (by decide))); replace HB := am hb; have HO379 := am (ho); clear HO374; clear ho hb hg hat; obtain ⟨Ao50, co50, eo50⟩ := Kd.R_slice HO379.out; subst eo50) | ((with_reducible refine gate_callee (f := 105) rfl ?_); refine gL (some 28) Tryz.func105 #[.slice Ao50 y377.length co50] ?_; (with_reducible refine (clip_end Ao50 y377.length co50 (Kd.R_reads' HO379.out).2.1 _).mono ?_); rintro e w51 ⟨v381, rfl, hv_, hw_⟩; refine ⟨_, rfl, ?_⟩; replace BK369 := bkW BK369 hw_; replace BK370 := bkW BK370 hw_; replace BK371 := bkW BK371 hw_; replace BK375 := bkW BK375 hw_; have HO382 := clipR (ok' := fun k_ => some k_ ≠ (.slice none 0 0 : Value).ownBlock ∧ k_ ≠ gb370) HO379 hv_ hw_ A28.out (fun k_ hk_ => by first | exact ⟨by simp [Value.ownBlock], hk_⟩ | (simp [Value.ownBlock]; done) | exact hk_); replace HO379 := clipNil HO379 w51 A28.out; replace HB := blW HB hw_; clear hv_ hw_; obtain ⟨Ao52, co52, eo52⟩ := Kd.R_slice HO382.out; subst eo52; have := bcell BK375 0; have := bfz BK375 0))
    have n0_ : Aside0 (Kd.R k34 34 (w51.setCell ⟨gb375, 0, none⟩ (.slice Ao52 t380.length co52)) w.heap.size (fun k_ => k_ ≠ gb370) (.slice none 0 0) t383) := ⟨by (with_reducible repeat apply ru); exact Kd.R_mono (Kd.R_far (p := ⟨gb375, 0, none⟩) (Kd.R_types HO379.out BK375.out (by decide)) (fun _ hk => hk.2) (.slice Ao52 t380.length co52)) (fun _ hk => hk.1)⟩
    have n1_ : Aside0 (Kd.R k34 34 (w51.setCell ⟨gb375, 0, none⟩ (.slice Ao52 t380.length co52)) w.heap.size (fun k_ => some k_ ≠ (.slice none 0 0 : Value).ownBlock ∧ k_ ≠ gb370) (.slice Ao52 t380.length co52) t380) := ⟨by (with_reducible repeat apply ru); exact Kd.R_mono (Kd.R_far (p := ⟨gb375, 0, none⟩) (Kd.R_types HO382.out BK375.out (by decide)) (fun _ hk => hk.2) (.slice Ao52 t380.length co52)) ok_⟩
    have n2_ : Aside0 ((w51.setCell ⟨gb375, 0, none⟩ (.slice Ao52 t380.length co52)).heap[gb369]? = some (.cells #[.slice A0_0 l0_0.length c0_0] 25 (0, 0))) := bf_ BK369
    have n3_ : Aside0 ((w51.setCell ⟨gb375, 0, none⟩ (.slice Ao52 t380.length co52)).heap[gb370]? = some (.cells #[.int .i64 a1_0, .int .i64 a1_1] 34 (0, 0))) := bf_ BK370
    have n4_ : Aside0 ((w51.setCell ⟨gb375, 0, none⟩ (.slice Ao52 t380.length co52)).heap[gb371]? = some (.cells #[.slice none 0 0] 25 (0, 0))) := bf_ BK371
    have n5_ : Aside0 ((w51.setCell ⟨gb375, 0, none⟩ (.slice Ao52 t380.length co52)).heap[gb375]? = some (.cells #[.slice Ao52 t380.length co52] 25 (0, 0))) := ⟨by (with_reducible repeat refine bu ?_); refine blk_put (cs := #[.slice Ao37 t372.length co37]) ?_ 0 _ rfl; (with_reducible repeat refine bu ?_); exact BK375.out⟩
    have n6_ : Aside0 (Below w.heap.size w (w51.setCell ⟨gb375, 0, none⟩ (.slice Ao52 t380.length co52))) := ⟨m2_⟩
    (try clear HO379)
    (try clear HO382)
    (try clear BK369)
    (try clear BK370)
    (try clear BK371)
    (try clear BK375)
    (try clear HB)
    generalize (w51.setCell ⟨gb375, 0, none⟩ (.slice Ao52 t380.length co52)) = w54 at n0_ n1_ n2_ n3_ n4_ n5_ n6_ ⊢
    have HO379 := n0_
    have HO382 := n1_
    have BK369 := n2_
    have BK370 := n3_
    have BK371 := n4_
    have BK375 := n5_
    have HB := n6_
    clear n0_ n1_ n2_ n3_ n4_ n5_ n6_
    replace HO379 := am (Kd.R_drew HO379.out)
    replace HO382 := am (Kd.R_drew HO382.out)
    replace BK369 := am (blk_drew BK369.out)
    replace BK370 := am (blk_drew BK370.out)
    replace BK371 := am (blk_drew BK371.out)
    replace BK375 := am (blk_drew BK375.out)
    replace HB := am (below_drew1 HB.out)
    refine start_ (n := 7) (S := fun w' => w'.cell? ⟨gb375, 0, none⟩ = some (.slice Ao52 t380.length co52) ∧ w'.cell? ⟨gb369, 0, none⟩ = some (.slice A0_0 l0_0.length c0_0)) (ds := []) #[false, false, false, false, false, false, false] (by kernel_rfl) rfl rfl ⟨bcell BK375 0, bcell BK369 0⟩ (fun hHeld => ?_)
    generalize w54.drew = w55 at HO379 HO382 BK369 BK370 BK371 BK375 HB hHeld ⊢
    refine pu_ 1 (some 31) (bm 7 2) ?_
    refine tk_ 0 (some 30) (bm 7 3) rfl (.inl ⟨rfl, m3_⟩) ?_
    refine tk_ 2 (some 32) (bm 7 7) rfl (.inl ⟨rfl, m3_⟩) ?_
    refine pu_ 3 (some 33) (bm 7 15) ?_
    refine pu_ 4 (some 34) (bm 7 31) ?_
    refine one_ (i := 5) (N := none) #[true, true, true, true, true, true, false] rfl rfl (by kernel_rfl) (by decide) (fun K hK => ?_)
    have : w55.cell? ⟨gb371, 0, none⟩ = some (.slice none 0 0) := bcell BK371 0
    have := bfz BK371 0
    have := NB369_371.out
    have := NB370_371.out
    have := NB375_371.out
    have := NB371_369.out
    have := NB371_370.out
    have := NB371_375.out
    refine skip_ (w1 := ?_) (by rfl) rfl ?_ ?_
    rotate_left
    ·go_simp
     rfl
    refine hK.out _ _ ⟨((cell_far (p := ⟨gb371, _, none⟩) NB375_371.out _).trans (hHeld.1)), ((cell_far (p := ⟨gb371, _, none⟩) NB369_371.out _).trans (hHeld.2))⟩ (fun hHeld => ?_)
    clear hK K
    refine pu_ 6 (some 5) (bm 7 127) ?_
    refine done_ (by kernel_rfl) ?_
    try go_wp2
    refine bodyPost_ret (results_ct rfl _ _ gb371 25 #[.slice Ao52 t380.length co52] (0, 0) _ rfl (by (with_reducible repeat refine bu ?_); refine blk_put (cs := #[.slice none 0 0]) ?_ 0 _ rfl; (with_reducible repeat refine bu ?_); exact BK371.out) Tryz.underlying25 rfl (by kernel_rfl)) rfl ?_
    exact ⟨_, fi_, by (with_reducible repeat apply ru); exact Kd.R_mono (Kd.R_far (p := ⟨gb371, 0, none⟩) (Kd.R_types HO382.out BK371.out (by decide)) (fun _ hk => hk.2) (.slice Ao52 t380.length co52)) (fun _ hk => trivial), m2_⟩
   ·rw [if_neg c27] at H
    exact absurd H (by simp)
 ·rw [if_neg c5] at H
  have c5b0 : (t376 == 0) = false := beq_eq_false_iff_ne.mpr c5
  have c5b1 : (t376 != 0) = true := bne_iff_ne.mpr c5
  simp only [Option.some.injEq, Prod.mk.injEq] at H
  obtain ⟨rfl, rfl⟩ := H
  go_enter Tryz.func78, Tryz.ntmps78
  go_wp2_with (first | ((with_reducible refine gate_dst (N := 2) rfl ?_); refine box_event rfl (N := 2) rfl (cs := #[.slice A0_0 l0_0.length c0_0]) (t := 25) hr_ ?_; intro gb369 hg w57 hbox hb; have BK369 := am hbox; have GW369 := gwE HB hg; have GE369 := gwE HB hg; replace HB := hbS HB hb; clear hb hbox hg) | ((with_reducible refine gate_dst (N := 3) rfl ?_); refine box_event rfl (N := 3) rfl (cs := #[.int .i64 a1_0, .int .i64 a1_1]) (t := 34) hr_ ?_; intro gb370 hg w58 hbox hb; have BK370 := am hbox; have GW370 := gwE HB hg; have GE370 := gwE HB hg; replace HB := hbS HB hb; have NB369_370 := neL BK369 hg; have NB370_369 := neG BK369 hg; replace BK369 := bkB BK369 hb; clear hb hbox hg) | ((with_reducible refine gate_dst (N := 4) rfl ?_); refine box_event rfl (N := 4) rfl (cs := #[.slice none 0 0]) (t := 25) hr_ ?_; intro gb371 hg w59 hbox hb; have BK371 := am hbox; have GW371 := gwE HB hg; have GE371 := gwE HB hg; replace HB := hbS HB hb; have NB369_371 := neL BK369 hg; have NB371_369 := neG BK369 hg; replace BK369 := bkB BK369 hb; have NB370_371 := neL BK370 hg; have NB371_370 := neG BK370 hg; replace BK370 := bkB BK370 hb; clear hb hbox hg; have := NB369_370.out; have := NB370_369.out; have := NB369_371.out; have := NB371_369.out; have := bcell BK369 0; have := bfz BK369 0) | ((with_reducible refine gate_callee (f := 77) rfl ?_); refine gL (some 9) Tryz.func77 #[.agg #[.slice A0_0 l0_0.length c0_0]] ?_; (with_reducible refine (impl_MapTab_copied.calls _ _ l0_0 t372 _ ?side1 ?side2 A3.out).mono ?_); (case side1 => exact m4_); (case side2 => exact HC0_0.out); rintro e w63 ⟨v373, rfl, ho0, hb⟩; refine ⟨_, rfl, ?_⟩; have HO374 := am (Kd.R_lower (Kd.R_newB ho0 (g := gb370) (o := .cells #[.int .i64 a1_0, .int .i64 a1_1] 34 (0, 0)) (bk BK370)) (below_size (bl HB))); replace BK369 := bkB BK369 hb; replace BK370 := bkB BK370 hb; replace BK371 := bkB BK371 hb; replace HB := hbS HB hb; (try clear hb); (try clear ho0)) | ((with_reducible refine gate_dst (N := 6) rfl ?_); refine box_event rfl (N := 6) rfl (cs := #[.slice none 0 0]) (t := 25) hr_ ?_; intro gb375 hg w64 hbox hb; replace HO374 := am (Kd.R_below (rs HO374) hb); have BK375 := am hbox; have GW375 := gwE HB hg; have GE375 := gwE HB hg; replace HB := hbS HB hb; have NB369_375 := neL BK369 hg; have NB375_369 := neG BK369 hg; replace BK369 := bkB BK369 hb; have NB370_375 := neL BK370 hg; have NB375_370 := neG BK370 hg; replace BK370 := bkB BK370 hb; have NB371_375 := neL BK371 hg; have NB375_371 := neG BK371 hg; replace BK371 := bkB BK371 hb; clear hb hbox hg; obtain ⟨Ao65, co65, eo65⟩ := Kd.R_slice HO374.out; subst eo65; have := NB375_369.out; have := NB369_375.out; have := NB375_370.out; have := NB370_375.out; have := NB375_371.out; have := NB371_375.out; have := bcell BK375 0; have := bfz BK375 0; have := bcell BK369 0; have := bfz BK369 0; have := NB370_371.out; have := NB371_370.out; have := bcell BK370 0; have := bcell BK370 1; have := bfz BK370 0; have := bfz BK370 1) | ((with_reducible refine gate_callee (f := 23) rfl ?_); refine gL (some 12) Tryz.func23 #[.agg #[.slice A0_0 l0_0.length c0_0], .agg #[.int .i64 a1_0, .int .i64 a1_1]] ?_; (with_reducible refine (impl_MapPort.calls _ _ l0_0 a1_0 a1_1 t376 _ (Kd.C_below HR0_0.out (bl HB)) HC0_0.out A4.out).mono ?_); rintro e w73 ⟨rfl, hb⟩; refine ⟨_, rfl, ?_⟩; replace HO374 := am (Kd.R_below (by (with_reducible repeat apply ru); exact (Kd.R_mono (Kd.R_far (p := ⟨gb375, 0, none⟩) (Kd.R_types HO374.out BK375.out (by decide)) (fun _ hk => hk.2) (.slice Ao65 t372.length co65)) (fun _ h_ => h_.1))) hb); replace BK369 := am (blk_below (g := gb369) (o := .cells #[.slice A0_0 l0_0.length c0_0] 25 (0, 0)) (by (with_reducible repeat refine bu ?_); refine blk_far ?_ NB369_375.out _; (with_reducible repeat refine bu ?_); exact BK369.out) hb); replace BK370 := am (blk_below (g := gb370) (o := .cells #[.int .i64 a1_0, .int .i64 a1_1] 34 (0, 0)) (by (with_reducible repeat refine bu ?_); refine blk_far ?_ NB370_375.out _; (with_reducible repeat refine bu ?_); exact BK370.out) hb); replace BK371 := am (blk_below (g := gb371) (o := .cells #[.slice none 0 0] 25 (0, 0)) (by (with_reducible repeat refine bu ?_); refine blk_far ?_ NB371_375.out _; (with_reducible repeat refine bu ?_); exact BK371.out) hb); replace BK375 := am (blk_below (g := gb375) (o := .cells #[.slice Ao65 t372.length co65] 25 (0, 0)) (by (with_reducible repeat refine bu ?_); refine blk_put (cs := #[.slice none 0 0]) ?_ 0 _ rfl; (with_reducible repeat refine bu ?_); exact BK375.out) hb); replace HB := hbS HB hb; (try clear hb); (try clear hk); have := bcell BK375 0; have := bfz BK375 0; have := bcell BK371 0; have := bfz BK371 0))
  refine bodyPost_ret (results_ct rfl _ _ gb371 25 #[.slice Ao65 t372.length co65] (0, 0) _ rfl (by (with_reducible repeat refine bu ?_); refine blk_put (cs := #[.slice none 0 0]) ?_ 0 _ rfl; (with_reducible repeat refine bu ?_); exact BK371.out) Tryz.underlying25 rfl (by kernel_rfl)) rfl ?_
  exact ⟨_, fi_, by (with_reducible repeat apply ru); exact Kd.R_mono (Kd.R_far (p := ⟨gb371, 0, none⟩) (Kd.R_types HO374.out BK371.out (by decide)) (fun _ hk => hk.2) (.slice Ao65 t372.length co65)) (fun _ hk => trivial), m2_⟩
end
end Go.Proofs.YtffmbccgcaghjaaGreatDoor.P
