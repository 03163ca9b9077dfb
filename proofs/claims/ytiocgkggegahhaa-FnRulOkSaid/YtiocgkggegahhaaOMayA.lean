/- The pieces of impl.may: an iterator over rules from behind; a chain of closures. -/
import Derived.Test.YtiocgkggegahhaaOMath1
import Derived.RangeFuncNested
import Derived.RangeFuncBound
import Derived.RangeFuncCalls
import Derived.RangeFuncLeaves
import Derived.Shelf.Abstract
import Derived.OwnWalkIn
import Derived.TacticsInMore
import Derived.LoopNIn
import Derived.LoopIn
import Derived.Lib.Hide
namespace Go.Proofs.Ytiocgkggegahhaa.P
open Go.RowKit Go.Shelf Go.Proofs.YtiocgkggegahhaaW.PrintWords Go.Proofs.YtiocgkggegahhaaW.PrintLast Go.Proofs.YtiocgkggegahhaaW.PrintMore
set_option linter.unusedVariables false
set_option linter.unusedSimpArgs false
attribute [local go_sem] Oper.semAt_some

def ruleV (x : S24) : Value := .agg #[.bool x.f0, .int .i64 x.f1, .int .i64 x.f2, .int .i64 x.f3, .int .i64 x.f4, .int .i64 x.f5, .int .i64 x.f6]

/-- What lay below n₀ lies as it lay, and so does block b. -/
def KpM (n₀ b : Nat) (W W' : World) : Prop := Below n₀ W W' ∧ W'.heap[b]? = W.heap[b]?
theorem KpM.trans {n₀ b : Nat} {A B C : World} (h : KpM n₀ b A B) (k : KpM n₀ b B C) : KpM n₀ b A C := ⟨h.1.trans k.1, k.2.trans h.2⟩
theorem KpM.refl (n₀ b : Nat) (W : World) : KpM n₀ b W W := ⟨Below.refl _ _, rfl⟩
theorem KpM.cell {n₀ b : Nat} {A B : World} (h : KpM n₀ b A B) {j : Nat} {v : Value} (hc : A.cell? ⟨b, j, none⟩ = some v) : B.cell? ⟨b, j, none⟩ = some v := by
  unfold World.cell? at hc ⊢
  rw [h.2]
  exact hc

set_option maxRecDepth 100000 in
set_option maxHeartbeats 2000000 in
theorem backward1 (l Bs n₀ : Nat) (A0 : Option Addr) (c0 : Nat) (l0 : List S24) (w0 : World) (hn : w0.heap.size = n₀) (hC : Kd.C k24 w0 A0 l0.length l0) (J Jx : List (Int × S24) → World → Prop)
    (hY : ∀ pre x W, J pre W → pre.length < l0.length → YieldAt Fence.wide 7 Try.prog l #[.int .i64 x.1, ruleV x.2] W fun e W' =>
      (e = .returned (.bool true) ∧ J (pre ++ [x]) W' ∧ KpM n₀ Bs W W') ∨ (e = .returned (.bool false) ∧ Jx (pre ++ [x]) W'))
    (W : World) (hW0 : Below n₀ w0 W) (hBs : W.cell? ⟨Bs, 0, none⟩ = some (.slice A0 l0.length c0)) (h0 : J [] W) :
    CallsIn Fence.wide 8 Try.prog 101 #[.func (.yield l) #[] #[], .pointer (some ⟨Bs, 0, none⟩)] W fun e W' => (∃ v, e = .returned v) ∧
      ((∃ ys, ys.map (·.2) = l0.reverse ∧ J ys W') ∨ (∃ pre, True ∧ Jx pre W')) := by
  have hlen : l0.length ≤ 9223372036854775807 := hC.2.1
  have HC := Lib.hid hC
  have HW := Lib.hid hW0
  have HN := Lib.hid hn
  clear hC hW0 hn
  refine callsIn_of_wp Try.func101 rfl trivial ?_ rfl
  simp only [Try.ntmps101, List.size_toArray, List.length_cons, List.length_nil, Nat.reduceAdd, Nat.reduceSub, Array.replicate_succ, Array.replicate_zero, List.push_toArray, List.append_toArray, List.nil_append, List.cons_append]
  gi_wp2
  gi_loopw [3] (fun v wr => ∃ (i : Int) (pre : List (Int × S24)), -1 ≤ i ∧ i < l0.length ∧ v = .int .i64 i ∧ Aside0 (pre.map (·.2) = (l0.drop (i + 1).toNat).reverse) ∧ Aside0 (J pre wr) ∧ Aside0 (KpM n₀ Bs W wr)) (fun v _ => (intOf v + 1).toNat)
  case atStart => exact ⟨(l0.length : Int) - 1, [], by omega, by omega, rfl, ⟨by simp⟩, ⟨h0⟩, ⟨KpM.refl _ _ _⟩⟩
  case round =>
    obtain ⟨i, pre, hi0, hi1, rfl, hp, hj, hb⟩ := hrel
    by_cases hlt : 0 ≤ i
    · have hb0 : Below w0.heap.size w0 wr := by rw [HN.out]; exact HW.out.trans hb.out.1
      obtain ⟨ad, e, c0', c1, c2, c3, c4, c5, c6⟩ := at_T24 (Kd.C_below HC.out hb0) i hlt (by omega)
      obtain ⟨k, rfl⟩ := Int.eq_ofNat_of_zero_le hlt
      have hkl : k < l0.length := by omega
      have hdr : l0.drop k = l0[k] :: l0.drop (k + 1) := List.drop_eq_getElem_cons hkl
      have hx0 : rd_T24 l0 k = l0[k] := by simp [rd_T24, List.getD_eq_getElem?_getD, hkl]
      obtain ⟨x, hx⟩ : ∃ x, rd_T24 l0 k = x := ⟨_, rfl⟩
      have hpl : pre.length < l0.length := by
        have := congrArg List.length hp.out
        simp only [List.length_map, List.length_reverse, List.length_drop] at this
        omega
      have hpx : ∀ y : Int, (pre ++ [(y, x)]).map (·.2) = (l0.drop k).reverse := fun y => by
        rw [List.map_append, hp.out, hdr, List.reverse_cons, ← hx0, hx]
        have : ((k : Int) + 1).toNat = k + 1 := by omega
        rw [this]; rfl
      rw [hx] at c0' c1 c2 c3 c4 c5 c6
      rw [Int.toNat_natCast] at c0' c1 c2 c3 c4 c5 c6
      have hbs : wr.cell? ⟨Bs, 0, none⟩ = some (.slice A0 l0.length c0) := hb.out.cell hBs
      have HP := Lib.hid hpx
      have HPL := Lib.hid hp
      clear hp hpx hx hx0 hdr hBs hb0
      obtain ⟨fn, tmps, assign, body, hy, hR⟩ := hY pre ((k : Int), x) wr hj.out hpl
      cases e
      dsimp only [ruleV] at hy
      gi_wp2
      refine hR.mono ?_
      rintro e W3 (⟨rfl, hJ3, hk3⟩ | ⟨rfl, hJx3⟩)
      · have HJ3 := Aside0.mk hJ3
        clear hJ3
        gi_wp2
        go_roundw
        case rel => exact ⟨(k : Int) - 1, pre ++ [((k : Int), x)], by omega, by omega, rfl, ⟨by rw [HP.out]; congr 2; omega⟩, HJ3, ⟨hb.out.trans hk3⟩⟩
        case measure => simp [intOf]
      · gi_wp2
        refine bodyPost_ret (results_none rfl _ _ _) rfl ?_
        exact ⟨⟨_, rfl⟩, .inr ⟨_, trivial, hJx3⟩⟩
    · have hi : i = -1 := by omega
      subst hi
      gi_wp2
      go_end0
      exact ⟨⟨_, rfl⟩, .inl ⟨pre, by rw [hp.out]; simp, hj.out⟩⟩

/-- A function value that tells whether two may send to each other, by rules; its blocks lie behind block lo. -/
def IsChk (lo : Nat) (w : World) : List S24 → Value → Prop
  | [], v => v = .func (.func 86) #[] #[]
  | x :: r, v => ∃ (b1 b2 : Nat) (v' : Value), v = .func (.func 102) #[] #[.pointer (some ⟨b1, 0, none⟩), .pointer (some ⟨b2, 0, none⟩)] ∧ (lo < b1 ∧ lo < b2) ∧
      w.heap[b1]? = some (.cells #[.bool x.f0, .int .i64 x.f1, .int .i64 x.f2, .int .i64 x.f3, .int .i64 x.f4, .int .i64 x.f5, .int .i64 x.f6] 24 (0, 0)) ∧
      w.heap[b2]? = some (.cells #[v'] 106 (0, 0)) ∧ IsChk lo w r v'
theorem IsChk.move {lo : Nat} {w w' : World} (h : ∀ i c t f, lo < i → w.heap[i]? = some (.cells c t f) → w'.heap[i]? = w.heap[i]?) : ∀ {l : List S24} {v : Value}, IsChk lo w l v → IsChk lo w' l v
  | [], _, hv => hv
  | x :: r, _, ⟨b1, b2, v', e, ⟨l1, l2⟩, h1, h2, hr⟩ => ⟨b1, b2, v', e, ⟨l1, l2⟩, (h b1 _ _ _ l1 h1).trans h1, (h b2 _ _ _ l2 h2).trans h2, hr.move h⟩
theorem IsChk.below {lo : Nat} {w w' : World} (h : Below w.heap.size w w') {l : List S24} {v : Value} (hv : IsChk lo w l v) : IsChk lo w' l v := hv.move fun i _ _ _ _ hi => h.block i (Array.getElem?_eq_some_iff.1 hi).1

theorem within_any (n lo hi : Int) (w : World) : Calls Try.prog 82 #[.int .i64 n, .int .i64 lo, .int .i64 hi] w fun e w' => e = .returned (.bool (inB n lo hi)) ∧ Drawn0 w w' :=
  impl_within.calls n lo hi _ w (within_f n lo hi)

def BoolPostM (b : Bool) (w : World) (e : Ending) (w' : World) : Prop := e = .returned (.bool b) ∧ Below w.heap.size w w'
set_option maxRecDepth 100000 in
theorem may1 (a p b q : Int) (w : World) : Calls Try.prog 86 #[.agg #[.int .i64 a, .int .i64 p], .agg #[.int .i64 b, .int .i64 q]] w (BoolPostM true w) := by
  go_enter Try.func86, Try.ntmps86
  go_wp2
  go_ret
  exact ⟨rfl, ((Below.refl _ _).alloc (Nat.le_refl _) _).alloc (by simp) _⟩

theorem below_alloc2 (w : World) (o1 o2 : Obj) : Below w.heap.size w ((w.alloc o1).alloc o2) := ((Below.refl _ _).alloc (Nat.le_refl _) _).alloc (by simp) _

set_option maxRecDepth 100000 in
set_option maxHeartbeats 4000000 in
theorem ahead_nil (res : Bool) (a p b q : Int) (x : S24) (b1 b2 : Nat) (w : World)
    (HRES : Aside0 (res = if fits x a b q then x.f0 else true))
    (h1 : w.heap[b1]? = some (.cells #[.bool x.f0, .int .i64 x.f1, .int .i64 x.f2, .int .i64 x.f3, .int .i64 x.f4, .int .i64 x.f5, .int .i64 x.f6] 24 (0, 0)))
    (h2 : w.heap[b2]? = some (.cells #[.func (.func 86) #[] #[]] 106 (0, 0))) :
    Calls Try.prog 102 #[.agg #[.int .i64 a, .int .i64 p], .agg #[.int .i64 b, .int .i64 q], .pointer (some ⟨b1, 0, none⟩), .pointer (some ⟨b2, 0, none⟩)] w (BoolPostM res w) := by
  have c0 := blk_cell h1 0
  have c1 := blk_cell h1 1
  have c2 := blk_cell h1 2
  have c3 := blk_cell h1 3
  have c4 := blk_cell h1 4
  have c5 := blk_cell h1 5
  have c6 := blk_cell h1 6
  have d0 := blk_cell h2 0
  have hl1 := blk_lt h1
  have hl2 := blk_lt h2
  clear h1 h2
  simp only [List.getElem?_toArray, List.getElem?_cons_zero, List.getElem?_cons_succ] at c0 c1 c2 c3 c4 c5 c6 d0
  cases f1 : inB a x.f1 x.f2 <;> cases f2 : inB b x.f3 x.f4 <;> cases f3 : inB q x.f5 x.f6
  all_goals
    have HFT := Lib.hid (show fits x a b q = _ by unfold fits; rw [f1, f2, f3])
    go_enter Try.func102, Try.ntmps102
    go_wp2_with (first | (go_at_call 82; refine (within_any _ _ _ _).mono ?_; rintro e w' ⟨rfl, ⟨nq, rfl⟩⟩) | (go_at_call 86; refine (may1 a p b q _).mono ?_; rintro e w' ⟨rfl, hb⟩))
    go_ret
    rw [HRES.out, HFT.out]
    first
      | exact ⟨rfl, pw_below_drewN (below_alloc2 w _ _) _⟩
      | exact ⟨rfl, (below_alloc2 w _ _).trans (((pw_below_drewN (Below.refl _ _) _).trans (hb.mono (by simp))).mono (by simp))⟩
      | exact ⟨rfl, (pw_below_drewN (below_alloc2 w _ _) _).trans (hb.mono (by simp; omega))⟩

set_option maxRecDepth 100000 in
set_option maxHeartbeats 4000000 in
theorem ahead_cons (res : Bool) (a p b q : Int) (x : S24) (b1 b2 : Nat) (w : World) (a1 a2 : Option Addr) (nx : Bool) (HN : Aside0 (∀ w', Below w.heap.size w w' → Calls Try.prog 102 #[.agg #[.int .i64 a, .int .i64 p], .agg #[.int .i64 b, .int .i64 q], .pointer a1, .pointer a2] w' (BoolPostM nx w')))
    (HRES : Aside0 (res = if fits x a b q then x.f0 else nx))
    (h1 : w.heap[b1]? = some (.cells #[.bool x.f0, .int .i64 x.f1, .int .i64 x.f2, .int .i64 x.f3, .int .i64 x.f4, .int .i64 x.f5, .int .i64 x.f6] 24 (0, 0)))
    (h2 : w.heap[b2]? = some (.cells #[.func (.func 102) #[] #[.pointer a1, .pointer a2]] 106 (0, 0))) :
    Calls Try.prog 102 #[.agg #[.int .i64 a, .int .i64 p], .agg #[.int .i64 b, .int .i64 q], .pointer (some ⟨b1, 0, none⟩), .pointer (some ⟨b2, 0, none⟩)] w (BoolPostM res w) := by
  have c0 := blk_cell h1 0
  have c1 := blk_cell h1 1
  have c2 := blk_cell h1 2
  have c3 := blk_cell h1 3
  have c4 := blk_cell h1 4
  have c5 := blk_cell h1 5
  have c6 := blk_cell h1 6
  have d0 := blk_cell h2 0
  have hl1 := blk_lt h1
  have hl2 := blk_lt h2
  clear h1 h2
  simp only [List.getElem?_toArray, List.getElem?_cons_zero, List.getElem?_cons_succ] at c0 c1 c2 c3 c4 c5 c6 d0
  cases f1 : inB a x.f1 x.f2 <;> cases f2 : inB b x.f3 x.f4 <;> cases f3 : inB q x.f5 x.f6
  all_goals
    have HFT := Lib.hid (show fits x a b q = _ by unfold fits; rw [f1, f2, f3])
    go_enter Try.func102, Try.ntmps102
    go_wp2_with (first | (go_at_call 82; refine (within_any _ _ _ _).mono ?_; rintro e w' ⟨rfl, ⟨nq, rfl⟩⟩) | (go_at_call 102; refine (HN.out _ (pw_below_drewN (below_alloc2 w _ _) _)).mono ?_; rintro e w' ⟨rfl, hb⟩))
    go_ret
    rw [HRES.out, HFT.out]
    first
      | exact ⟨rfl, pw_below_drewN (below_alloc2 w _ _) _⟩
      | exact ⟨rfl, (below_alloc2 w _ _).trans (((pw_below_drewN (Below.refl _ _) _).trans (hb.mono (by simp))).mono (by simp))⟩
      | exact ⟨rfl, (pw_below_drewN (below_alloc2 w _ _) _).trans (hb.mono (by simp; omega))⟩
end Go.Proofs.Ytiocgkggegahhaa.P
