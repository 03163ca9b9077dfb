import Derived.Test.YtffmbccgcaghjaaGreatDoorGLawFnExactRwrStreamx1
namespace Go.Proofs.YtffmbccgcaghjaaGreatDoor.P
open Go.Proofs.YtffmbccgcaghjaaGreatDoorUFnExactRwrStream.PrintLast Go.Proofs.YtffmbccgcaghjaaGreatDoorUFnExactRwrStream.PrintMore Go.Proofs.YtffmbccgcaghjaaGreatDoorUFnExactRwrStream.PrintWords Go.RowKit
set_option linter.unusedVariables false
set_option linter.unusedSimpArgs false
theorem fnd_nil (a b : Int) : fnd [] a b = none := rfl
theorem fnd_cons (x : S34) (r : List S34) (a b : Int) : fnd (x :: r) a b = if x.f0 = a ∧ x.f1 = b then some 0 else (fnd r a b).map (· + 1) := by
  unfold fnd
  rw [List.findIdx?_cons]
  by_cases h : x.f0 = a ∧ x.f1 = b
  · simp [h]
  · rw [if_neg h]
    have : (x.f0 == a && x.f1 == b) = false := by
      rw [Bool.eq_false_iff]
      simpa using h
    simp [this]
theorem fnd_lt {l : List S34} {a b : Int} {i : Nat} (h : fnd l a b = some i) : i < l.length ∧ ∀ hi : i < l.length, l[i].f0 = a ∧ l[i].f1 = b := by
  unfold fnd at h
  rw [List.findIdx?_eq_some_iff_getElem] at h
  obtain ⟨h1, h2, _⟩ := h
  exact ⟨h1, fun _ => by simpa using h2⟩
theorem fnd_app (l r : List S34) (a b : Int) : fnd (l ++ r) a b = (match fnd l a b with | some i => some i | none => (fnd r a b).map (· + l.length)) := by
  unfold fnd
  rw [List.findIdx?_append]
  cases l.findIdx? (fun x => x.f0 == a && x.f1 == b) <;> simp
theorem fnd_mem {l : List S34} {x : S34} (h : x ∈ l) : (fnd l x.f0 x.f1).isSome = true := by
  unfold fnd
  rw [List.findIdx?_isSome]
  exact List.any_eq_true.mpr ⟨x, h, by simp⟩
def sign (o : Option Nat) : Int := match o with | none => -1 | some i => (i : Int)
theorem rd29_drop {l : List S34} {i : Nat} (h : i < l.length) : l.drop i = rd_T34 l (i : Int) :: l.drop (i + 1) := by
  rw [rd29_get h]
  exact List.drop_eq_getElem_cons h
theorem rd29_take {l : List S34} {i : Nat} (h : i < l.length) : l.take (i + 1) = l.take i ++ [rd_T34 l (i : Int)] := by
  rw [rd29_get h]
  exact List.take_succ_eq_append_getElem h
theorem l3Find_a (l : List S34) (hl : l.length ≤ 2000000) (a b : Int) : Ans (fun k => spec_l3Find.f k l a b) (fun r => r = sign (fnd l a b)) := by
  have L : ∀ (m i : Nat), i + m = l.length → fnd (l.take i) a b = none → Ans (fun k => spec_l3Find.l0 k (i : Int) l a b) (fun r => r = sign (fnd l a b)) := by
    intro m
    induction m with
    | zero =>
      intro i hi hn
      refine Ans.succ ?_
      unfold spec_l3Find.l0
      rw [List.take_of_length_le (by omega)] at hn
      exact Ans.neg (by omega) (Ans.pure (by rw [hn]; rfl))
    | succ m ih =>
      intro i hi hn
      refine Ans.succ ?_
      unfold spec_l3Find.l0
      refine Ans.pos (by omega) (Ans.pos (by omega) ?_)
      have ht : fnd (l.take (i + 1)) a b = if (rd_T34 l (i : Int)).f0 = a ∧ (rd_T34 l (i : Int)).f1 = b then some i else none := by
        rw [rd29_take (by omega : i < l.length), fnd_app, hn, fnd_cons]
        have : (l.take i).length = i := by rw [List.length_take]; omega
        dsimp only
        by_cases hc : (rd_T34 l (i : Int)).f0 = a ∧ (rd_T34 l (i : Int)).f1 = b <;> simp [hc, this, fnd_nil]
      refine Ans.ite (fun c => Ans.pure ?_) (fun c => ?_)
      · have c' : (rd_T34 l (i : Int)).f0 = a ∧ (rd_T34 l (i : Int)).f1 = b := by simpa using c
        rw [if_pos c'] at ht
        have := List.take_append_drop (i + 1) l
        rw [← this, fnd_app, ht]
        rfl
      · have c' : ¬ ((rd_T34 l (i : Int)).f0 = a ∧ (rd_T34 l (i : Int)).f1 = b) := by simpa using c
        rw [if_neg c'] at ht
        rw [wi i (by omega)]
        exact ih (i + 1) (by omega) ht
  exact L l.length 0 (by omega) rfl
theorem contains_a (l : List S34) (hl : l.length ≤ 2000000) (a b : Int) : Ans (fun k => impl_EndPoint_53.f k l a b) (fun r => r = (fnd l a b).isSome) := by
  unfold impl_EndPoint_53.f impl_EndPoint_86.f
  have L : ∀ (m i : Nat), i + m = l.length → fnd (l.take i) a b = none → Ans (fun k => impl_EndPoint_86.l0 k l (l.length : Int) (i : Int) a b) (fun r => r = sign (fnd l a b)) := by
    intro m
    induction m with
    | zero =>
      intro i hi hn
      refine Ans.succ ?_
      unfold impl_EndPoint_86.l0
      rw [List.take_of_length_le (by omega)] at hn
      exact Ans.neg (by omega) (Ans.pure (by rw [hn]; rfl))
    | succ m ih =>
      intro i hi hn
      refine Ans.succ ?_
      unfold impl_EndPoint_86.l0
      refine Ans.pos (by omega) (Ans.pos (by omega) (Ans.pos (by omega) ?_))
      have ht : fnd (l.take (i + 1)) a b = if (rd_T34 l (i : Int)).f0 = a ∧ (rd_T34 l (i : Int)).f1 = b then some i else none := by
        rw [rd29_take (by omega : i < l.length), fnd_app, hn, fnd_cons]
        have : (l.take i).length = i := by rw [List.length_take]; omega
        dsimp only
        by_cases hc : (rd_T34 l (i : Int)).f0 = a ∧ (rd_T34 l (i : Int)).f1 = b <;> simp [hc, this, fnd_nil]
      refine Ans.ite (fun c => Ans.pure ?_) (fun c => ?_)
      · have c' : (rd_T34 l (i : Int)).f0 = a ∧ (rd_T34 l (i : Int)).f1 = b := by
          simp only [Bool.and_eq_true, beq_iff_eq] at c
          exact ⟨c.1.symm, c.2.symm⟩
        rw [if_pos c'] at ht
        have := List.take_append_drop (i + 1) l
        rw [← this, fnd_app, ht]
        rfl
      · have c' : ¬ ((rd_T34 l (i : Int)).f0 = a ∧ (rd_T34 l (i : Int)).f1 = b) := by
          rintro ⟨h1, h2⟩
          exact c (by rw [h1, h2]; simp)
        rw [if_neg c'] at ht
        rw [wi i (by omega)]
        exact ih (i + 1) (by omega) ht
  refine Ans.bind (L l.length 0 (by omega) rfl) ?_
  rintro _ rfl
  refine Ans.pure ?_
  cases fnd l a b with
  | none => rfl
  | some i => simp [sign]
def goodFrom (l : List S34) (i : Nat) : Bool := (List.range' i (l.length - i)).all fun j => endIn (rd_T34 l (j : Int)).f0 (rd_T34 l (j : Int)).f1 && !(fnd (l.take j) (rd_T34 l (j : Int)).f0 (rd_T34 l (j : Int)).f1).isSome
def okT (l : List S34) : Bool := decide ((l.length : Int) ≤ 6) && goodFrom l 0
theorem good_end {l : List S34} {i : Nat} (h : l.length ≤ i) : goodFrom l i = true := by
  unfold goodFrom
  rw [Nat.sub_eq_zero_of_le h]
  rfl
theorem good_step {l : List S34} {i : Nat} (h : i < l.length) : goodFrom l i = (endIn (rd_T34 l (i : Int)).f0 (rd_T34 l (i : Int)).f1 && !(fnd (l.take i) (rd_T34 l (i : Int)).f0 (rd_T34 l (i : Int)).f1).isSome && goodFrom l (i + 1)) := by
  unfold goodFrom
  obtain ⟨d, hd⟩ : ∃ d, l.length - i = d + 1 := ⟨l.length - i - 1, by omega⟩
  have hd' : l.length - (i + 1) = d := by omega
  rw [hd, hd', List.range'_succ, List.all_cons]
theorem specMapOk_a (l : List S34) (hl : l.length ≤ 2000000) : Ans (fun k => spec_MapOk.f k l) (fun r => r = okT l) := by
  unfold spec_MapOk.f okT
  refine Ans.ite (fun c => Ans.pure ?_) (fun c => ?_)
  · have : ¬ ((l.length : Int) ≤ 6) := by omega
    simp [this]
  · have e : decide ((l.length : Int) ≤ 6) = true := by simp; omega
    rw [e]
    have L : ∀ (m i : Nat), i + m = l.length → Ans (fun k => spec_MapOk.l0 k (i : Int) l) (fun r => r = goodFrom l i) := by
      intro m
      induction m with
      | zero =>
        intro i hi
        refine Ans.succ ?_
        unfold spec_MapOk.l0
        exact Ans.neg (by omega) (Ans.pure (good_end (by omega)).symm)
      | succ m ih =>
        intro i hi
        refine Ans.succ ?_
        unfold spec_MapOk.l0
        refine Ans.pos (by omega) (Ans.pos (by omega) ?_)
        rw [good_step (by omega : i < l.length)]
        simp only [specEndInside_f, Option.bind_some]
        have e1 : ((i : Int)).toNat = i := by omega
        cases h1 : endIn (rd_T34 l (i : Int)).f0 (rd_T34 l (i : Int)).f1
        · exact Ans.neg (by simp) (Ans.pure (by simp))
        refine Ans.pos rfl (Ans.pos (by omega) ?_)
        rw [e1, wi i (by omega)]
        refine Ans.bind (l3Find_a (l.take i) (by rw [List.length_take]; omega) _ _) ?_
        rintro _ rfl
        cases hf : fnd (l.take i) (rd_T34 l (i : Int)).f0 (rd_T34 l (i : Int)).f1 with
        | none =>
          refine Ans.neg (by simp [sign]) ?_
          simpa using ih (i + 1) (by omega)
        | some j => exact Ans.pos (by simp [sign]) (Ans.pure (by simp))
    simpa using L l.length 0 (by omega)
theorem implMapOk_a (l : List S34) (hl : l.length ≤ 2000000) : Ans (fun k => impl_MapOk.f k l) (fun r => r = okT l) := by
  unfold impl_MapOk.f
  have L : ∀ (m i : Nat), i + m = l.length → Ans (fun k => impl_MapOk.l0 k l (l.length : Int) (i : Int) l) (fun r => r = (decide ((l.length : Int) ≤ 6) && goodFrom l i)) := by
    intro m
    induction m with
    | zero =>
      intro i hi
      refine Ans.succ ?_
      unfold impl_MapOk.l0
      exact Ans.neg (by omega) (Ans.pure (by rw [good_end (by omega)]; simp))
    | succ m ih =>
      intro i hi
      refine Ans.succ ?_
      unfold impl_MapOk.l0
      refine Ans.pos (by omega) (Ans.pos (by omega) (Ans.pos (by omega) ?_))
      rw [good_step (by omega : i < l.length)]
      simp only [EndInside_f, Option.bind_some]
      have e1 : ((i : Int)).toNat = i := by omega
      cases h1 : endIn (rd_T34 l (i : Int)).f0 (rd_T34 l (i : Int)).f1
      · exact Ans.neg (by simp) (Ans.pure (by simp))
      refine Ans.pos rfl (Ans.pos (by omega) ?_)
      rw [e1, wi i (by omega)]
      refine Ans.bind (contains_a (l.take i) (by rw [List.length_take]; omega) _ _) ?_
      rintro _ rfl
      cases hf : fnd (l.take i) (rd_T34 l (i : Int)).f0 (rd_T34 l (i : Int)).f1 with
      | none =>
        refine Ans.neg (by simp) ?_
        simpa using ih (i + 1) (by omega)
      | some j => exact Ans.pos (by simp) (Ans.pure (by simp))
  exact L l.length 0 (by omega)
def putV (l : List S34) (a b : Int) : List S34 × Int := if portV l a b ≠ 0 then (l, portV l a b) else if l.length = 6 then (l, 0) else (l ++ [⟨a, b⟩], 500 + l.length)
def tabPut (l : List S34) (a b : Int) : List S34 × Int := if okT l && endIn a b then putV l a b else ([], 0)
theorem portV_sign (l : List S34) (a b : Int) : portV l a b = if sign (fnd l a b) < 0 then 0 else 500 + sign (fnd l a b) := by
  unfold portV sign
  cases fnd l a b with
  | none => simp
  | some i =>
    have : ¬ ((i : Int) < 0) := by omega
    simp [this]
theorem sign_lt {l : List S34} (hl : l.length ≤ 2000000) (a b : Int) : -1 ≤ sign (fnd l a b) ∧ sign (fnd l a b) < 2000000 := by
  cases h : fnd l a b with
  | none => simp [sign]
  | some i => have := (fnd_lt h).1; simp only [sign]; omega
theorem portV_range {l : List S34} (hl : l.length ≤ 2000000) (a b : Int) : portV l a b = 0 ∨ (500 ≤ portV l a b ∧ portV l a b < 500 + l.length) := by
  unfold portV
  cases h : fnd l a b with
  | none => exact .inl rfl
  | some i => have := (fnd_lt h).1; dsimp only; omega
theorem specMapPort_a (l : List S34) (hl : l.length ≤ 2000000) (a b : Int) : Ans (fun k => spec_MapPort.f k l a b) (fun r => r = portV l a b) := by
  unfold spec_MapPort.f
  refine Ans.bind (l3Find_a l hl a b) ?_
  rintro _ rfl
  have hs := sign_lt hl a b
  rw [portV_sign]
  refine Ans.ite (fun c => Ans.pure (by rw [if_pos c])) (fun c => Ans.pure ?_)
  rw [if_neg c, w64 _ (by omega)]
theorem okT_le {l : List S34} (h : okT l = true) : l.length ≤ 6 := by
  simp only [okT, Bool.and_eq_true, decide_eq_true_eq] at h
  omega
theorem good_all {l : List S34} (h : goodFrom l 0 = true) : ∀ x ∈ l, endIn x.f0 x.f1 = true := by
  intro x hx
  obtain ⟨j, hj, rfl⟩ := List.getElem_of_mem hx
  unfold goodFrom at h
  have := List.all_eq_true.mp h j (by simp [List.mem_range']; omega)
  rw [rd29_get hj] at this
  simp only [Bool.and_eq_true] at this
  exact this.1
theorem okT_all {l : List S34} (h : okT l = true) : ∀ x ∈ l, endIn x.f0 x.f1 = true := by
  simp only [okT, Bool.and_eq_true] at h
  exact good_all h.2
theorem endIn_wf {a b : Int} (h : endIn a b = true) : wfB a = true ∧ wfB b = true := by
  simp only [endIn, inB, Bool.and_eq_true, decide_eq_true_eq] at h
  unfold wfB
  exact ⟨(i64_iff a).mpr (by omega), (i64_iff b).mpr (by omega)⟩
theorem all_wf {l : List S34} (h : ∀ x ∈ l, endIn x.f0 x.f1 = true) : l.all wfE = true := by
  rw [List.all_eq_true]
  intro x hx
  have := endIn_wf (h x hx)
  simp [wfE, this.1, this.2]
theorem implMapPort_f {l : List S34} (hl : l.length ≤ 1000) (h : ∀ x ∈ l, endIn x.f0 x.f1 = true) {a b : Int} (he : endIn a b = true) : impl_MapPort.f l a b = some (portV l a b) := by
  unfold impl_MapPort.f
  have := endIn_wf he
  rw [if_pos ⟨by omega, all_wf h, this.1, this.2⟩]
theorem l3Put_a (l : List S34) (hl : l.length ≤ 2000000) (a b : Int) : Ans (fun k => spec_l3Put.f k l a b) (fun r => r = putV l a b) := by
  unfold spec_l3Put.f
  refine Ans.bind (specMapPort_a l hl a b) ?_
  rintro _ rfl
  have hr := portV_range hl a b
  refine Ans.ite (fun c1 => Ans.pure ?_) (fun c1 => ?_)
  · have v0 : putV l a b = (l, portV l a b) := by unfold putV; rw [if_pos (by omega)]
    rw [v0]
  · have e0 : portV l a b = 0 := by omega
    refine Ans.ite (fun c2 => Ans.pure ?_) (fun c2 => ?_)
    · have v0 : putV l a b = (l, 0) := by unfold putV; rw [if_neg (by simp [e0]), if_pos (by omega)]
      rw [v0]
    · have v0 : putV l a b = (l ++ [⟨a, b⟩], (500 + l.length : Int)) := by unfold putV; rw [if_neg (by simp [e0]), if_neg (by omega)]
      rw [v0]
      refine Ans.bsome (Ans.pos (by simp; omega) (Ans.bsome (Ans.bsome (Ans.pos (by simp; omega) (Ans.bsome (Ans.pure ?_))))))
      have e1 : (([] ++ l ++ [⟨a, b⟩] : List S34).length : Int) = l.length + 1 := by simp
      rw [e1, w64 (500 + ((l.length : Int) + 1)) (by omega), w64 _ (by omega)]
      simp
      omega
theorem implPut_f {l : List S34} (c : okT l = true) {a b : Int} (he : endIn a b = true) : impl_MapTab_put.f l a b = some (putV l a b) := by
  have hl6 := okT_le c
  have hr := portV_range (l := l) (by omega) a b
  unfold impl_MapTab_put.f impl_MapTab_copied.f impl_EndPoint_106.f impl_EndPoint_105.f
  rw [if_pos (by omega), Option.bind_some, Option.bind_some, Option.bind_some, implMapPort_f (by omega) (okT_all c) he, Option.bind_some]
  unfold putV
  by_cases c1 : portV l a b = 0
  · by_cases c2 : (l.length : Int) ≥ 6
    · have c2' : l.length = 6 := by omega
      simp [c1, c2']
    · have c2' : ¬ l.length = 6 := by omega
      have c3 : l.length < 8796093022208 := by omega
      have c4 : ¬ (6 ≤ l.length) := by omega
      have e : wrap64 (500 + (l.length : Int)) = 500 + l.length := w64 _ (by omega)
      simp [c1, c2', c3, c4, e]
      omega
  · simp [c1]
section
attribute [local go_sem] max2_int min2_int max_two min_two max_three min_three max_four min_four
def laws_toEndPoint.f (a0_0 : Int) (a0_1 : Int) : Option (Int × Int) := some (a0_0, a0_1)
set_option maxHeartbeats 8000000 in
set_option maxRecDepth 100000 in
theorem laws_toEndPoint.calls (a0_0 : Int) (a0_1 : Int) (r1 : Int) (r2 : Int) (w : World) (h : laws_toEndPoint.f a0_0 a0_1 = some (r1, r2)) :
  Calls Tryz.prog 90 #[.agg #[.int .i64 a0_0, .int .i64 a0_1]] w fun e w' => e = .returned (.agg #[.int .i64 r1, .int .i64 r2]) ∧ Below w.heap.size w w' := by
 have hu102 := Tryz.underlying102
 have hu34 := Tryz.underlying34
 have HB := am (Below.refl w.heap.size w)
 have H : (some (a0_0, a0_1)) = some (r1, r2) := h
 clear h
 simp only [Option.some.injEq, Prod.mk.injEq] at H
 obtain ⟨rfl, rfl⟩ := H
 go_enter Tryz.func90, Tryz.ntmps90
 go_wp2_with (first | ((with_reducible refine gate_dst (N := 1) rfl ?_); refine box_event rfl (N := 1) rfl (cs := #[.int .i64 a0_0, .int .i64 a0_1]) (t := 102) hr_ ?_; intro gb500 hg w2 hbox hb; have BK500 := am hbox; have GW500 := gwE HB hg; have GE500 := gwE HB hg; replace HB := hbS HB hb; clear hb hbox hg) | ((with_reducible refine gate_dst (N := 2) rfl ?_); refine box_event rfl (N := 2) rfl (cs := #[.int .i64 0, .int .i64 0]) (t := 34) hr_ ?_; intro gb501 hg w3 hbox hb; have BK501 := am hbox; have GW501 := gwE HB hg; have GE501 := gwE HB hg; replace HB := hbS HB hb; have NB500_501 := neL BK500 hg; have NB501_500 := neG BK500 hg; replace BK500 := bkB BK500 hb; clear hb hbox hg) | ((with_reducible refine gate_dst (N := 3) rfl ?_); refine box_event rfl (N := 3) rfl (cs := #[.int .i64 0, .int .i64 0]) (t := 34) hr_ ?_; intro gb502 hg w4 hbox hb; have BK502 := am hbox; have GW502 := gwE HB hg; have GE502 := gwE HB hg; replace HB := hbS HB hb; have NB500_502 := neL BK500 hg; have NB502_500 := neG BK500 hg; replace BK500 := bkB BK500 hb; have NB501_502 := neL BK501 hg; have NB502_501 := neG BK501 hg; replace BK501 := bkB BK501 hb; clear hb hbox hg; have := NB500_501.out; have := NB501_500.out; have := NB500_502.out; have := NB502_500.out; have := bcell BK500 0; have := bcell BK500 1; have := bfz BK500 0; have := bfz BK500 1; have := NB502_501.out; have := NB501_502.out; have := bcell BK502 0; have := bcell BK502 1; have := bfz BK502 0; have := bfz BK502 1; have := bcell BK501 0; have := bcell BK501 1; have := bfz BK501 0; have := bfz BK501 1))
 refine bodyPost_ret (results_cell_row rfl _ _ gb501 34 #[.int .i64 a0_0, .int .i64 a0_1] (0, 0) _ rfl (by (with_reducible repeat refine bu ?_); refine blk_put (cs := #[.int .i64 a0_0, .int .i64 0]) ?_ 1 _ rfl; (with_reducible repeat refine bu ?_); refine blk_put (cs := #[.int .i64 0, .int .i64 0]) ?_ 0 _ rfl; (with_reducible repeat refine bu ?_); refine blk_far ?_ NB501_502.out _; (with_reducible repeat refine bu ?_); refine blk_far ?_ NB501_502.out _; (with_reducible repeat refine bu ?_); exact BK501.out) Tryz.underlying34 rfl (by kernel_rfl)) rfl ?_
 exact ⟨fi_, m2_⟩
def laws_toEndPointS.l0 : Nat → List (S102) → List (S34) → Int → Option ((List (S34)))
 | 0, _, _, _ => none
 | k + 1, x0, x3, x4 => if x4 < (x0.length : Int) then (if 0 ≤ x4 then ((laws_toEndPoint.f ((rd_T102 x0 x4).f0) ((rd_T102 x0 x4).f1)).bind fun bt507 => (if x4 < (x3.length : Int) then (laws_toEndPointS.l0 k x0 (x3.set (x4 : Int).toNat (⟨bt507.1, bt507.2⟩ : S34)) (wrap64 (x4 + 1))) else (none))) else (none)) else (some x3)
def laws_toEndPointS.f (k : Nat) (l0 : List (S102)) : Option ((List (S34))) := if 0 ≤ (l0.length : Int) then (if ((l0.length : Int) : Int).toNat ≤ 17592186044416 then (laws_toEndPointS.l0 k l0 (List.replicate ((l0.length : Int) : Int).toNat z34) 0) else (none)) else (none)
theorem laws_toEndPointS.mono_l : ∀ k, (∀ y0 y1 y2, LeO (laws_toEndPointS.l0 k y0 y1 y2) (laws_toEndPointS.l0 (k + 1) y0 y1 y2))
 | 0 => fun _ _ _ r h => by simp [laws_toEndPointS.l0] at h
 | k + 1 => by
  have ih0 := laws_toEndPointS.mono_l k
  ·intro y0 y1 y2
   unfold laws_toEndPointS.l0
   repeat' first | (with_reducible first | exact ih0 _ _ _ | exact LeO.refl _ | exact LeO.none _ | refine LeO.ite ?_ ?_ | refine LeO.bind ?_ (fun _ => ?_)) | exact ih0 _ _ _ | exact LeO.none _ | refine LeO.ite ?_ ?_ | refine LeO.bind ?_ (fun _ => ?_)
theorem laws_toEndPointS.mono : ∀ a0 k, LeO (laws_toEndPointS.f k a0) (laws_toEndPointS.f (k + 1) a0) := by
 intro a0 k
 have ih0 := laws_toEndPointS.mono_l k
 unfold laws_toEndPointS.f
 repeat' first | (with_reducible first | exact ih0 _ _ _ | exact LeO.refl _ | exact LeO.none _ | refine LeO.ite ?_ ?_ | refine LeO.bind ?_ (fun _ => ?_)) | exact ih0 _ _ _ | exact LeO.none _ | refine LeO.ite ?_ ?_ | refine LeO.bind ?_ (fun _ => ?_)
set_option maxHeartbeats 8000000 in
set_option maxRecDepth 100000 in
theorem laws_toEndPointS.calls (k : Nat) (A0 : Option Addr) (c0 : Nat) (l0 : List (S102)) (r : List (S34)) (w : World) (hr0 : Kd.C k102 w A0 l0.length l0) (hc0 : l0.length ≤ c0) (h : laws_toEndPointS.f k l0 = some r) :
  Calls Tryz.prog 59 #[.slice A0 l0.length c0] w fun e w' => ∃ v0_ : Value, e = .returned (v0_) ∧ Kd.R k34 34 w' w.heap.size (fun _ => True) v0_ r ∧ Below w.heap.size w w' := by
 have hu102 := Tryz.underlying102
 have hu34 := Tryz.underlying34
 have HR0 := am hr0
 have HC0 := am hc0
 clear hr0 hc0
 have HB := am (Below.refl w.heap.size w)
 have H : (if 0 ≤ (l0.length : Int) then (if ((l0.length : Int) : Int).toNat ≤ 17592186044416 then (laws_toEndPointS.l0 k l0 (List.replicate ((l0.length : Int) : Int).toNat z34) 0) else (none)) else (none)) = some r := h
 clear h
 by_cases c2 : 0 ≤ (l0.length : Int)
 ·rw [if_pos c2] at H
  have c2b0 := eq_true c2
  have c2b1 : decide (0 ≤ (l0.length : Int)) = true := decide_eq_true c2
  clear c2
  by_cases c3 : ((l0.length : Int) : Int).toNat ≤ 17592186044416
  ·rw [if_pos c3] at H
   have c3b0 := eq_true c3
   have c3b1 : decide (((l0.length : Int) : Int).toNat ≤ 17592186044416) = true := decide_eq_true c3
   clear c3
   obtain ⟨y503, hy503⟩ : ∃ y_ : List (S34), y_ = (List.replicate ((l0.length : Int) : Int).toNat z34) := ⟨_, rfl⟩
   replace H : (laws_toEndPointS.l0 k l0 y503 0) = some r := by first | (rw [hy503]; with_reducible exact H) | (have H2_ := (Option.bind_some _ _).symm.trans H; rw [hy503]; with_reducible exact H2_) | (have H2_ := (Option.bind_some _ _).symm.trans H; with_reducible exact H2_) | with_reducible exact H | (rw [hy503]; exact H) | exact H
   have Ny503 := am hy503
   clear hy503
   have H' := am H
   clear H
   go_enter Tryz.func59, Tryz.ntmps59
   go_wp2_with (first | ((with_reducible refine gate_dst (N := 7) rfl ?_); refine Kd.R_make k34 _ 34 rfl (N := 7) rfl 23 _ _ rfl (l0.length : Int) rfl rfl Tryz.underlying23 (.agg #[(.int .i64 0), (.int .i64 0)]) 16 info34 rfl (by decide) (by omega) z34 (ok := fun _ => True) (okp := fun _ => True) (k34_mkM _ _ _ z34 ) (fun _ hk => hk) trivial (of_decide_eq_true da_) (Nat.le_trans (Nat.mul_le_mul_right _ (of_decide_eq_true da_ : (l0.length : Int).toNat ≤ 17592186044416)) (by omega)) (Below.refl _ _) (Nat.le_refl _) ?_; intro v504 w4 ho5 hb hg_ hnew_; clear hg_ hnew_; (first | rw [← Ny503.out] at ho5 | (simp only [Int.reduceToNat] at ho5; rw [← Ny503.out] at ho5)); have HO505 := am (Kd.R_lower ho5 (below_size (bl HB))); replace HB := hbS HB hb; clear hb ho5))
   go_loopg [4] k (fun kq v4 w' => ∃ (x3_1 : List (S34)) (x4_1 : Int), v4 = .int .i64 x4_1 ∧ Aside0 (laws_toEndPointS.l0 kq l0 x3_1 x4_1 = some r) ∧ Aside0 (kq ≤ k) ∧ Aside0 (Kd.R k34 34 w' w.heap.size (fun _ => True) v504 x3_1) ∧ Aside0 (Below w.heap.size w w'))
   case atStart => exact ⟨(y503), (0), rs_, H', ⟨Nat.le_refl _⟩, ⟨by (with_reducible repeat apply ru); exact HO505.out⟩, ⟨m0_⟩⟩
   case round =>
    clear H'
    try clear c2
    try clear c2b0
    try clear c2b1
    try clear p2
    try clear c3
    try clear c3b0
    try clear c3b1
    try clear c5
    obtain ⟨x3_1, x4_1, rfl, HA, HK1, HO_3, HB⟩ := hrel
    cases gk with
    | zero => exact absurd HA.out (by simp [laws_toEndPointS.l0])
    | succ k1 =>
     have H := HA.out
     clear HA
     simp only [laws_toEndPointS.l0] at H
     by_cases c6 : x4_1 < (l0.length : Int)
     ·rw [if_pos c6] at H
      have c6b0 : decide (x4_1 < (l0.length : Int)) = true := decide_eq_true c6
      clear c6
      by_cases c7 : 0 ≤ x4_1
      ·rw [if_pos c7] at H
       have c7b0 : decide (0 ≤ x4_1) = true := decide_eq_true c7
       clear c7
       obtain ⟨⟨t507, t508⟩, A8, H⟩ := bse H
       try dsimp only at H
       by_cases c9 : x4_1 < (x3_1.length : Int)
       ·rw [if_pos c9] at H
        have c9b0 : decide (x4_1 < (x3_1.length : Int)) = true := decide_eq_true c9
        clear c9
        obtain ⟨y509, hy509⟩ : ∃ y_ : List (S34), y_ = (x3_1.set (x4_1 : Int).toNat (⟨t507, t508⟩ : S34)) := ⟨_, rfl⟩
        replace H : (laws_toEndPointS.l0 k1 l0 y509 (wrap64 (x4_1 + 1))) = some r := by first | (rw [hy509]; with_reducible exact H) | (have H2_ := (Option.bind_some _ _).symm.trans H; rw [hy509]; with_reducible exact H2_) | (have H2_ := (Option.bind_some _ _).symm.trans H; with_reducible exact H2_) | with_reducible exact H | (rw [hy509]; exact H) | exact H
        have Ny509 := am hy509
        clear hy509
        have H' := am H
        clear H
        have p506 : 0 ≤ (x4_1 : Int) := of_decide_eq_true da_
        have q506 : x4_1 < (l0.length : Int) := of_decide_eq_true da_
        obtain ⟨ad506, e506, hx506_0, hx506_1⟩ := at_T102 HR0.out x4_1 p506 q506
        cases e506
        replace hx506_0 := bcl HB hx506_0
        replace hx506_1 := bcl HB hx506_1
        replace p506 := eq_true p506
        replace q506 := eq_true q506
        go_wp2_with (first | ((with_reducible refine gate_callee (f := 90) rfl ?_); refine gL (some 20) Tryz.func90 #[.agg #[.int .i64 ((rd_T102 l0 x4_1).f0), .int .i64 ((rd_T102 l0 x4_1).f1)]] ?_; (with_reducible refine (laws_toEndPoint.calls ((rd_T102 l0 x4_1).f0) ((rd_T102 l0 x4_1).f1) t507 t508 _ A8.out).mono ?_); rintro e w11 ⟨rfl, hb⟩; refine ⟨_, rfl, ?_⟩; replace HO_3 := am (Kd.R_below (rs HO_3) hb); replace HB := hbS HB hb; (try clear hb); have p10 : 0 ≤ (x4_1 : Int) := of_decide_eq_true da_; have q10 : (x4_1 : Int) < ((x3_1.length : Int) : Int) := of_decide_eq_true da_; obtain ⟨go10, co10, eo10, gb10, gl10, cl10, HG10⟩ := Kd.R_form HO_3.out (by omega); (first | cases eo10 | (injection eo10 with ea_ en_ ec_; (first | subst ea_ | (injection ea_ with ea_; subst ea_)); subst ec_; clear en_)); have GB10 := am gb10; have GG10 := am HG10; clear gb10 gl10 HG10; obtain ⟨ce10, hcl10, hM10, hcc10, hfr10⟩ := Kd.R_elem HO_3.out z34 (x4_1 : Int) p10 q10; obtain rfl := k34_openM hM10; have hx10_0 : w11.cell? ⟨go10, (x4_1 : Int).toNat * 2, none⟩ = some (.int .i64 ((rd_T34 x3_1 x4_1).f0)) := hcc10 0 _ rfl; have hx10_1 : w11.cell? ⟨go10, (x4_1 : Int).toNat * 2 + 1, none⟩ = some (.int .i64 ((rd_T34 x3_1 x4_1).f1)) := hcc10 1 _ rfl; have hf10_0 : w11.frozen? ⟨go10, (x4_1 : Int).toNat * 2, none⟩ = false := hfr10 0; have hf10_1 : w11.frozen? ⟨go10, (x4_1 : Int).toNat * 2 + 1, none⟩ = false := hfr10 1; clear hcl10 hcc10 hfr10 hM10; replace p10 := eq_true p10; replace q10 := eq_true q10; have HX12 := am (show Kd.R k34 34 w11 w.heap.size (fun _ => True) (.slice (some ⟨go10, 0, none⟩) x3_1.length co10) x3_1 from (rs HO_3)); obtain ⟨ce12, hcl12, hM12, hcc12, hfr12⟩ := Kd.R_elem HX12.out z34 (x4_1 : Int) (of_decide_eq_true da_) (by have h_ : (x4_1 : Int) < ((x3_1.length : Int) : Int) := of_decide_eq_true da_; first | exact h_ | (have e_ := (Kd.R_reads' HO_3.out).1; omega) | simpa using h_); obtain rfl := k34_openM hM12; have HP12 := Kd.R_seg HX12.out (x4_1 : Int) (of_decide_eq_true da_) (by have h_ : (x4_1 : Int) < ((x3_1.length : Int) : Int) := of_decide_eq_true da_; first | exact h_ | (have e_ := (Kd.R_reads' HO_3.out).1; omega) | simpa using h_) (seg := [.int .i64 t507, .int .i64 t508]) (j := 0) hcl12 hcc12 (show 2 ≤ 2 from by decide) (x' := (⟨t507, t508⟩ : S34)) (k34_mkM _ _ _ (⟨t507, t508⟩ : S34) ) (fun _ hk => hk); have hx12_0 := hcc12 0 _ rfl; (try simp only [show (k34).sz = 2 from rfl, Nat.mul_one, Nat.add_zero] at hx12_0); have hf12_0 := hfr12 0; (try simp only [show (k34).sz = 2 from rfl, Nat.mul_one, Nat.add_zero] at hf12_0); have hx12_1 := hcc12 1 _ rfl; (try simp only [show (k34).sz = 2 from rfl, Nat.mul_one, Nat.add_zero] at hx12_1); have hf12_1 := hfr12 1; (try simp only [show (k34).sz = 2 from rfl, Nat.mul_one, Nat.add_zero] at hf12_1); clear hcl12 hcc12 hfr12 hM12) | ((with_reducible refine gate_store (t := 34) (p := 21) rfl ?_); refine store_event (t := 34) (p := 21) (v := ?vo_w13) (w1 := ((w11.setCell ⟨go10, (x4_1 : Int).toNat * 2, none⟩ (.int .i64 t507)).setCell ⟨go10, (x4_1 : Int).toNat * 2 + 1, none⟩ (.int .i64 t508))) ?hg ?ho ?hn ?hr ?_; (case ho => rfl); (case hg => rfl); (case hn => rfl); (case hr => first | (go_simp; done) | (go_simp; rfl)); intro w13 hw; have hg : w11.grownBy w13 (some go10) := (by rw [hw]; exact HP12.2); have hp_ : Kd.R k34 34 w13 w.heap.size (fun _ => True) (.slice (some ⟨go10, 0, none⟩) x3_1.length co10) y509 := (by rw [hw, Ny509.out]; exact HP12.1); clear HP12; replace HO_3 := am (hp_); replace HB := am ((by rw [hw]; exact below_set (below_set (HB.out) GB10.out) GB10.out : Below w.heap.size w w13)); clear hg hw hp_))
        go_roundg k1
        case measure => have := HK1.out; omega
        case rel => exact ⟨(y509), (wrap64 (x4_1 + 1)), rs_, H', ⟨by have := HK1.out; omega⟩, ⟨by (with_reducible repeat apply ru); exact HO_3.out⟩, ⟨m0_⟩⟩
       ·rw [if_neg c9] at H
        exact absurd H (by simp)
      ·rw [if_neg c7] at H
       exact absurd H (by simp)
     ·rw [if_neg c6] at H
      have c6b0 : decide (x4_1 < (l0.length : Int)) = false := decide_eq_false c6
      clear c6
      obtain rfl := Option.some.inj H
      go_wp2
      go_ret
      exact ⟨_, fi_, by (with_reducible repeat apply ru); exact HO_3.out, m0_⟩
  ·rw [if_neg c3] at H
   exact absurd H (by simp)
 ·rw [if_neg c2] at H
  exact absurd H (by simp)
def laws_toMapTab.f (k : Nat) (l0_0 : List (S102)) : Option ((List (S34))) := (laws_toEndPointS.f k l0_0).bind fun t513 => (some t513)
theorem laws_toMapTab.mono : ∀ a0 k, LeO (laws_toMapTab.f k a0) (laws_toMapTab.f (k + 1) a0) := by
 intro a0 k
 unfold laws_toMapTab.f
 repeat' first | (with_reducible first | exact laws_toEndPointS.mono _ _ | exact LeO.refl _ | exact LeO.none _ | refine LeO.ite ?_ ?_ | refine LeO.bind ?_ (fun _ => ?_)) | exact laws_toEndPointS.mono _ _ | exact LeO.none _ | refine LeO.ite ?_ ?_ | refine LeO.bind ?_ (fun _ => ?_)
set_option maxHeartbeats 8000000 in
set_option maxRecDepth 100000 in
theorem laws_toMapTab.calls (k : Nat) (A0_0 : Option Addr) (c0_0 : Nat) (l0_0 : List (S102)) (r : List (S34)) (w : World) (hr0_0 : Kd.C k102 w A0_0 l0_0.length l0_0) (hc0_0 : l0_0.length ≤ c0_0) (h : laws_toMapTab.f k l0_0 = some r) :
  Calls Tryz.prog 26 #[.agg #[.slice A0_0 l0_0.length c0_0]] w fun e w' => ∃ v0_ : Value, e = .returned (.agg #[v0_]) ∧ Kd.R k34 34 w' w.heap.size (fun _ => True) v0_ r ∧ Below w.heap.size w w' := by
 have hu42 := Tryz.underlying42
 have hu25 := Tryz.underlying25
 have HR0_0 := am hr0_0
 have HC0_0 := am hc0_0
 clear hr0_0 hc0_0
 have HB := am (Below.refl w.heap.size w)
 have H : ((laws_toEndPointS.f k l0_0).bind fun t513 => (some t513)) = some r := h
 clear h
 obtain ⟨t513, A2, H⟩ := bse H
 try dsimp only at H
 obtain rfl := Option.some.inj H
 go_enter Tryz.func26, Tryz.ntmps26
 go_wp2_with (first | ((with_reducible refine gate_dst (N := 1) rfl ?_); refine box_event rfl (N := 1) rfl (cs := #[.slice A0_0 l0_0.length c0_0]) (t := 42) hr_ ?_; intro gb510 hg w3 hbox hb; have BK510 := am hbox; have GW510 := gwE HB hg; have GE510 := gwE HB hg; replace HB := hbS HB hb; clear hb hbox hg) | ((with_reducible refine gate_dst (N := 2) rfl ?_); refine box_event rfl (N := 2) rfl (cs := #[.slice none 0 0]) (t := 25) hr_ ?_; intro gb511 hg w4 hbox hb; have BK511 := am hbox; have GW511 := gwE HB hg; have GE511 := gwE HB hg; replace HB := hbS HB hb; have NB510_511 := neL BK510 hg; have NB511_510 := neG BK510 hg; replace BK510 := bkB BK510 hb; clear hb hbox hg) | ((with_reducible refine gate_dst (N := 3) rfl ?_); refine box_event rfl (N := 3) rfl (cs := #[.slice none 0 0]) (t := 25) hr_ ?_; intro gb512 hg w5 hbox hb; have BK512 := am hbox; have GW512 := gwE HB hg; have GE512 := gwE HB hg; replace HB := hbS HB hb; have NB510_512 := neL BK510 hg; have NB512_510 := neG BK510 hg; replace BK510 := bkB BK510 hb; have NB511_512 := neL BK511 hg; have NB512_511 := neG BK511 hg; replace BK511 := bkB BK511 hb; clear hb hbox hg; have := NB510_511.out; have := NB511_510.out; have := NB510_512.out; have := NB512_510.out; have := bcell BK510 0; have := bfz BK510 0) | ((with_reducible refine gate_callee (f := 59) rfl ?_); refine gL (some 6) Tryz.func59 #[.slice A0_0 l0_0.length c0_0] ?_; (with_reducible refine (laws_toEndPointS.calls k _ _ l0_0 t513 _ ?side1 ?side2 A2.out).mono ?_); (case side1 => exact m4_); (case side2 => exact HC0_0.out); rintro e w9 ⟨v514, rfl, ho0, hb⟩; refine ⟨_, rfl, ?_⟩; have HO515 := am (Kd.R_lower ho0 (below_size (bl HB))); replace BK510 := bkB BK510 hb; replace BK511 := bkB BK511 hb; replace BK512 := bkB BK512 hb; replace HB := hbS HB hb; (try clear hb); (try clear ho0); obtain ⟨Ao10, co10, eo10⟩ := Kd.R_slice HO515.out; subst eo10; have := NB512_511.out; have := NB511_512.out; have := bcell BK512 0; have := bfz BK512 0; have := bcell BK511 0; have := bfz BK511 0))
 refine bodyPost_ret (results_cell_row rfl _ _ gb511 25 #[.slice Ao10 t513.length co10] (0, 0) _ rfl (by (with_reducible repeat refine bu ?_); refine blk_put (cs := #[.slice none 0 0]) ?_ 0 _ rfl; (with_reducible repeat refine bu ?_); refine blk_far ?_ NB511_512.out _; (with_reducible repeat refine bu ?_); exact BK511.out) Tryz.underlying25 rfl (by kernel_rfl)) rfl ?_
 exact ⟨_, fi_, by (with_reducible repeat apply ru); exact Kd.R_mono (Kd.R_far (p := ⟨gb511, 0, none⟩) (Kd.R_far (p := ⟨gb512, 0, none⟩) (Kd.R_types (Kd.R_types HO515.out BK512.out (by decide)) BK511.out (by decide)) (fun _ hk => hk.1.2) (.slice Ao10 t513.length co10)) (fun _ hk => hk.2) (.slice Ao10 t513.length co10)) (fun _ hk => trivial), m2_⟩
def laws_eqEndPoint.f (a0_0 : Int) (a0_1 : Int) (a1_0 : Int) (a1_1 : Int) : Option (Bool) := if a0_0 = a1_0 then (if a0_1 = a1_1 then (some true) else (some false)) else (some false)
set_option maxHeartbeats 8000000 in
set_option maxRecDepth 100000 in
theorem laws_eqEndPoint.calls (a0_0 : Int) (a0_1 : Int) (a1_0 : Int) (a1_1 : Int) (r : Bool) (w : World) (h : laws_eqEndPoint.f a0_0 a0_1 a1_0 a1_1 = some r) :
  Calls Tryz.prog 91 #[.agg #[.int .i64 a0_0, .int .i64 a0_1], .agg #[.int .i64 a1_0, .int .i64 a1_1]] w fun e w' => e = .returned (.bool r) ∧ Below w.heap.size w w' := by
 have hu34 := Tryz.underlying34
 have HB := am (Below.refl w.heap.size w)
 have H : (if a0_0 = a1_0 then (if a0_1 = a1_1 then (some true) else (some false)) else (some false)) = some r := h
 clear h
 by_cases c3 : a0_0 = a1_0
 ·rw [if_pos c3] at H
  have c3b0 : (a0_0 == a1_0) = true := beq_iff_eq.mpr c3
  have c3b1 : (a0_0 != a1_0) = false := bne_eq_false_iff_eq.mpr c3
  clear c3
  by_cases c4 : a0_1 = a1_1
  ·rw [if_pos c4] at H
   have c4b0 : (a0_1 == a1_1) = true := beq_iff_eq.mpr c4
   have c4b1 : (a0_1 != a1_1) = false := bne_eq_false_iff_eq.mpr c4
   clear c4
   obtain rfl := Option.some.inj H
   go_enter Tryz.func91, Tryz.ntmps91
   go_wp2_with (first | ((with_reducible refine gate_dst (N := 2) rfl ?_); refine box_event rfl (N := 2) rfl (cs := #[.int .i64 a0_0, .int .i64 a0_1]) (t := 34) hr_ ?_; intro gb516 hg w5 hbox hb; have BK516 := am hbox; have GW516 := gwE HB hg; have GE516 := gwE HB hg; replace HB := hbS HB hb; clear hb hbox hg) | ((with_reducible refine gate_dst (N := 3) rfl ?_); refine box_event rfl (N := 3) rfl (cs := #[.int .i64 a1_0, .int .i64 a1_1]) (t := 34) hr_ ?_; intro gb517 hg w6 hbox hb; have BK517 := am hbox; have GW517 := gwE HB hg; have GE517 := gwE HB hg; replace HB := hbS HB hb; have NB516_517 := neL BK516 hg; have NB517_516 := neG BK516 hg; replace BK516 := bkB BK516 hb; clear hb hbox hg; have := NB516_517.out; have := NB517_516.out; have := bcell BK516 0; have := bcell BK516 1; have := bfz BK516 0; have := bfz BK516 1; have := bcell BK517 0; have := bcell BK517 1; have := bfz BK517 0; have := bfz BK517 1))
   go_ret
   exact ⟨fi_, m2_⟩
  ·rw [if_neg c4] at H
   have c4b0 : (a0_1 == a1_1) = false := beq_eq_false_iff_ne.mpr c4
   have c4b1 : (a0_1 != a1_1) = true := bne_iff_ne.mpr c4
   obtain rfl := Option.some.inj H
   go_enter Tryz.func91, Tryz.ntmps91
   go_wp2_with (first | ((with_reducible refine gate_dst (N := 2) rfl ?_); refine box_event rfl (N := 2) rfl (cs := #[.int .i64 a0_0, .int .i64 a0_1]) (t := 34) hr_ ?_; intro gb516 hg w10 hbox hb; have BK516 := am hbox; have GW516 := gwE HB hg; have GE516 := gwE HB hg; replace HB := hbS HB hb; clear hb hbox hg) | ((with_reducible refine gate_dst (N := 3) rfl ?_); refine box_event rfl (N := 3) rfl (cs := #[.int .i64 a1_0, .int .i64 a1_1]) (t := 34) hr_ ?_; intro gb517 hg w11 hbox hb; have BK517 := am hbox; have GW517 := gwE HB hg; have GE517 := gwE HB hg; replace HB := hbS HB hb; have NB516_517 := neL BK516 hg; have NB517_516 := neG BK516 hg; replace BK516 := bkB BK516 hb; clear hb hbox hg; have := NB516_517.out; have := NB517_516.out; have := bcell BK516 0; have := bcell BK516 1; have := bfz BK516 0; have := bfz BK516 1; have := bcell BK517 0; have := bcell BK517 1; have := bfz BK517 0; have := bfz BK517 1))
   go_ret
   exact ⟨fi_, m2_⟩
 ·rw [if_neg c3] at H
  have c3b0 : (a0_0 == a1_0) = false := beq_eq_false_iff_ne.mpr c3
  have c3b1 : (a0_0 != a1_0) = true := bne_iff_ne.mpr c3
  obtain rfl := Option.some.inj H
  go_enter Tryz.func91, Tryz.ntmps91
  go_wp2_with (first | ((with_reducible refine gate_dst (N := 2) rfl ?_); refine box_event rfl (N := 2) rfl (cs := #[.int .i64 a0_0, .int .i64 a0_1]) (t := 34) hr_ ?_; intro gb516 hg w15 hbox hb; have BK516 := am hbox; have GW516 := gwE HB hg; have GE516 := gwE HB hg; replace HB := hbS HB hb; clear hb hbox hg) | ((with_reducible refine gate_dst (N := 3) rfl ?_); refine box_event rfl (N := 3) rfl (cs := #[.int .i64 a1_0, .int .i64 a1_1]) (t := 34) hr_ ?_; intro gb517 hg w16 hbox hb; have BK517 := am hbox; have GW517 := gwE HB hg; have GE517 := gwE HB hg; replace HB := hbS HB hb; have NB516_517 := neL BK516 hg; have NB517_516 := neG BK516 hg; replace BK516 := bkB BK516 hb; clear hb hbox hg; have := NB516_517.out; have := NB517_516.out; have := bcell BK516 0; have := bcell BK516 1; have := bfz BK516 0; have := bfz BK516 1; have := bcell BK517 0; have := bcell BK517 1; have := bfz BK517 0; have := bfz BK517 1))
  go_ret
  exact ⟨fi_, m2_⟩
def laws_eqEndPointS.l0 : Nat → List (S34) → List (S34) → Int → Option (Bool)
 | 0, _, _, _ => none
 | k + 1, x0, x1, x5 => if x5 < (x0.length : Int) then (if 0 ≤ x5 then (if x5 < (x1.length : Int) then ((laws_eqEndPoint.f ((rd_T34 x0 x5).f0) ((rd_T34 x0 x5).f1) ((rd_T34 x1 x5).f0) ((rd_T34 x1 x5).f1)).bind fun t520 => (if t520 = true then (laws_eqEndPointS.l0 k x0 x1 (wrap64 (x5 + 1))) else (some false))) else (none)) else (none)) else (some true)
def laws_eqEndPointS.f (k : Nat) (l0 : List (S34)) (l1 : List (S34)) : Option (Bool) := if (l0.length : Int) = (l1.length : Int) then (laws_eqEndPointS.l0 k l0 l1 0) else (some false)
theorem laws_eqEndPointS.mono_l : ∀ k, (∀ y0 y1 y2, LeO (laws_eqEndPointS.l0 k y0 y1 y2) (laws_eqEndPointS.l0 (k + 1) y0 y1 y2))
 | 0 => fun _ _ _ r h => by simp [laws_eqEndPointS.l0] at h
 | k + 1 => by
  have ih0 := laws_eqEndPointS.mono_l k
  ·intro y0 y1 y2
   unfold laws_eqEndPointS.l0
   repeat' first | (with_reducible first | exact ih0 _ _ _ | exact LeO.refl _ | exact LeO.none _ | refine LeO.ite ?_ ?_ | refine LeO.bind ?_ (fun _ => ?_)) | exact ih0 _ _ _ | exact LeO.none _ | refine LeO.ite ?_ ?_ | refine LeO.bind ?_ (fun _ => ?_)
theorem laws_eqEndPointS.mono : ∀ a0 a1 k, LeO (laws_eqEndPointS.f k a0 a1) (laws_eqEndPointS.f (k + 1) a0 a1) := by
 intro a0 a1 k
 have ih0 := laws_eqEndPointS.mono_l k
 unfold laws_eqEndPointS.f
 repeat' first | (with_reducible first | exact ih0 _ _ _ | exact LeO.refl _ | exact LeO.none _ | refine LeO.ite ?_ ?_ | refine LeO.bind ?_ (fun _ => ?_)) | exact ih0 _ _ _ | exact LeO.none _ | refine LeO.ite ?_ ?_ | refine LeO.bind ?_ (fun _ => ?_)
def laws_eqEndPointS.T6 : Bool × List (List Nat × List Nat) := (true, [([], []), ([], []), ([0, 1], [0, 1]), ([2], [2]), ([], []), ([], []), ([4, 5], [4, 5]), ([6], [6]), ([3, 7], [3, 7]), ([8], [8])])
def laws_eqEndPointS.B6 : List Nat := [0, 0, 3, 7, 0, 0, 48, 112, 255, 511]
theorem laws_eqEndPointS.tab6 : rtab .any (opsOf Tryz.f60 6) = laws_eqEndPointS.T6 := by kernel_rfl
theorem laws_eqEndPointS.bits6 : waitsOk laws_eqEndPointS.T6.2 laws_eqEndPointS.B6 = true := by kernel_rfl
set_option maxHeartbeats 8000000 in
set_option maxRecDepth 100000 in
theorem laws_eqEndPointS.calls (k : Nat) (A0 : Option Addr) (c0 : Nat) (l0 : List (S34)) (A1 : Option Addr) (c1 : Nat) (l1 : List (S34)) (r : Bool) (w : World) (hr0 : Kd.C k34 w A0 l0.length l0) (hc0 : l0.length ≤ c0) (hr1 : Kd.C k34 w A1 l1.length l1) (hc1 : l1.length ≤ c1) (h : laws_eqEndPointS.f k l0 l1 = some r) :
  Calls Tryz.prog 60 #[.slice A0 l0.length c0, .slice A1 l1.length c1] w fun e w' => e = .returned (.bool r) ∧ Below w.heap.size w w' := by
 have hu34 := Tryz.underlying34
 have HR0 := am hr0
 have HC0 := am hc0
 clear hr0 hc0
 have HR1 := am hr1
 have HC1 := am hc1
 clear hr1 hc1
 have HB := am (Below.refl w.heap.size w)
 have H : (if (l0.length : Int) = (l1.length : Int) then (laws_eqEndPointS.l0 k l0 l1 0) else (some false)) = some r := h
 clear h
 by_cases c3 : (l0.length : Int) = (l1.length : Int)
 ·rw [if_pos c3] at H
  have c3b0 : ((l0.length : Int) == (l1.length : Int)) = true := beq_iff_eq.mpr c3
  have c3b1 : ((l0.length : Int) != (l1.length : Int)) = false := bne_eq_false_iff_eq.mpr c3
  have c3b2 : (l0.length == l1.length) = true := by first | simpa using c3 | (simp at c3 ⊢; omega)
  clear c3
  have H' := am H
  clear H
  go_enter Tryz.func60, Tryz.ntmps60
  go_wp2
  go_loopg [5] k (fun kq v5 w' => ∃ (x5_1 : Int), v5 = .int .i64 x5_1 ∧ Aside0 (laws_eqEndPointS.l0 kq l0 l1 x5_1 = some r) ∧ Aside0 (kq ≤ k) ∧ Aside0 (Below w.heap.size w w'))
  case atStart => exact ⟨(0), rs_, H', ⟨Nat.le_refl _⟩, ⟨m0_⟩⟩
  case round =>
   clear H'
   try clear c1
   try clear p2
   try clear c3
   try clear c3b0
   try clear c3b1
   try clear c3b2
   obtain ⟨x5_1, rfl, HA, HK1, HB⟩ := hrel
   cases gk with
   | zero => exact absurd HA.out (by simp [laws_eqEndPointS.l0])
   | succ k1 =>
    have H := HA.out
    clear HA
    simp only [laws_eqEndPointS.l0] at H
    by_cases c4 : x5_1 < (l0.length : Int)
    ·rw [if_pos c4] at H
     have c4b0 : decide (x5_1 < (l0.length : Int)) = true := decide_eq_true c4
     clear c4
     by_cases c5 : 0 ≤ x5_1
     ·rw [if_pos c5] at H
      have c5b0 : decide (0 ≤ x5_1) = true := decide_eq_true c5
      clear c5
      by_cases c6 : x5_1 < (l1.length : Int)
      ·rw [if_pos c6] at H
       have c6b0 : decide (x5_1 < (l1.length : Int)) = true := decide_eq_true c6
       clear c6
       obtain ⟨t520, A7, H⟩ := bse H
       try dsimp only at H
       by_cases c8 : t520 = true
       ·subst c8
        have H1 : (laws_eqEndPointS.l0 k1 l0 l1 (wrap64 (x5_1 + 1))) = some r := by rw [if_pos rfl] at H; exact H
        clear H
        have H := H1
        clear H1
        have H' := am H
        clear H
        try go_wp2
        replace HB := am (below_drew1 HB.out)
        have p518 : 0 ≤ (x5_1 : Int) := of_decide_eq_true da_
        have q518 : x5_1 < (l0.length : Int) := of_decide_eq_true da_
        obtain ⟨ad518, e518, hx518_0, hx518_1⟩ := at_T34 HR0.out x5_1 p518 q518
        have hw518_1 := hx518_1
        have hw518_0 := hx518_0
        cases e518
        replace hx518_0 := bcl HB hx518_0
        replace hx518_1 := bcl HB hx518_1
        replace p518 := eq_true p518
        replace q518 := eq_true q518
        have p519 : 0 ≤ (x5_1 : Int) := of_decide_eq_true da_
        have q519 : x5_1 < (l1.length : Int) := of_decide_eq_true da_
        obtain ⟨ad519, e519, hx519_0, hx519_1⟩ := at_T34 HR1.out x5_1 p519 q519
        have hw519_1 := hx519_1
        have hw519_0 := hx519_0
        cases e519
        replace hx519_0 := bcl HB hx519_0
        replace hx519_1 := bcl HB hx519_1
        replace p519 := eq_true p519
        replace q519 := eq_true q519
        refine start_ (n := 10) (S := fun w' => w'.cell? (ad518.add ((x5_1).toNat * 2)) = some (.int .i64 ((rd_T34 l0 x5_1).f0)) ∧ w'.cell? ⟨(ad518.add ((x5_1).toNat * 2)).block, (ad518.add ((x5_1).toNat * 2)).off + 1, none⟩ = some (.int .i64 ((rd_T34 l0 x5_1).f1)) ∧ w'.cell? (ad519.add ((x5_1).toNat * 2)) = some (.int .i64 ((rd_T34 l1 x5_1).f0)) ∧ w'.cell? ⟨(ad519.add ((x5_1).toNat * 2)).block, (ad519.add ((x5_1).toNat * 2)).off + 1, none⟩ = some (.int .i64 ((rd_T34 l1 x5_1).f1))) (ds := []) #[false, false, false, false, false, false, false, false, false, false] (by kernel_rfl) rfl rfl ⟨(bcl HB hw518_0), (bcl HB hw518_1), (bcl HB hw519_0), (bcl HB hw519_1)⟩ (fun hHeld => ?_); refine with_tabW laws_eqEndPointS.tab6 laws_eqEndPointS.bits6 (fun HT_ HW_ => ?_)
        generalize wr.drew = w9 at HB hx518_0 hx518_1 hx519_0 hx519_1 hHeld ⊢
        refine pu_ 0 (some 17) (bm 10 1) ?_
        refine pu_ 1 (some 18) (bm 10 3) ?_
        refine pu_ 2 (some 19) (bm 10 7) ?_
        refine pu_ 4 (some 21) (bm 10 23) ?_
        refine pu_ 5 (some 22) (bm 10 55) ?_
        refine pu_ 6 (some 23) (bm 10 119) ?_
        refine tk_ 3 (some 20) (bm 10 127) rfl (.inl ⟨rfl, m29_⟩) ?_
        refine tk_ 7 (some 24) (bm 10 255) rfl (.inl ⟨rfl, m29_⟩) ?_
        refine on_ 8 (some 25) (bm 10 511) (fun K hK => ?_)
        refine gR Tryz.func91 #[.agg #[.int .i64 ((rd_T34 l0 x5_1).f0), .int .i64 ((rd_T34 l0 x5_1).f1)], .agg #[.int .i64 ((rd_T34 l1 x5_1).f0), .int .i64 ((rd_T34 l1 x5_1).f1)]] ?_
        with_reducible refine (laws_eqEndPoint.calls ((rd_T34 l0 x5_1).f0) ((rd_T34 l0 x5_1).f1) ((rd_T34 l1 x5_1).f0) ((rd_T34 l1 x5_1).f1) true _ A7.out).mono ?_
        rintro e w10 ⟨rfl, hb⟩
        refine ⟨_, rfl, ?_⟩
        replace HB := hbS HB hb
        (try clear hb)
        (try clear hb2)
        (try clear hk)
        (try clear hi)
        refine hK.out _ _ ⟨(bcl HB hw518_0), (bcl HB hw518_1), (bcl HB hw519_0), (bcl HB hw519_1)⟩ (fun hHeld => ?_)
        clear hK K
        refine nm_ ?_
        refine pu_ 9 (some 26) (bm 10 1023) ?_
        refine done_ (done_of HT_.out (by kernel_rfl)) ?_
        try go_wp2
        go_roundg k1
        case measure => have := HK1.out; omega
        case rel => exact ⟨(wrap64 (x5_1 + 1)), rs_, H', ⟨by have := HK1.out; omega⟩, ⟨m0_⟩⟩
       ·replace c8 := Bool.eq_false_iff.mpr c8
        subst c8
        have H1 : (some false) = some r := by rw [if_neg (show ¬ (false = true) by decide)] at H; exact H
        clear H
        have H := H1
        clear H1
        obtain rfl := Option.some.inj H
        try go_wp2
        replace HB := am (below_drew1 HB.out)
        have p518 : 0 ≤ (x5_1 : Int) := of_decide_eq_true da_
        have q518 : x5_1 < (l0.length : Int) := of_decide_eq_true da_
        obtain ⟨ad518, e518, hx518_0, hx518_1⟩ := at_T34 HR0.out x5_1 p518 q518
        have hw518_1 := hx518_1
        have hw518_0 := hx518_0
        cases e518
        replace hx518_0 := bcl HB hx518_0
        replace hx518_1 := bcl HB hx518_1
        replace p518 := eq_true p518
        replace q518 := eq_true q518
        have p519 : 0 ≤ (x5_1 : Int) := of_decide_eq_true da_
        have q519 : x5_1 < (l1.length : Int) := of_decide_eq_true da_
        obtain ⟨ad519, e519, hx519_0, hx519_1⟩ := at_T34 HR1.out x5_1 p519 q519
        have hw519_1 := hx519_1
        have hw519_0 := hx519_0
        cases e519
        replace hx519_0 := bcl HB hx519_0
        replace hx519_1 := bcl HB hx519_1
        replace p519 := eq_true p519
        replace q519 := eq_true q519
        refine start_ (n := 10) (S := fun w' => w'.cell? (ad518.add ((x5_1).toNat * 2)) = some (.int .i64 ((rd_T34 l0 x5_1).f0)) ∧ w'.cell? ⟨(ad518.add ((x5_1).toNat * 2)).block, (ad518.add ((x5_1).toNat * 2)).off + 1, none⟩ = some (.int .i64 ((rd_T34 l0 x5_1).f1)) ∧ w'.cell? (ad519.add ((x5_1).toNat * 2)) = some (.int .i64 ((rd_T34 l1 x5_1).f0)) ∧ w'.cell? ⟨(ad519.add ((x5_1).toNat * 2)).block, (ad519.add ((x5_1).toNat * 2)).off + 1, none⟩ = some (.int .i64 ((rd_T34 l1 x5_1).f1))) (ds := []) #[false, false, false, false, false, false, false, false, false, false] (by kernel_rfl) rfl rfl ⟨(bcl HB hw518_0), (bcl HB hw518_1), (bcl HB hw519_0), (bcl HB hw519_1)⟩ (fun hHeld => ?_); refine with_tabW laws_eqEndPointS.tab6 laws_eqEndPointS.bits6 (fun HT_ HW_ => ?_)
        generalize wr.drew = w11 at HB hx518_0 hx518_1 hx519_0 hx519_1 hHeld ⊢
        refine pu_ 0 (some 17) (bm 10 1) ?_
        refine pu_ 1 (some 18) (bm 10 3) ?_
        refine pu_ 2 (some 19) (bm 10 7) ?_
        refine pu_ 4 (some 21) (bm 10 23) ?_
        refine pu_ 5 (some 22) (bm 10 55) ?_
        refine pu_ 6 (some 23) (bm 10 119) ?_
        refine tk_ 3 (some 20) (bm 10 127) rfl (.inl ⟨rfl, m29_⟩) ?_
        refine tk_ 7 (some 24) (bm 10 255) rfl (.inl ⟨rfl, m29_⟩) ?_
        refine on_ 8 (some 25) (bm 10 511) (fun K hK => ?_)
        refine gR Tryz.func91 #[.agg #[.int .i64 ((rd_T34 l0 x5_1).f0), .int .i64 ((rd_T34 l0 x5_1).f1)], .agg #[.int .i64 ((rd_T34 l1 x5_1).f0), .int .i64 ((rd_T34 l1 x5_1).f1)]] ?_
        with_reducible refine (laws_eqEndPoint.calls ((rd_T34 l0 x5_1).f0) ((rd_T34 l0 x5_1).f1) ((rd_T34 l1 x5_1).f0) ((rd_T34 l1 x5_1).f1) false _ A7.out).mono ?_
        rintro e w12 ⟨rfl, hb⟩
        refine ⟨_, rfl, ?_⟩
        replace HB := hbS HB hb
        (try clear hb)
        (try clear hb2)
        (try clear hk)
        (try clear hi)
        refine hK.out _ _ ⟨(bcl HB hw518_0), (bcl HB hw518_1), (bcl HB hw519_0), (bcl HB hw519_1)⟩ (fun hHeld => ?_)
        clear hK K
        refine nm_ ?_
        refine pu_ 9 (some 26) (bm 10 1023) ?_
        refine done_ (done_of HT_.out (by kernel_rfl)) ?_
        try go_wp2
        go_ret
        exact ⟨fi_, m0_⟩
      ·rw [if_neg c6] at H
       exact absurd H (by simp)
     ·rw [if_neg c5] at H
      exact absurd H (by simp)
    ·rw [if_neg c4] at H
     have c4b0 : decide (x5_1 < (l0.length : Int)) = false := decide_eq_false c4
     clear c4
     obtain rfl := Option.some.inj H
     go_wp2
     go_ret
     exact ⟨fi_, m0_⟩
 ·rw [if_neg c3] at H
  have c3b0 : ((l0.length : Int) == (l1.length : Int)) = false := beq_eq_false_iff_ne.mpr c3
  have c3b1 : ((l0.length : Int) != (l1.length : Int)) = true := bne_iff_ne.mpr c3
  have c3b2 : (l0.length == l1.length) = false := by first | simpa using c3 | (simp at c3 ⊢; omega)
  obtain rfl := Option.some.inj H
  go_enter Tryz.func60, Tryz.ntmps60
  go_wp2
  go_ret
  exact ⟨fi_, m0_⟩
def laws_eqMapTab.f (k : Nat) (l0_0 : List (S34)) (l1_0 : List (S34)) : Option (Bool) := (laws_eqEndPointS.f k l0_0 l1_0).bind fun t523 => (if t523 = true then (some true) else (some false))
theorem laws_eqMapTab.mono : ∀ a0 a1 k, LeO (laws_eqMapTab.f k a0 a1) (laws_eqMapTab.f (k + 1) a0 a1) := by
 intro a0 a1 k
 unfold laws_eqMapTab.f
 repeat' first | (with_reducible first | exact laws_eqEndPointS.mono _ _ _ | exact LeO.refl _ | exact LeO.none _ | refine LeO.ite ?_ ?_ | refine LeO.bind ?_ (fun _ => ?_)) | exact laws_eqEndPointS.mono _ _ _ | exact LeO.none _ | refine LeO.ite ?_ ?_ | refine LeO.bind ?_ (fun _ => ?_)
set_option maxHeartbeats 8000000 in
set_option maxRecDepth 100000 in
theorem laws_eqMapTab.calls (k : Nat) (A0_0 : Option Addr) (c0_0 : Nat) (l0_0 : List (S34)) (A1_0 : Option Addr) (c1_0 : Nat) (l1_0 : List (S34)) (r : Bool) (w : World) (hr0_0 : Kd.C k34 w A0_0 l0_0.length l0_0) (hc0_0 : l0_0.length ≤ c0_0) (hr1_0 : Kd.C k34 w A1_0 l1_0.length l1_0) (hc1_0 : l1_0.length ≤ c1_0) (h : laws_eqMapTab.f k l0_0 l1_0 = some r) :
  Calls Tryz.prog 27 #[.agg #[.slice A0_0 l0_0.length c0_0], .agg #[.slice A1_0 l1_0.length c1_0]] w fun e w' => e = .returned (.bool r) ∧ Below w.heap.size w w' := by
 have hu25 := Tryz.underlying25
 have HR0_0 := am hr0_0
 have HC0_0 := am hc0_0
 clear hr0_0 hc0_0
 have HR1_0 := am hr1_0
 have HC1_0 := am hc1_0
 clear hr1_0 hc1_0
 have HB := am (Below.refl w.heap.size w)
 have H : ((laws_eqEndPointS.f k l0_0 l1_0).bind fun t523 => (if t523 = true then (some true) else (some false))) = some r := h
 clear h
 obtain ⟨t523, A3, H⟩ := bse H
 try dsimp only at H
 by_cases c4 : t523 = true
 ·subst c4
  have H1 : (some true) = some r := by rw [if_pos rfl] at H; exact H
  clear H
  have H := H1
  clear H1
  obtain rfl := Option.some.inj H
  go_enter Tryz.func27, Tryz.ntmps27
  go_wp2_with (first | ((with_reducible refine gate_dst (N := 2) rfl ?_); refine box_event rfl (N := 2) rfl (cs := #[.slice A0_0 l0_0.length c0_0]) (t := 25) hr_ ?_; intro gb521 hg w5 hbox hb; have BK521 := am hbox; have GW521 := gwE HB hg; have GE521 := gwE HB hg; replace HB := hbS HB hb; clear hb hbox hg) | ((with_reducible refine gate_dst (N := 3) rfl ?_); refine box_event rfl (N := 3) rfl (cs := #[.slice A1_0 l1_0.length c1_0]) (t := 25) hr_ ?_; intro gb522 hg w6 hbox hb; have BK522 := am hbox; have GW522 := gwE HB hg; have GE522 := gwE HB hg; replace HB := hbS HB hb; have NB521_522 := neL BK521 hg; have NB522_521 := neG BK521 hg; replace BK521 := bkB BK521 hb; clear hb hbox hg; have := NB521_522.out; have := NB522_521.out; have := bcell BK521 0; have := bfz BK521 0; have := bcell BK522 0; have := bfz BK522 0) | ((with_reducible refine gate_callee (f := 60) rfl ?_); refine gL (some 9) Tryz.func60 #[.slice A0_0 l0_0.length c0_0, .slice A1_0 l1_0.length c1_0] ?_; (with_reducible refine (laws_eqEndPointS.calls k _ _ l0_0 _ _ l1_0 true _ ?side1 ?side2 ?side3 ?side4 A3.out).mono ?_); (case side1 => exact m4_); (case side2 => exact HC0_0.out); (case side3 => exact m14_); (case side4 => exact HC1_0.out); rintro e w10 ⟨rfl, hb⟩; refine ⟨_, rfl, ?_⟩; replace BK521 := bkB BK521 hb; replace BK522 := bkB BK522 hb; replace HB := hbS HB hb; (try clear hb)))
  go_ret
  exact ⟨fi_, m2_⟩
 ·replace c4 := Bool.eq_false_iff.mpr c4
  subst c4
  have H1 : (some false) = some r := by rw [if_neg (show ¬ (false = true) by decide)] at H; exact H
  clear H
  have H := H1
  clear H1
  obtain rfl := Option.some.inj H
  go_enter Tryz.func27, Tryz.ntmps27
  go_wp2_with (first | ((with_reducible refine gate_dst (N := 2) rfl ?_); refine box_event rfl (N := 2) rfl (cs := #[.slice A0_0 l0_0.length c0_0]) (t := 25) hr_ ?_; intro gb521 hg w11 hbox hb; have BK521 := am hbox; have GW521 := gwE HB hg; have GE521 := gwE HB hg; replace HB := hbS HB hb; clear hb hbox hg) | ((with_reducible refine gate_dst (N := 3) rfl ?_); refine box_event rfl (N := 3) rfl (cs := #[.slice A1_0 l1_0.length c1_0]) (t := 25) hr_ ?_; intro gb522 hg w12 hbox hb; have BK522 := am hbox; have GW522 := gwE HB hg; have GE522 := gwE HB hg; replace HB := hbS HB hb; have NB521_522 := neL BK521 hg; have NB522_521 := neG BK521 hg; replace BK521 := bkB BK521 hb; clear hb hbox hg; have := NB521_522.out; have := NB522_521.out; have := bcell BK521 0; have := bfz BK521 0; have := bcell BK522 0; have := bfz BK522 0) | ((with_reducible refine gate_callee (f := 60) rfl ?_); refine gL (some 9) Tryz.func60 #[.slice A0_0 l0_0.length c0_0, .slice A1_0 l1_0.length c1_0] ?_; (with_reducible refine (laws_eqEndPointS.calls k _ _ l0_0 _ _ l1_0 false _ ?side1 ?side2 ?side3 ?side4 A3.out).mono ?_); (case side1 => exact m4_); (case side2 => exact HC0_0.out); (case side3 => exact m14_); (case side4 => exact HC1_0.out); rintro e w16 ⟨rfl, hb⟩; refine ⟨_, rfl, ?_⟩; replace BK521 := bkB BK521 hb; replace BK522 := bkB BK522 hb; replace HB := hbS HB hb; (try clear hb)))
  go_ret
  exact ⟨fi_, m2_⟩
def laws_markEndPointS.l0 : Nat → List (S34) → Int → Int → Option (Int × (List (S34)))
 | 0, _, _, _ => none
 | k + 1, x0, x1, x5 => if x5 < (x0.length : Int) then (if 0 ≤ x5 then ((some (x0.set (x5 : Int).toNat (⟨x1, (rd_T34 x0 x5).f1⟩ : S34) : List (S34))).bind fun y524 => (laws_markEndPointS.l0 k (y524.set (x5 : Int).toNat (⟨(rd_T34 y524 x5).f0, wrap64 (x1 + 1)⟩ : S34)) (wrap64 ((wrap64 (x1 + 1)) + 1)) (wrap64 (x5 + 1)))) else (none)) else (some (x1, x0))
def laws_markEndPointS.f (k : Nat) (l0 : List (S34)) (a1 : Int) : Option (Int × (List (S34))) := laws_markEndPointS.l0 k l0 a1 0
theorem laws_markEndPointS.mono_l : ∀ k, (∀ y0 y1 y2, LeO (laws_markEndPointS.l0 k y0 y1 y2) (laws_markEndPointS.l0 (k + 1) y0 y1 y2))
 | 0 => fun _ _ _ r h => by simp [laws_markEndPointS.l0] at h
 | k + 1 => by
  have ih0 := laws_markEndPointS.mono_l k
  ·intro y0 y1 y2
   unfold laws_markEndPointS.l0
   repeat' first | (with_reducible first | exact ih0 _ _ _ | exact LeO.refl _ | exact LeO.none _ | refine LeO.ite ?_ ?_ | refine LeO.bind ?_ (fun _ => ?_)) | exact ih0 _ _ _ | exact LeO.none _ | refine LeO.ite ?_ ?_ | refine LeO.bind ?_ (fun _ => ?_)
theorem laws_markEndPointS.mono : ∀ a0 a1 k, LeO (laws_markEndPointS.f k a0 a1) (laws_markEndPointS.f (k + 1) a0 a1) := by
 intro a0 a1 k
 have ih0 := laws_markEndPointS.mono_l k
 unfold laws_markEndPointS.f
 repeat' first | (with_reducible first | exact ih0 _ _ _ | exact LeO.refl _ | exact LeO.none _ | refine LeO.ite ?_ ?_ | refine LeO.bind ?_ (fun _ => ?_)) | exact ih0 _ _ _ | exact LeO.none _ | refine LeO.ite ?_ ?_ | refine LeO.bind ?_ (fun _ => ?_)
set_option maxHeartbeats 8000000 in
set_option maxRecDepth 100000 in
theorem laws_markEndPointS.calls (k : Nat) (P0_ : Nat → Prop) (u9000_ : Value) (l0 : List (S34)) (a1 : Int) (r1 : Int) (r2 : List (S34)) (w0 w : World) (hB : Below w0.heap.size w0 w) (ho0 : Kd.R k34 34 w w0.heap.size P0_ u9000_ l0) (h : laws_markEndPointS.f k l0 a1 = some (r1, r2)) :
  Calls Tryz.prog 61 #[u9000_, .int .i64 a1] w fun e w' => e = .returned (.int .i64 r1) ∧ Kd.R k34 34 w' w0.heap.size (fun k_ => (P0_ k_ ∨ w.heap.size ≤ k_)) u9000_ r2 ∧ Below w0.heap.size w0 w' ∧ Kept w w' (fun k_ => P0_ k_) := by
 have HO0 := am (show Kd.R k34 34 w w0.heap.size (fun k_ => (P0_ k_ ∨ w.heap.size ≤ k_)) u9000_ l0 from Kd.R_mono ho0 (fun k_ hk => (.inl hk)))
 have HK := am (Kept.refl w (fun k_ => P0_ k_))
 have HW0 := am hB.size
 have HB := am hB
 clear hB
 have H : (laws_markEndPointS.l0 k l0 a1 0) = some (r1, r2) := h
 clear h
 have H' := am H
 clear H
 go_enter Tryz.func61, Tryz.ntmps61
 go_wp2
 go_loopg [1, 5] k (fun kq v1 v5 w' => ∃ (x0_1 : List (S34)) (x1_1 : Int) (x5_1 : Int), v1 = .int .i64 x1_1 ∧ v5 = .int .i64 x5_1 ∧ Aside0 (laws_markEndPointS.l0 kq x0_1 x1_1 x5_1 = some (r1, r2)) ∧ Aside0 (kq ≤ k) ∧ Aside0 (Kd.R k34 34 w' w0.heap.size (fun k_ => (P0_ k_ ∨ w.heap.size ≤ k_)) u9000_ x0_1) ∧ Aside0 (Kept w w' (fun k_ => P0_ k_)) ∧ Aside0 (Below w0.heap.size w0 w'))
 case atStart => exact ⟨(l0), (a1), (0), rs_, rs_, H', ⟨Nat.le_refl _⟩, ⟨by (with_reducible repeat apply ru); exact HO0.out⟩, ⟨m15_⟩, ⟨m0_⟩⟩
 case round =>
  clear H'
  try clear p2
  obtain ⟨x0_1, x1_1, x5_1, rfl, rfl, HA, HK1, HO_0, HK, HB⟩ := hrel
  cases gk with
  | zero => exact absurd HA.out (by simp [laws_markEndPointS.l0])
  | succ k1 =>
   have H := HA.out
   clear HA
   simp only [laws_markEndPointS.l0] at H
   by_cases c3 : x5_1 < (x0_1.length : Int)
   ·rw [if_pos c3] at H
    have c3b0 : decide (x5_1 < (x0_1.length : Int)) = true := decide_eq_true c3
    clear c3
    by_cases c4 : 0 ≤ x5_1
    ·rw [if_pos c4] at H
     have c4b0 : decide (0 ≤ x5_1) = true := decide_eq_true c4
     clear c4
     obtain ⟨y524, hy524⟩ : ∃ y_ : List (S34), y_ = (x0_1.set (x5_1 : Int).toNat (⟨x1_1, (rd_T34 x0_1 x5_1).f1⟩ : S34)) := ⟨_, rfl⟩
     replace H : (laws_markEndPointS.l0 k1 (y524.set (x5_1 : Int).toNat (⟨(rd_T34 y524 x5_1).f0, wrap64 (x1_1 + 1)⟩ : S34)) (wrap64 ((wrap64 (x1_1 + 1)) + 1)) (wrap64 (x5_1 + 1))) = some (r1, r2) := by first | (rw [hy524]; with_reducible exact H) | (have H2_ := (Option.bind_some _ _).symm.trans H; rw [hy524]; with_reducible exact H2_) | (have H2_ := (Option.bind_some _ _).symm.trans H; with_reducible exact H2_) | with_reducible exact H | (rw [hy524]; exact H) | exact H
     have Ny524 := am hy524
     clear hy524
     obtain ⟨y525, hy525⟩ : ∃ y_ : List (S34), y_ = (y524.set (x5_1 : Int).toNat (⟨(rd_T34 y524 x5_1).f0, wrap64 (x1_1 + 1)⟩ : S34)) := ⟨_, rfl⟩
     replace H : (laws_markEndPointS.l0 k1 y525 (wrap64 ((wrap64 (x1_1 + 1)) + 1)) (wrap64 (x5_1 + 1))) = some (r1, r2) := by first | (rw [hy525]; with_reducible exact H) | (have H2_ := (Option.bind_some _ _).symm.trans H; rw [hy525]; with_reducible exact H2_) | (have H2_ := (Option.bind_some _ _).symm.trans H; with_reducible exact H2_) | with_reducible exact H | (rw [hy525]; exact H) | exact H
     have Ny525 := am hy525
     clear hy525
     have H' := am H
     clear H
     obtain ⟨Ao7, co7, eo7⟩ := Kd.R_slice HO_0.out
     subst eo7
     have p5 : 0 ≤ (x5_1 : Int) := of_decide_eq_true da_
     have q5 : (x5_1 : Int) < ((x0_1.length : Int) : Int) := of_decide_eq_true da_
     obtain ⟨go5, co5, eo5, gb5, gl5, cl5, HG5⟩ := Kd.R_form HO_0.out (by omega)
     (first | cases eo5 | (injection eo5 with ea_ en_ ec_; (first | subst ea_ | (injection ea_ with ea_; subst ea_)); subst ec_; clear en_))
     have GB5 := am gb5
     have GG5 := am HG5
     clear gb5 gl5 HG5
     have HMgo5 := am (show (P0_ go5 ∨ w.heap.size ≤ go5) from (HO_0.out.1 _ rfl))
     obtain ⟨ce5, hcl5, hM5, hcc5, hfr5⟩ := Kd.R_elem HO_0.out z34 (x5_1 : Int) p5 q5
     obtain rfl := k34_openM hM5
     have hx5_0 : wr.cell? ⟨go5, (x5_1 : Int).toNat * 2, none⟩ = some (.int .i64 ((rd_T34 x0_1 x5_1).f0)) := hcc5 0 _ rfl
     have hx5_1 : wr.cell? ⟨go5, (x5_1 : Int).toNat * 2 + 1, none⟩ = some (.int .i64 ((rd_T34 x0_1 x5_1).f1)) := hcc5 1 _ rfl
     have hf5_0 : wr.frozen? ⟨go5, (x5_1 : Int).toNat * 2, none⟩ = false := hfr5 0
     have hf5_1 : wr.frozen? ⟨go5, (x5_1 : Int).toNat * 2 + 1, none⟩ = false := hfr5 1
     clear hcl5 hcc5 hfr5 hM5
     replace p5 := eq_true p5
     replace q5 := eq_true q5
     have HX8 := am (show Kd.R k34 34 wr w0.heap.size (fun k_ => (P0_ k_ ∨ w.heap.size ≤ k_)) (.slice (some ⟨go5, 0, none⟩) x0_1.length co7) x0_1 from (rs HO_0))
     obtain ⟨ce8, hcl8, hM8, hcc8, hfr8⟩ := Kd.R_elem HX8.out z34 (x5_1 : Int) (of_decide_eq_true da_) (by have h_ : (x5_1 : Int) < ((x0_1.length : Int) : Int) := of_decide_eq_true da_; first | exact h_ | (have e_ := (Kd.R_reads' HO_0.out).1; omega) | simpa using h_)
     obtain rfl := k34_openM hM8
     have HP8 := Kd.R_seg HX8.out (x5_1 : Int) (of_decide_eq_true da_) (by have h_ : (x5_1 : Int) < ((x0_1.length : Int) : Int) := of_decide_eq_true da_; first | exact h_ | (have e_ := (Kd.R_reads' HO_0.out).1; omega) | simpa using h_) (seg := [.int .i64 x1_1]) (j := 0) hcl8 hcc8 (show 1 ≤ 2 from by decide) (x' := (⟨x1_1, (rd_T34 x0_1 x5_1).f1⟩ : S34)) (k34_mkM _ _ _ (⟨x1_1, (rd_T34 x0_1 x5_1).f1⟩ : S34) ) (fun _ hk => hk)
     have hx8_0 := hcc8 0 _ rfl
     (try simp only [show (k34).sz = 2 from rfl, Nat.mul_one, Nat.add_zero] at hx8_0)
     have hf8_0 := hfr8 0
     (try simp only [show (k34).sz = 2 from rfl, Nat.mul_one, Nat.add_zero] at hf8_0)
     clear hcl8 hcc8 hfr8 hM8
     go_wp2_with (first | ((with_reducible refine gate_store (t := 3) (p := 16) rfl ?_); refine store_event (t := 3) (p := 16) (v := ?vo_w9) (w1 := (wr.setCell ⟨go5, (x5_1 : Int).toNat * 2, none⟩ (.int .i64 x1_1))) ?hg ?ho ?hn ?hr ?_; (case ho => rfl); (case hg => rfl); (case hn => rfl); (case hr => first | (go_simp; done) | (go_simp; rfl)); intro w9 hw; have hg : wr.grownBy w9 (some go5) := (by rw [hw]; exact HP8.2); have hp_ : Kd.R k34 34 w9 w0.heap.size (fun k_ => (P0_ k_ ∨ w.heap.size ≤ k_)) (.slice (some ⟨go5, 0, none⟩) x0_1.length co7) y524 := (by rw [hw, Ny524.out]; exact HP8.1); clear HP8; replace HB := am ((by rw [hw]; exact below_set (HB.out) GB5.out : Below w0.heap.size w0 w9)); replace HK := am (Kept.of_grown (S := (fun k_ => P0_ k_)) hg m15_ (fun k_ e_ => (HO_0.out.1 k_ e_))); replace HO_0 := am (hp_); clear hg hw hp_; have p6 : 0 ≤ (x5_1 : Int) := of_decide_eq_true da_; have q6 : (x5_1 : Int) < ((x0_1.length : Int) : Int) := of_decide_eq_true da_; obtain ⟨ce6, hcl6, hM6, hcc6, hfr6⟩ := Kd.R_elem HO_0.out z34 (x5_1 : Int) p6 q6; obtain rfl := k34_openM hM6; have hx6_0 : w9.cell? ⟨go5, (x5_1 : Int).toNat * 2, none⟩ = some (.int .i64 ((rd_T34 y524 x5_1).f0)) := hcc6 0 _ rfl; have hx6_1 : w9.cell? ⟨go5, (x5_1 : Int).toNat * 2 + 1, none⟩ = some (.int .i64 ((rd_T34 y524 x5_1).f1)) := hcc6 1 _ rfl; have hf6_0 : w9.frozen? ⟨go5, (x5_1 : Int).toNat * 2, none⟩ = false := hfr6 0; have hf6_1 : w9.frozen? ⟨go5, (x5_1 : Int).toNat * 2 + 1, none⟩ = false := hfr6 1; clear hcl6 hcc6 hfr6 hM6; replace p6 := eq_true p6; replace q6 := eq_true q6; have HX10 := am (show Kd.R k34 34 w9 w0.heap.size (fun k_ => (P0_ k_ ∨ w.heap.size ≤ k_)) (.slice (some ⟨go5, 0, none⟩) x0_1.length co7) y524 from (rs HO_0)); obtain ⟨ce10, hcl10, hM10, hcc10, hfr10⟩ := Kd.R_elem HX10.out z34 (x5_1 : Int) (of_decide_eq_true da_) (by have h_ : (x5_1 : Int) < ((x0_1.length : Int) : Int) := of_decide_eq_true da_; first | exact h_ | (have e_ := (Kd.R_reads' HO_0.out).1; omega) | simpa using h_); obtain rfl := k34_openM hM10; have HP10 := Kd.R_seg HX10.out (x5_1 : Int) (of_decide_eq_true da_) (by have h_ : (x5_1 : Int) < ((x0_1.length : Int) : Int) := of_decide_eq_true da_; first | exact h_ | (have e_ := (Kd.R_reads' HO_0.out).1; omega) | simpa using h_) (seg := [.int .i64 (wrap64 (x1_1 + 1))]) (j := 1) hcl10 hcc10 (show 2 ≤ 2 from by decide) (x' := (⟨(rd_T34 y524 x5_1).f0, wrap64 (x1_1 + 1)⟩ : S34)) (k34_mkM _ _ _ (⟨(rd_T34 y524 x5_1).f0, wrap64 (x1_1 + 1)⟩ : S34) ) (fun _ hk => hk); have hx10_1 := hcc10 1 _ rfl; (try simp only [show (k34).sz = 2 from rfl, Nat.mul_one, Nat.add_zero] at hx10_1); have hf10_1 := hfr10 1; (try simp only [show (k34).sz = 2 from rfl, Nat.mul_one, Nat.add_zero] at hf10_1); clear hcl10 hcc10 hfr10 hM10) | ((with_reducible refine gate_store (t := 3) (p := 23) rfl ?_); refine store_event (t := 3) (p := 23) (v := ?vo_w11) (w1 := (w9.setCell ⟨go5, (x5_1 : Int).toNat * 2 + 1, none⟩ (.int .i64 (wrap64 (x1_1 + 1))))) ?hg ?ho ?hn ?hr ?_; (case ho => rfl); (case hg => rfl); (case hn => rfl); (case hr => first | (go_simp; done) | (go_simp; rfl)); intro w11 hw; have hg : w9.grownBy w11 (some go5) := (by rw [hw]; exact HP10.2); have hp_ : Kd.R k34 34 w11 w0.heap.size (fun k_ => (P0_ k_ ∨ w.heap.size ≤ k_)) (.slice (some ⟨go5, 0, none⟩) x0_1.length co7) y525 := (by rw [hw, Ny525.out]; exact HP10.1); clear HP10; replace HB := am ((by rw [hw]; exact below_set (HB.out) GB5.out : Below w0.heap.size w0 w11)); replace HK := am (Kept.of_grown (S := (fun k_ => P0_ k_)) hg m15_ (fun k_ e_ => (HO_0.out.1 k_ e_))); replace HO_0 := am (hp_); clear hg hw hp_))
     go_roundg k1
     case measure => have := HK1.out; omega
     case rel => exact ⟨(y525), (wrap64 ((wrap64 (x1_1 + 1)) + 1)), (wrap64 (x5_1 + 1)), rs_, rs_, H', ⟨by have := HK1.out; omega⟩, ⟨by (with_reducible repeat apply ru); exact HO_0.out⟩, ⟨m15_⟩, ⟨m0_⟩⟩
    ·rw [if_neg c4] at H
     exact absurd H (by simp)
   ·rw [if_neg c3] at H
    have c3b0 : decide (x5_1 < (x0_1.length : Int)) = false := decide_eq_false c3
    clear c3
    simp only [Option.some.injEq, Prod.mk.injEq] at H
    obtain ⟨rfl, rfl⟩ := H
    obtain ⟨Ao12, co12, eo12⟩ := Kd.R_slice HO_0.out
    subst eo12
    go_wp2
    go_ret
    exact ⟨fi_, by (with_reducible repeat apply ru); exact HO_0.out, m0_, m15_⟩
def laws_markMapTab.f (k : Nat) (l0_0 : List (S34)) (a1 : Int) : Option (Int × (List (S34))) := (laws_markEndPointS.f k l0_0 a1).bind fun bt527 => (some (bt527.1, bt527.2))
theorem laws_markMapTab.mono : ∀ a0 a1 k, LeO (laws_markMapTab.f k a0 a1) (laws_markMapTab.f (k + 1) a0 a1) := by
 intro a0 a1 k
 unfold laws_markMapTab.f
 repeat' first | (with_reducible first | exact laws_markEndPointS.mono _ _ _ | exact LeO.refl _ | exact LeO.none _ | refine LeO.ite ?_ ?_ | refine LeO.bind ?_ (fun _ => ?_)) | exact laws_markEndPointS.mono _ _ _ | exact LeO.none _ | refine LeO.ite ?_ ?_ | refine LeO.bind ?_ (fun _ => ?_)
set_option maxHeartbeats 8000000 in
set_option maxRecDepth 100000 in
theorem laws_markMapTab.calls (k : Nat) (P0_0_ : Nat → Prop) (u9000_ : Value) (l0_0 : List (S34)) (a1 : Int) (r1 : Int) (r2 : List (S34)) (w0 w : World) (hB : Below w0.heap.size w0 w) (ho0_0 : Kd.R k34 34 w w0.heap.size P0_0_ u9000_ l0_0) (h : laws_markMapTab.f k l0_0 a1 = some (r1, r2)) :
  Calls Tryz.prog 28 #[.agg #[u9000_], .int .i64 a1] w fun e w' => e = .returned (.int .i64 r1) ∧ Kd.R k34 34 w' w0.heap.size (fun k_ => (P0_0_ k_ ∨ w.heap.size ≤ k_)) u9000_ r2 ∧ Below w0.heap.size w0 w' ∧ Kept w w' (fun k_ => P0_0_ k_) := by
 have hu25 := Tryz.underlying25
 have HO0_0 := am (show Kd.R k34 34 w w0.heap.size (fun k_ => (P0_0_ k_ ∨ w.heap.size ≤ k_)) u9000_ l0_0 from Kd.R_mono ho0_0 (fun k_ hk => (.inl hk)))
 have HK := am (Kept.refl w (fun k_ => P0_0_ k_))
 have HW0 := am hB.size
 have HB := am hB
 clear hB
 have H : ((laws_markEndPointS.f k l0_0 a1).bind fun bt527 => (some (bt527.1, bt527.2))) = some (r1, r2) := h
 clear h
 obtain ⟨⟨t527, t528⟩, A3, H⟩ := bse H
 try dsimp only at H
 simp only [Option.some.injEq, Prod.mk.injEq] at H
 obtain ⟨rfl, rfl⟩ := H
 obtain ⟨Ao4, co4, eo4⟩ := Kd.R_slice HO0_0.out
 subst eo4
 go_enter Tryz.func28, Tryz.ntmps28
 go_wp2_with (first | ((with_reducible refine gate_dst (N := 2) rfl ?_); refine box_event rfl (N := 2) rfl (cs := #[.slice Ao4 l0_0.length co4]) (t := 25) hr_ ?_; intro gb526 hg w5 hbox hb; replace HO0_0 := am (Kd.R_below (rs HO0_0) hb); have BK526 := am hbox; have GW526 := am ((by rw [hg]; exact (by first | exact HK.out.1 | exact (show Kept w _ (fun k_ => P0_0_ k_) from m15_).1) : w.heap.size ≤ gb526)); replace HK := am (Kept.below (S := (fun k_ => P0_0_ k_)) m15_ hb); have GE526 := gwE HB hg; replace HB := hbS HB hb; clear hb hbox hg; have := bcell BK526 0; have := bfz BK526 0) | ((with_reducible refine gate_callee (f := 61) rfl ?_); refine gL (some 8) Tryz.func61 #[.slice Ao4 l0_0.length co4, .int .i64 a1] ?_; (with_reducible refine (laws_markEndPointS.calls k (fun k_ => some k_ = (.slice Ao4 l0_0.length co4 : Value).ownBlock) (.slice Ao4 l0_0.length co4) l0_0 a1 t527 t528 w0 _ ?side1 ?side2 A3.out).mono ?_); (case side1 => exact m2_); (case side2 => exact Kd.R_tight rfl HO0_0.out); rintro e w7 ⟨rfl, hy0, hb, hkp⟩; refine ⟨_, rfl, ?_⟩; replace BK526 := am (blk_kept (bk BK526) hkp (fun hs_ => (fun e_ => (Kd.R_ne HO0_0.out BK526.out (by decide)) e_) hs_)); replace HK := am (Kept.then_ (S := (fun k_ => P0_0_ k_)) m16_ hkp (fun k_ hs_ => (fun e_ => (HO0_0.out.1 k_ e_.symm)) hs_)); replace HO0_0 := am (Kd.R_reok rfl hy0 (fun k_ e_ => HO0_0.out.1 k_ e_)); replace HB := am hb; (try clear hb); (try clear hkp); (try clear hy0)))
 go_ret
 exact ⟨fi_, by (with_reducible repeat apply ru); exact HO0_0.out, m2_, m16_⟩
def laws_heldEndPointS.l0 : Nat → List (S34) → Int → Int → Option (Int)
 | 0, _, _, _ => none
 | k + 1, x0, x1, x5 => if x5 < (x0.length : Int) then (if 0 ≤ x5 then (if ((rd_T34 x0 x5).f0) = x1 then (if ((rd_T34 x0 x5).f1) = (wrap64 (x1 + 1)) then (laws_heldEndPointS.l0 k x0 (wrap64 ((wrap64 (x1 + 1)) + 1)) (wrap64 (x5 + 1))) else (some (-1))) else (some (-1))) else (none)) else (some x1)
def laws_heldEndPointS.f (k : Nat) (l0 : List (S34)) (a1 : Int) : Option (Int) := laws_heldEndPointS.l0 k l0 a1 0
theorem laws_heldEndPointS.mono_l : ∀ k, (∀ y0 y1 y2, LeO (laws_heldEndPointS.l0 k y0 y1 y2) (laws_heldEndPointS.l0 (k + 1) y0 y1 y2))
 | 0 => fun _ _ _ r h => by simp [laws_heldEndPointS.l0] at h
 | k + 1 => by
  have ih0 := laws_heldEndPointS.mono_l k
  ·intro y0 y1 y2
   unfold laws_heldEndPointS.l0
   repeat' first | (with_reducible first | exact ih0 _ _ _ | exact LeO.refl _ | exact LeO.none _ | refine LeO.ite ?_ ?_ | refine LeO.bind ?_ (fun _ => ?_)) | exact ih0 _ _ _ | exact LeO.none _ | refine LeO.ite ?_ ?_ | refine LeO.bind ?_ (fun _ => ?_)
theorem laws_heldEndPointS.mono : ∀ a0 a1 k, LeO (laws_heldEndPointS.f k a0 a1) (laws_heldEndPointS.f (k + 1) a0 a1) := by
 intro a0 a1 k
 have ih0 := laws_heldEndPointS.mono_l k
 unfold laws_heldEndPointS.f
 repeat' first | (with_reducible first | exact ih0 _ _ _ | exact LeO.refl _ | exact LeO.none _ | refine LeO.ite ?_ ?_ | refine LeO.bind ?_ (fun _ => ?_)) | exact ih0 _ _ _ | exact LeO.none _ | refine LeO.ite ?_ ?_ | refine LeO.bind ?_ (fun _ => ?_)
set_option maxHeartbeats 8000000 in
set_option maxRecDepth 100000 in
theorem laws_heldEndPointS.calls (k : Nat) (A0 : Option Addr) (c0 : Nat) (l0 : List (S34)) (a1 : Int) (r : Int) (w : World) (hr0 : Kd.C k34 w A0 l0.length l0) (hc0 : l0.length ≤ c0) (h : laws_heldEndPointS.f k l0 a1 = some r) :
  Calls Tryz.prog 62 #[.slice A0 l0.length c0, .int .i64 a1] w fun e w' => e = .returned (.int .i64 r) ∧ Drawn0 w w' := by
 have HR0 := am hr0
 have HC0 := am hc0
 clear hr0 hc0
 have H : (laws_heldEndPointS.l0 k l0 a1 0) = some r := h
 clear h
 have H' := am H
 clear H
 go_enter Tryz.func62, Tryz.ntmps62
 go_wp2
 go_loopg [1, 5] k (fun kq v1 v5 w' => ∃ (x1_1 : Int) (x5_1 : Int), v1 = .int .i64 x1_1 ∧ v5 = .int .i64 x5_1 ∧ Aside0 (laws_heldEndPointS.l0 kq l0 x1_1 x5_1 = some r) ∧ Aside0 (kq ≤ k) ∧ Drawn0 w w')
 case atStart => exact ⟨(a1), (0), rs_, rs_, H', ⟨Nat.le_refl _⟩, by repeat (first | exact Drawn0.refl _ | apply Drawn0.step)⟩
 case round =>
  clear H'
  try clear p2
  obtain ⟨x1_1, x5_1, rfl, rfl, HA, HK1, ⟨m1, rfl⟩⟩ := hrel
  cases gk with
  | zero => exact absurd HA.out (by simp [laws_heldEndPointS.l0])
  | succ k1 =>
   have H := HA.out
   clear HA
   simp only [laws_heldEndPointS.l0] at H
   by_cases c3 : x5_1 < (l0.length : Int)
   ·rw [if_pos c3] at H
    have c3b0 : decide (x5_1 < (l0.length : Int)) = true := decide_eq_true c3
    clear c3
    by_cases c4 : 0 ≤ x5_1
    ·rw [if_pos c4] at H
     have c4b0 : decide (0 ≤ x5_1) = true := decide_eq_true c4
     clear c4
     by_cases c5 : ((rd_T34 l0 x5_1).f0) = x1_1
     ·rw [if_pos c5] at H
      have c5b0 : (((rd_T34 l0 x5_1).f0) == x1_1) = true := beq_iff_eq.mpr c5
      have c5b1 : (((rd_T34 l0 x5_1).f0) != x1_1) = false := bne_eq_false_iff_eq.mpr c5
      clear c5
      by_cases c6 : ((rd_T34 l0 x5_1).f1) = (wrap64 (x1_1 + 1))
      ·rw [if_pos c6] at H
       have c6b0 : (((rd_T34 l0 x5_1).f1) == (wrap64 (x1_1 + 1))) = true := beq_iff_eq.mpr c6
       have c6b1 : (((rd_T34 l0 x5_1).f1) != (wrap64 (x1_1 + 1))) = false := bne_eq_false_iff_eq.mpr c6
       clear c6
       have H' := am H
       clear H
       have p529 : 0 ≤ (x5_1 : Int) := of_decide_eq_true da_
       have q529 : x5_1 < (l0.length : Int) := of_decide_eq_true da_
       obtain ⟨ad529, e529, hx529_0, hx529_1⟩ := at_T34 HR0.out x5_1 p529 q529
       cases e529
       replace p529 := eq_true p529
       replace q529 := eq_true q529
       have p530 : 0 ≤ (x5_1 : Int) := of_decide_eq_true da_
       have q530 : x5_1 < (l0.length : Int) := of_decide_eq_true da_
       obtain ⟨ad530, e530, hx530_0, hx530_1⟩ := at_T34 HR0.out x5_1 p530 q530
       obtain rfl : ad529 = ad530 := (by injection e530)
       replace p530 := eq_true p530
       replace q530 := eq_true q530
       go_wp2
       go_roundg k1
       case measure => have := HK1.out; omega
       case rel => exact ⟨(wrap64 ((wrap64 (x1_1 + 1)) + 1)), (wrap64 (x5_1 + 1)), rs_, rs_, H', ⟨by have := HK1.out; omega⟩, by repeat (first | exact Drawn0.refl _ | apply Drawn0.step)⟩
      ·rw [if_neg c6] at H
       have c6b0 : (((rd_T34 l0 x5_1).f1) == (wrap64 (x1_1 + 1))) = false := beq_eq_false_iff_ne.mpr c6
       have c6b1 : (((rd_T34 l0 x5_1).f1) != (wrap64 (x1_1 + 1))) = true := bne_iff_ne.mpr c6
       obtain rfl := Option.some.inj H
       have p529 : 0 ≤ (x5_1 : Int) := of_decide_eq_true da_
       have q529 : x5_1 < (l0.length : Int) := of_decide_eq_true da_
       obtain ⟨ad529, e529, hx529_0, hx529_1⟩ := at_T34 HR0.out x5_1 p529 q529
       cases e529
       replace p529 := eq_true p529
       replace q529 := eq_true q529
       have p530 : 0 ≤ (x5_1 : Int) := of_decide_eq_true da_
       have q530 : x5_1 < (l0.length : Int) := of_decide_eq_true da_
       obtain ⟨ad530, e530, hx530_0, hx530_1⟩ := at_T34 HR0.out x5_1 p530 q530
       obtain rfl : ad529 = ad530 := (by injection e530)
       replace p530 := eq_true p530
       replace q530 := eq_true q530
       go_wp2
       go_ret
       exact ⟨by first | rfl | (simp; done) | (simp [*]; done), by repeat (first | exact Drawn0.refl _ | apply Drawn0.step)⟩
     ·rw [if_neg c5] at H
      have c5b0 : (((rd_T34 l0 x5_1).f0) == x1_1) = false := beq_eq_false_iff_ne.mpr c5
      have c5b1 : (((rd_T34 l0 x5_1).f0) != x1_1) = true := bne_iff_ne.mpr c5
      obtain rfl := Option.some.inj H
      have p529 : 0 ≤ (x5_1 : Int) := of_decide_eq_true da_
      have q529 : x5_1 < (l0.length : Int) := of_decide_eq_true da_
      obtain ⟨ad529, e529, hx529_0, hx529_1⟩ := at_T34 HR0.out x5_1 p529 q529
      cases e529
      replace p529 := eq_true p529
      replace q529 := eq_true q529
      go_wp2
      go_ret
      exact ⟨by first | rfl | (simp; done) | (simp [*]; done), by repeat (first | exact Drawn0.refl _ | apply Drawn0.step)⟩
    ·rw [if_neg c4] at H
     exact absurd H (by simp)
   ·rw [if_neg c3] at H
    have c3b0 : decide (x5_1 < (l0.length : Int)) = false := decide_eq_false c3
    clear c3
    obtain rfl := Option.some.inj H
    go_wp2
    go_ret
    exact ⟨by first | rfl | (simp; done) | (simp [*]; done), by repeat (first | exact Drawn0.refl _ | apply Drawn0.step)⟩
def laws_heldMapTab.f (k : Nat) (l0_0 : List (S34)) (a1 : Int) : Option (Int) := (laws_heldEndPointS.f k l0_0 a1).bind fun t532 => (if t532 < 0 then (some (-1)) else (some t532))
theorem laws_heldMapTab.mono : ∀ a0 a1 k, LeO (laws_heldMapTab.f k a0 a1) (laws_heldMapTab.f (k + 1) a0 a1) := by
 intro a0 a1 k
 unfold laws_heldMapTab.f
 repeat' first | (with_reducible first | exact laws_heldEndPointS.mono _ _ _ | exact LeO.refl _ | exact LeO.none _ | refine LeO.ite ?_ ?_ | refine LeO.bind ?_ (fun _ => ?_)) | exact laws_heldEndPointS.mono _ _ _ | exact LeO.none _ | refine LeO.ite ?_ ?_ | refine LeO.bind ?_ (fun _ => ?_)
set_option maxHeartbeats 8000000 in
set_option maxRecDepth 100000 in
theorem laws_heldMapTab.calls (k : Nat) (A0_0 : Option Addr) (c0_0 : Nat) (l0_0 : List (S34)) (a1 : Int) (r : Int) (w : World) (hr0_0 : Kd.C k34 w A0_0 l0_0.length l0_0) (hc0_0 : l0_0.length ≤ c0_0) (h : laws_heldMapTab.f k l0_0 a1 = some r) :
  Calls Tryz.prog 29 #[.agg #[.slice A0_0 l0_0.length c0_0], .int .i64 a1] w fun e w' => e = .returned (.int .i64 r) ∧ Below w.heap.size w w' := by
 have hu25 := Tryz.underlying25
 have HR0_0 := am hr0_0
 have HC0_0 := am hc0_0
 clear hr0_0 hc0_0
 have HB := am (Below.refl w.heap.size w)
 have H : ((laws_heldEndPointS.f k l0_0 a1).bind fun t532 => (if t532 < 0 then (some (-1)) else (some t532))) = some r := h
 clear h
 obtain ⟨t532, A3, H⟩ := bse H
 try dsimp only at H
 by_cases c4 : t532 < 0
 ·rw [if_pos c4] at H
  have c4b0 : decide (t532 < 0) = true := decide_eq_true c4
  clear c4
  obtain rfl := Option.some.inj H
  go_enter Tryz.func29, Tryz.ntmps29
  go_wp2_with (first | ((with_reducible refine gate_dst (N := 2) rfl ?_); refine box_event rfl (N := 2) rfl (cs := #[.slice A0_0 l0_0.length c0_0]) (t := 25) hr_ ?_; intro gb531 hg w5 hbox hb; have BK531 := am hbox; have GW531 := gwE HB hg; have GE531 := gwE HB hg; replace HB := hbS HB hb; clear hb hbox hg; have := bcell BK531 0; have := bfz BK531 0) | ((with_reducible refine gate_callee (f := 62) rfl ?_); refine gL (some 8) Tryz.func62 #[.slice A0_0 l0_0.length c0_0, .int .i64 a1] ?_; (with_reducible refine (laws_heldEndPointS.calls k _ _ l0_0 a1 t532 _ ?side1 ?side2 A3.out).mono ?_); (case side1 => exact m4_); (case side2 => exact HC0_0.out); rintro e w' ⟨rfl, ⟨nd, rfl⟩⟩; refine ⟨_, rfl, ?_⟩))
  go_ret
  exact ⟨fi_, m2_⟩
 ·rw [if_neg c4] at H
  have c4b0 : decide (t532 < 0) = false := decide_eq_false c4
  clear c4
  obtain rfl := Option.some.inj H
  go_enter Tryz.func29, Tryz.ntmps29
  go_wp2_with (first | ((with_reducible refine gate_dst (N := 2) rfl ?_); refine box_event rfl (N := 2) rfl (cs := #[.slice A0_0 l0_0.length c0_0]) (t := 25) hr_ ?_; intro gb531 hg w7 hbox hb; have BK531 := am hbox; have GW531 := gwE HB hg; have GE531 := gwE HB hg; replace HB := hbS HB hb; clear hb hbox hg; have := bcell BK531 0; have := bfz BK531 0) | ((with_reducible refine gate_callee (f := 62) rfl ?_); refine gL (some 8) Tryz.func62 #[.slice A0_0 l0_0.length c0_0, .int .i64 a1] ?_; (with_reducible refine (laws_heldEndPointS.calls k _ _ l0_0 a1 t532 _ ?side1 ?side2 A3.out).mono ?_); (case side1 => exact m4_); (case side2 => exact HC0_0.out); rintro e w' ⟨rfl, ⟨nd, rfl⟩⟩; refine ⟨_, rfl, ?_⟩))
  go_ret
  exact ⟨fi_, m2_⟩
def laws_szEndPointS.f (l0 : List (S102)) (a1 : Int) : Option (Int) := if (wrap64 (a1 - (l0.length : Int))) < 0 then (some (-1)) else (some (wrap64 (a1 - (l0.length : Int))))
set_option maxHeartbeats 8000000 in
set_option maxRecDepth 100000 in
theorem laws_szEndPointS.calls (A0 : Option Addr) (c0 : Nat) (l0 : List (S102)) (a1 : Int) (r : Int) (w : World) (hr0 : Kd.C k102 w A0 l0.length l0) (hc0 : l0.length ≤ c0) (h : laws_szEndPointS.f l0 a1 = some r) :
  Calls Tryz.prog 58 #[.slice A0 l0.length c0, .int .i64 a1] w fun e w' => e = .returned (.int .i64 r) ∧ Drawn0 w w' := by
 have HR0 := am hr0
 have HC0 := am hc0
 clear hr0 hc0
 have H : (if (wrap64 (a1 - (l0.length : Int))) < 0 then (some (-1)) else (some (wrap64 (a1 - (l0.length : Int))))) = some r := h
 clear h
 by_cases c3 : (wrap64 (a1 - (l0.length : Int))) < 0
 ·rw [if_pos c3] at H
  have c3b0 : decide ((wrap64 (a1 - (l0.length : Int))) < 0) = true := decide_eq_true c3
  clear c3
  obtain rfl := Option.some.inj H
  go_enter Tryz.func58, Tryz.ntmps58
  go_wp2
  go_ret
  exact ⟨by first | rfl | (simp; done) | (simp [*]; done), by repeat (first | exact Drawn0.refl _ | apply Drawn0.step)⟩
 ·rw [if_neg c3] at H
  have c3b0 : decide ((wrap64 (a1 - (l0.length : Int))) < 0) = false := decide_eq_false c3
  clear c3
  obtain rfl := Option.some.inj H
  go_enter Tryz.func58, Tryz.ntmps58
  go_wp2
  go_ret
  exact ⟨by first | rfl | (simp; done) | (simp [*]; done), by repeat (first | exact Drawn0.refl _ | apply Drawn0.step)⟩
def laws_szMapTab.f (l0_0 : List (S102)) (a1 : Int) : Option (Int) := (laws_szEndPointS.f l0_0 a1).bind fun t499 => (if t499 < 0 then (some (-1)) else (some t499))
set_option maxHeartbeats 8000000 in
set_option maxRecDepth 100000 in
theorem laws_szMapTab.calls (A0_0 : Option Addr) (c0_0 : Nat) (l0_0 : List (S102)) (a1 : Int) (r : Int) (w : World) (hr0_0 : Kd.C k102 w A0_0 l0_0.length l0_0) (hc0_0 : l0_0.length ≤ c0_0) (h : laws_szMapTab.f l0_0 a1 = some r) :
  Calls Tryz.prog 25 #[.agg #[.slice A0_0 l0_0.length c0_0], .int .i64 a1] w fun e w' => e = .returned (.int .i64 r) ∧ Below w.heap.size w w' := by
 have hu42 := Tryz.underlying42
 have HR0_0 := am hr0_0
 have HC0_0 := am hc0_0
 clear hr0_0 hc0_0
 have HB := am (Below.refl w.heap.size w)
 have H : ((laws_szEndPointS.f l0_0 a1).bind fun t499 => (if t499 < 0 then (some (-1)) else (some t499))) = some r := h
 clear h
 obtain ⟨t499, A3, H⟩ := bse H
 try dsimp only at H
 by_cases c4 : t499 < 0
 ·rw [if_pos c4] at H
  have c4b0 : decide (t499 < 0) = true := decide_eq_true c4
  clear c4
  obtain rfl := Option.some.inj H
  go_enter Tryz.func25, Tryz.ntmps25
  go_wp2_with (first | ((with_reducible refine gate_dst (N := 2) rfl ?_); refine box_event rfl (N := 2) rfl (cs := #[.slice A0_0 l0_0.length c0_0]) (t := 42) hr_ ?_; intro gb498 hg w5 hbox hb; have BK498 := am hbox; have GW498 := gwE HB hg; have GE498 := gwE HB hg; replace HB := hbS HB hb; clear hb hbox hg; have := bcell BK498 0; have := bfz BK498 0) | ((with_reducible refine gate_callee (f := 58) rfl ?_); refine gL (some 8) Tryz.func58 #[.slice A0_0 l0_0.length c0_0, .int .i64 a1] ?_; (with_reducible refine (laws_szEndPointS.calls _ _ l0_0 a1 t499 _ ?side1 ?side2 A3.out).mono ?_); (case side1 => exact m4_); (case side2 => exact HC0_0.out); rintro e w' ⟨rfl, ⟨nd, rfl⟩⟩; refine ⟨_, rfl, ?_⟩))
  go_ret
  exact ⟨fi_, m2_⟩
 ·rw [if_neg c4] at H
  have c4b0 : decide (t499 < 0) = false := decide_eq_false c4
  clear c4
  obtain rfl := Option.some.inj H
  go_enter Tryz.func25, Tryz.ntmps25
  go_wp2_with (first | ((with_reducible refine gate_dst (N := 2) rfl ?_); refine box_event rfl (N := 2) rfl (cs := #[.slice A0_0 l0_0.length c0_0]) (t := 42) hr_ ?_; intro gb498 hg w7 hbox hb; have BK498 := am hbox; have GW498 := gwE HB hg; have GE498 := gwE HB hg; replace HB := hbS HB hb; clear hb hbox hg; have := bcell BK498 0; have := bfz BK498 0) | ((with_reducible refine gate_callee (f := 58) rfl ?_); refine gL (some 8) Tryz.func58 #[.slice A0_0 l0_0.length c0_0, .int .i64 a1] ?_; (with_reducible refine (laws_szEndPointS.calls _ _ l0_0 a1 t499 _ ?side1 ?side2 A3.out).mono ?_); (case side1 => exact m4_); (case side2 => exact HC0_0.out); rintro e w' ⟨rfl, ⟨nd, rfl⟩⟩; refine ⟨_, rfl, ?_⟩))
  go_ret
  exact ⟨fi_, m2_⟩
end
def convE (x : S102) : S34 := ⟨x.f0, x.f1⟩
theorem rd34_get {l : List S102} {i : Nat} (h : i < l.length) : rd_T102 l (i : Int) = l[i] := by
  unfold rd_T102
  simp [List.getD, h]
theorem toEndPointS_a (l : List S102) (hl : l.length ≤ 1048576) : Ans (fun k => laws_toEndPointS.f k l) (fun r => r = l.map convE) := by
  unfold laws_toEndPointS.f
  have e0 : (((l.length : Int)) : Int).toNat = l.length := by omega
  refine Ans.pos (by omega) (Ans.pos (by omega) ?_)
  rw [e0]
  have L : ∀ (m i : Nat), i + m = l.length → Ans (fun k => laws_toEndPointS.l0 k l ((l.take i).map convE ++ List.replicate m z34) (i : Int)) (fun r => r = l.map convE) := by
    intro m
    induction m with
    | zero =>
      intro i hi
      refine Ans.succ ?_
      unfold laws_toEndPointS.l0
      exact Ans.neg (by omega) (Ans.pure (by rw [List.take_of_length_le (by omega)]; simp))
    | succ m ih =>
      intro i hi
      refine Ans.succ ?_
      unfold laws_toEndPointS.l0 laws_toEndPoint.f
      have hil : i < l.length := by omega
      refine Ans.pos (by omega) (Ans.pos (by omega) (Ans.bsome (Ans.pos ?_ ?_)))
      · simp only [List.length_append, List.length_map, List.length_take, List.length_replicate]
        omega
      · have e1 : ((i : Int)).toNat = i := by omega
        dsimp only
        rw [e1, wi i (by omega), rd34_get hil]
        have e2 : ((l.take i).map convE ++ List.replicate (m + 1) z34).set i ⟨l[i].f0, l[i].f1⟩ = (l.take (i + 1)).map convE ++ List.replicate m z34 := by
          have hlen : ((l.take i).map convE).length = i := by rw [List.length_map, List.length_take]; omega
          rw [List.set_append_right _ _ (by omega), hlen, Nat.sub_self, List.replicate_succ, List.set_cons_zero, List.take_succ_eq_append_getElem hil, List.map_append]
          simp [convE]
        rw [e2]
        exact ih (i + 1) (by omega)
  have := L l.length 0 (by omega)
  simpa using this
theorem toMapTab_a (l : List S102) (hl : l.length ≤ 1048576) : Ans (fun k => laws_toMapTab.f k l) (fun r => r = l.map convE) := by
  unfold laws_toMapTab.f
  refine Ans.bind (toEndPointS_a l hl) ?_
  rintro _ rfl
  exact Ans.pure rfl
theorem eqMapTab_a (l : List S34) (hl : l.length ≤ 2000000) : Ans (fun k => laws_eqMapTab.f k l l) (fun r => r = true) := by
  unfold laws_eqMapTab.f laws_eqEndPointS.f
  have L : ∀ (m i : Nat), i + m = l.length → Ans (fun k => laws_eqEndPointS.l0 k l l (i : Int)) (fun r => r = true) := by
    intro m
    induction m with
    | zero =>
      intro i hi
      refine Ans.succ ?_
      unfold laws_eqEndPointS.l0
      exact Ans.neg (by omega) (Ans.pure rfl)
    | succ m ih =>
      intro i hi
      refine Ans.succ ?_
      unfold laws_eqEndPointS.l0
      have e : laws_eqEndPoint.f ((rd_T34 l (i : Int)).f0) ((rd_T34 l (i : Int)).f1) ((rd_T34 l (i : Int)).f0) ((rd_T34 l (i : Int)).f1) = some true := by unfold laws_eqEndPoint.f; simp
      rw [e, wi i (by omega)]
      exact Ans.pos (by omega) (Ans.pos (by omega) (Ans.pos (by omega) (Ans.bsome (Ans.pos rfl (ih (i + 1) (by omega))))))
  refine Ans.bind (R := fun r => r = true) (Ans.pos rfl (L l.length 0 (by omega))) ?_
  rintro _ rfl
  exact Ans.pos rfl (Ans.pure rfl)
def marks (n : Nat) (a : Int) : List S34 := (List.range n).map (fun j : Nat => ⟨a + 2 * (j : Int), a + 2 * (j : Int) + 1⟩)
theorem marks_len (n : Nat) (a : Int) : (marks n a).length = n := by simp [marks]
theorem marks_get {n i : Nat} (a : Int) (h : i < n) : rd_T34 (marks n a) (i : Int) = ⟨a + 2 * i, a + 2 * i + 1⟩ := by
  rw [rd29_get (by rw [marks_len]; exact h)]
  simp [marks]
theorem markEnds_a (l : List S34) (hl : l.length ≤ 2000000) : Ans (fun k => laws_markEndPointS.f k l 1) (fun r => r = (1 + 2 * (l.length : Int), marks l.length 1)) := by
  unfold laws_markEndPointS.f
  have L : ∀ (m i : Nat), i + m = l.length → Ans (fun k => laws_markEndPointS.l0 k ((marks l.length 1).take i ++ l.drop i) (1 + 2 * (i : Int)) (i : Int)) (fun r => r = (1 + 2 * (l.length : Int), marks l.length 1)) := by
    intro m
    induction m with
    | zero =>
      intro i hi
      refine Ans.succ ?_
      unfold laws_markEndPointS.l0
      have e : (marks l.length 1).take i ++ l.drop i = marks l.length 1 := by
        rw [List.take_of_length_le (by rw [marks_len]; omega), List.drop_eq_nil_of_le (by omega), List.append_nil]
      rw [e]
      refine Ans.neg (by rw [marks_len]; omega) (Ans.pure ?_)
      have : i = l.length := by omega
      rw [this]
    | succ m ih =>
      intro i hi
      refine Ans.succ ?_
      unfold laws_markEndPointS.l0
      have hil : i < l.length := by omega
      have hlen : ((marks l.length 1).take i ++ l.drop i).length = l.length := by
        rw [List.length_append, List.length_take, List.length_drop, marks_len]; omega
      have e1 : ((i : Int)).toNat = i := by omega
      have w1 : wrap64 (1 + 2 * (i : Int) + 1) = 1 + 2 * i + 1 := w64 _ (by omega)
      have w2 : wrap64 (1 + 2 * (i : Int) + 1 + 1) = 1 + 2 * ((i + 1 : Nat) : Int) := by rw [w64 _ (by omega)]; push_cast; omega
      refine Ans.pos (by rw [hlen]; omega) (Ans.pos (by omega) (Ans.bsome ?_))
      rw [wi i (by omega), w1, w2, e1]
      have hA : ((marks l.length 1).take i).length = i := by rw [List.length_take, marks_len]; omega
      have hset : ∀ v : S34, ((marks l.length 1).take i ++ l.drop i).set i v = (marks l.length 1).take i ++ v :: l.drop (i + 1) := by
        intro v
        rw [List.set_append_right _ _ (by omega), hA, Nat.sub_self, rd29_drop hil, List.set_cons_zero]
      have hget : ∀ v : S34, rd_T34 ((marks l.length 1).take i ++ v :: l.drop (i + 1)) (i : Int) = v := by
        intro v
        rw [rd29_get (by rw [List.length_append, hA]; simp)]
        rw [List.getElem_append_right (by omega)]
        simp [hA]
      have hset2 : ∀ u v : S34, ((marks l.length 1).take i ++ u :: l.drop (i + 1)).set i v = (marks l.length 1).take i ++ v :: l.drop (i + 1) := by
        intro u v
        rw [List.set_append_right _ _ (by omega), hA, Nat.sub_self, List.set_cons_zero]
      rw [hset, hget, hset2]
      have hm : (marks l.length 1).take i ++ (⟨1 + 2 * (i : Int), 1 + 2 * i + 1⟩ : S34) :: l.drop (i + 1) = (marks l.length 1).take (i + 1) ++ l.drop (i + 1) := by
        rw [rd29_take (by rw [marks_len]; exact hil), marks_get 1 hil]
        simp
      dsimp only
      rw [hm]
      exact ih (i + 1) (by omega)
  have := L l.length 0 (by omega)
  simpa using this
theorem heldEnds_a (n : Nat) (hn : n ≤ 2000000) : Ans (fun k => laws_heldEndPointS.f k (marks n 1) 1) (fun r => r = 1 + 2 * (n : Int)) := by
  unfold laws_heldEndPointS.f
  have L : ∀ (m i : Nat), i + m = n → Ans (fun k => laws_heldEndPointS.l0 k (marks n 1) (1 + 2 * (i : Int)) (i : Int)) (fun r => r = 1 + 2 * (n : Int)) := by
    intro m
    induction m with
    | zero =>
      intro i hi
      refine Ans.succ ?_
      unfold laws_heldEndPointS.l0
      have : i = n := by omega
      refine Ans.neg (by rw [marks_len]; omega) (Ans.pure (by rw [this]))
    | succ m ih =>
      intro i hi
      refine Ans.succ ?_
      unfold laws_heldEndPointS.l0
      have w1 : wrap64 (1 + 2 * (i : Int) + 1) = 1 + 2 * i + 1 := w64 _ (by omega)
      have w2 : wrap64 (1 + 2 * (i : Int) + 1 + 1) = 1 + 2 * ((i + 1 : Nat) : Int) := by rw [w64 _ (by omega)]; push_cast; omega
      rw [wi i (by omega), w1, w2, marks_get 1 (by omega : i < n)]
      exact Ans.pos (by rw [marks_len]; omega) (Ans.pos (by omega) (Ans.pos rfl (Ans.pos rfl (ih (i + 1) (by omega)))))
  exact L n 0 (by omega)
theorem markTab_a (l : List S34) (hl : l.length ≤ 2000000) : Ans (fun k => laws_markMapTab.f k l 1) (fun r => r = (1 + 2 * (l.length : Int), marks l.length 1)) := by
  unfold laws_markMapTab.f
  refine Ans.bind (markEnds_a l hl) ?_
  rintro _ rfl
  exact Ans.pure rfl
theorem heldTab_a (n : Nat) (hn : n ≤ 2000000) : Ans (fun k => laws_heldMapTab.f k (marks n 1) 1) (fun r => r = 1 + 2 * (n : Int)) := by
  unfold laws_heldMapTab.f
  refine Ans.bind (heldEnds_a n hn) ?_
  rintro _ rfl
  exact Ans.neg (by omega) (Ans.pure rfl)
theorem tabPut_len' (l : List S34) (a b : Int) : (tabPut l a b).1.length ≤ l.length + 1 := by
  unfold tabPut putV
  split
  · split
    · simp
    · split <;> simp
  · simp
section
attribute [local go_sem] max2_int min2_int max_two min_two max_three min_three max_four min_four
def spec_l20In.f (k : Nat) (s0_0 : List Int) (s0_1 : Int) : Option (Int × Int × Int) := (spec_l20Rd_pick.f k s0_0 s0_1 4).bind fun bt164 => ((spec_l20Rd_pick.f k s0_0 bt164.2 40).bind fun bt166 => ((some (([7, 20, 300, 999, wrap64 (1 + bt166.1)] : List Int) : List Int)).bind fun y168 => ((spec_l20Rd_pick.f k s0_0 bt166.2 5).bind fun bt171 => (if 0 ≤ bt171.1 then (if bt171.1 < (y168.length : Int) then (some (wrap64 (1 + bt164.1), rd y168 bt171.1, bt171.2)) else (none)) else (none)))))
theorem spec_l20In.mono : ∀ a0 a1 k, LeO (spec_l20In.f k a0 a1) (spec_l20In.f (k + 1) a0 a1) := by
 intro a0 a1 k
 unfold spec_l20In.f
 repeat' first | (with_reducible first | exact spec_l20Rd_pick.mono _ _ _ _ | exact LeO.refl _ | exact LeO.none _ | refine LeO.ite ?_ ?_ | refine LeO.bind ?_ (fun _ => ?_)) | exact spec_l20Rd_pick.mono _ _ _ _ | exact LeO.none _ | refine LeO.ite ?_ ?_ | refine LeO.bind ?_ (fun _ => ?_)
set_option maxHeartbeats 8000000 in
set_option maxRecDepth 100000 in
theorem spec_l20In.calls (k : Nat) (g : Nat) (s0_0 : List Int) (s0_1 : Int) (r1 : Int) (r2 : Int) (r3 : Int) (w0 w : World) (hI : IsS84 w0 w g s0_0 s0_1) (hB : Below w0.heap.size w0 w) (h : spec_l20In.f k s0_0 s0_1 = some (r1, r2, r3)) :
  Calls Tryz.prog 75 #[.pointer (some ⟨g, 0, none⟩)] w fun e w' => e = .returned (.agg #[.int .i64 r1, .int .i64 r2]) ∧ IsS84 w0 w' g s0_0 r3 ∧ Below w0.heap.size w0 w' ∧ KeepBut w w' g none := by
 have hu34 := Tryz.underlying34
 have HI0 := am hI
 have HK := am (KeepBut.refl w g none)
 have HL := am hB.size
 clear hI
 have HW0 := am hB.size
 have HB := am hB
 clear hB
 have H : ((spec_l20Rd_pick.f k s0_0 s0_1 4).bind fun bt164 => ((spec_l20Rd_pick.f k s0_0 bt164.2 40).bind fun bt166 => ((some (([7, 20, 300, 999, wrap64 (1 + bt166.1)] : List Int) : List Int)).bind fun y168 => ((spec_l20Rd_pick.f k s0_0 bt166.2 5).bind fun bt171 => (if 0 ≤ bt171.1 then (if bt171.1 < (y168.length : Int) then (some (wrap64 (1 + bt164.1), rd y168 bt171.1, bt171.2)) else (none)) else (none)))))) = some (r1, r2, r3) := h
 clear h
 obtain ⟨⟨t164, t165⟩, A2, H⟩ := bse H
 try dsimp only at H
 obtain ⟨⟨t166, t167⟩, A3, H⟩ := bse H
 try dsimp only at H
 obtain ⟨y168, hy168⟩ : ∃ y_ : List Int, y_ = (([7, 20, 300, 999, wrap64 (1 + t166)] : List Int)) := ⟨_, rfl⟩
 replace H : ((spec_l20Rd_pick.f k s0_0 t167 5).bind fun bt171 => (if 0 ≤ bt171.1 then (if bt171.1 < (y168.length : Int) then (some (wrap64 (1 + t164), rd y168 bt171.1, bt171.2)) else (none)) else (none))) = some (r1, r2, r3) := by first | (rw [hy168]; with_reducible exact H) | (have H2_ := (Option.bind_some _ _).symm.trans H; rw [hy168]; with_reducible exact H2_) | (have H2_ := (Option.bind_some _ _).symm.trans H; with_reducible exact H2_) | with_reducible exact H | (rw [hy168]; exact H) | exact H
 have Ny168 := am hy168
 clear hy168
 obtain ⟨⟨t171, t172⟩, A4, H⟩ := bse H
 try dsimp only at H
 by_cases c5 : 0 ≤ t171
 ·rw [if_pos c5] at H
  have c5b0 : decide (0 ≤ t171) = true := decide_eq_true c5
  clear c5
  by_cases c6 : t171 < (y168.length : Int)
  ·rw [if_pos c6] at H
   have c6b0 : decide (t171 < (y168.length : Int)) = true := decide_eq_true c6
   clear c6
   simp only [Option.some.injEq, Prod.mk.injEq] at H
   obtain ⟨rfl, rfl, rfl⟩ := H
   go_enter Tryz.func75, Tryz.ntmps75
   go_wp2_with (first | ((with_reducible refine gate_dst (N := 2) rfl ?_); refine box_event rfl (N := 2) rfl (cs := #[.int .i64 0, .int .i64 0]) (t := 34) hr_ ?_; intro gb163 hg w7 hbox hb; replace HB := am (below_step m23_ hb); have BK163 := am hbox; have GW163 := am ((by rw [hg]; exact (keep_size (w := w) (g := g) (row := none) m24_) : w.heap.size ≤ gb163)); have GE163 := am ((Nat.le_trans HW0.out (by rw [hg]; exact (keep_size (w := w) (g := g) (row := none) m24_) : w.heap.size ≤ gb163) : w0.heap.size ≤ gb163)); replace HK := am (KeepBut.trans m24_ (KeepBut.of_below hb g none) (.inl rfl)); have NB0_163 := am ((by rw [hg]; exact Nat.ne_of_lt (IsS84.lt (show IsS84 w0 _ g s0_0 s0_1 from m25_)) : g ≠ gb163)); have NB163_0 := am ((by rw [hg]; exact Nat.ne_of_gt (IsS84.lt (show IsS84 w0 _ g s0_0 s0_1 from m25_)) : gb163 ≠ g)); replace HI0 := am (IsS84.below m25_ hb); clear hb hbox hg) | ((with_reducible refine gate_callee (f := 63) rfl ?_); refine gL (some 4) Tryz.func63 #[.pointer (some ⟨g, 0, none⟩), .int .i64 4] ?_; (with_reducible refine (spec_l20Rd_pick.calls k g s0_0 s0_1 4 t164 t165 w0 _ ?side1 ?side2 A2.out).mono ?_); (case side1 => exact m28_); (case side2 => exact m26_); rintro e w8 ⟨rfl, hi, hb, hk⟩; refine ⟨_, rfl, ?_⟩; replace BK163 := am (KeepBut.blk hk (g' := gb163) (o := .cells #[.int .i64 0, .int .i64 0] 34 (0, 0)) (bk BK163) NB163_0.out (by simp)); replace HK := am (KeepBut.trans m27_ hk (.inl rfl)); replace HB := am hb; replace HI0 := am hi; (try clear hb); (try clear hk); (try clear hi)) | ((with_reducible refine gate_callee (f := 63) rfl ?_); refine gL (some 7) Tryz.func63 #[.pointer (some ⟨g, 0, none⟩), .int .i64 40] ?_; (with_reducible refine (spec_l20Rd_pick.calls k g s0_0 t165 40 t166 t167 w0 _ ?side1 ?side2 A3.out).mono ?_); (case side1 => exact m28_); (case side2 => exact m26_); rintro e w9 ⟨rfl, hi, hb, hk⟩; refine ⟨_, rfl, ?_⟩; replace BK163 := am (KeepBut.blk hk (g' := gb163) (o := .cells #[.int .i64 0, .int .i64 0] 34 (0, 0)) (bk BK163) NB163_0.out (by simp)); replace HK := am (KeepBut.trans m27_ hk (.inl rfl)); replace HB := am hb; replace HI0 := am hi; (try clear hb); (try clear hk); (try clear hi)) | ((with_reducible refine gate_dst (N := 9) rfl ?_); refine Kd.R_lit (Kd.int .i64) _ 3 rfl (N := 9) rfl (xs := ([7, 20, 300, 999, wrap64 (1 + t166)] : List Int)) (inner := [.int .i64 7, .int .i64 20, .int .i64 300, .int .i64 999, .int .i64 (wrap64 (1 + t166))]) (ok := fun _ => True) (okp := fun _ => True) hr_ ?hp (fun _ hk => hk) trivial (Below.refl _ _) (Nat.le_refl _) (by simp) ?_; (case hp => exact (Reps.one (show Kd.M (Kd.int .i64) _ _ _ 7 [.int .i64 7] from rfl) (Reps.one (show Kd.M (Kd.int .i64) _ _ _ 20 [.int .i64 20] from rfl) (Reps.one (show Kd.M (Kd.int .i64) _ _ _ 300 [.int .i64 300] from rfl) (Reps.one (show Kd.M (Kd.int .i64) _ _ _ 999 [.int .i64 999] from rfl) (Reps.one (show Kd.M (Kd.int .i64) _ _ _ (wrap64 (1 + t166)) [.int .i64 (wrap64 (1 + t166))] from rfl) (Reps.none _ _))))))); intro v169 w10 ho11 hb hg_ hnew_; clear hg_ hnew_; (first | rw [← Ny168.out] at ho11 | (simp only [Int.reduceToNat] at ho11; rw [← Ny168.out] at ho11)); have HO170 := am (Kd.R_lower ho11 (keep_size (w := w) (g := g) (row := none) m27_)); replace BK163 := bkB BK163 hb; replace HK := am (KeepBut.trans m27_ (KeepBut.of_below hb g none) (.inl rfl)); replace HB := am (below_step m26_ hb); replace HI0 := am (IsS84.below m28_ hb); clear hb ho11) | ((with_reducible refine gate_callee (f := 63) rfl ?_); refine gL (some 11) Tryz.func63 #[.pointer (some ⟨g, 0, none⟩), .int .i64 5] ?_; (with_reducible refine (spec_l20Rd_pick.calls k g s0_0 t167 5 t171 t172 w0 _ ?side1 ?side2 A4.out).mono ?_); (case side1 => exact m28_); (case side2 => exact m26_); rintro e w12 ⟨rfl, hi, hb, hk⟩; refine ⟨_, rfl, ?_⟩; replace BK163 := am (KeepBut.blk hk (g' := gb163) (o := .cells #[.int .i64 0, .int .i64 0] 34 (0, 0)) (bk BK163) NB163_0.out (by simp)); replace HO170 := am (Kd.R_mono (Kd.R_keep (IsS84.apart (show IsS84 w0 _ g s0_0 t167 from m28_) (rs HO170) (by decide)) hk (fun _ h => h.2)) (fun _ h => h.1)); replace HK := am (KeepBut.trans m27_ hk (.inl rfl)); replace HB := am hb; replace HI0 := am hi; (try clear hb); (try clear hk); (try clear hi); obtain ⟨Ao13, co13, eo13⟩ := Kd.R_slice HO170.out; subst eo13; have p173 : 0 ≤ (t171 : Int) := of_decide_eq_true da_; have q173 : t171 < (y168.length : Int) := of_decide_eq_true da_; obtain ⟨ad173, e173, hx173_0⟩ := Kd.at_int (Kd.R_reads' HO170.out).2.2 t171 p173 q173; cases e173; replace p173 := eq_true p173; replace q173 := eq_true q173; have := NB163_0.out; have := NB0_163.out; have := bcell BK163 0; have := bcell BK163 1; have := bfz BK163 0; have := bfz BK163 1))
   refine bodyPost_ret (results_cell_row rfl _ _ gb163 34 #[.int .i64 (wrap64 (1 + t164)), .int .i64 (rd y168 t171)] (0, 0) _ rfl (by (with_reducible repeat refine bu ?_); refine blk_put (cs := #[.int .i64 (wrap64 (1 + t164)), .int .i64 0]) ?_ 1 _ rfl; (with_reducible repeat refine bu ?_); refine blk_put (cs := #[.int .i64 0, .int .i64 0]) ?_ 0 _ rfl; (with_reducible repeat refine bu ?_); exact BK163.out) Tryz.underlying34 rfl (by kernel_rfl)) rfl ?_
   exact ⟨fi_, m28_, m26_, m27_⟩
  ·rw [if_neg c6] at H
   exact absurd H (by simp)
 ·rw [if_neg c5] at H
  exact absurd H (by simp)
def spec_l20Out.f (k : Nat) (s0_0 : List Int) (s0_1 : Int) : Option (Int × Int × Int) := (spec_l20Rd_pick.f k s0_0 s0_1 3).bind fun bt175 => ((some (([21, 21, 80, 7] : List Int) : List Int)).bind fun y177 => ((spec_l20Rd_pick.f k s0_0 bt175.2 4).bind fun bt180 => (if 0 ≤ bt180.1 then (if bt180.1 < (y177.length : Int) then (some (wrap64 (100 + bt175.1), rd y177 bt180.1, bt180.2)) else (none)) else (none))))
theorem spec_l20Out.mono : ∀ a0 a1 k, LeO (spec_l20Out.f k a0 a1) (spec_l20Out.f (k + 1) a0 a1) := by
 intro a0 a1 k
 unfold spec_l20Out.f
 repeat' first | (with_reducible first | exact spec_l20Rd_pick.mono _ _ _ _ | exact LeO.refl _ | exact LeO.none _ | refine LeO.ite ?_ ?_ | refine LeO.bind ?_ (fun _ => ?_)) | exact spec_l20Rd_pick.mono _ _ _ _ | exact LeO.none _ | refine LeO.ite ?_ ?_ | refine LeO.bind ?_ (fun _ => ?_)
set_option maxHeartbeats 8000000 in
set_option maxRecDepth 100000 in
theorem spec_l20Out.calls (k : Nat) (g : Nat) (s0_0 : List Int) (s0_1 : Int) (r1 : Int) (r2 : Int) (r3 : Int) (w0 w : World) (hI : IsS84 w0 w g s0_0 s0_1) (hB : Below w0.heap.size w0 w) (h : spec_l20Out.f k s0_0 s0_1 = some (r1, r2, r3)) :
  Calls Tryz.prog 76 #[.pointer (some ⟨g, 0, none⟩)] w fun e w' => e = .returned (.agg #[.int .i64 r1, .int .i64 r2]) ∧ IsS84 w0 w' g s0_0 r3 ∧ Below w0.heap.size w0 w' ∧ KeepBut w w' g none := by
 have hu34 := Tryz.underlying34
 have HI0 := am hI
 have HK := am (KeepBut.refl w g none)
 have HL := am hB.size
 clear hI
 have HW0 := am hB.size
 have HB := am hB
 clear hB
 have H : ((spec_l20Rd_pick.f k s0_0 s0_1 3).bind fun bt175 => ((some (([21, 21, 80, 7] : List Int) : List Int)).bind fun y177 => ((spec_l20Rd_pick.f k s0_0 bt175.2 4).bind fun bt180 => (if 0 ≤ bt180.1 then (if bt180.1 < (y177.length : Int) then (some (wrap64 (100 + bt175.1), rd y177 bt180.1, bt180.2)) else (none)) else (none))))) = some (r1, r2, r3) := h
 clear h
 obtain ⟨⟨t175, t176⟩, A2, H⟩ := bse H
 try dsimp only at H
 obtain ⟨y177, hy177⟩ : ∃ y_ : List Int, y_ = (([21, 21, 80, 7] : List Int)) := ⟨_, rfl⟩
 replace H : ((spec_l20Rd_pick.f k s0_0 t176 4).bind fun bt180 => (if 0 ≤ bt180.1 then (if bt180.1 < (y177.length : Int) then (some (wrap64 (100 + t175), rd y177 bt180.1, bt180.2)) else (none)) else (none))) = some (r1, r2, r3) := by first | (rw [hy177]; with_reducible exact H) | (have H2_ := (Option.bind_some _ _).symm.trans H; rw [hy177]; with_reducible exact H2_) | (have H2_ := (Option.bind_some _ _).symm.trans H; with_reducible exact H2_) | with_reducible exact H | (rw [hy177]; exact H) | exact H
 have Ny177 := am hy177
 clear hy177
 obtain ⟨⟨t180, t181⟩, A3, H⟩ := bse H
 try dsimp only at H
 by_cases c4 : 0 ≤ t180
 ·rw [if_pos c4] at H
  have c4b0 : decide (0 ≤ t180) = true := decide_eq_true c4
  clear c4
  by_cases c5 : t180 < (y177.length : Int)
  ·rw [if_pos c5] at H
   have c5b0 : decide (t180 < (y177.length : Int)) = true := decide_eq_true c5
   clear c5
   simp only [Option.some.injEq, Prod.mk.injEq] at H
   obtain ⟨rfl, rfl, rfl⟩ := H
   go_enter Tryz.func76, Tryz.ntmps76
   go_wp2_with (first | ((with_reducible refine gate_dst (N := 2) rfl ?_); refine box_event rfl (N := 2) rfl (cs := #[.int .i64 0, .int .i64 0]) (t := 34) hr_ ?_; intro gb174 hg w6 hbox hb; replace HB := am (below_step m23_ hb); have BK174 := am hbox; have GW174 := am ((by rw [hg]; exact (keep_size (w := w) (g := g) (row := none) m24_) : w.heap.size ≤ gb174)); have GE174 := am ((Nat.le_trans HW0.out (by rw [hg]; exact (keep_size (w := w) (g := g) (row := none) m24_) : w.heap.size ≤ gb174) : w0.heap.size ≤ gb174)); replace HK := am (KeepBut.trans m24_ (KeepBut.of_below hb g none) (.inl rfl)); have NB0_174 := am ((by rw [hg]; exact Nat.ne_of_lt (IsS84.lt (show IsS84 w0 _ g s0_0 s0_1 from m25_)) : g ≠ gb174)); have NB174_0 := am ((by rw [hg]; exact Nat.ne_of_gt (IsS84.lt (show IsS84 w0 _ g s0_0 s0_1 from m25_)) : gb174 ≠ g)); replace HI0 := am (IsS84.below m25_ hb); clear hb hbox hg) | ((with_reducible refine gate_callee (f := 63) rfl ?_); refine gL (some 4) Tryz.func63 #[.pointer (some ⟨g, 0, none⟩), .int .i64 3] ?_; (with_reducible refine (spec_l20Rd_pick.calls k g s0_0 s0_1 3 t175 t176 w0 _ ?side1 ?side2 A2.out).mono ?_); (case side1 => exact m28_); (case side2 => exact m26_); rintro e w7 ⟨rfl, hi, hb, hk⟩; refine ⟨_, rfl, ?_⟩; replace BK174 := am (KeepBut.blk hk (g' := gb174) (o := .cells #[.int .i64 0, .int .i64 0] 34 (0, 0)) (bk BK174) NB174_0.out (by simp)); replace HK := am (KeepBut.trans m27_ hk (.inl rfl)); replace HB := am hb; replace HI0 := am hi; (try clear hb); (try clear hk); (try clear hi)) | ((with_reducible refine gate_dst (N := 6) rfl ?_); refine Kd.R_lit (Kd.int .i64) _ 3 rfl (N := 6) rfl (xs := ([21, 21, 80, 7] : List Int)) (inner := [.int .i64 21, .int .i64 21, .int .i64 80, .int .i64 7]) (ok := fun _ => True) (okp := fun _ => True) hr_ ?hp (fun _ hk => hk) trivial (Below.refl _ _) (Nat.le_refl _) (by simp) ?_; (case hp => exact (Reps.one (show Kd.M (Kd.int .i64) _ _ _ 21 [.int .i64 21] from rfl) (Reps.one (show Kd.M (Kd.int .i64) _ _ _ 21 [.int .i64 21] from rfl) (Reps.one (show Kd.M (Kd.int .i64) _ _ _ 80 [.int .i64 80] from rfl) (Reps.one (show Kd.M (Kd.int .i64) _ _ _ 7 [.int .i64 7] from rfl) (Reps.none _ _)))))); intro v178 w8 ho9 hb hg_ hnew_; clear hg_ hnew_; (first | rw [← Ny177.out] at ho9 | (simp only [Int.reduceToNat] at ho9; rw [← Ny177.out] at ho9)); have HO179 := am (Kd.R_lower ho9 (keep_size (w := w) (g := g) (row := none) m27_)); replace BK174 := bkB BK174 hb; replace HK := am (KeepBut.trans m27_ (KeepBut.of_below hb g none) (.inl rfl)); replace HB := am (below_step m26_ hb); replace HI0 := am (IsS84.below m28_ hb); clear hb ho9) | ((with_reducible refine gate_callee (f := 63) rfl ?_); refine gL (some 8) Tryz.func63 #[.pointer (some ⟨g, 0, none⟩), .int .i64 4] ?_; (with_reducible refine (spec_l20Rd_pick.calls k g s0_0 t176 4 t180 t181 w0 _ ?side1 ?side2 A3.out).mono ?_); (case side1 => exact m28_); (case side2 => exact m26_); rintro e w10 ⟨rfl, hi, hb, hk⟩; refine ⟨_, rfl, ?_⟩; replace BK174 := am (KeepBut.blk hk (g' := gb174) (o := .cells #[.int .i64 0, .int .i64 0] 34 (0, 0)) (bk BK174) NB174_0.out (by simp)); replace HO179 := am (Kd.R_mono (Kd.R_keep (IsS84.apart (show IsS84 w0 _ g s0_0 t176 from m28_) (rs HO179) (by decide)) hk (fun _ h => h.2)) (fun _ h => h.1)); replace HK := am (KeepBut.trans m27_ hk (.inl rfl)); replace HB := am hb; replace HI0 := am hi; (try clear hb); (try clear hk); (try clear hi); obtain ⟨Ao11, co11, eo11⟩ := Kd.R_slice HO179.out; subst eo11; have p182 : 0 ≤ (t180 : Int) := of_decide_eq_true da_; have q182 : t180 < (y177.length : Int) := of_decide_eq_true da_; obtain ⟨ad182, e182, hx182_0⟩ := Kd.at_int (Kd.R_reads' HO179.out).2.2 t180 p182 q182; cases e182; replace p182 := eq_true p182; replace q182 := eq_true q182; have := NB174_0.out; have := NB0_174.out; have := bcell BK174 0; have := bcell BK174 1; have := bfz BK174 0; have := bfz BK174 1))
   refine bodyPost_ret (results_cell_row rfl _ _ gb174 34 #[.int .i64 (wrap64 (100 + t175)), .int .i64 (rd y177 t180)] (0, 0) _ rfl (by (with_reducible repeat refine bu ?_); refine blk_put (cs := #[.int .i64 (wrap64 (100 + t175)), .int .i64 0]) ?_ 1 _ rfl; (with_reducible repeat refine bu ?_); refine blk_put (cs := #[.int .i64 0, .int .i64 0]) ?_ 0 _ rfl; (with_reducible repeat refine bu ?_); exact BK174.out) Tryz.underlying34 rfl (by kernel_rfl)) rfl ?_
   exact ⟨fi_, m28_, m26_, m27_⟩
  ·rw [if_neg c5] at H
   exact absurd H (by simp)
 ·rw [if_neg c4] at H
  exact absurd H (by simp)
end
theorem in_a {l : List Int} (hl : Bys l) {s B : Int} (hs : At B s) (hB : B < 800000) : Ans (fun k => spec_l20In.f k l s) (fun r => At (B + 3) r.2.2 ∧ Sm r.1 ∧ Sm r.2.1) := by
  unfold spec_l20In.f
  refine Ans.bind (pick_a hl hs (by omega) 4) ?_
  rintro ⟨v1, s1⟩ ⟨h1, p1⟩
  refine Ans.bind (pick_a hl h1 (by omega) 40) ?_
  rintro ⟨v2, s2⟩ ⟨h2, p2⟩
  dsimp only at *
  simp only [Option.bind_some]
  refine Ans.bind (pick_a hl h2 (by omega) 5) ?_
  rintro ⟨v3, s3⟩ ⟨h3, p3⟩
  dsimp only at *
  refine Ans.pos p3.1 (Ans.pos (by simp; omega) (Ans.pure ⟨at_le h3 (by omega), ?_, sm_rd ?_ _⟩))
  · rw [w64 _ (by omega)]; unfold Sm; omega
  · intro x hx
    have e : wrap64 (1 + v2) = 1 + v2 := w64 _ (by omega)
    rw [e] at hx
    simp at hx
    unfold Sm
    omega
theorem out_a {l : List Int} (hl : Bys l) {s B : Int} (hs : At B s) (hB : B < 800000) : Ans (fun k => spec_l20Out.f k l s) (fun r => At (B + 2) r.2.2 ∧ Sm r.1 ∧ Sm r.2.1) := by
  unfold spec_l20Out.f
  refine Ans.bind (pick_a hl hs (by omega) 3) ?_
  rintro ⟨v1, s1⟩ ⟨h1, p1⟩
  simp only [Option.bind_some]
  dsimp only at *
  refine Ans.bind (pick_a hl h1 (by omega) 4) ?_
  rintro ⟨v3, s3⟩ ⟨h3, p3⟩
  dsimp only at *
  refine Ans.pos p3.1 (Ans.pos (by simp; omega) (Ans.pure ⟨at_le h3 (by omega), ?_, sm_rd ?_ _⟩))
  · rw [w64 _ (by omega)]; unfold Sm; omega
  · intro x hx
    simp at hx
    unfold Sm
    omega
theorem sm_rd29 {xs : List S34} (h : ∀ x ∈ xs, Sm x.f0 ∧ Sm x.f1) (i : Int) : Sm (rd_T34 xs i).f0 ∧ Sm (rd_T34 xs i).f1 := by
  unfold rd_T34
  by_cases hi : i.toNat < xs.length
  · have e : xs.getD i.toNat z34 = xs[i.toNat] := by simp [List.getD, hi]
    rw [e]; exact h _ (List.getElem_mem hi)
  · have e : xs.getD i.toNat z34 = z34 := by simp [List.getD, Nat.not_lt.mp hi]
    rw [e]; unfold Sm z34; exact ⟨by decide, by decide⟩
section
attribute [local go_sem] max2_int min2_int max_two min_two max_three min_three max_four min_four
def spec_l3Copy.f (l0_0 : List (S34)) : Option ((List (S34))) := (some (([] : List (S34)) : List (S34))).bind fun y126 => (if y126.length + l0_0.length < 8796093022208 then (some (y126 ++ l0_0)) else (none))
set_option maxHeartbeats 8000000 in
set_option maxRecDepth 100000 in
theorem spec_l3Copy.calls (A0_0 : Option Addr) (c0_0 : Nat) (l0_0 : List (S34)) (r : List (S34)) (w : World) (hr0_0 : Kd.C k34 w A0_0 l0_0.length l0_0) (hc0_0 : l0_0.length ≤ c0_0) (h : spec_l3Copy.f l0_0 = some r) :
  Calls Tryz.prog 47 #[.agg #[.slice A0_0 l0_0.length c0_0]] w fun e w' => ∃ v0_ : Value, e = .returned (.agg #[v0_]) ∧ Kd.R k34 34 w' w.heap.size (fun _ => True) v0_ r ∧ Below w.heap.size w w' := by
 have hu25 := Tryz.underlying25
 have HR0_0 := am hr0_0
 have HC0_0 := am hc0_0
 clear hr0_0 hc0_0
 have HB := am (Below.refl w.heap.size w)
 have H : ((some (([] : List (S34)) : List (S34))).bind fun y126 => (if y126.length + l0_0.length < 8796093022208 then (some (y126 ++ l0_0)) else (none))) = some r := h
 clear h
 obtain ⟨y126, hy126⟩ : ∃ y_ : List (S34), y_ = (([] : List (S34))) := ⟨_, rfl⟩
 replace H : (if y126.length + l0_0.length < 8796093022208 then (some (y126 ++ l0_0)) else (none)) = some r := by first | (rw [hy126]; with_reducible exact H) | (have H2_ := (Option.bind_some _ _).symm.trans H; rw [hy126]; with_reducible exact H2_) | (have H2_ := (Option.bind_some _ _).symm.trans H; with_reducible exact H2_) | with_reducible exact H | (rw [hy126]; exact H) | exact H
 have Ny126 := am hy126
 clear hy126
 by_cases c2 : y126.length + l0_0.length < 8796093022208
 ·rw [if_pos c2] at H
  have LMc2 := am c2
  clear c2
  obtain ⟨y129, hy129⟩ : ∃ y_ : List (S34), y_ = (y126 ++ l0_0) := ⟨_, rfl⟩
  replace H : (some y129) = some r := by first | (rw [hy129]; with_reducible exact H) | (have H2_ := (Option.bind_some _ _).symm.trans H; rw [hy129]; with_reducible exact H2_) | (have H2_ := (Option.bind_some _ _).symm.trans H; with_reducible exact H2_) | with_reducible exact H | (rw [hy129]; exact H) | exact H
  have Ny129 := am hy129
  clear hy129
  obtain rfl := Option.some.inj H
  go_enter Tryz.func47, Tryz.ntmps47
  go_wp2_with (first | ((with_reducible refine gate_dst (N := 1) rfl ?_); refine box_event rfl (N := 1) rfl (cs := #[.slice A0_0 l0_0.length c0_0]) (t := 25) hr_ ?_; intro gb124 hg w3 hbox hb; have BK124 := am hbox; have GW124 := gwE HB hg; have GE124 := gwE HB hg; replace HB := hbS HB hb; clear hb hbox hg) | ((with_reducible refine gate_dst (N := 2) rfl ?_); refine box_event rfl (N := 2) rfl (cs := #[.slice none 0 0]) (t := 25) hr_ ?_; intro gb125 hg w4 hbox hb; have BK125 := am hbox; have GW125 := gwE HB hg; have GE125 := gwE HB hg; replace HB := hbS HB hb; have NB124_125 := neL BK124 hg; have NB125_124 := neG BK124 hg; replace BK124 := bkB BK124 hb; clear hb hbox hg) | ((with_reducible refine gate_dst (N := 3) rfl ?_); refine Kd.R_lit k34 _ 34 rfl (N := 3) rfl (xs := ([] : List (S34))) (inner := []) (ok := fun _ => True) (okp := fun _ => True) hr_ ?hp (fun _ hk => hk) trivial (Below.refl _ _) (Nat.le_refl _) (by simp) ?_; (case hp => exact (Reps.none _ _)); intro v127 w5 ho6 hb hg_ hnew_; clear hg_ hnew_; (first | rw [← Ny126.out] at ho6 | (simp only [Int.reduceToNat] at ho6; rw [← Ny126.out] at ho6)); have HO128 := am (Kd.R_lower ho6 (below_size (bl HB))); replace BK124 := bkB BK124 hb; replace BK125 := bkB BK125 hb; replace HB := hbS HB hb; clear hb ho6; have := NB124_125.out; have := NB125_124.out; have := bcell BK124 0; have := bfz BK124 0) | ((with_reducible refine gate_builtin (b := .append) (xs := #[.tmp 3, .tmp 5]) rfl ?_); at_builtin; refine Kd.R_append_rows k34 (w0 := w) w.heap.size rfl (.tmp 3) (.tmp 5) 23 34 (.agg #[(.int .i64 0), (.int .i64 0)]) 16 rfl Tryz.underlying23 info34 rfl (by decide) (by omega) v127 y126 l0_0 _ _ _ (fun _ => True) (fun _ => False) rfl rfl ?aO ?aR (fun _ _ h => h) (fun _ h => h.elim) ?aF ?aB ?aS ?aL ?_; (case aR => exact m4_); (case aB => exact (bl HB)); (case aF => exact (fun _ _ => trivial)); (case aO => exact (rs HO128)); (case aS => exact (below_size (bl HB))); (case aL => have := LMc2.out; omega); intro v130 w9 ho hb hg hat; rw [← Ny129.out] at ho; replace BK124 := am (blk_grown (g := gb124) (o := .cells #[.slice A0_0 l0_0.length c0_0] 25 (0, 0)) (bk BK124) hg (Kd.R_ne HO128.out BK124.out (by decide))); replace BK125 := am (blk_grown (g := gb125) (o := .cells #[.slice none 0 0] 25 (0, 0)) (bk BK125) hg (Kd.R_ne HO128.out BK125.out (by decide))); replace HB := am hb; have HO131 := am (ho); clear HO128; clear ho hb hg hat; obtain ⟨Ao10, co10, eo10⟩ := Kd.R_slice HO131.out; subst eo10; have := bcell BK125 0; have := bfz BK125 0))
  refine bodyPost_ret (results_cell_row rfl _ _ gb125 25 #[.slice Ao10 y129.length co10] (0, 0) _ rfl (by (with_reducible repeat refine bu ?_); refine blk_put (cs := #[.slice none 0 0]) ?_ 0 _ rfl; (with_reducible repeat refine bu ?_); exact BK125.out) Tryz.underlying25 rfl (by kernel_rfl)) rfl ?_
  exact ⟨_, fi_, by (with_reducible repeat apply ru); exact Kd.R_mono (Kd.R_far (p := ⟨gb125, 0, none⟩) (Kd.R_types HO131.out BK125.out (by decide)) (fun _ hk => hk.2) (.slice Ao10 y129.length co10)) (fun _ hk => trivial), m2_⟩
 ·rw [if_neg c2] at H
  exact absurd H (by simp)
def spec_MapPut.j0 : Nat → Bool → List (S34) → Int → Int → Option ((List (S34)) × Int)
 | 0, _, _, _, _ => none
 | k + 1, x13, x152000, x153000, x153001 => if x13 = true then (some (([] : List (S34)), 0)) else ((spec_l3Copy.f x152000).bind fun t156 => ((spec_l3Put.f k t156 x153000 x153001).bind fun bt159 => (some (bt159.1, bt159.2))))
def spec_MapPut.f (k : Nat) (l0_0 : List (S34)) (a1_0 : Int) (a1_1 : Int) : Option ((List (S34)) × Int) := (spec_MapOk.f k l0_0).bind fun t154 => (if t154 = true then ((spec_EndInside.f a1_0 a1_1).bind fun t155 => (spec_MapPut.j0 k (!t155) l0_0 a1_0 a1_1)) else (spec_MapPut.j0 k true l0_0 a1_0 a1_1))
theorem spec_MapPut.mono_l : ∀ k, (∀ y0 y1 y2 y3, LeO (spec_MapPut.j0 k y0 y1 y2 y3) (spec_MapPut.j0 (k + 1) y0 y1 y2 y3))
 | 0 => fun _ _ _ _ r h => by simp [spec_MapPut.j0] at h
 | k + 1 => by
  have ih0 := spec_MapPut.mono_l k
  ·intro y0 y1 y2 y3
   unfold spec_MapPut.j0
   repeat' first | (with_reducible first | exact ih0 _ _ _ _ | exact spec_MapOk.mono _ _ | exact spec_l3Put.mono _ _ _ _ | exact LeO.refl _ | exact LeO.none _ | refine LeO.ite ?_ ?_ | refine LeO.bind ?_ (fun _ => ?_)) | exact ih0 _ _ _ _ | exact spec_MapOk.mono _ _ | exact spec_l3Put.mono _ _ _ _ | exact LeO.none _ | refine LeO.ite ?_ ?_ | refine LeO.bind ?_ (fun _ => ?_)
theorem spec_MapPut.mono : ∀ a0 a1 a2 k, LeO (spec_MapPut.f k a0 a1 a2) (spec_MapPut.f (k + 1) a0 a1 a2) := by
 intro a0 a1 a2 k
 have ih0 := spec_MapPut.mono_l k
 unfold spec_MapPut.f
 repeat' first | (with_reducible first | exact ih0 _ _ _ _ | exact spec_MapOk.mono _ _ | exact spec_l3Put.mono _ _ _ _ | exact LeO.refl _ | exact LeO.none _ | refine LeO.ite ?_ ?_ | refine LeO.bind ?_ (fun _ => ?_)) | exact ih0 _ _ _ _ | exact spec_MapOk.mono _ _ | exact spec_l3Put.mono _ _ _ _ | exact LeO.none _ | refine LeO.ite ?_ ?_ | refine LeO.bind ?_ (fun _ => ?_)
def spec_MapPut.T3 : Bool × List (List Nat × List Nat) := (true, [([], []), ([0], [0]), ([], []), ([1, 2, 1], [1, 2]), ([3], [3]), ([3], [3]), ([4, 3, 0, 1, 2, 3, 4, 5], [4]), ([5, 6, 0, 1, 2, 3, 4, 5, 6], [5])])
def spec_MapPut.B3 : List Nat := [0, 1, 0, 7, 15, 15, 63, 127]
theorem spec_MapPut.tab3 : rtab .any (opsOf Tryz.f74 3) = spec_MapPut.T3 := by kernel_rfl
theorem spec_MapPut.bits3 : waitsOk spec_MapPut.T3.2 spec_MapPut.B3 = true := by kernel_rfl
set_option maxHeartbeats 8000000 in
set_option maxRecDepth 100000 in
theorem spec_MapPut.calls (k : Nat) (A0_0 : Option Addr) (c0_0 : Nat) (l0_0 : List (S34)) (a1_0 : Int) (a1_1 : Int) (r1 : List (S34)) (r2 : Int) (w : World) (hr0_0 : Kd.C k34 w A0_0 l0_0.length l0_0) (hc0_0 : l0_0.length ≤ c0_0) (h : spec_MapPut.f k l0_0 a1_0 a1_1 = some (r1, r2)) :
  Calls Tryz.prog 74 #[.agg #[.slice A0_0 l0_0.length c0_0], .agg #[.int .i64 a1_0, .int .i64 a1_1]] w fun e w' => ∃ v0_ : Value, e = .returned (.tuple #[.agg #[v0_], .int .i64 r2]) ∧ Kd.R k34 34 w' w.heap.size (fun _ => True) v0_ r1 ∧ Below w.heap.size w w' := by
 have hu25 := Tryz.underlying25
 have hu34 := Tryz.underlying34
 have HR0_0 := am hr0_0
 have HC0_0 := am hc0_0
 clear hr0_0 hc0_0
 have HB := am (Below.refl w.heap.size w)
 have H : ((spec_MapOk.f k l0_0).bind fun t154 => (if t154 = true then ((spec_EndInside.f a1_0 a1_1).bind fun t155 => (spec_MapPut.j0 k (!t155) l0_0 a1_0 a1_1)) else (spec_MapPut.j0 k true l0_0 a1_0 a1_1))) = some (r1, r2) := h
 clear h
 have HC3 := am H
 clear H
 go_enter Tryz.func74, Tryz.ntmps74
 go_upto_region 1 with (first | ((with_reducible refine gate_dst (N := 2) rfl ?_); refine box_event rfl (N := 2) rfl (cs := #[.slice A0_0 l0_0.length c0_0]) (t := 25) hr_ ?_; intro gb151 hg w4 hbox hb; have BK151 := am hbox; have GW151 := gwE HB hg; have GE151 := gwE HB hg; replace HB := hbS HB hb; clear hb hbox hg) | ((with_reducible refine gate_dst (N := 3) rfl ?_); refine box_event rfl (N := 3) rfl (cs := #[.int .i64 a1_0, .int .i64 a1_1]) (t := 34) hr_ ?_; intro gb152 hg w5 hbox hb; have BK152 := am hbox; have GW152 := gwE HB hg; have GE152 := gwE HB hg; replace HB := hbS HB hb; have NB151_152 := neL BK151 hg; have NB152_151 := neG BK151 hg; replace BK151 := bkB BK151 hb; clear hb hbox hg) | ((with_reducible refine gate_dst (N := 4) rfl ?_); refine box_event rfl (N := 4) rfl (cs := #[.slice none 0 0]) (t := 25) hr_ ?_; intro gb153 hg w6 hbox hb; have BK153 := am hbox; have GW153 := gwE HB hg; have GE153 := gwE HB hg; replace HB := hbS HB hb; have NB151_153 := neL BK151 hg; have NB153_151 := neG BK151 hg; replace BK151 := bkB BK151 hb; have NB152_153 := neL BK152 hg; have NB153_152 := neG BK152 hg; replace BK152 := bkB BK152 hb; clear hb hbox hg))
 (try simp only [Act.put, List.setIfInBounds_toArray, List.set_cons_zero, List.set_cons_succ])
 go_cut [13] (fun v13 wc => ∃ (kq : Nat) (x13_2 : Bool), v13 = .bool x13_2 ∧ Aside0 (spec_MapPut.j0 kq x13_2 l0_0 a1_0 a1_1 = some (r1, r2)) ∧ Aside0 (kq ≤ k) ∧ Aside0 (wc.heap[gb151]? = some (.cells #[(.slice A0_0 l0_0.length c0_0)] 25 (0, 0))) ∧ Aside0 (wc.heap[gb152]? = some (.cells #[.int .i64 a1_0, .int .i64 a1_1] 34 (0, 0))) ∧ Aside0 (wc.heap[gb153]? = some (.cells #[(.slice none 0 0)] 25 (0, 0))) ∧ Aside0 (Below w.heap.size w wc))
 case first =>
  have H := HC3.out
  clear HC3
  obtain ⟨t154, A7, H⟩ := bse H
  try dsimp only at H
  by_cases c8 : t154 = true
  ·subst c8
   have H1 : ((spec_EndInside.f a1_0 a1_1).bind fun t155 => (spec_MapPut.j0 k (!t155) l0_0 a1_0 a1_1)) = some (r1, r2) := by rw [if_pos rfl] at H; exact H
   clear H
   have H := H1
   clear H1
   obtain ⟨t155, A9, H⟩ := bse H
   try dsimp only at H
   have H' := am H
   clear H
   have := NB151_152.out
   have := NB152_151.out
   have := NB151_153.out
   have := NB153_151.out
   have hcz12_0 := bcell BK151 0
   have hfz12_0 := blk_frozen BK151.out 0
   go_wp2_with (first | ((with_reducible refine gate_callee (f := 16) rfl ?_); refine gL (some 7) Tryz.func16 #[.agg #[.slice A0_0 l0_0.length c0_0]] ?_; (with_reducible refine (spec_MapOk.calls k _ _ l0_0 true _ ?side1 ?side2 A7.out).mono ?_); (case side1 => exact m4_); (case side2 => exact HC0_0.out); rintro e w13 ⟨rfl, hb⟩; refine ⟨_, rfl, ?_⟩; replace BK151 := bkB BK151 hb; replace BK152 := bkB BK152 hb; replace BK153 := bkB BK153 hb; replace HB := hbS HB hb; (try clear hb); have := NB152_153.out; have := NB153_152.out; have hcz15_0 := bcell BK152 0; have hcz15_1 := bcell BK152 1; have hfz15_0 := blk_frozen BK152.out 0; have hfz15_1 := blk_frozen BK152.out 1) | (go_at_call 48; (with_reducible refine (spec_EndInside.calls a1_0 a1_1 t155 _ A9.out).mono ?_); rintro e w16 ⟨rfl, hb⟩; replace BK151 := bkB BK151 hb; replace BK152 := bkB BK152 hb; replace BK153 := bkB BK153 hb; replace HB := hbS HB hb; (try clear hb)))
   go_meet
   case rel => exact ⟨_, (!t155), rs_, H', ⟨by first | omega | exact Nat.le_refl _⟩, ⟨bk BK151⟩, ⟨bk BK152⟩, ⟨bk BK153⟩, ⟨m2_⟩⟩
  ·replace c8 := Bool.eq_false_iff.mpr c8
   subst c8
   have H1 : (spec_MapPut.j0 k true l0_0 a1_0 a1_1) = some (r1, r2) := by rw [if_neg (show ¬ (false = true) by decide)] at H; exact H
   clear H
   have H := H1
   clear H1
   have H' := am H
   clear H
   have := NB151_152.out
   have := NB152_151.out
   have := NB151_153.out
   have := NB153_151.out
   have hcz19_0 := bcell BK151 0
   have hfz19_0 := blk_frozen BK151.out 0
   go_wp2_with (first | ((with_reducible refine gate_callee (f := 16) rfl ?_); refine gL (some 7) Tryz.func16 #[.agg #[.slice A0_0 l0_0.length c0_0]] ?_; (with_reducible refine (spec_MapOk.calls k _ _ l0_0 false _ ?side1 ?side2 A7.out).mono ?_); (case side1 => exact m4_); (case side2 => exact HC0_0.out); rintro e w20 ⟨rfl, hb⟩; refine ⟨_, rfl, ?_⟩; replace BK151 := bkB BK151 hb; replace BK152 := bkB BK152 hb; replace BK153 := bkB BK153 hb; replace HB := hbS HB hb; (try clear hb)))
   go_meet
   case rel => exact ⟨_, (true), rs_, H', ⟨by first | omega | exact Nat.le_refl _⟩, ⟨bk BK151⟩, ⟨bk BK152⟩, ⟨bk BK153⟩, ⟨m2_⟩⟩
 case rest =>
  clear HC3
  try clear c1
  try clear p2
  try clear c7
  try clear c8
  try clear c10
  try clear c11
  try clear c14
  try clear c16
  try clear c17
  try clear c18
  try clear hcz12_0
  try clear hcz15_0
  try clear hcz15_1
  try clear hcz19_0
  try clear hfz12_0
  try clear hfz15_0
  try clear hfz15_1
  try clear hfz19_0
  obtain ⟨kq, x13_2, rfl, HA, HJ2, BK151, BK152, BK153, HB⟩ := hcut
  cases kq with
  | zero => exact absurd HA.out (by simp [spec_MapPut.j0])
  | succ kj2 =>
   have H := HA.out
   clear HA
   simp only [spec_MapPut.j0] at H
   by_cases c21 : x13_2 = true
   ·subst c21
    have H1 : (some (([] : List (S34)), 0)) = some (r1, r2) := by rw [if_pos rfl] at H; exact H
    clear H
    have H := H1
    clear H1
    simp only [Option.some.injEq, Prod.mk.injEq] at H
    obtain ⟨rfl, rfl⟩ := H
    have := NB153_151.out
    have := NB151_153.out
    have := NB153_152.out
    have := NB152_153.out
    have := bcell BK153 0
    have := bfz BK153 0
    go_wp2
    refine bodyPost_ret (results_ct rfl _ _ gb153 25 #[.slice none 0 0] (0, 0) _ rfl (by (with_reducible repeat refine bu ?_); refine blk_put (cs := #[.slice none 0 0]) ?_ 0 _ rfl; (with_reducible repeat refine bu ?_); exact BK153.out) Tryz.underlying25 rfl (by kernel_rfl)) rfl ?_
    exact ⟨_, fi_, by first | exact Kd.R_nil _ _ _ _ _ | exact Kd.N_nil _ _ _ _ _ | exact Kd.V_nil _ _ _ _ _ | exact Kd.Q_nil _ _ _ _ _ | exact Kd.S_nil _ _ _ _ _, m2_⟩
   ·replace c21 := Bool.eq_false_iff.mpr c21
    subst c21
    have H1 : ((spec_l3Copy.f l0_0).bind fun t156 => ((spec_l3Put.f kj2 t156 a1_0 a1_1).bind fun bt159 => (some (bt159.1, bt159.2)))) = some (r1, r2) := by rw [if_neg (show ¬ (false = true) by decide)] at H; exact H
    clear H
    have H := H1
    clear H1
    obtain ⟨t156, A25, H⟩ := bse H
    try dsimp only at H
    obtain ⟨⟨t159, t162⟩, A26, H⟩ := bse H
    try dsimp only at H
    simp only [Option.some.injEq, Prod.mk.injEq] at H
    obtain ⟨rfl, rfl⟩ := H
    try go_wp2
    replace BK151 := am (blk_drew BK151.out)
    replace BK152 := am (blk_drew BK152.out)
    replace BK153 := am (blk_drew BK153.out)
    replace HB := am (below_drew1 HB.out)
    refine start_ (n := 8) (S := fun w' => w'.cell? ⟨gb151, 0, none⟩ = some (.slice A0_0 l0_0.length c0_0) ∧ w'.cell? ⟨gb152, 0, none⟩ = some (.int .i64 a1_0) ∧ w'.cell? ⟨gb152, 1, none⟩ = some (.int .i64 a1_1)) (ds := []) #[false, false, false, false, false, false, false, false] (by kernel_rfl) rfl rfl ⟨bcell BK151 0, bcell BK152 0, bcell BK152 1⟩ (fun hHeld => ?_); refine with_tabW spec_MapPut.tab3 spec_MapPut.bits3 (fun HT_ HW_ => ?_)
    generalize wc.drew = w27 at BK151 BK152 BK153 HB hHeld ⊢
    refine tk_ 0 (some 15) (bm 8 1) rfl (.inl ⟨rfl, m10_⟩) ?_
    refine tk_ 2 (some 17) (bm 8 5) rfl (.inl ⟨rfl, m10_⟩) ?_
    refine on_ 1 (some 16) (bm 8 7) (fun K hK => ?_)
    refine gR Tryz.func47 #[.agg #[.slice A0_0 l0_0.length c0_0]] ?_
    with_reducible refine (spec_l3Copy.calls _ _ l0_0 t156 _ ?side1 ?side2 A25.out).mono ?_
    (case side1 => exact m4_)
    (case side2 => exact HC0_0.out)
    rintro e w28 ⟨v157, rfl, ho0, hb⟩
    refine ⟨_, rfl, ?_⟩
    have HO158 := am (Kd.R_lower (Kd.R_newB ho0 (g := gb152) (o := .cells #[.int .i64 a1_0, .int .i64 a1_1] 34 (0, 0)) (bk BK152)) (below_size (bl HB)))
    replace BK151 := bkB BK151 hb
    replace BK152 := bkB BK152 hb
    replace BK153 := bkB BK153 hb
    replace HB := hbS HB hb
    (try clear hb)
    (try clear hb2)
    (try clear hk)
    (try clear hi)
    (try clear ho0)
    obtain ⟨Ao29, co29, eo29⟩ := Kd.R_slice HO158.out
    (first | subst eo29 | (injection eo29 with f1_ f2_ f3_; have f4_ := f1_.symm; have f5_ := f3_.symm; clear f1_ f2_ f3_; subst f4_; subst f5_))
    refine hK.out _ _ ⟨bcell BK151 0, bcell BK152 0, bcell BK152 1⟩ (fun hHeld => ?_)
    clear hK K
    refine nm_ ?_
    refine on_ 3 (some 18) (bm 8 15) (fun K hK => ?_)
    refine gR Tryz.func80 #[.agg #[.slice Ao29 t156.length co29], .agg #[.int .i64 a1_0, .int .i64 a1_1]] ?_
    with_reducible refine (spec_l3Put.calls kj2 (fun k_ => some k_ = (.slice Ao29 t156.length co29 : Value).ownBlock) (.slice Ao29 t156.length co29) t156 a1_0 a1_1 t159 t162 w _ ?side1 ?side2 A26.out).mono ?_
    (case side1 => exact m2_)
    (case side2 => exact Kd.R_tight rfl HO158.out)
    rintro e w30 ⟨v160, rfl, ho0, hb, hkp⟩
    refine ⟨_, rfl, ?_⟩
    replace BK151 := am (blk_kept (bk BK151) hkp (fun hs_ => (fun e_ => (Kd.R_ne HO158.out BK151.out (by decide)) e_) hs_))
    replace BK153 := am (blk_kept (bk BK153) hkp (fun hs_ => (fun e_ => (Kd.R_ne HO158.out BK153.out (by decide)) e_) hs_))
    have HO161 := am (Kd.R_mono (ok' := fun k_ => k_ ≠ gb152) ho0 (fun k_ hk_ => Or.elim hk_ (fun hs_ => fun e_ => (Kd.R_away HO158.out (fun _ hk => hk.2)) (by rw [← e_]; exact hs_)) (fun hn_ => (Kd.freshB (g := gb152) (o := .cells #[.int .i64 a1_0, .int .i64 a1_1] 34 (0, 0)) (bk BK152) k_ hn_))))
    replace BK152 := am (blk_kept (bk BK152) hkp (fun hs_ => (fun e_ => (Kd.R_away HO158.out (fun _ hk => hk.2)) e_) hs_))
    replace HB := am hb
    clear HO158
    (try clear hb)
    (try clear hkp)
    (try clear ho0)
    obtain ⟨Ao31, co31, eo31⟩ := Kd.R_slice HO161.out
    (first | subst eo31 | (injection eo31 with f1_ f2_ f3_; have f4_ := f1_.symm; have f5_ := f3_.symm; clear f1_ f2_ f3_; subst f4_; subst f5_))
    refine hK.out _ _ ⟨bcell BK151 0, bcell BK152 0, bcell BK152 1⟩ (fun hHeld => ?_)
    clear hK K
    refine nm_ ?_
    refine pu_ 4 (some 19) (bm 8 31) ?_
    refine pu_ 5 (some 20) (bm 8 63) ?_
    refine on_ 6 none (bm 8 127) (fun K hK => ?_)
    have : w30.cell? ⟨gb153, 0, none⟩ = some (.slice none 0 0) := bcell BK153 0
    have := bfz BK153 0
    have := NB151_153.out
    have := NB152_153.out
    have := NB153_151.out
    have := NB153_152.out
    refine skip_ (w1 := ?_) (by rfl) rfl ?_ ?_
    rotate_left
    ·go_simp
     rfl
    refine hK.out _ _ ⟨((cell_far (p := ⟨gb153, _, none⟩) NB151_153.out _).trans (hHeld.1)), ((cell_far (p := ⟨gb153, _, none⟩) NB152_153.out _).trans (hHeld.2.1)), ((cell_far (p := ⟨gb153, _, none⟩) NB152_153.out _).trans (hHeld.2.2))⟩ (fun hHeld => ?_)
    clear hK K
    refine pu_ 7 (some 5) (bm 8 255) ?_
    refine done_ (done_of HT_.out (by kernel_rfl)) ?_
    try go_wp2
    refine bodyPost_ret (results_ct rfl _ _ gb153 25 #[.slice Ao31 t159.length co31] (0, 0) _ rfl (by (with_reducible repeat refine bu ?_); refine blk_put (cs := #[.slice none 0 0]) ?_ 0 _ rfl; (with_reducible repeat refine bu ?_); exact BK153.out) Tryz.underlying25 rfl (by kernel_rfl)) rfl ?_
    exact ⟨_, fi_, by (with_reducible repeat apply ru); exact Kd.R_mono (Kd.R_far (p := ⟨gb153, 0, none⟩) (Kd.R_types HO161.out BK153.out (by decide)) (fun _ hk => hk.2) (.slice Ao31 t159.length co31)) (fun _ hk => trivial), m2_⟩
end
section
attribute [local go_sem] max2_int min2_int max_two min_two max_three min_three max_four min_four
attribute [local go_sem high] eqA34
def laws_haEnds.l0 : Nat → List (S34) → List (S34) → Int → Option (Bool)
 | 0, _, _, _ => none
 | k + 1, x0, x1, x5 => if x5 < (x0.length : Int) then (if 0 ≤ x5 then (if x5 < (x1.length : Int) then (if (!(((rd_T34 x0 x5).f0) == ((rd_T34 x1 x5).f0)) || (!(((rd_T34 x0 x5).f1) == ((rd_T34 x1 x5).f1)))) = true then (some false) else (laws_haEnds.l0 k x0 x1 (wrap64 (x5 + 1)))) else (none)) else (none)) else (some true)
def laws_haEnds.f (k : Nat) (l0 : List (S34)) (l1 : List (S34)) : Option (Bool) := if (l0.length : Int) = (l1.length : Int) then (laws_haEnds.l0 k l0 l1 0) else (some false)
theorem laws_haEnds.mono_l : ∀ k, (∀ y0 y1 y2, LeO (laws_haEnds.l0 k y0 y1 y2) (laws_haEnds.l0 (k + 1) y0 y1 y2))
 | 0 => fun _ _ _ r h => by simp [laws_haEnds.l0] at h
 | k + 1 => by
  have ih0 := laws_haEnds.mono_l k
  ·intro y0 y1 y2
   unfold laws_haEnds.l0
   repeat' first | (with_reducible first | exact ih0 _ _ _ | exact LeO.refl _ | exact LeO.none _ | refine LeO.ite ?_ ?_ | refine LeO.bind ?_ (fun _ => ?_)) | exact ih0 _ _ _ | exact LeO.none _ | refine LeO.ite ?_ ?_ | refine LeO.bind ?_ (fun _ => ?_)
theorem laws_haEnds.mono : ∀ a0 a1 k, LeO (laws_haEnds.f k a0 a1) (laws_haEnds.f (k + 1) a0 a1) := by
 intro a0 a1 k
 have ih0 := laws_haEnds.mono_l k
 unfold laws_haEnds.f
 repeat' first | (with_reducible first | exact ih0 _ _ _ | exact LeO.refl _ | exact LeO.none _ | refine LeO.ite ?_ ?_ | refine LeO.bind ?_ (fun _ => ?_)) | exact ih0 _ _ _ | exact LeO.none _ | refine LeO.ite ?_ ?_ | refine LeO.bind ?_ (fun _ => ?_)
set_option maxHeartbeats 8000000 in
set_option maxRecDepth 100000 in
theorem laws_haEnds.calls (k : Nat) (A0 : Option Addr) (c0 : Nat) (l0 : List (S34)) (A1 : Option Addr) (c1 : Nat) (l1 : List (S34)) (r : Bool) (w : World) (hr0 : Kd.C k34 w A0 l0.length l0) (hc0 : l0.length ≤ c0) (hr1 : Kd.C k34 w A1 l1.length l1) (hc1 : l1.length ≤ c1) (h : laws_haEnds.f k l0 l1 = some r) :
  Calls Tryz.prog 15 #[.slice A0 l0.length c0, .slice A1 l1.length c1] w fun e w' => e = .returned (.bool r) ∧ Drawn0 w w' := by
 have hu34 := Tryz.underlying34
 have HR0 := am hr0
 have HC0 := am hc0
 clear hr0 hc0
 have HR1 := am hr1
 have HC1 := am hc1
 clear hr1 hc1
 have H : (if (l0.length : Int) = (l1.length : Int) then (laws_haEnds.l0 k l0 l1 0) else (some false)) = some r := h
 clear h
 by_cases c3 : (l0.length : Int) = (l1.length : Int)
 ·rw [if_pos c3] at H
  have c3b0 : ((l0.length : Int) == (l1.length : Int)) = true := beq_iff_eq.mpr c3
  have c3b1 : ((l0.length : Int) != (l1.length : Int)) = false := bne_eq_false_iff_eq.mpr c3
  have c3b2 : (l0.length == l1.length) = true := by first | simpa using c3 | (simp at c3 ⊢; omega)
  clear c3
  have H' := am H
  clear H
  go_enter Tryz.func15, Tryz.ntmps15
  go_wp2
  repeat (go_quiet (fail); try go_wp2)
  go_loopg [5] k (fun kq v5 w' => ∃ (x5_1 : Int), v5 = .int .i64 x5_1 ∧ Aside0 (laws_haEnds.l0 kq l0 l1 x5_1 = some r) ∧ Aside0 (kq ≤ k) ∧ Drawn0 w w')
  case atStart => exact ⟨(0), rs_, H', ⟨Nat.le_refl _⟩, by repeat (first | exact Drawn0.refl _ | apply Drawn0.step)⟩
  case round =>
   clear H'
   try clear c1
   try clear p2
   try clear c3
   try clear c3b0
   try clear c3b1
   try clear c3b2
   obtain ⟨x5_1, rfl, HA, HK1, ⟨m1, rfl⟩⟩ := hrel
   cases gk with
   | zero => exact absurd HA.out (by simp [laws_haEnds.l0])
   | succ k1 =>
    have H := HA.out
    clear HA
    simp only [laws_haEnds.l0] at H
    by_cases c4 : x5_1 < (l0.length : Int)
    ·rw [if_pos c4] at H
     have c4b0 : decide (x5_1 < (l0.length : Int)) = true := decide_eq_true c4
     clear c4
     by_cases c5 : 0 ≤ x5_1
     ·rw [if_pos c5] at H
      have c5b0 : decide (0 ≤ x5_1) = true := decide_eq_true c5
      clear c5
      by_cases c6 : x5_1 < (l1.length : Int)
      ·rw [if_pos c6] at H
       have c6b0 : decide (x5_1 < (l1.length : Int)) = true := decide_eq_true c6
       clear c6
       by_cases c7 : (!(((rd_T34 l0 x5_1).f0) == ((rd_T34 l1 x5_1).f0)) || (!(((rd_T34 l0 x5_1).f1) == ((rd_T34 l1 x5_1).f1)))) = true
       ·rw [if_pos c7] at H
        have c7b0 : (!(((rd_T34 l0 x5_1).f0) == ((rd_T34 l1 x5_1).f0)) || (!(((rd_T34 l0 x5_1).f1) == ((rd_T34 l1 x5_1).f1)))) = true := c7
        clear c7
        obtain rfl := Option.some.inj H
        have p457 : 0 ≤ (x5_1 : Int) := of_decide_eq_true da_
        have q457 : x5_1 < (l0.length : Int) := of_decide_eq_true da_
        obtain ⟨ad457, e457, hx457_0, hx457_1⟩ := at_T34 HR0.out x5_1 p457 q457
        cases e457
        replace p457 := eq_true p457
        replace q457 := eq_true q457
        have p458 : 0 ≤ (x5_1 : Int) := of_decide_eq_true da_
        have q458 : x5_1 < (l1.length : Int) := of_decide_eq_true da_
        obtain ⟨ad458, e458, hx458_0, hx458_1⟩ := at_T34 HR1.out x5_1 p458 q458
        cases e458
        replace p458 := eq_true p458
        replace q458 := eq_true q458
        go_wp2
        repeat (go_quiet (fail); try go_wp2)
        go_ret
        exact ⟨by first | rfl | (simp; done) | (simp [*]; done), by repeat (first | exact Drawn0.refl _ | apply Drawn0.step)⟩
       ·rw [if_neg c7] at H
        have c7b0 : (!(((rd_T34 l0 x5_1).f0) == ((rd_T34 l1 x5_1).f0)) || (!(((rd_T34 l0 x5_1).f1) == ((rd_T34 l1 x5_1).f1)))) = false := by simpa using c7
        clear c7
        have H' := am H
        clear H
        have p457 : 0 ≤ (x5_1 : Int) := of_decide_eq_true da_
        have q457 : x5_1 < (l0.length : Int) := of_decide_eq_true da_
        obtain ⟨ad457, e457, hx457_0, hx457_1⟩ := at_T34 HR0.out x5_1 p457 q457
        cases e457
        replace p457 := eq_true p457
        replace q457 := eq_true q457
        have p458 : 0 ≤ (x5_1 : Int) := of_decide_eq_true da_
        have q458 : x5_1 < (l1.length : Int) := of_decide_eq_true da_
        obtain ⟨ad458, e458, hx458_0, hx458_1⟩ := at_T34 HR1.out x5_1 p458 q458
        cases e458
        replace p458 := eq_true p458
        replace q458 := eq_true q458
        go_wp2
        repeat (go_quiet (fail); try go_wp2)
        go_roundg k1
        case measure => have := HK1.out; omega
        case rel => exact ⟨(wrap64 (x5_1 + 1)), rs_, H', ⟨by have := HK1.out; omega⟩, by repeat (first | exact Drawn0.refl _ | apply Drawn0.step)⟩
      ·rw [if_neg c6] at H
       exact absurd H (by simp)
     ·rw [if_neg c5] at H
      exact absurd H (by simp)
    ·rw [if_neg c4] at H
     have c4b0 : decide (x5_1 < (l0.length : Int)) = false := decide_eq_false c4
     clear c4
     obtain rfl := Option.some.inj H
     go_wp2
     repeat (go_quiet (fail); try go_wp2)
     go_ret
     exact ⟨by first | rfl | (simp; done) | (simp [*]; done), by repeat (first | exact Drawn0.refl _ | apply Drawn0.step)⟩
 ·rw [if_neg c3] at H
  have c3b0 : ((l0.length : Int) == (l1.length : Int)) = false := beq_eq_false_iff_ne.mpr c3
  have c3b1 : ((l0.length : Int) != (l1.length : Int)) = true := bne_iff_ne.mpr c3
  have c3b2 : (l0.length == l1.length) = false := by first | simpa using c3 | (simp at c3 ⊢; omega)
  obtain rfl := Option.some.inj H
  go_enter Tryz.func15, Tryz.ntmps15
  go_wp2
  repeat (go_quiet (fail); try go_wp2)
  go_ret
  exact ⟨by first | rfl | (simp; done) | (simp [*]; done), by repeat (first | exact Drawn0.refl _ | apply Drawn0.step)⟩
end
section
attribute [local go_sem] max2_int min2_int max_two min_two max_three min_three max_four min_four
def laws_haFirst.f (k : Nat) (l0 : List (S34)) (l1 : List (S34)) : Option (Bool) := if (l0.length : Int) ≥ (l1.length : Int) then (if 0 ≤ (l1.length : Int) then (if (l1.length : Int) ≤ (l0.length : Int) then ((laws_haEnds.f k (l0.take ((l1.length : Int) : Int).toNat) l1).bind fun t464 => (some t464)) else (none)) else (none)) else (some false)
theorem laws_haFirst.mono : ∀ a0 a1 k, LeO (laws_haFirst.f k a0 a1) (laws_haFirst.f (k + 1) a0 a1) := by
 intro a0 a1 k
 unfold laws_haFirst.f
 repeat' first | (with_reducible first | exact laws_haEnds.mono _ _ _ | exact LeO.refl _ | exact LeO.none _ | refine LeO.ite ?_ ?_ | refine LeO.bind ?_ (fun _ => ?_)) | exact laws_haEnds.mono _ _ _ | exact LeO.none _ | refine LeO.ite ?_ ?_ | refine LeO.bind ?_ (fun _ => ?_)
set_option maxHeartbeats 8000000 in
set_option maxRecDepth 100000 in
theorem laws_haFirst.calls (k : Nat) (A0 : Option Addr) (c0 : Nat) (l0 : List (S34)) (A1 : Option Addr) (c1 : Nat) (l1 : List (S34)) (r : Bool) (w : World) (hr0 : Kd.C k34 w A0 l0.length l0) (hc0 : l0.length ≤ c0) (hr1 : Kd.C k34 w A1 l1.length l1) (hc1 : l1.length ≤ c1) (h : laws_haFirst.f k l0 l1 = some r) :
  Calls Tryz.prog 21 #[.slice A0 l0.length c0, .slice A1 l1.length c1] w fun e w' => e = .returned (.bool r) ∧ Drawn0 w w' := by
 have HR0 := am hr0
 have HC0 := am hc0
 clear hr0 hc0
 have HR1 := am hr1
 have HC1 := am hc1
 clear hr1 hc1
 have H : (if (l0.length : Int) ≥ (l1.length : Int) then (if 0 ≤ (l1.length : Int) then (if (l1.length : Int) ≤ (l0.length : Int) then ((laws_haEnds.f k (l0.take ((l1.length : Int) : Int).toNat) l1).bind fun t464 => (some t464)) else (none)) else (none)) else (some false)) = some r := h
 clear h
 by_cases c3 : (l0.length : Int) ≥ (l1.length : Int)
 ·rw [if_pos c3] at H
  have c3b0 : decide ((l1.length : Int) ≤ (l0.length : Int)) = true := decide_eq_true c3
  have c3b1 : decide (l1.length ≤ l0.length) = true := decide_eq_true (Int.ofNat_le.mp c3)
  clear c3
  by_cases c4 : 0 ≤ (l1.length : Int)
  ·rw [if_pos c4] at H
   have c4b0 := eq_true c4
   have c4b1 : decide (0 ≤ (l1.length : Int)) = true := decide_eq_true c4
   clear c4
   by_cases c5 : (l1.length : Int) ≤ (l0.length : Int)
   ·rw [if_pos c5] at H
    have c5b0 := eq_true c5
    have c5b1 : decide ((l1.length : Int) ≤ (l0.length : Int)) = true := decide_eq_true c5
    clear c5
    obtain ⟨y460, hy460⟩ : ∃ y_ : List (S34), y_ = (l0.take ((l1.length : Int) : Int).toNat) := ⟨_, rfl⟩
    replace H : ((laws_haEnds.f k y460 l1).bind fun t464 => (some t464)) = some r := by first | (rw [hy460]; with_reducible exact H) | (have H2_ := (Option.bind_some _ _).symm.trans H; rw [hy460]; with_reducible exact H2_) | (have H2_ := (Option.bind_some _ _).symm.trans H; with_reducible exact H2_) | with_reducible exact H | (rw [hy460]; exact H) | exact H
    have Ny460 := am hy460
    clear hy460
    obtain ⟨t464, A6, H⟩ := bse H
    try dsimp only at H
    obtain rfl := Option.some.inj H
    have q7 : ((l1.length : Int) : Int) ≤ ((l0.length : Int) : Int) := of_decide_eq_true da_
    obtain ⟨i07, hi07, _, hsz7, _⟩ := info_parts info34
    have hroom7 : l0.length ≤ c0 := HC0.out
    have hC7 : Kd.C k34 _ A0 l0.length l0 := HR0.out
    have hcut7 := cut_to (P := Tryz.prog) 23 34 .i64 Tryz.underlying23 hi07 A0 l0.length c0 (l1.length : Int) (of_decide_eq_true da_) q7 hroom7
    have hr7 := Kd.C_take (m := ((l1.length : Int) : Int).toNat) hC7 (by omega)
    have hy7 : y460.length = ((l1.length : Int) : Int).toNat := (by rw [Ny460.out, List.length_take]; omega)
    rw [← Ny460.out] at hr7
    rw [← hy7] at hcut7
    have HR463 := am hr7
    have HC463 := am (show y460.length ≤ c0 from by omega)
    clear hr7 hC7 hroom7 hi07 hsz7
    have KY7 := am hy7
    clear hy7
    replace q7 := eq_true q7
    go_enter Tryz.func21, Tryz.ntmps21
    go_wp2_with (first | (go_at_call 15; (with_reducible refine (laws_haEnds.calls k _ _ y460 _ _ l1 t464 _ ?side1 ?side2 ?side3 ?side4 A6.out).mono ?_); (case side1 => exact m12_); (case side2 => exact HC463.out); (case side3 => exact m13_); (case side4 => exact HC1.out); rintro e w' ⟨rfl, ⟨nd, rfl⟩⟩))
    go_ret
    exact ⟨by first | rfl | (simp; done) | (simp [*]; done), by repeat (first | exact Drawn0.refl _ | apply Drawn0.step)⟩
   ·rw [if_neg c5] at H
    exact absurd H (by simp)
  ·rw [if_neg c4] at H
   exact absurd H (by simp)
 ·rw [if_neg c3] at H
  have c3b0 : decide ((l1.length : Int) ≤ (l0.length : Int)) = false := decide_eq_false c3
  have c3b1 : decide (l1.length ≤ l0.length) = false := decide_eq_false (fun h => c3 (Int.ofNat_le.mpr h))
  clear c3
  obtain rfl := Option.some.inj H
  go_enter Tryz.func21, Tryz.ntmps21
  go_wp2
  go_ret
  exact ⟨by first | rfl | (simp; done) | (simp [*]; done), by repeat (first | exact Drawn0.refl _ | apply Drawn0.step)⟩
end
theorem specMapPut_a (l : List S34) (hl : l.length ≤ 2000000) (a b : Int) : Ans (fun k => spec_MapPut.f k l a b) (fun r => r = tabPut l a b) := by
  unfold spec_MapPut.f tabPut
  refine Ans.bind (specMapOk_a l hl) ?_
  rintro _ rfl
  simp only [specEndInside_f, Option.bind_some]
  have J0 : Ans (fun k => spec_MapPut.j0 k true l a b) (fun r => r = ([], 0)) := by
    refine Ans.succ ?_
    unfold spec_MapPut.j0
    exact Ans.pos rfl (Ans.pure rfl)
  refine Ans.ite (fun c => ?_) (fun c => by simpa [c] using J0)
  rw [c]
  cases he : endIn a b
  · simpa using J0
  have hl6 := okT_le c
  refine Ans.succ ?_
  unfold spec_MapPut.j0
  refine Ans.neg (by simp) ?_
  have hc : spec_l3Copy.f l = some l := by
    unfold spec_l3Copy.f
    rw [Option.bind_some, if_pos (by simp; omega)]
    rfl
  rw [hc]
  refine Ans.bsome ?_
  refine Ans.bind (R := fun r => r = putV l a b) ?_ (fun v hv => by subst hv; exact Ans.pure (by simp))
  exact l3Put_a l hl a b
instance decS29 : DecidableEq S34 := fun a b => decidable_of_iff (a.f0 = b.f0 ∧ a.f1 = b.f1) (by cases a; cases b; simp)
theorem haEnds_a (l r : List S34) (hl : l.length ≤ 2000000) : Ans (fun k => laws_haEnds.f k l r) (fun v => v = decide (l = r)) := by
  unfold laws_haEnds.f
  refine Ans.ite (fun c => ?_) (fun c => Ans.pure ?_)
  · have L : ∀ (m i : Nat), i + m = l.length → l.take i = r.take i → Ans (fun k => laws_haEnds.l0 k l r (i : Int)) (fun v => v = decide (l = r)) := by
      intro m
      induction m with
      | zero =>
        intro i hi ht
        refine Ans.succ ?_
        unfold laws_haEnds.l0
        rw [List.take_of_length_le (by omega), List.take_of_length_le (by omega)] at ht
        exact Ans.neg (by omega) (Ans.pure (by simp [ht]))
      | succ m ih =>
        intro i hi ht
        refine Ans.succ ?_
        unfold laws_haEnds.l0
        refine Ans.pos (by omega) (Ans.pos (by omega) (Ans.pos (by omega) ?_))
        rw [wi i (by omega)]
        refine Ans.ite (fun h => Ans.pure ?_) (fun h => ?_)
        · have : ¬ (l = r) := by
            rintro rfl
            simp at h
          simp [this]
        · refine ih (i + 1) (by omega) ?_
          rw [rd29_take (by omega : i < l.length), rd29_take (by omega : i < r.length), ht]
          have : rd_T34 l (i : Int) = rd_T34 r (i : Int) := by
            simp at h
            cases h1 : rd_T34 l (i : Int)
            cases h2 : rd_T34 r (i : Int)
            rw [h1, h2] at h
            simp at h
            simp [h.1, h.2]
          rw [this]
    exact L l.length 0 (by omega) rfl
  · have : ¬ (l = r) := by
      rintro rfl
      exact c rfl
    simp [this]
theorem haFirst_a (l r : List S34) (hl : l.length ≤ 2000000) (h : ∃ t, l = r ++ t) : Ans (fun k => laws_haFirst.f k l r) (fun v => v = true) := by
  obtain ⟨t, rfl⟩ := h
  unfold laws_haFirst.f
  refine Ans.pos (by simp; omega) (Ans.pos (by omega) (Ans.pos (by simp; omega) ?_))
  have e : (((r.length : Int)) : Int).toNat = r.length := by omega
  rw [e, List.take_left]
  refine Ans.bind (haEnds_a r r (by simp at hl; omega)) ?_
  rintro _ rfl
  exact Ans.pure (by simp)
end Go.Proofs.YtffmbccgcaghjaaGreatDoor.P
