import Derived.Test.YtffmbccgcaghjaaGreatDoorGLawFnRwrStaysx5
import Derived.Lib.SplitLaws
namespace Go.Proofs.YtffmbccgcaghjaaGreatDoor.P
open Go.Proofs.YtffmbccgcaghjaaGreatDoorUFnRwrStays.PrintLast Go.Proofs.YtffmbccgcaghjaaGreatDoorUFnRwrStays.PrintMore Go.Proofs.YtffmbccgcaghjaaGreatDoorUFnRwrStays.PrintWords Go.RowKit
set_option linter.unusedVariables false
set_option linter.unusedSimpArgs false
section
attribute [local go_sem] max2_int min2_int max_two min_two max_three min_three max_four min_four
def laws_haFirst.f (k : Nat) (l0 : List (S34)) (l1 : List (S34)) : Option (Bool):=if (l0.length : Int) ≥ (l1.length : Int) then (if 0 ≤ (l1.length : Int) then (if (l1.length : Int) ≤ (l0.length : Int) then ((laws_haEnds.f k (l0.take ((l1.length : Int) : Int).toNat) l1).bind fun t464=>(some t464)) else (none)) else (none)) else (some false)
theorem laws_haFirst.mono : ∀ a0 a1 k,LeO (laws_haFirst.f k a0 a1) (laws_haFirst.f (k + 1) a0 a1):=by
 intro a0 a1 k
 unfold laws_haFirst.f
 repeat' first | (with_reducible first | exact laws_haEnds.mono _ _ _ | exact LeO.refl _ | exact LeO.none _ | refine LeO.ite ?_ ?_ | refine LeO.bind ?_ (fun _=>?_)) | exact laws_haEnds.mono _ _ _ | exact LeO.none _ | refine LeO.ite ?_ ?_ | refine LeO.bind ?_ (fun _=>?_)
set_option maxHeartbeats 8000000 in
set_option maxRecDepth 100000 in
theorem laws_haFirst.calls (k : Nat) (A0 : Option Addr) (c0 : Nat) (l0 : List (S34)) (A1 : Option Addr) (c1 : Nat) (l1 : List (S34)) (r : Bool) (w : World) (hr0 : Kd.C k34 w A0 l0.length l0) (hc0 : l0.length ≤ c0) (hr1 : Kd.C k34 w A1 l1.length l1) (hc1 : l1.length ≤ c1) (h : laws_haFirst.f k l0 l1 = some r) :
  Calls Tryz.prog 21 #[.slice A0 l0.length c0,.slice A1 l1.length c1] w fun e w'=>e = .returned (.bool r) ∧ Drawn0 w w':=by
 have HR0:=am hr0
 have HC0:=am hc0
 clear hr0 hc0
 have HR1:=am hr1
 have HC1:=am hc1
 clear hr1 hc1
 have H : (if (l0.length : Int) ≥ (l1.length : Int) then (if 0 ≤ (l1.length : Int) then (if (l1.length : Int) ≤ (l0.length : Int) then ((laws_haEnds.f k (l0.take ((l1.length : Int) : Int).toNat) l1).bind fun t464=>(some t464)) else (none)) else (none)) else (some false)) = some r:=h
 clear h
 by_cases c3 : (l0.length : Int) ≥ (l1.length : Int)
 ·rw [if_pos c3] at H
  have c3b0 : decide ((l1.length : Int) ≤ (l0.length : Int)) = true:=decide_eq_true c3
  have c3b1 : decide (l1.length ≤ l0.length) = true:=decide_eq_true (Int.ofNat_le.mp c3)
  clear c3
  by_cases c4 : 0 ≤ (l1.length : Int)
  ·rw [if_pos c4] at H
   have c4b0:=eq_true c4
   have c4b1 : decide (0 ≤ (l1.length : Int)) = true:=decide_eq_true c4
   clear c4
   by_cases c5 : (l1.length : Int) ≤ (l0.length : Int)
   ·rw [if_pos c5] at H
    have c5b0:=eq_true c5
    have c5b1 : decide ((l1.length : Int) ≤ (l0.length : Int)) = true:=decide_eq_true c5
    clear c5
    obtain ⟨y460,hy460⟩ : ∃ y_ : List (S34),y_ = (l0.take ((l1.length : Int) : Int).toNat):=⟨_,rfl⟩
    replace H : ((laws_haEnds.f k y460 l1).bind fun t464=>(some t464)) = some r:=by first | (rw [hy460];with_reducible exact H) | (have H2_:=(Option.bind_some _ _).symm.trans H;rw [hy460];with_reducible exact H2_) | (have H2_:=(Option.bind_some _ _).symm.trans H;with_reducible exact H2_) | with_reducible exact H | (rw [hy460];exact H) | exact H
    have Ny460:=am hy460
    clear hy460
    obtain ⟨t464,A6,H⟩:=bse H
    try dsimp only at H
    obtain rfl:=Option.some.inj H
    have q7 : ((l1.length : Int) : Int) ≤ ((l0.length : Int) : Int):=of_decide_eq_true da_
    obtain ⟨i07,hi07,_,hsz7,_⟩:=info_parts info34
    have hroom7 : l0.length ≤ c0:=HC0.out
    have hC7 : Kd.C k34 _ A0 l0.length l0:=HR0.out
    have hcut7:=cut_to (P:=Tryz.prog) 23 34 .i64 Tryz.underlying23 hi07 A0 l0.length c0 (l1.length : Int) (of_decide_eq_true da_) q7 hroom7
    have hr7:=Kd.C_take (m:=((l1.length : Int) : Int).toNat) hC7 (by omega)
    have hy7 : y460.length = ((l1.length : Int) : Int).toNat:=(by rw [Ny460.out,List.length_take];omega)
    rw [← Ny460.out] at hr7
    rw [← hy7] at hcut7
    have HR463:=am hr7
    have HC463:=am (show y460.length ≤ c0 from by omega)
    clear hr7 hC7 hroom7 hi07 hsz7
    have KY7:=am hy7
    clear hy7
    replace q7:=eq_true q7
    go_enter Tryz.func21,Tryz.ntmps21
    go_wp2_with (first | (go_at_call 15;(with_reducible refine (laws_haEnds.calls k _ _ y460 _ _ l1 t464 _ ?side1 ?side2 ?side3 ?side4 A6.out).mono ?_);(case side1=>exact m12_);(case side2=>exact HC463.out);(case side3=>exact m13_);(case side4=>exact HC1.out);rintro e w' ⟨rfl,⟨nd,rfl⟩⟩))
    go_ret
    exact ⟨fr_,dn_⟩
   ·rw [if_neg c5] at H
    exact absurd H (by simp)
  ·rw [if_neg c4] at H
   exact absurd H (by simp)
 ·rw [if_neg c3] at H
  have c3b0 : decide ((l1.length : Int) ≤ (l0.length : Int)) = false:=decide_eq_false c3
  have c3b1 : decide (l1.length ≤ l0.length) = false:=decide_eq_false (fun h=>c3 (Int.ofNat_le.mpr h))
  clear c3
  obtain rfl:=Option.some.inj H
  go_enter Tryz.func21,Tryz.ntmps21
  go_wp2
  go_ret
  exact ⟨fr_,dn_⟩
end
theorem specMapPut_a (l : List S34) (hl : l.length ≤ 2000000) (a b : Int) : Ans (fun k => spec_MapPut.f k l a b) (fun r => r = tabPut l a b) := by
  unfold spec_MapPut.f tabPut
  refine Ans.bind (specMapOk_a l hl) ?_
  rintro _ rfl
  simp only [specEndInside_f, Option.bind_some]
  have J0 : Ans (fun k => spec_MapPut.j0 k true l a b) (fun r => r = ([], 0)) := by
    refine Ans.succ ?_
    unfold spec_MapPut.j0
    exact Ans.pos rfl (Ans.pure rfl)
  refine Ans.ite (fun c => ?_) (fun c => by simpa [c] using J0)
  rw [c]
  cases he : endIn a b
  · simpa using J0
  have hl6 := okT_le c
  refine Ans.succ ?_
  unfold spec_MapPut.j0
  refine Ans.neg (by simp) ?_
  have hc : spec_l3Copy.f l = some l := by
    unfold spec_l3Copy.f
    rw [Option.bind_some, if_pos (by simp; omega)]
    rfl
  rw [hc]
  refine Ans.bsome ?_
  refine Ans.bind (R := fun r => r = putV l a b) ?_ (fun v hv => by subst hv; exact Ans.pure (by simp))
  exact l3Put_a l hl a b
instance decS29 : DecidableEq S34 := fun a b => decidable_of_iff (a.f0 = b.f0 ∧ a.f1 = b.f1) (by cases a; cases b; simp)
theorem haEnds_a (l r : List S34) (hl : l.length ≤ 2000000) : Ans (fun k => laws_haEnds.f k l r) (fun v => v = decide (l = r)) := by
  unfold laws_haEnds.f
  refine Ans.ite (fun c => ?_) (fun c => Ans.pure ?_)
  · have L : ∀ (m i : Nat), i + m = l.length → l.take i = r.take i → Ans (fun k => laws_haEnds.l0 k l r (i : Int)) (fun v => v = decide (l = r)) := by
      intro m
      induction m with
      | zero =>
        intro i hi ht
        refine Ans.succ ?_
        unfold laws_haEnds.l0
        rw [List.take_of_length_le (by omega), List.take_of_length_le (by omega)] at ht
        exact Ans.neg (by omega) (Ans.pure (by simp [ht]))
      | succ m ih =>
        intro i hi ht
        refine Ans.succ ?_
        unfold laws_haEnds.l0
        refine Ans.pos (by omega) (Ans.pos (by omega) (Ans.pos (by omega) ?_))
        rw [wi i (by omega)]
        refine Ans.ite (fun h => Ans.pure ?_) (fun h => ?_)
        · have : ¬ (l = r) := by
            rintro rfl
            simp at h
          simp [this]
        · refine ih (i + 1) (by omega) ?_
          rw [rd29_take (by omega : i < l.length), rd29_take (by omega : i < r.length), ht]
          have : rd_T34 l (i : Int) = rd_T34 r (i : Int) := by
            simp at h
            cases h1 : rd_T34 l (i : Int)
            cases h2 : rd_T34 r (i : Int)
            rw [h1, h2] at h
            simp at h
            simp [h.1, h.2]
          rw [this]
    exact L l.length 0 (by omega) rfl
  · have : ¬ (l = r) := by
      rintro rfl
      exact c rfl
    simp [this]
theorem haFirst_a (l r : List S34) (hl : l.length ≤ 2000000) (h : ∃ t, l = r ++ t) : Ans (fun k => laws_haFirst.f k l r) (fun v => v = true) := by
  obtain ⟨t, rfl⟩ := h
  unfold laws_haFirst.f
  refine Ans.pos (by simp; omega) (Ans.pos (by omega) (Ans.pos (by simp; omega) ?_))
  have e : (((r.length : Int)) : Int).toNat = r.length := by omega
  rw [e, List.take_left]
  refine Ans.bind (haEnds_a r r (by simp at hl; omega)) ?_
  rintro _ rfl
  exact Ans.pure (by simp)
theorem tabPut_len (l : List S34) (a b : Int) : (tabPut l a b).1.length ≤ l.length + 1 := by
  unfold tabPut putV
  split
  · split
    · simp
    · split <;> simp
  · simp
theorem table_a {l : List Int} (hl : Bys l) {s B : Int} (hs : At B s) (hB : B < 500000) (n : Int) : Ans (fun k => spec_l20Table.f k l s n) (fun r => At (B + 200) r.2 ∧ r.1.length ≤ 20) := by
  have L1 : ∀ (m : Nat) (x : List S34) (s B : Int), At B s → x.length + m = 20 → Ans (fun k => spec_l20Table.l1 k l s x) (fun r => At B r.2 ∧ r.1.length ≤ 20) := by
    intro m
    induction m with
    | zero =>
      intro x s B hs hm
      refine Ans.succ ?_
      unfold spec_l20Table.l1
      exact Ans.neg (by omega) (Ans.pure ⟨hs, by dsimp only; omega⟩)
    | succ m ih =>
      intro x s B hs hm
      refine Ans.succ ?_
      unfold spec_l20Table.l1
      refine Ans.ite (fun c => Ans.pos (by omega) (ih _ s B hs (by simp; omega))) (fun c => Ans.pure ⟨hs, by dsimp only; omega⟩)
  have L0 : ∀ (m : Nat) (x : List S34) (x6 s B : Int), At B s → B + 3 * (m : Int) < 600000 → x.length + m ≤ 10 → x6 ≤ m → m ≤ 10 → Ans (fun k => spec_l20Table.l0 k n x6 l s x) (fun r => At (B + 3 * m + 10) r.2 ∧ r.1.length ≤ 20) := by
    intro m
    have J : ∀ (x : List S34) (s B : Int), At B s → B < 700000 → x.length ≤ 10 → Ans (fun k => (spec_l20Rd_odd.f k l s n).bind fun bt566 => (if bt566.1 = true then ((spec_l20Rd_pick.f k l bt566.2 3).bind fun bt568 => (if bt568.1 = 0 then ((spec_l20Out.f k l bt568.2).bind fun bt570 => (if x.length < 8796093022208 then (some ((x ++ [(⟨bt570.1, bt570.2.1⟩ : S34)]), bt570.2.2)) else (none))) else (if bt568.1 = 1 then (if x.length < 8796093022208 then ((some (x ++ [(⟨9, 9⟩ : S34)] : List (S34))).bind fun y576 => (if y576.length < 8796093022208 then (some ((y576 ++ [(⟨9, 9⟩ : S34)]), bt568.2)) else (none))) else (none)) else (spec_l20Table.l1 k l bt568.2 x)))) else (some (x, bt566.2)))) (fun r => At (B + 10) r.2 ∧ r.1.length ≤ 20) := by
      intro x s B hs hB hx
      refine Ans.bind (odd_a hl hs (by omega) n) ?_
      rintro ⟨b, s1⟩ h1
      dsimp only at *
      refine Ans.ite (fun _ => ?_) (fun _ => Ans.pure ⟨at_le h1 (by omega), by dsimp only; omega⟩)
      refine Ans.bind (pick_a hl h1 (by omega) 3) ?_
      rintro ⟨v2, s2⟩ ⟨h2, p2⟩
      dsimp only at *
      refine Ans.ite (fun _ => ?_) (fun _ => Ans.ite (fun _ => ?_) (fun _ => ?_))
      · refine Ans.bind (out_a hl h2 (by omega)) ?_
        rintro ⟨a1, a2, s3⟩ ⟨h3, _⟩
        dsimp only at *
        exact Ans.pos (by omega) (Ans.pure ⟨at_le h3 (by omega), by simp; omega⟩)
      · exact Ans.pos (by omega) (Ans.bsome (Ans.pos (by simp; omega) (Ans.pure ⟨at_le h2 (by omega), by simp; omega⟩)))
      · refine (L1 (20 - x.length) x s2 _ h2 (by omega)).mono ?_
        rintro r ⟨a, b⟩
        exact ⟨at_le a (by omega), b⟩
    induction m with
    | zero =>
      intro x x6 s B hs hB hm hx hq
      refine Ans.succ ?_
      unfold spec_l20Table.l0
      refine Ans.neg (by omega) ((J x s B hs (by omega) (by omega)).mono ?_)
      rintro r ⟨a, b⟩
      exact ⟨at_le a (by omega), b⟩
    | succ m ih =>
      intro x x6 s B hs hB hm hx hq
      refine Ans.succ ?_
      unfold spec_l20Table.l0
      refine Ans.ite (fun c => ?_) (fun c => ?_)
      · refine Ans.bind (in_a hl hs (by omega)) ?_
        rintro ⟨a1, a2, s1⟩ ⟨h1, _⟩
        dsimp only at *
        refine Ans.bind (specMapPut_a x (by omega) a1 a2) ?_
        rintro _ rfl
        have hp := tabPut_len x a1 a2
        have e : wrap64 (x6 - 1) = x6 - 1 := w64 _ (by omega)
        rw [e]
        refine (ih _ _ s1 _ h1 (by omega) (by omega) (by omega) (by omega)).mono ?_
        rintro r ⟨a, b⟩
        exact ⟨at_le a (by push_cast; omega), b⟩
      · refine (J x s B hs (by omega) (by omega)).mono ?_
        rintro r ⟨a, b⟩
        exact ⟨at_le a (by omega), b⟩
  unfold spec_l20Table.f
  refine Ans.bind (pick_a hl hs (by omega) 8) ?_
  rintro ⟨v1, s1⟩ ⟨h1, p1⟩
  dsimp only at *
  refine (L0 10 [] v1 s1 _ h1 (by omega) (by simp) (by omega) (by omega)).mono ?_
  rintro r ⟨a, b⟩
  exact ⟨at_le a (by omega), b⟩
theorem fnd_some {l : List S34} {a b : Int} (h : portV l a b ≠ 0) : ∃ i, fnd l a b = some i ∧ portV l a b = 500 + i := by
  unfold portV at *
  cases hf : fnd l a b with
  | none => rw [hf] at h; simp at h
  | some i => exact ⟨i, rfl, rfl⟩
theorem fnd_none {l : List S34} {a b : Int} (h : portV l a b = 0) : fnd l a b = none := by
  unfold portV at h
  cases hf : fnd l a b with
  | none => rfl
  | some i => rw [hf] at h; simp at h; omega
theorem ok_snoc {l : List S34} {a b : Int} (h : okT l = true) (hl : l.length < 6) (he : endIn a b = true) (hn : fnd l a b = none) : okT (l ++ [⟨a, b⟩]) = true := by
  unfold okT at *
  simp only [Bool.and_eq_true, decide_eq_true_eq] at *
  refine ⟨by simp; omega, ?_⟩
  unfold goodFrom
  rw [List.all_eq_true]
  intro j hj
  simp [List.mem_range'] at hj
  by_cases hjl : j < l.length
  · have h2 := h.2
    unfold goodFrom at h2
    have := List.all_eq_true.mp h2 j (by simp [List.mem_range']; omega)
    have e1 : rd_T34 (l ++ [⟨a, b⟩]) (j : Int) = rd_T34 l (j : Int) := by
      rw [rd29_get (by simp; omega), rd29_get hjl, List.getElem_append_left]
    have e2 : List.take j (l ++ [(⟨a, b⟩ : S34)]) = l.take j := by rw [List.take_append_of_le_length (by omega)]
    rw [e1, e2]
    exact this
  · have hjj : j = l.length := by omega
    subst hjj
    have e1 : rd_T34 (l ++ [⟨a, b⟩]) (l.length : Int) = ⟨a, b⟩ := by
      rw [rd29_get (by simp)]
      simp
    rw [e1, List.take_left]
    simp [he, hn]
theorem put_ok {l : List S34} {a b : Int} (h : okT l = true) (he : endIn a b = true) : okT (putV l a b).1 = true := by
  have := okT_le h
  unfold putV
  by_cases c1 : portV l a b = 0
  · rw [if_neg (by simp [c1])]
    by_cases c2 : l.length = 6
    · rw [if_pos c2]; exact h
    · rw [if_neg c2]; exact ok_snoc h (by omega) he (fnd_none c1)
  · rw [if_pos c1]; exact h
theorem put_len {l : List S34} (h : l.length ≤ 6) (a b : Int) : (putV l a b).1.length = if portV l a b ≠ 0 then l.length else if l.length = 6 then 6 else l.length + 1 := by
  unfold putV
  split
  · rfl
  · split
    · rename_i h6; simp [h6]
    · simp
theorem portV_app {l : List S34} (r : List S34) {a b : Int} (h : portV l a b ≠ 0) : portV (l ++ r) a b = portV l a b := by
  obtain ⟨i, hi, hv⟩ := fnd_some h
  rw [hv]
  unfold portV
  rw [fnd_app, hi]
theorem put_port {l : List S34} {a b c d : Int} (h : portV l c d ≠ 0) : portV (putV l a b).1 c d = portV l c d := by
  unfold putV
  split
  · rfl
  · split
    · rfl
    · exact portV_app _ h
theorem put_self {l : List S34} (h : l.length < 6) (a b : Int) : portV (putV l a b).1 a b ≠ 0 := by
  unfold putV
  split
  · assumption
  · rename_i hn
    rw [if_neg (by omega)]
    unfold portV
    rw [fnd_snoc, fnd_none (by simpa using hn)]
    simp
    omega
theorem put_other {l : List S34} {a b c d : Int} (hne : ¬ (a = c ∧ b = d)) (h : portV l c d = 0) : portV (putV l a b).1 c d = 0 := by
  unfold putV
  split
  · exact h
  · split
    · exact h
    · unfold portV
      rw [fnd_snoc, fnd_none h]
      simp [hne]
end Go.Proofs.YtffmbccgcaghjaaGreatDoor.P
namespace Go.Proofs.YtffmbccgcaghjaaGreatDoor.P
open Go Go.Proofs.YtffmbccgcaghjaaGreatDoorUFnRwrStays.PrintLast Go.Proofs.YtffmbccgcaghjaaGreatDoorUFnRwrStays.PrintMore Go.Proofs.YtffmbccgcaghjaaGreatDoorUFnRwrStays.PrintWords Go.RowKit
set_option linter.unusedVariables false
def wordsB (s : ByteArray) : List ByteArray := Lib.splitB (⟨#[32]⟩ : ByteArray) 0 (Lib.countB s (⟨#[32]⟩ : ByteArray)) s
theorem wordsB_length (s : ByteArray) : (wordsB s).length = Lib.countB s (⟨#[32]⟩ : ByteArray) + 1 := Lib.splitB_all (⟨#[32]⟩ : ByteArray) (by decide) 0 _ s rfl
theorem splitB_size (sep : ByteArray) : ∀ (k : Nat) (s : ByteArray), ∀ x ∈ Lib.splitB sep 0 k s, x.size ≤ s.size
  | 0, s, x, h => by simp [Lib.splitB] at h; subst h; exact Nat.le_refl _
  | k + 1, s, x, h => by
    unfold Lib.splitB at h
    split at h
    · simp at h; subst h; exact Nat.le_refl _
    · rcases List.mem_cons.1 h with rfl | h
      · simp [ByteArray.size_extract]; omega
      · have := splitB_size sep k _ x h
        simp [ByteArray.size_extract] at this
        omega
theorem wordsB_size (s : ByteArray) : ∀ x ∈ wordsB s, x.size ≤ s.size := splitB_size _ _ s
end Go.Proofs.YtffmbccgcaghjaaGreatDoor.P
namespace Go.Proofs.YtffmbccgcaghjaaGreatDoor.P
open Go.Proofs.YtffmbccgcaghjaaGreatDoorUFnRwrStays.PrintLast Go.Proofs.YtffmbccgcaghjaaGreatDoorUFnRwrStays.PrintMore Go.Proofs.YtffmbccgcaghjaaGreatDoorUFnRwrStays.PrintWords Go.RowKit
set_option linter.unusedVariables false
set_option linter.unusedSimpArgs false
section
attribute [local go_sem] max2_int min2_int max_two min_two max_three min_three max_four min_four
def spec_l1Words.l0 : Nat → ByteArray → List ByteArray → ByteArray → Int → Option (List ByteArray)
 | 0,_,_,_,_=>none
 | k + 1,x0,x3,x4,x5=>if x5 < (x0.size : Int) then (if 0 ≤ x5 then (if (bt x0 x5) = 32 then (if x3.length < 8796093022208 then (spec_l1Words.l0 k x0 (x3 ++ [x4]) (⟨#[]⟩ : ByteArray) (wrap64 (x5 + 1))) else (none)) else (if x5 ≤ (wrap64 (x5 + 1)) then (if (wrap64 (x5 + 1)) ≤ (x0.size : Int) then (if x4.size + (x0.extract (x5 : Int).toNat ((wrap64 (x5 + 1)) : Int).toNat).size ≤ 9223372036854775807 then (spec_l1Words.l0 k x0 x3 (x4 ++ (x0.extract (x5 : Int).toNat ((wrap64 (x5 + 1)) : Int).toNat)) (wrap64 (x5 + 1))) else (none)) else (none)) else (none))) else (none)) else (if x3.length < 8796093022208 then (some (x3 ++ [x4])) else (none))
def spec_l1Words.f (k : Nat) (a0 : ByteArray) : Option (List ByteArray):=spec_l1Words.l0 k a0 (([] : List ByteArray)) (⟨#[]⟩ : ByteArray) 0
theorem spec_l1Words.mono_l : ∀ k,(∀ y0 y1 y2 y3,LeO (spec_l1Words.l0 k y0 y1 y2 y3) (spec_l1Words.l0 (k + 1) y0 y1 y2 y3))
 | 0=>fun _ _ _ _ r h=>by simp [spec_l1Words.l0] at h
 | k + 1=>by
  have ih0:=spec_l1Words.mono_l k
  ·intro y0 y1 y2 y3
   unfold spec_l1Words.l0
   repeat' first | (with_reducible first | exact ih0 _ _ _ _ | exact LeO.refl _ | exact LeO.none _ | refine LeO.ite ?_ ?_ | refine LeO.bind ?_ (fun _=>?_)) | exact ih0 _ _ _ _ | exact LeO.none _ | refine LeO.ite ?_ ?_ | refine LeO.bind ?_ (fun _=>?_)
theorem spec_l1Words.mono : ∀ a0 k,LeO (spec_l1Words.f k a0) (spec_l1Words.f (k + 1) a0):=by
 intro a0 k
 have ih0:=spec_l1Words.mono_l k
 unfold spec_l1Words.f
 repeat' first | (with_reducible first | exact ih0 _ _ _ _ | exact LeO.refl _ | exact LeO.none _ | refine LeO.ite ?_ ?_ | refine LeO.bind ?_ (fun _=>?_)) | exact ih0 _ _ _ _ | exact LeO.none _ | refine LeO.ite ?_ ?_ | refine LeO.bind ?_ (fun _=>?_)
set_option maxHeartbeats 8000000 in
set_option maxRecDepth 100000 in
theorem spec_l1Words.calls (k : Nat) (a0 : ByteArray) (r : List ByteArray) (w : World) (h : spec_l1Words.f k a0 = some r) :
  Calls Tryz.prog 119 #[.string a0] w fun e w'=>∃ v0_ : Value,e = .returned (v0_) ∧ Kd.R Kd.string 9 w' w.heap.size (fun _=>True) v0_ r ∧ Below w.heap.size w w':=by
 have HB:=am (Below.refl w.heap.size w)
 have H : (spec_l1Words.l0 k a0 (([] : List ByteArray)) (⟨#[]⟩ : ByteArray) 0) = some r:=h
 clear h
 obtain ⟨y408,hy408⟩ : ∃ y_ : List ByteArray,y_ = (([] : List ByteArray)):=⟨_,rfl⟩
 replace H : (spec_l1Words.l0 k a0 y408 (⟨#[]⟩ : ByteArray) 0) = some r:=by first | (rw [hy408];with_reducible exact H) | (have H2_:=(Option.bind_some _ _).symm.trans H;rw [hy408];with_reducible exact H2_) | (have H2_:=(Option.bind_some _ _).symm.trans H;with_reducible exact H2_) | with_reducible exact H | (rw [hy408];exact H) | exact H
 have Ny408:=am hy408
 clear hy408
 have H':=am H
 clear H
 go_enter Tryz.func119,Tryz.ntmps119
 go_wp2_with (first | ((with_reducible refine gD 6 rfl ?_);refine Kd.R_lit Kd.string _ 9 rfl (N:=6) rfl (xs:=([] : List ByteArray)) (inner:=[]) (ok:=fun _=>True) (okp:=fun _=>True) hr_ ?hp (fun _ hk=>hk) trivial (Below.refl _ _) (Nat.le_refl _) (by simp) ?_;(case hp=>exact (Reps.none _ _));intro v409 w2 ho3 hb hg_ hnew_;clear hg_ hnew_;(first | rw [← Ny408.out] at ho3 | (simp only [Int.reduceToNat] at ho3;rw [← Ny408.out] at ho3));have HO410:=am (Kd.R_lower ho3 (below_size (bl HB)));replace HB:=hbS HB hb;clear hb ho3))
 go_loopg [3,4,5] k (fun kq v3 v4 v5 w'=>∃ (x3_1 : List ByteArray) (x4_1 : ByteArray) (x5_1 : Int),v4 = .string x4_1 ∧ v5 = .int .i64 x5_1 ∧ Aside0 (spec_l1Words.l0 kq a0 x3_1 x4_1 x5_1 = some r) ∧ Aside0 (kq ≤ k) ∧ Aside0 (Kd.R Kd.string 9 w' w.heap.size (fun _=>True) v3 x3_1) ∧ Aside0 (Below w.heap.size w w'))
 case atStart=>exact ⟨(y408),((⟨#[]⟩ : ByteArray)),(0),rs_,rs_,H',⟨Nat.le_refl _⟩,⟨by (with_reducible repeat apply ru);exact HO410.out⟩,⟨m0_⟩⟩
 case round=>
  clear H'
  try clear c1
  try clear p2
  obtain ⟨x3_1,x4_1,x5_1,rfl,rfl,HA,HK1,HO_3,HB⟩:=hrel
  cases gk with
  | zero=>exact absurd HA.out (by simp [spec_l1Words.l0])
  | succ k1=>
   have H:=HA.out
   clear HA
   simp only [spec_l1Words.l0] at H
   by_cases c4 : x5_1 < (a0.size : Int)
   ·rw [if_pos c4] at H
    have c4b0 : decide (x5_1 < (a0.size : Int)) = true:=decide_eq_true c4
    clear c4
    by_cases c5 : 0 ≤ x5_1
    ·rw [if_pos c5] at H
     have c5b0 : decide (0 ≤ x5_1) = true:=decide_eq_true c5
     clear c5
     by_cases c7 : (bt a0 x5_1) = 32
     ·rw [if_pos c7] at H
      have c7b0 : ((bt a0 x5_1) == 32) = true:=beq_iff_eq.mpr c7
      have c7b1 : ((bt a0 x5_1) != 32) = false:=bne_eq_false_iff_eq.mpr c7
      clear c7
      by_cases c8 : x3_1.length < 8796093022208
      ·rw [if_pos c8] at H
       have LMc8:=am c8
       clear c8
       obtain ⟨y411,hy411⟩ : ∃ y_ : List ByteArray,y_ = (x3_1 ++ [x4_1]):=⟨_,rfl⟩
       replace H : (spec_l1Words.l0 k1 a0 y411 (⟨#[]⟩ : ByteArray) (wrap64 (x5_1 + 1))) = some r:=by first | (rw [hy411];with_reducible exact H) | (have H2_:=(Option.bind_some _ _).symm.trans H;rw [hy411];with_reducible exact H2_) | (have H2_:=(Option.bind_some _ _).symm.trans H;with_reducible exact H2_) | with_reducible exact H | (rw [hy411];exact H) | exact H
       have Ny411:=am hy411
       clear hy411
       have H':=am H
       clear H
       have p6 : 0 ≤ (x5_1 : Int):=of_decide_eq_true da_
       have q6 : x5_1 < (a0.size : Int):=of_decide_eq_true da_
       have hx6:=bt_at a0 x5_1
       replace p6:=eq_true p6
       replace q6:=eq_true q6
       go_wp2_with (first | ((with_reducible refine gate_builtin (b:=.append) (xs:=#[.tmp 17,.tmp 19]) rfl ?_);at_builtin;refine Kd.R_append Kd.string (w0:=w) w.heap.size rfl (.tmp 17) (.tmp 19) 51 9 (.string ⟨#[]⟩) 16 rfl Tryz.underlying51 info9 rfl (by decide) (by omega) u3 x3_1 x4_1 [.string x4_1] (fun _=>True) (fun _=>False) rfl rfl ?aP (fun _ hk=>hk.elim) ?aF ?aO ?aB ?aS ?aL ?_;(case aP=>exact rfl);(case aB=>exact (bl HB));(case aF=>exact (fun _ _=>trivial));(case aO=>exact (rs HO_3));(case aS=>exact (below_size (bl HB)));(case aL=>have:=LMc8.out;omega);intro v412 w9 ho hb hg hat;rw [← Ny411.out] at ho;replace HB:=am hb;have HO413:=am (ho);clear HO_3;clear ho hb hg hat))
       go_roundg k1
       case measure=>have:=HK1.out;omega
       case rel=>exact ⟨(y411),((⟨#[]⟩ : ByteArray)),(wrap64 (x5_1 + 1)),rs_,rs_,H',⟨by have:=HK1.out;omega⟩,⟨by (with_reducible repeat apply ru);exact HO413.out⟩,⟨m0_⟩⟩
      ·rw [if_neg c8] at H
       exact absurd H (by simp)
     ·rw [if_neg c7] at H
      have c7b0 : ((bt a0 x5_1) == 32) = false:=beq_eq_false_iff_ne.mpr c7
      have c7b1 : ((bt a0 x5_1) != 32) = true:=bne_iff_ne.mpr c7
      have c10b0:=eq_true (of_decide_eq_true da_ : 0 ≤ x5_1)
      by_cases c11 : x5_1 ≤ (wrap64 (x5_1 + 1))
      ·rw [if_pos c11] at H
       have c11b0:=eq_true c11
       have c11b1 : decide (x5_1 ≤ (wrap64 (x5_1 + 1))) = true:=decide_eq_true c11
       by_cases c12 : (wrap64 (x5_1 + 1)) ≤ (a0.size : Int)
       ·rw [if_pos c12] at H
        have c12b0:=eq_true c12
        have c12b1 : decide ((wrap64 (x5_1 + 1)) ≤ (a0.size : Int)) = true:=decide_eq_true c12
        by_cases c13 : x4_1.size + (a0.extract (x5_1 : Int).toNat ((wrap64 (x5_1 + 1)) : Int).toNat).size ≤ 9223372036854775807
        ·rw [if_pos c13] at H
         have c13b0:=eq_true c13
         have c13b1 : decide (x4_1.size + (a0.extract (x5_1 : Int).toNat ((wrap64 (x5_1 + 1)) : Int).toNat).size ≤ 9223372036854775807) = true:=decide_eq_true c13
         try have c13b2 : (9223372036854775807 < x4_1.size + (a0.extract (x5_1 : Int).toNat ((wrap64 (x5_1 + 1)) : Int).toNat).size) = False:=eq_false (Nat.not_lt.2 c13)
         have H':=am H
         clear H
         have p6 : 0 ≤ (x5_1 : Int):=of_decide_eq_true da_
         have q6 : x5_1 < (a0.size : Int):=of_decide_eq_true da_
         have hx6:=bt_at a0 x5_1
         replace p6:=eq_true p6
         replace q6:=eq_true q6
         go_wp2
         go_roundg k1
         case measure=>have:=HK1.out;omega
         case rel=>exact ⟨(x3_1),(x4_1 ++ (a0.extract (x5_1 : Int).toNat ((wrap64 (x5_1 + 1)) : Int).toNat)),(wrap64 (x5_1 + 1)),rs_,rs_,H',⟨by have:=HK1.out;omega⟩,⟨by (with_reducible repeat apply ru);exact HO_3.out⟩,⟨m0_⟩⟩
        ·rw [if_neg c13] at H
         exact absurd H (by simp)
       ·rw [if_neg c12] at H
        exact absurd H (by simp)
      ·rw [if_neg c11] at H
       exact absurd H (by simp)
    ·rw [if_neg c5] at H
     exact absurd H (by simp)
   ·rw [if_neg c4] at H
    have c4b0 : decide (x5_1 < (a0.size : Int)) = false:=decide_eq_false c4
    clear c4
    by_cases c14 : x3_1.length < 8796093022208
    ·rw [if_pos c14] at H
     have LMc14:=am c14
     clear c14
     obtain ⟨y414,hy414⟩ : ∃ y_ : List ByteArray,y_ = (x3_1 ++ [x4_1]):=⟨_,rfl⟩
     replace H : (some y414) = some r:=by first | (rw [hy414];with_reducible exact H) | (have H2_:=(Option.bind_some _ _).symm.trans H;rw [hy414];with_reducible exact H2_) | (have H2_:=(Option.bind_some _ _).symm.trans H;with_reducible exact H2_) | with_reducible exact H | (rw [hy414];exact H) | exact H
     have Ny414:=am hy414
     clear hy414
     obtain rfl:=Option.some.inj H
     go_wp2_with (first | ((with_reducible refine gate_builtin (b:=.append) (xs:=#[.tmp 28,.tmp 30]) rfl ?_);at_builtin;refine Kd.R_append Kd.string (w0:=w) w.heap.size rfl (.tmp 28) (.tmp 30) 51 9 (.string ⟨#[]⟩) 16 rfl Tryz.underlying51 info9 rfl (by decide) (by omega) u3 x3_1 x4_1 [.string x4_1] (fun _=>True) (fun _=>False) rfl rfl ?aP (fun _ hk=>hk.elim) ?aF ?aO ?aB ?aS ?aL ?_;(case aP=>exact rfl);(case aB=>exact (bl HB));(case aF=>exact (fun _ _=>trivial));(case aO=>exact (rs HO_3));(case aS=>exact (below_size (bl HB)));(case aL=>have:=LMc14.out;omega);intro v415 w15 ho hb hg hat;rw [← Ny414.out] at ho;replace HB:=am hb;have HO416:=am (ho);clear HO_3;clear ho hb hg hat))
     go_ret
     exact ⟨_,fi_,by (with_reducible repeat apply ru);exact HO416.out,m0_⟩
    ·rw [if_neg c14] at H
     exact absurd H (by simp)
mutual
def spec_l1Num.j0 : Nat → ByteArray → Bool → Option (Int)
 | 0,_,_=>none
 | k + 1,x0,x12=>if x12 = true then (some (-1)) else (spec_l1Num.l0 k x0 0 0)
def spec_l1Num.l0 : Nat → ByteArray → Int → Int → Option (Int)
 | 0,_,_,_=>none
 | k + 1,x0,x3,x4=>if x4 < (x0.size : Int) then (if 0 ≤ x4 then (if (bt x0 x4) < 48 then (some (-1)) else (if (bt x0 x4) > 57 then (some (-1)) else (spec_l1Num.l0 k x0 (wrap64 ((wrap64 (x3 * 10)) + (((bt x0 x4) - 48) % 256))) (wrap64 (x4 + 1))))) else (none)) else ((spec_l1Plain.f k x3).bind fun t417=>(if t417.toList = x0.toList then (some x3) else (some (-1))))
end
def spec_l1Num.f (k : Nat) (a0 : ByteArray) : Option (Int):=if (a0.size : Int) = 0 then (spec_l1Num.j0 k a0 true) else (spec_l1Num.j0 k a0 (decide ((a0.size : Int) > 4)))
theorem spec_l1Num.mono_l : ∀ k,(∀ y0 y1,LeO (spec_l1Num.j0 k y0 y1) (spec_l1Num.j0 (k + 1) y0 y1)) ∧ (∀ y0 y1 y2,LeO (spec_l1Num.l0 k y0 y1 y2) (spec_l1Num.l0 (k + 1) y0 y1 y2))
 | 0=>⟨fun _ _ r h=>by simp [spec_l1Num.j0] at h,fun _ _ _ r h=>by simp [spec_l1Num.l0] at h⟩
 | k + 1=>by
  obtain ⟨ih0,ih1⟩:=spec_l1Num.mono_l k
  refine ⟨?_,?_⟩
  ·intro y0 y1
   unfold spec_l1Num.j0
   repeat' first | (with_reducible first | exact ih0 _ _ | exact ih1 _ _ _ | exact spec_l1Plain.mono _ _ | exact LeO.refl _ | exact LeO.none _ | refine LeO.ite ?_ ?_ | refine LeO.bind ?_ (fun _=>?_)) | exact ih0 _ _ | exact ih1 _ _ _ | exact spec_l1Plain.mono _ _ | exact LeO.none _ | refine LeO.ite ?_ ?_ | refine LeO.bind ?_ (fun _=>?_)
  ·intro y0 y1 y2
   unfold spec_l1Num.l0
   repeat' first | (with_reducible first | exact ih0 _ _ | exact ih1 _ _ _ | exact spec_l1Plain.mono _ _ | exact LeO.refl _ | exact LeO.none _ | refine LeO.ite ?_ ?_ | refine LeO.bind ?_ (fun _=>?_)) | exact ih0 _ _ | exact ih1 _ _ _ | exact spec_l1Plain.mono _ _ | exact LeO.none _ | refine LeO.ite ?_ ?_ | refine LeO.bind ?_ (fun _=>?_)
theorem spec_l1Num.mono : ∀ a0 k,LeO (spec_l1Num.f k a0) (spec_l1Num.f (k + 1) a0):=by
 intro a0 k
 obtain ⟨ih0,ih1⟩:=spec_l1Num.mono_l k
 unfold spec_l1Num.f
 repeat' first | (with_reducible first | exact ih0 _ _ | exact ih1 _ _ _ | exact spec_l1Plain.mono _ _ | exact LeO.refl _ | exact LeO.none _ | refine LeO.ite ?_ ?_ | refine LeO.bind ?_ (fun _=>?_)) | exact ih0 _ _ | exact ih1 _ _ _ | exact spec_l1Plain.mono _ _ | exact LeO.none _ | refine LeO.ite ?_ ?_ | refine LeO.bind ?_ (fun _=>?_)
set_option maxHeartbeats 8000000 in
set_option maxRecDepth 100000 in
theorem spec_l1Num.calls (k : Nat) (a0 : ByteArray) (r : Int) (w : World) (h : spec_l1Num.f k a0 = some r) :
  Calls Tryz.prog 120 #[.string a0] w fun e w'=>e = .returned (.int .i64 r) ∧ Below w.heap.size w w':=by
 have HB:=am (Below.refl w.heap.size w)
 have H : (if (a0.size : Int) = 0 then (spec_l1Num.j0 k a0 true) else (spec_l1Num.j0 k a0 (decide ((a0.size : Int) > 4)))) = some r:=h
 clear h
 have HC2:=am H
 clear H
 go_enter Tryz.func120,Tryz.ntmps120
 go_upto_region 1 with (fail)
 go_cut [12] (fun v12 wc=>∃ (kq : Nat) (x12_1 : Bool),v12 = .bool x12_1 ∧ Aside0 (spec_l1Num.j0 kq a0 x12_1 = some r) ∧ Aside0 (kq ≤ k) ∧ Aside0 (Below w.heap.size w wc))
 case first=>
  have H:=HC2.out
  clear HC2
  by_cases c3 : (a0.size : Int) = 0
  ·rw [if_pos c3] at H
   have c3b0 : ((a0.size : Int) == 0) = true:=beq_iff_eq.mpr c3
   have c3b1 : ((a0.size : Int) != 0) = false:=bne_eq_false_iff_eq.mpr c3
   clear c3
   (first | rw [c3b0] | (simp only [i64_w,i32_w];rw [c3b0]) | skip)
   have H':=am H
   clear H
   go_wp2
   go_meet
   case rel=>exact ⟨_,(true),rs_,H',⟨by first | omega | exact Nat.le_refl _⟩,⟨m0_⟩⟩
  ·rw [if_neg c3] at H
   have c3b0 : ((a0.size : Int) == 0) = false:=beq_eq_false_iff_ne.mpr c3
   have c3b1 : ((a0.size : Int) != 0) = true:=bne_iff_ne.mpr c3
   (first | rw [c3b0] | (simp only [i64_w,i32_w];rw [c3b0]) | skip)
   have H':=am H
   clear H
   go_wp2
   go_meet
   case rel=>exact ⟨_,(decide ((a0.size : Int) > 4)),rs_,H',⟨by first | omega | exact Nat.le_refl _⟩,⟨m0_⟩⟩
 case rest=>
  clear HC2
  try clear c1
  try clear p2
  try clear c3
  try clear c3b0
  try clear c3b1
  obtain ⟨kq,x12_1,rfl,HA,HJ1,HB⟩:=hcut
  cases kq with
  | zero=>exact absurd HA.out (by simp [spec_l1Num.j0])
  | succ kj1=>
   have H:=HA.out
   clear HA
   simp only [spec_l1Num.j0] at H
   by_cases c4 : x12_1 = true
   ·subst c4
    have H1 : (some (-1)) = some r:=by rw [if_pos rfl] at H;exact H
    clear H
    have H:=H1
    clear H1
    obtain rfl:=Option.some.inj H
    go_wp2
    go_ret
    exact ⟨fi_,m0_⟩
   ·replace c4:=Bool.eq_false_iff.mpr c4
    subst c4
    have H1 : (spec_l1Num.l0 kj1 a0 0 0) = some r:=by rw [if_neg (show ¬ (false = true) by decide)] at H;exact H
    clear H
    have H:=H1
    clear H1
    have H':=am H
    clear H
    go_wp2
    go_loopg [3,4] kj1 (fun kq v3 v4 w'=>∃ (x3_2 : Int) (x4_2 : Int),v3 = .int .i64 x3_2 ∧ v4 = .int .i64 x4_2 ∧ Aside0 (spec_l1Num.l0 kq a0 x3_2 x4_2 = some r) ∧ Aside0 (kq ≤ kj1) ∧ Aside0 (Below w.heap.size w w'))
    case atStart=>exact ⟨(0),(0),rs_,rs_,H',⟨Nat.le_refl _⟩,⟨m0_⟩⟩
    case round=>
     clear H'
     try clear c1
     try clear p2
     try clear c3
     try clear c3b0
     try clear c3b1
     try clear c4
     try clear p2
     obtain ⟨x3_2,x4_2,rfl,rfl,HA,HK2,HB⟩:=hrel
     cases gk with
     | zero=>exact absurd HA.out (by simp [spec_l1Num.l0])
     | succ k2=>
      have H:=HA.out
      clear HA
      simp only [spec_l1Num.l0] at H
      by_cases c5 : x4_2 < (a0.size : Int)
      ·rw [if_pos c5] at H
       have c5b0 : decide (x4_2 < (a0.size : Int)) = true:=decide_eq_true c5
       clear c5
       by_cases c6 : 0 ≤ x4_2
       ·rw [if_pos c6] at H
        have c6b0 : decide (0 ≤ x4_2) = true:=decide_eq_true c6
        clear c6
        by_cases c8 : (bt a0 x4_2) < 48
        ·rw [if_pos c8] at H
         have c8b0 : decide ((bt a0 x4_2) < 48) = true:=decide_eq_true c8
         clear c8
         obtain rfl:=Option.some.inj H
         have p7 : 0 ≤ (x4_2 : Int):=of_decide_eq_true da_
         have q7 : x4_2 < (a0.size : Int):=of_decide_eq_true da_
         have hx7:=bt_at a0 x4_2
         replace p7:=eq_true p7
         replace q7:=eq_true q7
         go_wp2
         go_ret
         exact ⟨fi_,m0_⟩
        ·rw [if_neg c8] at H
         have c8b0 : decide ((bt a0 x4_2) < 48) = false:=decide_eq_false c8
         clear c8
         by_cases c10 : (bt a0 x4_2) > 57
         ·rw [if_pos c10] at H
          have c10b0 : decide (57 < (bt a0 x4_2)) = true:=decide_eq_true c10
          clear c10
          obtain rfl:=Option.some.inj H
          have p7 : 0 ≤ (x4_2 : Int):=of_decide_eq_true da_
          have q7 : x4_2 < (a0.size : Int):=of_decide_eq_true da_
          have hx7:=bt_at a0 x4_2
          replace p7:=eq_true p7
          replace q7:=eq_true q7
          have p9 : 0 ≤ (x4_2 : Int):=of_decide_eq_true da_
          have q9 : x4_2 < (a0.size : Int):=of_decide_eq_true da_
          have hx9:=bt_at a0 x4_2
          replace p9:=eq_true p9
          replace q9:=eq_true q9
          go_wp2
          go_ret
          exact ⟨fi_,m0_⟩
         ·rw [if_neg c10] at H
          have c10b0 : decide (57 < (bt a0 x4_2)) = false:=decide_eq_false c10
          clear c10
          have H':=am H
          clear H
          have p7 : 0 ≤ (x4_2 : Int):=of_decide_eq_true da_
          have q7 : x4_2 < (a0.size : Int):=of_decide_eq_true da_
          have hx7:=bt_at a0 x4_2
          replace p7:=eq_true p7
          replace q7:=eq_true q7
          have p9 : 0 ≤ (x4_2 : Int):=of_decide_eq_true da_
          have q9 : x4_2 < (a0.size : Int):=of_decide_eq_true da_
          have hx9:=bt_at a0 x4_2
          replace p9:=eq_true p9
          replace q9:=eq_true q9
          have p11 : 0 ≤ (x4_2 : Int):=of_decide_eq_true da_
          have q11 : x4_2 < (a0.size : Int):=of_decide_eq_true da_
          have hx11:=bt_at a0 x4_2
          replace p11:=eq_true p11
          replace q11:=eq_true q11
          go_wp2
          go_roundg k2
          case measure=>have:=HJ1.out;have:=HK2.out;omega
          case rel=>exact ⟨(wrap64 ((wrap64 (x3_2 * 10)) + (((bt a0 x4_2) - 48) % 256))),(wrap64 (x4_2 + 1)),rs_,rs_,H',⟨by have:=HJ1.out;have:=HK2.out;omega⟩,⟨m0_⟩⟩
       ·rw [if_neg c6] at H
        exact absurd H (by simp)
      ·rw [if_neg c5] at H
       have c5b0 : decide (x4_2 < (a0.size : Int)) = false:=decide_eq_false c5
       clear c5
       obtain ⟨t417,A12,H⟩:=bse H
       try dsimp only at H
       by_cases c13 : t417.toList = a0.toList
       ·rw [if_pos c13] at H
        have c13b0 : (t417.toList == a0.toList) = true:=beq_iff_eq.mpr c13
        have c13b1 : (t417.toList != a0.toList) = false:=bne_eq_false_iff_eq.mpr c13
        clear c13
        obtain rfl:=Option.some.inj H
        go_wp2_with (first | ((with_reducible refine gC 114 rfl ?_);refine gL (some 38) Tryz.func114 #[.int .i64 x3_2] ?_;(with_reducible refine (spec_l1Plain.calls k2 x3_2 t417 _ A12.out).mono ?_);rintro e w14 ⟨rfl,hb⟩;refine ⟨_,rfl,?_⟩;replace HB:=hbS HB hb;(try clear hb)))
        go_ret
        exact ⟨fi_,m0_⟩
       ·rw [if_neg c13] at H
        have c13b0 : (t417.toList == a0.toList) = false:=beq_eq_false_iff_ne.mpr c13
        have c13b1 : (t417.toList != a0.toList) = true:=bne_iff_ne.mpr c13
        obtain rfl:=Option.some.inj H
        go_wp2_with (first | ((with_reducible refine gC 114 rfl ?_);refine gL (some 38) Tryz.func114 #[.int .i64 x3_2] ?_;(with_reducible refine (spec_l1Plain.calls k2 x3_2 t417 _ A12.out).mono ?_);rintro e w15 ⟨rfl,hb⟩;refine ⟨_,rfl,?_⟩;replace HB:=hbS HB hb;(try clear hb)))
        go_ret
        exact ⟨fi_,m0_⟩
end
theorem ba_ext {a b : ByteArray} (h : a.data.toList = b.data.toList) : a = b := by
  cases a; cases b; simp at h; rw [h]
theorem numB_small {n : Nat} (h : n < 10) : numB n = strOfNums [((48 + n : Nat) : Int)] := by
  apply ba_ext
  unfold numB Lib.itoa
  rw [if_neg (by omega)]
  simp only [Int.toNat_natCast, Lib.decDigits_one h, strOfNums]
  rfl
theorem numB_big {n : Nat} (h : ¬ n < 10) : numB n = numB (n / 10 : Nat) ++ strOfNums [((48 + n % 10 : Nat) : Int)] := by
  apply ba_ext
  unfold numB Lib.itoa
  rw [if_neg (by omega), if_neg (by omega)]
  simp only [Int.toNat_natCast, ByteArray.data_append, Array.toList_append]
  rw [Lib.decDigits, dif_neg h]
  simp only [Int.toNat_natCast, strOfNums]
  rfl
theorem strOfNums_size (l : List Int) : (strOfNums l).size = l.length := by simp [strOfNums, ByteArray.size]
theorem plain_l0 : ∀ (N n : Nat), n < N → n < 1000000 → ∀ x3 : ByteArray, x3.size + N ≤ 1000000000 → Ans (fun k => spec_l1Plain.l0 k n x3) (fun b => b = numB n ++ x3)
  | 0, n, h, _, _, _ => by omega
  | N + 1, n, h, hn, x3, hx => by
    refine Ans.succ ?_
    unfold spec_l1Plain.l0
    by_cases h9 : n < 10
    · refine Ans.neg (by omega) ?_
      have e : (wrap64 (48 + (n : Int))) % 256 = ((48 + n : Nat) : Int) := by unfold wrap64; omega
      rw [e]
      refine Ans.bsome (Ans.pos (by rw [strOfNums_size]; simp; omega) (Ans.pure ?_))
      rw [numB_small h9]
    · refine Ans.pos (by omega) ?_
      have e1 : Int.tmod (n : Int) 10 = ((n % 10 : Nat) : Int) := by rw [Int.tmod_eq_emod_of_nonneg (by omega)]; rfl
      have e2 : Int.tdiv (n : Int) 10 = ((n / 10 : Nat) : Int) := by rw [Int.tdiv_eq_ediv_of_nonneg (by omega)]; rfl
      have e : (wrap64 (48 + Int.tmod (n : Int) 10)) % 256 = ((48 + n % 10 : Nat) : Int) := by rw [e1]; unfold wrap64; omega
      have e3 : wrap64 (Int.tdiv (n : Int) 10) = ((n / 10 : Nat) : Int) := by rw [e2]; unfold wrap64; omega
      rw [e, e3]
      have hs : (strOfNums [((48 + n % 10 : Nat) : Int)]).size = 1 := by rw [strOfNums_size]; rfl
      refine Ans.bsome (Ans.pos (by rw [hs]; omega) ?_)
      refine (plain_l0 N (n / 10) (by omega) (by omega) (strOfNums [((48 + n % 10 : Nat) : Int)] ++ x3) (by rw [ByteArray.size_append, hs]; omega)).mono ?_
      rintro v rfl
      rw [numB_big h9, ByteArray.append_assoc]
theorem plain_a {n : Nat} (hn : n < 1000000) : Ans (fun k => spec_l1Plain.f k n) (fun b => b = numB n) := by
  refine (plain_l0 (n + 1) n (by omega) hn (⟨#[]⟩ : ByteArray) (by simp [ByteArray.size]; omega)).mono ?_
  rintro v rfl
  exact ba_ext (by simp)
theorem len_size (s : ByteArray) : s.data.toList.length = s.size := by rw [Array.length_toList]; rfl
def wlpB : ByteArray → List UInt8 → List ByteArray
  | w, [] => [w]
  | w, c :: r => if c = 32 then w :: wlpB ⟨#[]⟩ r else wlpB (w ++ ⟨#[c]⟩) r
theorem bt_get (s : ByteArray) (i : Nat) (h : i < s.size) : bt s i = ((s.data.toList[i]'(by rw [len_size]; exact h)).toNat : Int) := by
  unfold bt
  simp only [Int.toNat_natCast, dif_pos h]
  rfl
theorem extract_get (s : ByteArray) (i : Nat) (h : i < s.size) : s.extract i (i + 1) = ⟨#[s.data.toList[i]'(by rw [len_size]; exact h)]⟩ := by
  apply ba_ext
  have hl : i < s.data.toList.length := by rw [len_size]; exact h
  rw [Lib.extract_data]
  have e : s.data.toList.drop i = s.data.toList[i] :: s.data.toList.drop (i + 1) := List.drop_eq_getElem_cons hl
  rw [e, show i + 1 - i = 1 by omega]
  rfl
theorem words_l0 (s : ByteArray) (hs : s.size ≤ 1048576) : ∀ (m i : Nat), s.size - i = m → i ≤ s.size → ∀ (x3 : List ByteArray) (x4 : ByteArray), x3.length ≤ i → x4.size ≤ i →
    Ans (fun k => spec_l1Words.l0 k s x3 x4 i) (fun r => r = x3 ++ wlpB x4 (s.data.toList.drop i))
  | 0, i, hm, hi, x3, x4, h3, h4 => by
    refine Ans.succ ?_
    unfold spec_l1Words.l0
    refine Ans.neg (by omega) (Ans.pos (by omega) (Ans.pure ?_))
    rw [List.drop_eq_nil_of_le (by rw [len_size]; omega)]
    rfl
  | m + 1, i, hm, hi, x3, x4, h3, h4 => by
    have hlt : i < s.size := by omega
    have hl : i < s.data.toList.length := by rw [len_size]; exact hlt
    have hw : wrap64 ((i : Int) + 1) = ((i + 1 : Nat) : Int) := by unfold wrap64; omega
    have e : s.data.toList.drop i = s.data.toList[i] :: s.data.toList.drop (i + 1) := List.drop_eq_getElem_cons hl
    refine Ans.succ ?_
    unfold spec_l1Words.l0
    refine Ans.pos (by omega) (Ans.pos (by omega) ?_)
    rw [bt_get s i hlt, hw, e]
    by_cases hc : s.data.toList[i] = 32
    · refine Ans.pos (by rw [hc]; rfl) (Ans.pos (by omega) ?_)
      refine (words_l0 s hs m (i + 1) (by omega) (by omega) (x3 ++ [x4]) (⟨#[]⟩ : ByteArray) (by simp; omega) (Nat.zero_le _)).mono ?_
      rintro v rfl
      rw [wlpB, if_pos hc]
      simp
    · refine Ans.neg (fun h => hc (UInt8.toNat_inj.mp (by have : ((32 : UInt8).toNat : Int) = 32 := rfl; omega))) (Ans.pos (by omega) (Ans.pos (by omega) ?_))
      have ex : s.extract ((i : Int)).toNat ((((i + 1 : Nat) : Int))).toNat = ⟨#[s.data.toList[i]]⟩ := by simp only [Int.toNat_natCast]; exact extract_get s i hlt
      rw [ex]
      have h1 : (⟨#[s.data.toList[i]]⟩ : ByteArray).size = 1 := rfl
      refine Ans.pos (by rw [h1]; omega) ?_
      refine (words_l0 s hs m (i + 1) (by omega) (by omega) x3 (x4 ++ ⟨#[s.data.toList[i]]⟩) (by omega) (by rw [ByteArray.size_append, h1]; omega)).mono ?_
      rintro v rfl
      rw [wlpB, if_neg hc]
theorem wlpB_data : ∀ (l : List UInt8) (w : ByteArray), wlpB w l = match wlpB ⟨#[]⟩ l with
    | [] => []
    | h :: t => (w ++ h) :: t
  | [], w => by simp only [wlpB]; congr 1; exact ba_ext (by simp)
  | c :: r, w => by
    by_cases hc : c = 32
    · subst hc
      simp only [wlpB, if_true]
      congr 1; exact ba_ext (by simp)
    · simp only [wlpB, if_neg hc]
      rw [wlpB_data r (w ++ ⟨#[c]⟩), wlpB_data r (⟨#[]⟩ ++ ⟨#[c]⟩)]
      cases wlpB ⟨#[]⟩ r with
      | nil => rfl
      | cons h t => simp only [List.cons.injEq, and_true]; exact ba_ext (by simp)
theorem wlp_eq : ∀ (l : List UInt8), Lib.splitK [32] 0 (Lib.count l [32]) l = (wlpB ⟨#[]⟩ l).map (·.data.toList)
  | [] => by rw [Lib.count_miss (by simp [Lib.index])]; rfl
  | b :: l => by
    by_cases h : b = 32
    · subst h
      rw [Lib.count_cons_eq, Nat.add_comm]
      have hix : Lib.index (32 :: l) [32] = 0 := by rw [Lib.index]; simp [List.isPrefixOf]
      unfold Lib.splitK
      rw [hix]
      simp only [wlpB, if_true, List.map_cons]
      simp [wlp_eq l]
    · rw [Lib.count_cons_ne b 32 l h]
      have hp : ([32] : List UInt8).isPrefixOf (b :: l) = false := by simp [List.isPrefixOf, Ne.symm h]
      have hix : Lib.index (b :: l) [32] = if Lib.index l [32] == -1 then -1 else Lib.index l [32] + 1 := by rw [Lib.index, hp]; simp
      have ih := wlp_eq l
      simp only [wlpB, if_neg h]
      rw [wlpB_data l (⟨#[]⟩ ++ ⟨#[b]⟩)]
      by_cases hm : Lib.index l [32] = -1
      · rw [Lib.count_miss hm] at ih ⊢
        simp only [Lib.splitK] at ih ⊢
        cases hw : wlpB ⟨#[]⟩ l with
        | nil => rw [hw] at ih; simp at ih
        | cons x t => rw [hw] at ih; simp at ih ⊢; exact ⟨ih.1, ih.2⟩
      · have hge := Lib.index_ge l [32]
        obtain ⟨j, hj⟩ : ∃ j : Nat, Lib.index l [32] = j := ⟨(Lib.index l [32]).toNat, by omega⟩
        have hix' : Lib.index (b :: l) [32] = ((j + 1 : Nat) : Int) := by rw [hix, if_neg (fun e => hm (beq_iff_eq.1 e)), hj]; omega
        rw [Lib.count_hit (by simp) hj, Nat.add_comm] at ih ⊢
        unfold Lib.splitK at ih ⊢
        rw [hix', if_neg (fun h => by have := beq_iff_eq.1 h; omega)]
        rw [hj, if_neg (fun h => by have := beq_iff_eq.1 h; omega)] at ih
        cases hw : wlpB ⟨#[]⟩ l with
        | nil => rw [hw] at ih; simp at ih
        | cons x t => rw [hw] at ih; simp at ih ⊢; exact ⟨ih.1, ih.2⟩
theorem map_inj_data : ∀ {a b : List ByteArray}, a.map (·.data.toList) = b.map (·.data.toList) → a = b
  | [], [], _ => rfl
  | [], _ :: _, h => by simp at h
  | _ :: _, [], h => by simp at h
  | x :: a, y :: b, h => by
    simp only [List.map_cons, List.cons.injEq] at h
    rw [ba_ext h.1, map_inj_data h.2]
theorem wordsB_eq (s : ByteArray) : wordsB s = wlpB ⟨#[]⟩ s.data.toList := by
  apply map_inj_data
  unfold wordsB
  rw [Lib.splitB_data, ← wlp_eq]
  try rfl
theorem words_a (s : ByteArray) (hs : s.size ≤ 1048576) : Ans (fun k => spec_l1Words.f k s) (fun r => r = wordsB s) := by
  refine (words_l0 s hs _ 0 rfl (Nat.zero_le _) [] ⟨#[]⟩ (Nat.le_refl _) (Nat.le_refl _)).mono ?_
  rintro v rfl
  rw [wordsB_eq]; rfl
def joinB (w : ByteArray) (l : List ByteArray) : ByteArray := l.foldl (fun s x => s ++ ((⟨#[32]⟩ : ByteArray) ++ x)) w
def noBlank (b : ByteArray) : Prop := ∀ c ∈ b.data.toList, c ≠ 32
theorem wlpB_noBlank : ∀ (l : List UInt8) (w : ByteArray) (r : List UInt8), (∀ c ∈ l, c ≠ 32) → wlpB w (l ++ r) = wlpB (w ++ ⟨l.toArray⟩) r
  | [], w, r, _ => by simp only [List.nil_append]; congr 1; exact ba_ext (by simp)
  | c :: l, w, r, h => by
    have hc : c ≠ 32 := h c (by simp)
    simp only [List.cons_append, wlpB, if_neg hc]
    rw [wlpB_noBlank l (w ++ ⟨#[c]⟩) r (fun x hx => h x (by simp [hx]))]
    congr 1; exact ba_ext (by simp)
theorem wlpB_join : ∀ (l : List ByteArray) (w u : ByteArray), noBlank w → (∀ x ∈ l, noBlank x) → wlpB u (joinB w l).data.toList = (u ++ w) :: l
  | [], w, u, hw, _ => by
    have := wlpB_noBlank w.data.toList u [] hw
    rw [List.append_nil] at this
    show wlpB u w.data.toList = _
    rw [this]
    rfl
  | x :: l, w, u, hw, hl => by
    have e : ∀ (l : List ByteArray) (w x : ByteArray), (joinB (w ++ ((⟨#[32]⟩ : ByteArray) ++ x)) l).data.toList = w.data.toList ++ 32 :: (joinB x l).data.toList := by
      intro l
      induction l with
      | nil => intro w x; simp [joinB]
      | cons y l ih =>
        intro w x
        have h1 := ih (w ++ ((⟨#[32]⟩ : ByteArray) ++ x)) y
        have h2 := ih x y
        simp only [joinB, List.foldl_cons] at h1 h2 ⊢
        rw [h1, h2]
        simp
    have h0 : joinB w (x :: l) = joinB (w ++ ((⟨#[32]⟩ : ByteArray) ++ x)) l := rfl
    rw [h0, e, wlpB_noBlank w.data.toList u _ hw]
    simp only [wlpB, if_true]
    rw [wlpB_join l x ⟨#[]⟩ (hl x (by simp)) (fun y hy => hl y (by simp [hy]))]
    have e2 : (⟨#[]⟩ : ByteArray) ++ x = x := ba_ext (by simp)
    have e3 : u ++ ⟨w.data.toList.toArray⟩ = u ++ w := ba_ext (by simp)
    rw [e2]
theorem words_join (w : ByteArray) (l : List ByteArray) (hw : noBlank w) (hl : ∀ x ∈ l, noBlank x) : wordsB (joinB w l) = w :: l := by
  have e2 : (⟨#[]⟩ : ByteArray) ++ w = w := ba_ext (by simp)
  rw [wordsB_eq, wlpB_join l w ⟨#[]⟩ hw hl, e2]
theorem wlpB_ne : ∀ (r : List UInt8) (w : ByteArray), wlpB w r ≠ []
  | [], w => by simp [wlpB]
  | c :: r, w => by
    unfold wlpB
    split
    · simp
    · exact wlpB_ne r _
theorem join_wlpB : ∀ (r : List UInt8) (w : ByteArray), (match wlpB w r with | [] => (⟨#[]⟩ : ByteArray) | h :: t => joinB h t).data.toList = w.data.toList ++ r
  | [], w => by simp [wlpB, joinB]
  | c :: r, w => by
    by_cases hc : c = 32
    · subst hc
      simp only [wlpB, if_true]
      have ih := join_wlpB r ⟨#[]⟩
      cases hw : wlpB ⟨#[]⟩ r with
      | nil => exact absurd hw (wlpB_ne r _)
      | cons x t =>
        rw [hw] at ih
        have e : ∀ (t : List ByteArray) (w x : ByteArray), (joinB w (x :: t)).data.toList = w.data.toList ++ 32 :: (joinB x t).data.toList := by
          intro t
          induction t with
          | nil => intro w x; simp [joinB]
          | cons y t ih =>
            intro w x
            have h1 := ih (w ++ ((⟨#[32]⟩ : ByteArray) ++ x)) y
            have h2 := ih x y
            simp only [joinB, List.foldl_cons] at h1 h2 ⊢
            rw [h1, h2]
            simp
        show (joinB w (x :: t)).data.toList = _
        rw [e]
        simp only [List.append_cancel_left_eq, List.cons.injEq, true_and]
        simpa using ih
    · simp only [wlpB, if_neg hc]
      have ih := join_wlpB r (w ++ ⟨#[c]⟩)
      rw [ih]
      simp
theorem join_words (s w : ByteArray) (l : List ByteArray) (h : wordsB s = w :: l) : joinB w l = s := by
  have := join_wlpB s.data.toList ⟨#[]⟩
  rw [← wordsB_eq, h] at this
  exact ba_ext (by simpa using this)
def isDg (c : UInt8) : Prop := 48 ≤ c.toNat ∧ c.toNat ≤ 57
def valF (a : Nat) (l : List UInt8) : Nat := l.foldl (fun a b => a * 10 + (b.toNat - 48)) a
theorem dg_of {d : Nat} (h : d < 10) : isDg (UInt8.ofNat (48 + d)) ∧ (UInt8.ofNat (48 + d)).toNat - 48 = d := by
  have e : (UInt8.ofNat (48 + d)).toNat = 48 + d := by simp; omega
  unfold isDg; rw [e]; omega
theorem numB_data_small {n : Nat} (h : n < 10) : (numB n).data.toList = [UInt8.ofNat (48 + n)] := by
  rw [numB_small h]; rfl
theorem numB_data_big {n : Nat} (h : ¬ n < 10) : (numB n).data.toList = (numB (n / 10 : Nat)).data.toList ++ [UInt8.ofNat (48 + n % 10)] := by
  rw [numB_big h, ByteArray.data_append, Array.toList_append]; rfl
theorem numB_dg : ∀ (N n : Nat), n < N → (∀ c ∈ (numB n).data.toList, isDg c) ∧ valF 0 (numB n).data.toList = n ∧ (numB n).data.toList ≠ []
  | 0, n, h => by omega
  | N + 1, n, h => by
    by_cases h9 : n < 10
    · rw [numB_data_small h9]
      refine ⟨fun c hc => ?_, ?_, by simp⟩
      · simp at hc; subst hc; have := (dg_of h9).1; simpa using this
      · have := (dg_of h9).2; simp only [valF, List.foldl_cons, List.foldl_nil]; omega
    · rw [numB_data_big h9]
      obtain ⟨i1, i2, i3⟩ := numB_dg N (n / 10) (by omega)
      have hd : n % 10 < 10 := by omega
      refine ⟨fun c hc => ?_, ?_, by simp⟩
      · rcases List.mem_append.1 hc with hc | hc
        · exact i1 c hc
        · have e := List.mem_singleton.1 hc; subst e; exact (dg_of hd).1
      · have := (dg_of hd).2
        unfold valF at i2 ⊢
        rw [List.foldl_append, i2]
        simp only [List.foldl_cons, List.foldl_nil]
        omega
theorem numB_inj {a b : Nat} (h : numB a = numB b) : a = b := by
  have h1 := (numB_dg (a + 1) a (by omega)).2.1
  have h2 := (numB_dg (b + 1) b (by omega)).2.1
  rw [h] at h1; omega
theorem numB_size4 {n : Nat} (h : n ≤ 9999) : (numB n).size ≤ 4 ∧ 1 ≤ (numB n).size := by
  have e : (numB n).size = Lib.nDigits n := by
    unfold numB Lib.itoa
    rw [if_neg (by omega)]
    show (Lib.decDigits (n : Int).toNat).toArray.size = _
    rw [List.size_toArray, Lib.decDigits_length]; rfl
  rw [e]
  by_cases a : n < 10
  · rw [Lib.nDigits_small a]; omega
  · rw [Lib.nDigits_big a]
    by_cases b : n / 10 < 10
    · rw [Lib.nDigits_small b]; omega
    · rw [Lib.nDigits_big b]
      by_cases c : n / 10 / 10 < 10
      · rw [Lib.nDigits_small c]; omega
      · rw [Lib.nDigits_big c, Lib.nDigits_small (by omega)]; omega
theorem numB_noBlank (n : Nat) : noBlank (numB n) := by
  intro c hc e
  have := (numB_dg (n + 1) n (by omega)).1 c hc
  subst e
  unfold isDg at this
  simp at this
theorem valF_lt : ∀ (l : List UInt8) (a : Nat), (∀ c ∈ l, isDg c) → valF a l + 1 ≤ (a + 1) * 10 ^ l.length
  | [], a, _ => by simp [valF]
  | c :: l, a, h => by
    have hc := h c (by simp)
    have ih := valF_lt l (a * 10 + (c.toNat - 48)) (fun x hx => h x (by simp [hx]))
    unfold isDg at hc
    have : (a * 10 + (c.toNat - 48) + 1) * 10 ^ l.length ≤ ((a + 1) * 10) * 10 ^ l.length := Nat.mul_le_mul_right _ (by omega)
    simp only [valF, List.foldl_cons, List.length_cons, Nat.pow_succ] at ih ⊢
    rw [Nat.mul_assoc, Nat.mul_comm 10] at this
    omega
theorem parse_dg : ∀ (l : List UInt8) (a : Nat), (∀ c ∈ l, isDg c) → (a + 1) * 10 ^ l.length ≤ 10 ^ 18 → Lib.parseUint10 a l = .ok (valF a l)
  | [], a, _, _ => rfl
  | c :: l, a, h, hb => by
    have hc := h c (by simp)
    unfold isDg at hc
    have hp : 1 ≤ 10 ^ l.length := Nat.one_le_pow _ _ (by decide)
    have h1 : ((a + 1) * 10) * 1 ≤ ((a + 1) * 10) * 10 ^ l.length := Nat.mul_le_mul_left _ hp
    have h2 : (a + 1) * 10 ^ (l.length + 1) = ((a + 1) * 10) * 10 ^ l.length := by rw [Nat.pow_succ, Nat.mul_comm (10 ^ l.length) 10, Nat.mul_assoc]
    simp only [List.length_cons] at hb
    have h3 : (a * 10 + (c.toNat - 48) + 1) * 10 ^ l.length ≤ ((a + 1) * 10) * 10 ^ l.length := Nat.mul_le_mul_right _ (by omega)
    unfold Lib.parseUint10
    rw [if_pos hc, if_neg (by omega), if_neg (by omega), parse_dg l _ (fun x hx => h x (by simp [hx])) (by omega)]
    rfl
theorem atoiO_num {n : Nat} (h : n ≤ 9999) : atoiO (numB n) = some (n : Int) := by
  obtain ⟨h1, h2, h3⟩ := numB_dg (n + 1) n (by omega)
  have hs : (numB n).data.toList.length ≤ 4 := by rw [len_size]; exact (numB_size4 h).1
  have hp := parse_dg (numB n).data.toList 0 h1 (by
    have : 10 ^ (numB n).data.toList.length ≤ 10 ^ 4 := Nat.pow_le_pow_right (by decide) hs
    omega)
  rw [h2] at hp
  have e : Lib.atoiAll (numB n).data.toList = .ok (n : Int) := by
    generalize (numB n).data.toList = l at h1 h3 hp
    match l, h3 with
    | c :: r, _ =>
      have hc := h1 c (by simp)
      unfold isDg at hc
      unfold Lib.atoiAll
      simp only
      rw [if_neg (by omega)]
      unfold Lib.parseMag
      rw [if_neg (by simp), hp]
      simp only
      rw [if_neg (by omega), if_neg (by omega), if_neg (by omega)]
  unfold atoiO
  rw [e]
def NumIs (s : ByteArray) (v : Int) : Prop := (∃ n : Nat, n ≤ 9999 ∧ s = numB n ∧ v = n) ∨ (v = -1 ∧ ∀ n : Nat, n ≤ 9999 → s ≠ numB n)
theorem num_step (V c : Nat) (hV : V ≤ 9999) (h0 : 48 ≤ c) (h1 : c ≤ 57) : wrap64 (wrap64 ((V : Int) * 10) + ((c : Int) - 48) % 256) = ((V * 10 + (c - 48) : Nat) : Int) := by
  have e1 : wrap64 ((V : Int) * 10) = (V : Int) * 10 := w64 _ (by omega)
  have e2 : ((c : Int) - 48) % 256 = (c : Int) - 48 := by omega
  rw [e1, e2, w64 _ (by omega)]
  omega
theorem num_l0 (s : ByteArray) (hs : s.size ≤ 4) : ∀ (m i : Nat), s.size - i = m → i ≤ s.size → (∀ c ∈ s.data.toList.take i, isDg c) →
    Ans (fun k => spec_l1Num.l0 k s (valF 0 (s.data.toList.take i) : Nat) i) (NumIs s)
  | 0, i, hm, hi, hd => by
    have hl : s.data.toList.length ≤ i := by rw [len_size]; omega
    rw [List.take_of_length_le hl] at hd ⊢
    have hv := valF_lt s.data.toList 0 hd
    have hp : 10 ^ s.data.toList.length ≤ 10 ^ 4 := Nat.pow_le_pow_right (by decide) (by rw [len_size]; exact hs)
    refine Ans.succ ?_
    unfold spec_l1Num.l0
    refine Ans.neg (by omega) ?_
    refine Ans.bind (plain_a (n := valF 0 s.data.toList) (by omega)) ?_
    rintro v rfl
    refine Ans.ite (fun h => Ans.pure (.inl ⟨_, by omega, (toList_inj h).symm, rfl⟩)) (fun h => Ans.pure (.inr ⟨rfl, ?_⟩))
    intro n hn e
    refine h ?_
    have := (numB_dg (n + 1) n (by omega)).2.1
    rw [← e] at this
    rw [this, ← e]
  | m + 1, i, hm, hi, hd => by
    have hlt : i < s.size := by omega
    have hl : i < s.data.toList.length := by rw [len_size]; exact hlt
    have hw : wrap64 ((i : Int) + 1) = ((i + 1 : Nat) : Int) := by unfold wrap64; omega
    have hno : ∀ (h : ¬ isDg s.data.toList[i]) (n : Nat), n ≤ 9999 → s ≠ numB n := by
      intro h n hn e
      have := (numB_dg (n + 1) n (by omega)).1 (s.data.toList[i]) (by rw [← e]; exact List.getElem_mem hl)
      exact h this
    refine Ans.succ ?_
    unfold spec_l1Num.l0
    refine Ans.pos (by omega) (Ans.pos (by omega) ?_)
    rw [bt_get s i hlt, hw]
    have hc8 := (s.data.toList[i]).toNat_lt
    refine Ans.ite (fun h => Ans.pure (.inr ⟨rfl, hno (fun q => by unfold isDg at q; omega)⟩)) (fun h1 => ?_)
    refine Ans.ite (fun h => Ans.pure (.inr ⟨rfl, hno (fun q => by unfold isDg at q; omega)⟩)) (fun h2 => ?_)
    have hdi : isDg s.data.toList[i] := by unfold isDg; omega
    have ht : s.data.toList.take (i + 1) = s.data.toList.take i ++ [s.data.toList[i]] := List.take_succ_eq_append_getElem hl
    have hd' : ∀ c ∈ s.data.toList.take (i + 1), isDg c := by
      rw [ht]
      intro c hc
      rcases List.mem_append.1 hc with hc | hc
      · exact hd c hc
      · have e := List.mem_singleton.1 hc; subst e; exact hdi
    have hv := valF_lt _ 0 hd
    have hp : 10 ^ (s.data.toList.take i).length ≤ 10 ^ 4 := Nat.pow_le_pow_right (by decide) (by rw [List.length_take]; omega)
    have e : wrap64 (wrap64 ((valF 0 (s.data.toList.take i) : Nat) * 10) + (((s.data.toList[i]).toNat : Int) - 48) % 256) = (valF 0 (s.data.toList.take (i + 1)) : Nat) := by
      have e1 : valF 0 (s.data.toList.take (i + 1)) = valF 0 (s.data.toList.take i) * 10 + ((s.data.toList[i]).toNat - 48) := by
        rw [ht]; unfold valF; rw [List.foldl_append]; rfl
      rw [e1]
      unfold isDg at hdi
      exact num_step _ _ (by omega) hdi.1 hdi.2
    rw [e]
    exact num_l0 s hs m (i + 1) (by omega) (by omega) hd'
theorem num_a (s : ByteArray) : Ans (fun k => spec_l1Num.f k s) (NumIs s) := by
  unfold spec_l1Num.f
  refine Ans.ite (fun h => ?_) (fun h => ?_)
  · refine Ans.succ ?_
    unfold spec_l1Num.j0
    refine Ans.pos rfl (Ans.pure (.inr ⟨rfl, fun n hn e => ?_⟩))
    have := (numB_size4 hn).2
    rw [← e] at this; omega
  · refine Ans.succ ?_
    unfold spec_l1Num.j0
    refine Ans.ite (fun h4 => Ans.pure (.inr ⟨rfl, fun n hn e => ?_⟩)) (fun h4 => ?_)
    · have := (numB_size4 hn).1
      rw [← e] at this
      have := of_decide_eq_true h4
      omega
    · have h4' : ¬ ((s.size : Int) > 4) := fun q => h4 (decide_eq_true q)
      exact num_l0 s (by omega) _ 0 rfl (Nat.zero_le _) (by simp)
theorem index_at : ∀ (x y : List UInt8), (∀ c ∈ x, c ≠ 32) → Lib.index (x ++ 32 :: y) [32] = x.length
  | [], y, _ => by rw [List.nil_append, Lib.index]; simp [List.isPrefixOf]
  | b :: x, y, h => by
    have hb : b ≠ 32 := h b (by simp)
    have hp : ([32] : List UInt8).isPrefixOf (b :: (x ++ 32 :: y)) = false := by simp [List.isPrefixOf, Ne.symm hb]
    have ih := index_at x y (fun c hc => h c (by simp [hc]))
    rw [List.cons_append, Lib.index, hp, ih]
    simp
theorem cut_at {x y : ByteArray} (h : noBlank x) : cutW ((x ++ (⟨#[32]⟩ : ByteArray)) ++ y) = (x, y) := by
  have e : ((x ++ (⟨#[32]⟩ : ByteArray)) ++ y).data.toList = x.data.toList ++ 32 :: y.data.toList := by simp
  have hi := index_at x.data.toList y.data.toList h
  unfold cutW
  rw [e]
  unfold Lib.cut
  rw [hi, if_pos (by omega)]
  have e1 : (x.data.toList ++ 32 :: y.data.toList).take x.data.toList.length = x.data.toList := List.take_left
  have e2 : (x.data.toList ++ 32 :: y.data.toList).drop (x.data.toList.length + 1) = y.data.toList := by
    have : x.data.toList ++ 32 :: y.data.toList = (x.data.toList ++ [32]) ++ y.data.toList := by simp
    rw [this]
    exact List.drop_left' (by simp)
  simp only [Int.toNat_natCast, List.length_cons, List.length_nil, Nat.zero_add, e1, e2]
theorem readEndW_some {t : ByteArray} {a p : Int} (h : readEndW t = some (a, p)) : endOkB a p = true ∧ t = etext a p := by
  unfold readEndW at h
  simp only [Option.bind_eq_some_iff] at h
  obtain ⟨a', h1, p', h2, h3⟩ := h
  by_cases ht : etext a' p' = t
  · rw [if_pos ht] at h3
    cases h3
    refine ⟨?_, ht.symm⟩
    cases hk : endOkB a p with
    | true => rfl
    | false =>
      unfold etext at ht
      rw [hk] at ht
      rw [← ht, if_neg (by simp)] at h1
      have : atoiO (cutW (⟨#[]⟩ : ByteArray)).1 = none := by decide
      rw [this] at h1; cases h1
  · rw [if_neg ht] at h3; cases h3
theorem readEndW_of {a p : Int} (h : endOkB a p = true) : readEndW (etext a p) = some (a, p) := by
  have hb := endOkB_le h
  obtain ⟨m, rfl⟩ : ∃ m : Nat, a = m := ⟨a.toNat, by omega⟩
  obtain ⟨n, rfl⟩ : ∃ n : Nat, p = n := ⟨p.toNat, by omega⟩
  have e : etext (m : Int) n = (numB m ++ (⟨#[32]⟩ : ByteArray)) ++ numB n := by unfold etext; rw [if_pos h]
  unfold readEndW
  rw [e, cut_at (numB_noBlank m), atoiO_num (by omega), atoiO_num (by omega)]
  simp only [Option.bind_some]
  rw [if_pos e]
theorem etext_join {a p : Int} (h : endOkB a p = true) : etext a p = joinB (numB a) [numB p] := by
  unfold etext joinB; rw [if_pos h]; simp [ByteArray.append_assoc]
theorem etext_words {a p : Int} (h : endOkB a p = true) : wordsB (etext a p) = [numB a, numB p] := by
  have hb := endOkB_le h
  obtain ⟨m, rfl⟩ : ∃ m : Nat, a = m := ⟨a.toNat, by omega⟩
  obtain ⟨n, rfl⟩ : ∃ n : Nat, p = n := ⟨p.toNat, by omega⟩
  rw [etext_join h]
  exact words_join _ _ (numB_noBlank m) (by intro x hx; rw [List.mem_singleton.1 hx]; exact numB_noBlank n)
theorem numE_same {b : ByteArray} {n x : Int} (h : b = numB n) (h0 : 0 ≤ n) (h1 : n ≤ 999) (hx : NumIs b x) : x = n := by
  obtain ⟨k, rfl⟩ : ∃ k : Nat, n = k := ⟨n.toNat, by omega⟩
  rcases hx with ⟨m, hm, e, rfl⟩ | ⟨_, hno⟩
  · have := numB_inj (e.symm.trans h); omega
  · exact absurd h (hno k (by omega))
theorem endW_len {s : ByteArray} (h : (wordsB s).length ≠ 2) : readEndW s = none := by
  cases hr : readEndW s with
  | none => rfl
  | some r =>
    obtain ⟨a, p⟩ := r
    obtain ⟨hk, e⟩ := readEndW_some hr
    rw [e, etext_words hk] at h
    exact absurd rfl h
theorem endW_key {s b1 b2 : ByteArray} (hw : wordsB s = [b1, b2]) {x1 x2 : Int} (h1 : NumIs b1 x1) (h2 : NumIs b2 x2) : readEndW s = if endOkB x1 x2 then some (x1, x2) else none := by
  cases hk : endOkB x1 x2 with
  | true =>
    have hb := endOkB_le hk
    have q1 : b1 = numB x1 := by
      rcases h1 with ⟨m, hm, e, rfl⟩ | ⟨e, _⟩
      · exact e
      · omega
    have q2 : b2 = numB x2 := by
      rcases h2 with ⟨m, hm, e, rfl⟩ | ⟨e, _⟩
      · exact e
      · omega
    have e : s = etext x1 x2 := by rw [etext_join hk, ← q1, ← q2]; exact (join_words s b1 _ hw).symm
    rw [e]
    exact readEndW_of hk
  | false =>
    cases hr : readEndW s with
    | none => simp
    | some r =>
      obtain ⟨a, p⟩ := r
      obtain ⟨hk', e⟩ := readEndW_some hr
      have hb := endOkB_le hk'
      rw [e, etext_words hk'] at hw
      simp only [List.cons.injEq, and_true] at hw
      have g1 := numE_same hw.1.symm (by omega) (by omega) h1
      have g2 := numE_same hw.2.symm (by omega) (by omega) h2
      rw [g1, g2, hk'] at hk
      cases hk
section
attribute [local go_sem] max2_int min2_int max_two min_two max_three min_three max_four min_four
def spec_EndRead.f (k : Nat) (a0 : ByteArray) : Option (Int × Int × Bool):=(spec_l1Words.f k a0).bind fun t419=>(if (t419.length : Int) = 2 then (if 0 < (t419.length : Int) then ((spec_l1Num.f k (rdOf ByteArray.empty t419 0)).bind fun t423=>(if 1 < (t419.length : Int) then ((spec_l1Num.f k (rdOf ByteArray.empty t419 1)).bind fun t425=>((spec_EndOk.f t423 t425).bind fun t427=>(if t427 = true then (some (t423,t425,true)) else (some (0,0,false))))) else (none))) else (none)) else (some (0,0,false)))
theorem spec_EndRead.mono : ∀ a0 k,LeO (spec_EndRead.f k a0) (spec_EndRead.f (k + 1) a0):=by
 intro a0 k
 unfold spec_EndRead.f
 repeat' first | (with_reducible first | exact spec_l1Num.mono _ _ | exact spec_l1Words.mono _ _ | exact LeO.refl _ | exact LeO.none _ | refine LeO.ite ?_ ?_ | refine LeO.bind ?_ (fun _=>?_)) | exact spec_l1Num.mono _ _ | exact spec_l1Words.mono _ _ | exact LeO.none _ | refine LeO.ite ?_ ?_ | refine LeO.bind ?_ (fun _=>?_)
def spec_EndRead.T4 : Bool × List (List Nat × List Nat):=(true,[([],[]),([0],[0]),([1],[1]),([2],[2]),([],[]),([4],[4]),([5],[5]),([6,3],[6]),([3,7],[3,7]),([],[]),([9,8,7,0,1,2,3,4,5,6,7,8,9],[8,9])])
def spec_EndRead.B4 : List Nat:=[0,1,3,7,0,16,48,127,255,0,1023]
theorem spec_EndRead.tab4 : rtab .any (opsOf Tryz.f107 4) = spec_EndRead.T4:=by kernel_rfl
theorem spec_EndRead.bits4 : waitsOk spec_EndRead.T4.2 spec_EndRead.B4 = true:=by kernel_rfl
set_option maxHeartbeats 8000000 in
set_option maxRecDepth 100000 in
theorem spec_EndRead.calls (k : Nat) (a0 : ByteArray) (r1 : Int) (r2 : Int) (r3 : Bool) (w : World) (h : spec_EndRead.f k a0 = some (r1,r2,r3)) :
  Calls Tryz.prog 107 #[.string a0] w fun e w'=>e = .returned (.tuple #[.agg #[.int .i64 r1,.int .i64 r2],.bool r3]) ∧ Below w.heap.size w w':=by
 have hu34:=Tryz.underlying34
 have HB:=am (Below.refl w.heap.size w)
 have H : ((spec_l1Words.f k a0).bind fun t419=>(if (t419.length : Int) = 2 then (if 0 < (t419.length : Int) then ((spec_l1Num.f k (rdOf ByteArray.empty t419 0)).bind fun t423=>(if 1 < (t419.length : Int) then ((spec_l1Num.f k (rdOf ByteArray.empty t419 1)).bind fun t425=>((spec_EndOk.f t423 t425).bind fun t427=>(if t427 = true then (some (t423,t425,true)) else (some (0,0,false))))) else (none))) else (none)) else (some (0,0,false)))) = some (r1,r2,r3):=h
 clear h
 obtain ⟨t419,A2,H⟩:=bse H
 try dsimp only at H
 by_cases c3 : (t419.length : Int) = 2
 ·rw [if_pos c3] at H
  have c3b0 : ((t419.length : Int) == 2) = true:=beq_iff_eq.mpr c3
  have c3b1 : ((t419.length : Int) != 2) = false:=bne_eq_false_iff_eq.mpr c3
  clear c3
  by_cases c4 : 0 < (t419.length : Int)
  ·rw [if_pos c4] at H
   have c4b0 : decide (0 < (t419.length : Int)) = true:=decide_eq_true c4
   have c4b1 : decide (0 < t419.length) = true:=decide_eq_true (by omega)
   clear c4
   obtain ⟨t423,A5,H⟩:=bse H
   try dsimp only at H
   by_cases c6 : 1 < (t419.length : Int)
   ·rw [if_pos c6] at H
    have c6b0 : decide (1 < (t419.length : Int)) = true:=decide_eq_true c6
    have c6b1 : decide (1 < t419.length) = true:=decide_eq_true (by omega)
    clear c6
    obtain ⟨t425,A7,H⟩:=bse H
    try dsimp only at H
    obtain ⟨t427,A8,H⟩:=bse H
    try dsimp only at H
    by_cases c9 : t427 = true
    ·subst c9
     have H1 : (some (t423,t425,true)) = some (r1,r2,r3):=by rw [if_pos rfl] at H;exact H
     clear H
     have H:=H1
     clear H1
     simp only [Option.some.injEq,Prod.mk.injEq] at H
     obtain ⟨rfl,rfl,rfl⟩:=H
     go_enter Tryz.func107,Tryz.ntmps107
     try go_wp2_with (first | ((with_reducible refine gD 2 rfl ?_);refine box_event rfl (N:=2) rfl (cs:=#[.int .i64 0,.int .i64 0]) (t:=34) hr_ ?_;intro gb418 hg w10 hbox hb;have BK418:=am hbox;have GW418:=gwE HB hg;have GE418:=gwE HB hg;replace HB:=hbS HB hb;clear hb hbox hg) | ((with_reducible refine gC 119 rfl ?_);refine gL (some 7) Tryz.func119 #[.string a0] ?_;(with_reducible refine (spec_l1Words.calls k a0 t419 _ A2.out).mono ?_);rintro e w11 ⟨v420,rfl,ho0,hb⟩;refine ⟨_,rfl,?_⟩;have HO421:=am (Kd.R_lower ho0 (below_size (bl HB)));replace BK418:=bkB BK418 hb;replace HB:=hbS HB hb;(try clear hb);(try clear ho0);obtain ⟨Ao12,co12,eo12⟩:=Kd.R_slice HO421.out;subst eo12))
     replace HO421:=am (Kd.R_drew HO421.out)
     replace BK418:=am (blk_drew BK418.out)
     replace HB:=am (below_drew1 HB.out)
     have p422 : 0 ≤ (0 : Int):=(by omega)
     have q422 : 0 < (t419.length : Int):=of_decide_eq_true da_
     obtain ⟨ad422,e422,hx422_0⟩:=Kd.at_string (Kd.R_reads' HO421.out).2.2 0 p422 q422
     cases e422
     have qi422 : (0 < t419.length) = True:=eq_true (by omega)
     (try rw [show ((0 : Int)).toNat = 0 from rfl] at hx422_0)
     (try rw [Addr.add_zero'] at hx422_0)
     replace p422:=eq_true p422
     replace q422:=eq_true q422
     have p424 : 0 ≤ (1 : Int):=(by omega)
     have q424 : 1 < (t419.length : Int):=of_decide_eq_true da_
     obtain ⟨ad424,e424,hx424_0⟩:=Kd.at_string (Kd.R_reads' HO421.out).2.2 1 p424 q424
     obtain rfl : ad422 = ad424:=(by injection e424)
     (try simp only [show (1 : Int).toNat = 1 from rfl,Nat.reduceMul,Nat.reduceEqDiff,Go.Addr.add,↓reduceIte] at hx424_0)
     have qi424 : (1 < t419.length) = True:=eq_true (by omega)
     (try rw [show ((1 : Int)).toNat = 1 from rfl] at hx424_0)
     replace p424:=eq_true p424
     replace q424:=eq_true q424
     refine start_ (n:=11) (S:=fun w'=>w'.cell? ad422 = some (.string (rdOf ByteArray.empty t419 0)) ∧ w'.cell? ⟨ad422.block,ad422.off + 1,none⟩ = some (.string (rdOf ByteArray.empty t419 1))) (ds:=[]) #[false,false,false,false,false,false,false,false,false,false,false] (by kernel_rfl) rfl rfl ⟨hx422_0,hx424_0⟩ (fun hHeld=>?_);refine with_tabW spec_EndRead.tab4 spec_EndRead.bits4 (fun HT_ HW_=>?_)
     generalize w11.drew = w13 at HO421 BK418 HB hx422_0 hx424_0 hHeld ⊢
     refine pu_ 0 (some 12) (bm 11 1) ?_
     refine pu_ 1 (some 13) (bm 11 3) ?_
     refine pu_ 4 (some 16) (bm 11 19) ?_
     refine pu_ 5 (some 17) (bm 11 51) ?_
     refine tk_ 2 (some 14) (bm 11 55) rfl (.inl ⟨rfl,m3_⟩) ?_
     refine tk_ 6 (some 18) (bm 11 119) rfl (.inl ⟨rfl,m3_⟩) ?_
     refine join_ (σ:=Nat) 1 #[true,true,true,true,true,true,true,true,true,true,false] (fun s_=>[(15,.int .i64 t423),(19,.int .i64 t425),(5,.pointer (some ⟨s_,0,none⟩)),(20,.agg #[.int .i64 t423,.int .i64 t425])]) (fun s_ w'=>(w'.cell? ad422 = some (.string (rdOf ByteArray.empty t419 0)) ∧ w'.cell? ⟨ad422.block,ad422.off + 1,none⟩ = some (.string (rdOf ByteArray.empty t419 1))) ∧ (Kd.R Kd.string 9 w' w.heap.size (fun _=>True) (.slice (some ad422) t419.length co12) t419) ∧ (w'.heap[gb418]? = some (.cells #[.int .i64 0,.int .i64 0] 34 (0,0))) ∧ (w'.heap[s_]? = some (.cells #[.int .i64 0,.int .i64 0] 34 (0,0))) ∧ (w.heap.size ≤ s_) ∧ (w.heap.size ≤ s_) ∧ (gb418 ≠ s_) ∧ (s_ ≠ gb418) ∧ (Below w.heap.size w w')) ?_ ?_
     rotate_left
     ·intro hCont
      refine two_ (i:=3) (j:=9) (Ni:=some 15) (Nj:=some 5) #[true,true,true,true,true,true,true,false,false,false,false] #[true,true,true,false,true,true,true,false,false,true,false] rfl rfl rfl rfl (two_of HT_.out (by kernel_rfl)) (by decide) (by decide) (fun K hK=>?_) (fun K hK=>?_)
      ·skip
       refine gR Tryz.func120 #[.string (rdOf ByteArray.empty t419 0)] ?_
       with_reducible refine (spec_l1Num.calls k (rdOf ByteArray.empty t419 0) t423 _ A5.out).mono ?_
       rintro e w14 ⟨rfl,hb⟩
       have HS0_:=bch hb (hHeld.1)
       have HS1_:=bch hb (hHeld.2)
       refine ⟨_,rfl,?_⟩
       replace HO421:=am (Kd.R_below (rs HO421) hb)
       replace BK418:=bkB BK418 hb
       replace HB:=hbS HB hb
       (try clear hb)
       (try clear hb2)
       (try clear hk)
       (try clear hi)
       refine hK.out _ _ ⟨HS0_,HS1_⟩ (fun hHeld=>?_)
       clear hK K
       refine nm_ ?_
       refine two_ (i:=7) (j:=9) (Ni:=some 19) (Nj:=some 5) #[true,true,true,true,true,true,true,true,false,false,false] #[true,true,true,true,true,true,true,false,false,true,false] rfl rfl rfl rfl (two_of HT_.out (by kernel_rfl)) (by decide) (by decide) (fun K hK=>?_) (fun K hK=>?_)
       ·skip
        refine gR Tryz.func120 #[.string (rdOf ByteArray.empty t419 1)] ?_
        with_reducible refine (spec_l1Num.calls k (rdOf ByteArray.empty t419 1) t425 _ A7.out).mono ?_
        rintro e w15 ⟨rfl,hb⟩
        have HS0_:=bch hb (hHeld.1)
        have HS1_:=bch hb (hHeld.2)
        refine ⟨_,rfl,?_⟩
        replace HO421:=am (Kd.R_below (rs HO421) hb)
        replace BK418:=bkB BK418 hb
        replace HB:=hbS HB hb
        (try clear hb)
        (try clear hb2)
        (try clear hk)
        (try clear hi)
        refine hK.out _ _ ⟨HS0_,HS1_⟩ (fun hHeld=>?_)
        clear hK K
        refine nm_ ?_
        refine pu_ 8 (some 20) (bm 11 511) ?_
        refine on_ 9 (some 5) (bm 11 1023) (fun K hK=>?_)
        refine box_step rfl (N:=5) rfl (cs:=#[.int .i64 0,.int .i64 0]) (t:=34) hr_ ?_
        intro gb426 hg w16 hbox hb
        have HS0_:=bch hb (hHeld.1)
        have HS1_:=bch hb (hHeld.2)
        replace HO421:=am (Kd.R_below (rs HO421) hb)
        have BK426:=am hbox
        have GW426:=gwE HB hg
        have GE426:=gwE HB hg
        replace HB:=hbS HB hb
        have NB418_426:=neL BK418 hg
        have NB426_418:=neG BK418 hg
        replace BK418:=bkB BK418 hb
        clear hb hbox hg
        refine hK.out _ _ ⟨HS0_,HS1_⟩ (fun hHeld=>?_)
        clear hK K
        refine nm_ ?_
        exact norm_ (by simp only [putAll,Act.put,List.setIfInBounds_toArray,List.set_cons_zero,List.set_cons_succ]) (hCont (gb426) _ ⟨hHeld,(rs HO421),(bk BK418),(bk BK426),GW426.out,GE426.out,NB418_426.out,NB426_418.out,(bl HB)⟩)
       ·skip
        refine box_step rfl (N:=5) rfl (cs:=#[.int .i64 0,.int .i64 0]) (t:=34) hr_ ?_
        intro gb426 hg w15 hbox hb
        have HS0_:=bch hb (hHeld.1)
        have HS1_:=bch hb (hHeld.2)
        replace HO421:=am (Kd.R_below (rs HO421) hb)
        have BK426:=am hbox
        have GW426:=gwE HB hg
        have GE426:=gwE HB hg
        replace HB:=hbS HB hb
        have NB418_426:=neL BK418 hg
        have NB426_418:=neG BK418 hg
        replace BK418:=bkB BK418 hb
        clear hb hbox hg
        refine hK.out _ _ ⟨HS0_,HS1_⟩ (fun hHeld=>?_)
        clear hK K
        refine nm_ ?_
        refine on_ 7 (some 19) (bm 11 767) (fun K hK=>?_)
        refine gR Tryz.func120 #[.string (rdOf ByteArray.empty t419 1)] ?_
        with_reducible refine (spec_l1Num.calls k (rdOf ByteArray.empty t419 1) t425 _ A7.out).mono ?_
        rintro e w16 ⟨rfl,hb⟩
        have HS0_:=bch hb (hHeld.1)
        have HS1_:=bch hb (hHeld.2)
        refine ⟨_,rfl,?_⟩
        replace HO421:=am (Kd.R_below (rs HO421) hb)
        replace BK418:=bkB BK418 hb
        replace BK426:=bkB BK426 hb
        replace HB:=hbS HB hb
        (try clear hb)
        (try clear hb2)
        (try clear hk)
        (try clear hi)
        refine hK.out _ _ ⟨HS0_,HS1_⟩ (fun hHeld=>?_)
        clear hK K
        refine nm_ ?_
        refine pu_ 8 (some 20) (bm 11 1023) ?_
        exact norm_ (by simp only [putAll,Act.put,List.setIfInBounds_toArray,List.set_cons_zero,List.set_cons_succ]) (hCont (gb426) _ ⟨hHeld,(rs HO421),(bk BK418),(bk BK426),GW426.out,GE426.out,NB418_426.out,NB426_418.out,(bl HB)⟩)
      ·skip
       refine box_step rfl (N:=5) rfl (cs:=#[.int .i64 0,.int .i64 0]) (t:=34) hr_ ?_
       intro gb426 hg w14 hbox hb
       have HS0_:=bch hb (hHeld.1)
       have HS1_:=bch hb (hHeld.2)
       replace HO421:=am (Kd.R_below (rs HO421) hb)
       have BK426:=am hbox
       have GW426:=gwE HB hg
       have GE426:=gwE HB hg
       replace HB:=hbS HB hb
       have NB418_426:=neL BK418 hg
       have NB426_418:=neG BK418 hg
       replace BK418:=bkB BK418 hb
       clear hb hbox hg
       refine hK.out _ _ ⟨HS0_,HS1_⟩ (fun hHeld=>?_)
       clear hK K
       refine nm_ ?_
       refine on_ 3 (some 15) (bm 11 639) (fun K hK=>?_)
       refine gR Tryz.func120 #[.string (rdOf ByteArray.empty t419 0)] ?_
       with_reducible refine (spec_l1Num.calls k (rdOf ByteArray.empty t419 0) t423 _ A5.out).mono ?_
       rintro e w15 ⟨rfl,hb⟩
       have HS0_:=bch hb (hHeld.1)
       have HS1_:=bch hb (hHeld.2)
       refine ⟨_,rfl,?_⟩
       replace HO421:=am (Kd.R_below (rs HO421) hb)
       replace BK418:=bkB BK418 hb
       replace BK426:=bkB BK426 hb
       replace HB:=hbS HB hb
       (try clear hb)
       (try clear hb2)
       (try clear hk)
       (try clear hi)
       refine hK.out _ _ ⟨HS0_,HS1_⟩ (fun hHeld=>?_)
       clear hK K
       refine nm_ ?_
       refine on_ 7 (some 19) (bm 11 767) (fun K hK=>?_)
       refine gR Tryz.func120 #[.string (rdOf ByteArray.empty t419 1)] ?_
       with_reducible refine (spec_l1Num.calls k (rdOf ByteArray.empty t419 1) t425 _ A7.out).mono ?_
       rintro e w16 ⟨rfl,hb⟩
       have HS0_:=bch hb (hHeld.1)
       have HS1_:=bch hb (hHeld.2)
       refine ⟨_,rfl,?_⟩
       replace HO421:=am (Kd.R_below (rs HO421) hb)
       replace BK418:=bkB BK418 hb
       replace BK426:=bkB BK426 hb
       replace HB:=hbS HB hb
       (try clear hb)
       (try clear hb2)
       (try clear hk)
       (try clear hi)
       refine hK.out _ _ ⟨HS0_,HS1_⟩ (fun hHeld=>?_)
       clear hK K
       refine nm_ ?_
       refine pu_ 8 (some 20) (bm 11 1023) ?_
       exact norm_ (by simp only [putAll,Act.put,List.setIfInBounds_toArray,List.set_cons_zero,List.set_cons_succ]) (hCont (gb426) _ ⟨hHeld,(rs HO421),(bk BK418),(bk BK426),GW426.out,GE426.out,NB418_426.out,NB426_418.out,(bl HB)⟩)
     rintro gb426 w17 ⟨hS_,h0_,h1_,h2_,h3_,h4_,h5_,h6_,h7_⟩
     have n0_ : Aside0 (Kd.R Kd.string 9 w17 w.heap.size (fun _=>True) (.slice (some ad422) t419.length co12) t419):=⟨h0_⟩
     have n1_ : Aside0 (w17.heap[gb418]? = some (.cells #[.int .i64 0,.int .i64 0] 34 (0,0))):=⟨h1_⟩
     have n2_ : Aside0 (w17.heap[gb426]? = some (.cells #[.int .i64 0,.int .i64 0] 34 (0,0))):=⟨h2_⟩
     have n3_ : Aside0 (w.heap.size ≤ gb426):=⟨h3_⟩
     have n4_ : Aside0 (w.heap.size ≤ gb426):=⟨h4_⟩
     have n5_ : Aside0 (gb418 ≠ gb426):=⟨h5_⟩
     have n6_ : Aside0 (gb426 ≠ gb418):=⟨h6_⟩
     have n7_ : Aside0 (Below w.heap.size w w17):=⟨h7_⟩
     clear HO421
     clear BK418
     clear HB
     clear h0_ h1_ h2_ h3_ h4_ h5_ h6_ h7_
     have HO421:=n0_
     have BK418:=n1_
     have BK426:=n2_
     have GW426:=n3_
     have GE426:=n4_
     have NB418_426:=n5_
     have NB426_418:=n6_
     have HB:=n7_
     clear n0_ n1_ n2_ n3_ n4_ n5_ n6_ n7_
     have hHeld : w17.cell? ad422 = some (.string (rdOf ByteArray.empty t419 0)) ∧ w17.cell? ⟨ad422.block,ad422.off + 1,none⟩ = some (.string (rdOf ByteArray.empty t419 1)):=hS_
     refine norm_ (a':=?_) ?_ ?_
     rotate_left
     ·simp only [putAll,Act.put,List.setIfInBounds_toArray,List.set_cons_zero,List.set_cons_succ]
      rfl
     refine on_ 10 none (bm 11 2047) (fun K hK=>?_)
     have : w17.cell? ⟨gb426,0,none⟩ = some (.int .i64 0):=bcell BK426 0
     have:=bfz BK426 0
     have:=NB418_426.out
     have:=NB426_418.out
     have : w17.cell? ⟨gb426,1,none⟩ = some (.int .i64 0):=bcell BK426 1
     have:=bfz BK426 1
     have:=NB418_426.out
     have:=NB426_418.out
     refine skip_ (w1:=?_) (by rfl) rfl ?_ ?_
     rotate_left
     ·go_simp
      rfl
     refine hK.out _ _ ⟨((cell_far (p:=⟨gb426,_,none⟩) (by first | exact Kd.own_blk (Kd.R_ne HO421.out BK426.out (by decide)) | (rw [add_block];exact Kd.own_blk (Kd.R_ne HO421.out BK426.out (by decide))) | (show (Addr.add _ _).block ≠ _;rw [add_block];exact Kd.own_blk (Kd.R_ne HO421.out BK426.out (by decide))) | (dsimp only;exact Kd.own_blk (Kd.R_ne HO421.out BK426.out (by decide)))) _).trans (((cell_far (p:=⟨gb426,_,none⟩) (by first | exact Kd.own_blk (Kd.R_ne HO421.out BK426.out (by decide)) | (rw [add_block];exact Kd.own_blk (Kd.R_ne HO421.out BK426.out (by decide))) | (show (Addr.add _ _).block ≠ _;rw [add_block];exact Kd.own_blk (Kd.R_ne HO421.out BK426.out (by decide))) | (dsimp only;exact Kd.own_blk (Kd.R_ne HO421.out BK426.out (by decide)))) _).trans (hHeld.1)))),((cell_far (p:=⟨gb426,_,none⟩) (by first | exact Kd.own_blk (Kd.R_ne HO421.out BK426.out (by decide)) | (rw [add_block];exact Kd.own_blk (Kd.R_ne HO421.out BK426.out (by decide))) | (show (Addr.add _ _).block ≠ _;rw [add_block];exact Kd.own_blk (Kd.R_ne HO421.out BK426.out (by decide))) | (dsimp only;exact Kd.own_blk (Kd.R_ne HO421.out BK426.out (by decide)))) _).trans (((cell_far (p:=⟨gb426,_,none⟩) (by first | exact Kd.own_blk (Kd.R_ne HO421.out BK426.out (by decide)) | (rw [add_block];exact Kd.own_blk (Kd.R_ne HO421.out BK426.out (by decide))) | (show (Addr.add _ _).block ≠ _;rw [add_block];exact Kd.own_blk (Kd.R_ne HO421.out BK426.out (by decide))) | (dsimp only;exact Kd.own_blk (Kd.R_ne HO421.out BK426.out (by decide)))) _).trans (hHeld.2))))⟩ (fun hHeld=>?_)
     clear hK K
     refine done_ (done_of HT_.out (by kernel_rfl)) ?_
     have:=NB426_418.out
     have:=NB418_426.out
     have:=bcell BK426 0
     have:=bcell BK426 1
     have:=bfz BK426 0
     have:=bfz BK426 1
     try go_wp2_with (first | ((with_reducible refine gC 92 rfl ?_);refine gL (some 22) Tryz.func92 #[.agg #[.int .i64 t423,.int .i64 t425]] ?_;(with_reducible refine (spec_EndOk.calls t423 t425 true _ A8.out).mono ?_);rintro e w22 ⟨rfl,hb⟩;refine ⟨_,rfl,?_⟩;replace HO421:=am (Kd.R_below (by (with_reducible repeat apply ru);exact (Kd.R_mono (Kd.R_far (p:=⟨gb426,1,none⟩) (Kd.R_far (p:=⟨gb426,0,none⟩) (Kd.R_types HO421.out BK426.out (by decide)) (fun _ hk=>hk.2) (.int .i64 t423)) (fun _ hk=>hk.2) (.int .i64 t425)) (fun _ h_=>h_.1))) hb);replace BK418:=am (blk_below (g:=gb418) (o:=.cells #[.int .i64 0,.int .i64 0] 34 (0,0)) (by (with_reducible repeat refine bu ?_);refine blk_far ?_ NB418_426.out _;(with_reducible repeat refine bu ?_);refine blk_far ?_ NB418_426.out _;(with_reducible repeat refine bu ?_);exact BK418.out) hb);replace BK426:=am (blk_below (g:=gb426) (o:=.cells #[.int .i64 t423,.int .i64 t425] 34 (0,0)) (by (with_reducible repeat refine bu ?_);refine blk_put (cs:=#[.int .i64 t423,.int .i64 0]) ?_ 1 _ rfl;(with_reducible repeat refine bu ?_);refine blk_put (cs:=#[.int .i64 0,.int .i64 0]) ?_ 0 _ rfl;(with_reducible repeat refine bu ?_);exact BK426.out) hb);replace HB:=hbS HB hb;(try clear hb);(try clear hk);have:=bcell BK426 0;have:=bcell BK426 1;have:=bfz BK426 0;have:=bfz BK426 1;have:=bcell BK418 0;have:=bcell BK418 1;have:=bfz BK418 0;have:=bfz BK418 1))
     refine bodyPost_ret (results_ct rfl _ _ gb418 34 #[.int .i64 t423,.int .i64 t425] (0,0) _ rfl (by (with_reducible repeat refine bu ?_);refine blk_put (cs:=#[.int .i64 t423,.int .i64 0]) ?_ 1 _ rfl;(with_reducible repeat refine bu ?_);refine blk_put (cs:=#[.int .i64 0,.int .i64 0]) ?_ 0 _ rfl;(with_reducible repeat refine bu ?_);exact BK418.out) Tryz.underlying34 rfl (by kernel_rfl)) rfl ?_
     exact ⟨fi_,m2_⟩
    ·replace c9:=Bool.eq_false_iff.mpr c9
     subst c9
     have H1 : (some (0,0,false)) = some (r1,r2,r3):=by rw [if_neg (show ¬ (false = true) by decide)] at H;exact H
     clear H
     have H:=H1
     clear H1
     simp only [Option.some.injEq,Prod.mk.injEq] at H
     obtain ⟨rfl,rfl,rfl⟩:=H
     go_enter Tryz.func107,Tryz.ntmps107
     try go_wp2_with (first | ((with_reducible refine gD 2 rfl ?_);refine box_event rfl (N:=2) rfl (cs:=#[.int .i64 0,.int .i64 0]) (t:=34) hr_ ?_;intro gb418 hg w25 hbox hb;have BK418:=am hbox;have GW418:=gwE HB hg;have GE418:=gwE HB hg;replace HB:=hbS HB hb;clear hb hbox hg) | ((with_reducible refine gC 119 rfl ?_);refine gL (some 7) Tryz.func119 #[.string a0] ?_;(with_reducible refine (spec_l1Words.calls k a0 t419 _ A2.out).mono ?_);rintro e w26 ⟨v420,rfl,ho0,hb⟩;refine ⟨_,rfl,?_⟩;have HO421:=am (Kd.R_lower ho0 (below_size (bl HB)));replace BK418:=bkB BK418 hb;replace HB:=hbS HB hb;(try clear hb);(try clear ho0);obtain ⟨Ao27,co27,eo27⟩:=Kd.R_slice HO421.out;subst eo27))
     replace HO421:=am (Kd.R_drew HO421.out)
     replace BK418:=am (blk_drew BK418.out)
     replace HB:=am (below_drew1 HB.out)
     have p422 : 0 ≤ (0 : Int):=(by omega)
     have q422 : 0 < (t419.length : Int):=of_decide_eq_true da_
     obtain ⟨ad422,e422,hx422_0⟩:=Kd.at_string (Kd.R_reads' HO421.out).2.2 0 p422 q422
     cases e422
     have qi422 : (0 < t419.length) = True:=eq_true (by omega)
     (try rw [show ((0 : Int)).toNat = 0 from rfl] at hx422_0)
     (try rw [Addr.add_zero'] at hx422_0)
     replace p422:=eq_true p422
     replace q422:=eq_true q422
     have p424 : 0 ≤ (1 : Int):=(by omega)
     have q424 : 1 < (t419.length : Int):=of_decide_eq_true da_
     obtain ⟨ad424,e424,hx424_0⟩:=Kd.at_string (Kd.R_reads' HO421.out).2.2 1 p424 q424
     obtain rfl : ad422 = ad424:=(by injection e424)
     (try simp only [show (1 : Int).toNat = 1 from rfl,Nat.reduceMul,Nat.reduceEqDiff,Go.Addr.add,↓reduceIte] at hx424_0)
     have qi424 : (1 < t419.length) = True:=eq_true (by omega)
     (try rw [show ((1 : Int)).toNat = 1 from rfl] at hx424_0)
     replace p424:=eq_true p424
     replace q424:=eq_true q424
     refine start_ (n:=11) (S:=fun w'=>w'.cell? ad422 = some (.string (rdOf ByteArray.empty t419 0)) ∧ w'.cell? ⟨ad422.block,ad422.off + 1,none⟩ = some (.string (rdOf ByteArray.empty t419 1))) (ds:=[]) #[false,false,false,false,false,false,false,false,false,false,false] (by kernel_rfl) rfl rfl ⟨hx422_0,hx424_0⟩ (fun hHeld=>?_);refine with_tabW spec_EndRead.tab4 spec_EndRead.bits4 (fun HT_ HW_=>?_)
     generalize w26.drew = w28 at HO421 BK418 HB hx422_0 hx424_0 hHeld ⊢
     refine pu_ 0 (some 12) (bm 11 1) ?_
     refine pu_ 1 (some 13) (bm 11 3) ?_
     refine pu_ 4 (some 16) (bm 11 19) ?_
     refine pu_ 5 (some 17) (bm 11 51) ?_
     refine tk_ 2 (some 14) (bm 11 55) rfl (.inl ⟨rfl,m3_⟩) ?_
     refine tk_ 6 (some 18) (bm 11 119) rfl (.inl ⟨rfl,m3_⟩) ?_
     refine join_ (σ:=Nat) 1 #[true,true,true,true,true,true,true,true,true,true,false] (fun s_=>[(15,.int .i64 t423),(19,.int .i64 t425),(5,.pointer (some ⟨s_,0,none⟩)),(20,.agg #[.int .i64 t423,.int .i64 t425])]) (fun s_ w'=>(w'.cell? ad422 = some (.string (rdOf ByteArray.empty t419 0)) ∧ w'.cell? ⟨ad422.block,ad422.off + 1,none⟩ = some (.string (rdOf ByteArray.empty t419 1))) ∧ (Kd.R Kd.string 9 w' w.heap.size (fun _=>True) (.slice (some ad422) t419.length co27) t419) ∧ (w'.heap[gb418]? = some (.cells #[.int .i64 0,.int .i64 0] 34 (0,0))) ∧ (w'.heap[s_]? = some (.cells #[.int .i64 0,.int .i64 0] 34 (0,0))) ∧ (w.heap.size ≤ s_) ∧ (w.heap.size ≤ s_) ∧ (gb418 ≠ s_) ∧ (s_ ≠ gb418) ∧ (Below w.heap.size w w')) ?_ ?_
     rotate_left
     ·intro hCont
      refine two_ (i:=3) (j:=9) (Ni:=some 15) (Nj:=some 5) #[true,true,true,true,true,true,true,false,false,false,false] #[true,true,true,false,true,true,true,false,false,true,false] rfl rfl rfl rfl (two_of HT_.out (by kernel_rfl)) (by decide) (by decide) (fun K hK=>?_) (fun K hK=>?_)
      ·skip
       refine gR Tryz.func120 #[.string (rdOf ByteArray.empty t419 0)] ?_
       with_reducible refine (spec_l1Num.calls k (rdOf ByteArray.empty t419 0) t423 _ A5.out).mono ?_
       rintro e w29 ⟨rfl,hb⟩
       have HS0_:=bch hb (hHeld.1)
       have HS1_:=bch hb (hHeld.2)
       refine ⟨_,rfl,?_⟩
       replace HO421:=am (Kd.R_below (rs HO421) hb)
       replace BK418:=bkB BK418 hb
       replace HB:=hbS HB hb
       (try clear hb)
       (try clear hb2)
       (try clear hk)
       (try clear hi)
       refine hK.out _ _ ⟨HS0_,HS1_⟩ (fun hHeld=>?_)
       clear hK K
       refine nm_ ?_
       refine two_ (i:=7) (j:=9) (Ni:=some 19) (Nj:=some 5) #[true,true,true,true,true,true,true,true,false,false,false] #[true,true,true,true,true,true,true,false,false,true,false] rfl rfl rfl rfl (two_of HT_.out (by kernel_rfl)) (by decide) (by decide) (fun K hK=>?_) (fun K hK=>?_)
       ·skip
        refine gR Tryz.func120 #[.string (rdOf ByteArray.empty t419 1)] ?_
        with_reducible refine (spec_l1Num.calls k (rdOf ByteArray.empty t419 1) t425 _ A7.out).mono ?_
        rintro e w30 ⟨rfl,hb⟩
        have HS0_:=bch hb (hHeld.1)
        have HS1_:=bch hb (hHeld.2)
        refine ⟨_,rfl,?_⟩
        replace HO421:=am (Kd.R_below (rs HO421) hb)
        replace BK418:=bkB BK418 hb
        replace HB:=hbS HB hb
        (try clear hb)
        (try clear hb2)
        (try clear hk)
        (try clear hi)
        refine hK.out _ _ ⟨HS0_,HS1_⟩ (fun hHeld=>?_)
        clear hK K
        refine nm_ ?_
        refine pu_ 8 (some 20) (bm 11 511) ?_
        refine on_ 9 (some 5) (bm 11 1023) (fun K hK=>?_)
        refine box_step rfl (N:=5) rfl (cs:=#[.int .i64 0,.int .i64 0]) (t:=34) hr_ ?_
        intro gb426 hg w31 hbox hb
        have HS0_:=bch hb (hHeld.1)
        have HS1_:=bch hb (hHeld.2)
        replace HO421:=am (Kd.R_below (rs HO421) hb)
        have BK426:=am hbox
        have GW426:=gwE HB hg
        have GE426:=gwE HB hg
        replace HB:=hbS HB hb
        have NB418_426:=neL BK418 hg
        have NB426_418:=neG BK418 hg
        replace BK418:=bkB BK418 hb
        clear hb hbox hg
        refine hK.out _ _ ⟨HS0_,HS1_⟩ (fun hHeld=>?_)
        clear hK K
        refine nm_ ?_
        exact norm_ (by simp only [putAll,Act.put,List.setIfInBounds_toArray,List.set_cons_zero,List.set_cons_succ]) (hCont (gb426) _ ⟨hHeld,(rs HO421),(bk BK418),(bk BK426),GW426.out,GE426.out,NB418_426.out,NB426_418.out,(bl HB)⟩)
       ·skip
        refine box_step rfl (N:=5) rfl (cs:=#[.int .i64 0,.int .i64 0]) (t:=34) hr_ ?_
        intro gb426 hg w30 hbox hb
        have HS0_:=bch hb (hHeld.1)
        have HS1_:=bch hb (hHeld.2)
        replace HO421:=am (Kd.R_below (rs HO421) hb)
        have BK426:=am hbox
        have GW426:=gwE HB hg
        have GE426:=gwE HB hg
        replace HB:=hbS HB hb
        have NB418_426:=neL BK418 hg
        have NB426_418:=neG BK418 hg
        replace BK418:=bkB BK418 hb
        clear hb hbox hg
        refine hK.out _ _ ⟨HS0_,HS1_⟩ (fun hHeld=>?_)
        clear hK K
        refine nm_ ?_
        refine on_ 7 (some 19) (bm 11 767) (fun K hK=>?_)
        refine gR Tryz.func120 #[.string (rdOf ByteArray.empty t419 1)] ?_
        with_reducible refine (spec_l1Num.calls k (rdOf ByteArray.empty t419 1) t425 _ A7.out).mono ?_
        rintro e w31 ⟨rfl,hb⟩
        have HS0_:=bch hb (hHeld.1)
        have HS1_:=bch hb (hHeld.2)
        refine ⟨_,rfl,?_⟩
        replace HO421:=am (Kd.R_below (rs HO421) hb)
        replace BK418:=bkB BK418 hb
        replace BK426:=bkB BK426 hb
        replace HB:=hbS HB hb
        (try clear hb)
        (try clear hb2)
        (try clear hk)
        (try clear hi)
        refine hK.out _ _ ⟨HS0_,HS1_⟩ (fun hHeld=>?_)
        clear hK K
        refine nm_ ?_
        refine pu_ 8 (some 20) (bm 11 1023) ?_
        exact norm_ (by simp only [putAll,Act.put,List.setIfInBounds_toArray,List.set_cons_zero,List.set_cons_succ]) (hCont (gb426) _ ⟨hHeld,(rs HO421),(bk BK418),(bk BK426),GW426.out,GE426.out,NB418_426.out,NB426_418.out,(bl HB)⟩)
      ·skip
       refine box_step rfl (N:=5) rfl (cs:=#[.int .i64 0,.int .i64 0]) (t:=34) hr_ ?_
       intro gb426 hg w29 hbox hb
       have HS0_:=bch hb (hHeld.1)
       have HS1_:=bch hb (hHeld.2)
       replace HO421:=am (Kd.R_below (rs HO421) hb)
       have BK426:=am hbox
       have GW426:=gwE HB hg
       have GE426:=gwE HB hg
       replace HB:=hbS HB hb
       have NB418_426:=neL BK418 hg
       have NB426_418:=neG BK418 hg
       replace BK418:=bkB BK418 hb
       clear hb hbox hg
       refine hK.out _ _ ⟨HS0_,HS1_⟩ (fun hHeld=>?_)
       clear hK K
       refine nm_ ?_
       refine on_ 3 (some 15) (bm 11 639) (fun K hK=>?_)
       refine gR Tryz.func120 #[.string (rdOf ByteArray.empty t419 0)] ?_
       with_reducible refine (spec_l1Num.calls k (rdOf ByteArray.empty t419 0) t423 _ A5.out).mono ?_
       rintro e w30 ⟨rfl,hb⟩
       have HS0_:=bch hb (hHeld.1)
       have HS1_:=bch hb (hHeld.2)
       refine ⟨_,rfl,?_⟩
       replace HO421:=am (Kd.R_below (rs HO421) hb)
       replace BK418:=bkB BK418 hb
       replace BK426:=bkB BK426 hb
       replace HB:=hbS HB hb
       (try clear hb)
       (try clear hb2)
       (try clear hk)
       (try clear hi)
       refine hK.out _ _ ⟨HS0_,HS1_⟩ (fun hHeld=>?_)
       clear hK K
       refine nm_ ?_
       refine on_ 7 (some 19) (bm 11 767) (fun K hK=>?_)
       refine gR Tryz.func120 #[.string (rdOf ByteArray.empty t419 1)] ?_
       with_reducible refine (spec_l1Num.calls k (rdOf ByteArray.empty t419 1) t425 _ A7.out).mono ?_
       rintro e w31 ⟨rfl,hb⟩
       have HS0_:=bch hb (hHeld.1)
       have HS1_:=bch hb (hHeld.2)
       refine ⟨_,rfl,?_⟩
       replace HO421:=am (Kd.R_below (rs HO421) hb)
       replace BK418:=bkB BK418 hb
       replace BK426:=bkB BK426 hb
       replace HB:=hbS HB hb
       (try clear hb)
       (try clear hb2)
       (try clear hk)
       (try clear hi)
       refine hK.out _ _ ⟨HS0_,HS1_⟩ (fun hHeld=>?_)
       clear hK K
       refine nm_ ?_
       refine pu_ 8 (some 20) (bm 11 1023) ?_
       exact norm_ (by simp only [putAll,Act.put,List.setIfInBounds_toArray,List.set_cons_zero,List.set_cons_succ]) (hCont (gb426) _ ⟨hHeld,(rs HO421),(bk BK418),(bk BK426),GW426.out,GE426.out,NB418_426.out,NB426_418.out,(bl HB)⟩)
     rintro gb426 w32 ⟨hS_,h0_,h1_,h2_,h3_,h4_,h5_,h6_,h7_⟩
     have n0_ : Aside0 (Kd.R Kd.string 9 w32 w.heap.size (fun _=>True) (.slice (some ad422) t419.length co27) t419):=⟨h0_⟩
     have n1_ : Aside0 (w32.heap[gb418]? = some (.cells #[.int .i64 0,.int .i64 0] 34 (0,0))):=⟨h1_⟩
     have n2_ : Aside0 (w32.heap[gb426]? = some (.cells #[.int .i64 0,.int .i64 0] 34 (0,0))):=⟨h2_⟩
     have n3_ : Aside0 (w.heap.size ≤ gb426):=⟨h3_⟩
     have n4_ : Aside0 (w.heap.size ≤ gb426):=⟨h4_⟩
     have n5_ : Aside0 (gb418 ≠ gb426):=⟨h5_⟩
     have n6_ : Aside0 (gb426 ≠ gb418):=⟨h6_⟩
     have n7_ : Aside0 (Below w.heap.size w w32):=⟨h7_⟩
     clear HO421
     clear BK418
     clear HB
     clear h0_ h1_ h2_ h3_ h4_ h5_ h6_ h7_
     have HO421:=n0_
     have BK418:=n1_
     have BK426:=n2_
     have GW426:=n3_
     have GE426:=n4_
     have NB418_426:=n5_
     have NB426_418:=n6_
     have HB:=n7_
     clear n0_ n1_ n2_ n3_ n4_ n5_ n6_ n7_
     have hHeld : w32.cell? ad422 = some (.string (rdOf ByteArray.empty t419 0)) ∧ w32.cell? ⟨ad422.block,ad422.off + 1,none⟩ = some (.string (rdOf ByteArray.empty t419 1)):=hS_
     refine norm_ (a':=?_) ?_ ?_
     rotate_left
     ·simp only [putAll,Act.put,List.setIfInBounds_toArray,List.set_cons_zero,List.set_cons_succ]
      rfl
     refine on_ 10 none (bm 11 2047) (fun K hK=>?_)
     have : w32.cell? ⟨gb426,0,none⟩ = some (.int .i64 0):=bcell BK426 0
     have:=bfz BK426 0
     have:=NB418_426.out
     have:=NB426_418.out
     have : w32.cell? ⟨gb426,1,none⟩ = some (.int .i64 0):=bcell BK426 1
     have:=bfz BK426 1
     have:=NB418_426.out
     have:=NB426_418.out
     refine skip_ (w1:=?_) (by rfl) rfl ?_ ?_
     rotate_left
     ·go_simp
      rfl
     refine hK.out _ _ ⟨((cell_far (p:=⟨gb426,_,none⟩) (by first | exact Kd.own_blk (Kd.R_ne HO421.out BK426.out (by decide)) | (rw [add_block];exact Kd.own_blk (Kd.R_ne HO421.out BK426.out (by decide))) | (show (Addr.add _ _).block ≠ _;rw [add_block];exact Kd.own_blk (Kd.R_ne HO421.out BK426.out (by decide))) | (dsimp only;exact Kd.own_blk (Kd.R_ne HO421.out BK426.out (by decide)))) _).trans (((cell_far (p:=⟨gb426,_,none⟩) (by first | exact Kd.own_blk (Kd.R_ne HO421.out BK426.out (by decide)) | (rw [add_block];exact Kd.own_blk (Kd.R_ne HO421.out BK426.out (by decide))) | (show (Addr.add _ _).block ≠ _;rw [add_block];exact Kd.own_blk (Kd.R_ne HO421.out BK426.out (by decide))) | (dsimp only;exact Kd.own_blk (Kd.R_ne HO421.out BK426.out (by decide)))) _).trans (hHeld.1)))),((cell_far (p:=⟨gb426,_,none⟩) (by first | exact Kd.own_blk (Kd.R_ne HO421.out BK426.out (by decide)) | (rw [add_block];exact Kd.own_blk (Kd.R_ne HO421.out BK426.out (by decide))) | (show (Addr.add _ _).block ≠ _;rw [add_block];exact Kd.own_blk (Kd.R_ne HO421.out BK426.out (by decide))) | (dsimp only;exact Kd.own_blk (Kd.R_ne HO421.out BK426.out (by decide)))) _).trans (((cell_far (p:=⟨gb426,_,none⟩) (by first | exact Kd.own_blk (Kd.R_ne HO421.out BK426.out (by decide)) | (rw [add_block];exact Kd.own_blk (Kd.R_ne HO421.out BK426.out (by decide))) | (show (Addr.add _ _).block ≠ _;rw [add_block];exact Kd.own_blk (Kd.R_ne HO421.out BK426.out (by decide))) | (dsimp only;exact Kd.own_blk (Kd.R_ne HO421.out BK426.out (by decide)))) _).trans (hHeld.2))))⟩ (fun hHeld=>?_)
     clear hK K
     refine done_ (done_of HT_.out (by kernel_rfl)) ?_
     have:=NB426_418.out
     have:=NB418_426.out
     have:=bcell BK426 0
     have:=bcell BK426 1
     have:=bfz BK426 0
     have:=bfz BK426 1
     try go_wp2_with (first | ((with_reducible refine gC 92 rfl ?_);refine gL (some 22) Tryz.func92 #[.agg #[.int .i64 t423,.int .i64 t425]] ?_;(with_reducible refine (spec_EndOk.calls t423 t425 false _ A8.out).mono ?_);rintro e w37 ⟨rfl,hb⟩;refine ⟨_,rfl,?_⟩;replace HO421:=am (Kd.R_below (by (with_reducible repeat apply ru);exact (Kd.R_mono (Kd.R_far (p:=⟨gb426,1,none⟩) (Kd.R_far (p:=⟨gb426,0,none⟩) (Kd.R_types HO421.out BK426.out (by decide)) (fun _ hk=>hk.2) (.int .i64 t423)) (fun _ hk=>hk.2) (.int .i64 t425)) (fun _ h_=>h_.1))) hb);replace BK418:=am (blk_below (g:=gb418) (o:=.cells #[.int .i64 0,.int .i64 0] 34 (0,0)) (by (with_reducible repeat refine bu ?_);refine blk_far ?_ NB418_426.out _;(with_reducible repeat refine bu ?_);refine blk_far ?_ NB418_426.out _;(with_reducible repeat refine bu ?_);exact BK418.out) hb);replace BK426:=am (blk_below (g:=gb426) (o:=.cells #[.int .i64 t423,.int .i64 t425] 34 (0,0)) (by (with_reducible repeat refine bu ?_);refine blk_put (cs:=#[.int .i64 t423,.int .i64 0]) ?_ 1 _ rfl;(with_reducible repeat refine bu ?_);refine blk_put (cs:=#[.int .i64 0,.int .i64 0]) ?_ 0 _ rfl;(with_reducible repeat refine bu ?_);exact BK426.out) hb);replace HB:=hbS HB hb;(try clear hb);(try clear hk);have:=bcell BK418 0;have:=bcell BK418 1;have:=bfz BK418 0;have:=bfz BK418 1))
     refine bodyPost_ret (results_ct rfl _ _ gb418 34 #[.int .i64 0,.int .i64 0] (0,0) _ rfl (by (with_reducible repeat refine bu ?_);refine blk_put (cs:=#[.int .i64 0,.int .i64 0]) ?_ 1 _ rfl;(with_reducible repeat refine bu ?_);refine blk_put (cs:=#[.int .i64 0,.int .i64 0]) ?_ 0 _ rfl;(with_reducible repeat refine bu ?_);exact BK418.out) Tryz.underlying34 rfl (by kernel_rfl)) rfl ?_
     exact ⟨fi_,m2_⟩
   ·rw [if_neg c6] at H
    exact absurd H (by simp)
  ·rw [if_neg c4] at H
   exact absurd H (by simp)
 ·rw [if_neg c3] at H
  have c3b0 : ((t419.length : Int) == 2) = false:=beq_eq_false_iff_ne.mpr c3
  have c3b1 : ((t419.length : Int) != 2) = true:=bne_iff_ne.mpr c3
  simp only [Option.some.injEq,Prod.mk.injEq] at H
  obtain ⟨rfl,rfl,rfl⟩:=H
  go_enter Tryz.func107,Tryz.ntmps107
  go_wp2_with (first | ((with_reducible refine gD 2 rfl ?_);refine box_event rfl (N:=2) rfl (cs:=#[.int .i64 0,.int .i64 0]) (t:=34) hr_ ?_;intro gb418 hg w39 hbox hb;have BK418:=am hbox;have GW418:=gwE HB hg;have GE418:=gwE HB hg;replace HB:=hbS HB hb;clear hb hbox hg) | ((with_reducible refine gC 119 rfl ?_);refine gL (some 7) Tryz.func119 #[.string a0] ?_;(with_reducible refine (spec_l1Words.calls k a0 t419 _ A2.out).mono ?_);rintro e w40 ⟨v420,rfl,ho0,hb⟩;refine ⟨_,rfl,?_⟩;have HO421:=am (Kd.R_lower ho0 (below_size (bl HB)));replace BK418:=bkB BK418 hb;replace HB:=hbS HB hb;(try clear hb);(try clear ho0);obtain ⟨Ao41,co41,eo41⟩:=Kd.R_slice HO421.out;subst eo41;have:=bcell BK418 0;have:=bcell BK418 1;have:=bfz BK418 0;have:=bfz BK418 1))
  refine bodyPost_ret (results_ct rfl _ _ gb418 34 #[.int .i64 0,.int .i64 0] (0,0) _ rfl (by (with_reducible repeat refine bu ?_);refine blk_put (cs:=#[.int .i64 0,.int .i64 0]) ?_ 1 _ rfl;(with_reducible repeat refine bu ?_);refine blk_put (cs:=#[.int .i64 0,.int .i64 0]) ?_ 0 _ rfl;(with_reducible repeat refine bu ?_);exact BK418.out) Tryz.underlying34 rfl (by kernel_rfl)) rfl ?_
  exact ⟨fi_,m2_⟩
def spec_LinSays.j0 : Nat → ByteArray → Bool → Option (Int × Int × Bool)
 | 0,_,_=>none
 | k + 1,x0,x13=>if x13 = true then (some (0,0,false)) else (if 5 ≤ (x0.size : Int) then ((spec_EndRead.f k (x0.extract 5 x0.size)).bind fun bt429=>(if bt429.2.2 = true then ((spec_EndInside.f bt429.1 bt429.2.1).bind fun t433=>(if t433 = true then (some (bt429.1,bt429.2.1,true)) else (some (0,0,false)))) else (some (0,0,false)))) else (none))
def spec_LinSays.f (k : Nat) (a0 : ByteArray) : Option (Int × Int × Bool):=if (a0.size : Int) < 5 then (spec_LinSays.j0 k a0 true) else (if 0 ≤ 5 then (if 5 ≤ (a0.size : Int) then (spec_LinSays.j0 k a0 ((a0.extract 0 5).toList != ([112,111,114,116,32] : List UInt8))) else (none)) else (none))
theorem spec_LinSays.mono_l : ∀ k,(∀ y0 y1,LeO (spec_LinSays.j0 k y0 y1) (spec_LinSays.j0 (k + 1) y0 y1))
 | 0=>fun _ _ r h=>by simp [spec_LinSays.j0] at h
 | k + 1=>by
  have ih0:=spec_LinSays.mono_l k
  ·intro y0 y1
   unfold spec_LinSays.j0
   repeat' first | (with_reducible first | exact ih0 _ _ | exact spec_EndRead.mono _ _ | exact LeO.refl _ | exact LeO.none _ | refine LeO.ite ?_ ?_ | refine LeO.bind ?_ (fun _=>?_)) | exact ih0 _ _ | exact spec_EndRead.mono _ _ | exact LeO.none _ | refine LeO.ite ?_ ?_ | refine LeO.bind ?_ (fun _=>?_)
theorem spec_LinSays.mono : ∀ a0 k,LeO (spec_LinSays.f k a0) (spec_LinSays.f (k + 1) a0):=by
 intro a0 k
 have ih0:=spec_LinSays.mono_l k
 unfold spec_LinSays.f
 repeat' first | (with_reducible first | exact ih0 _ _ | exact spec_EndRead.mono _ _ | exact LeO.refl _ | exact LeO.none _ | refine LeO.ite ?_ ?_ | refine LeO.bind ?_ (fun _=>?_)) | exact ih0 _ _ | exact spec_EndRead.mono _ _ | exact LeO.none _ | refine LeO.ite ?_ ?_ | refine LeO.bind ?_ (fun _=>?_)
set_option maxHeartbeats 8000000 in
set_option maxRecDepth 100000 in
theorem spec_LinSays.calls (k : Nat) (a0 : ByteArray) (r1 : Int) (r2 : Int) (r3 : Bool) (w : World) (h : spec_LinSays.f k a0 = some (r1,r2,r3)) :
  Calls Tryz.prog 79 #[.string a0] w fun e w'=>e = .returned (.tuple #[.agg #[.int .i64 r1,.int .i64 r2],.bool r3]) ∧ Below w.heap.size w w':=by
 have hu34:=Tryz.underlying34
 have HB:=am (Below.refl w.heap.size w)
 have H : (if (a0.size : Int) < 5 then (spec_LinSays.j0 k a0 true) else (if 0 ≤ 5 then (if 5 ≤ (a0.size : Int) then (spec_LinSays.j0 k a0 ((a0.extract 0 5).toList != ([112,111,114,116,32] : List UInt8))) else (none)) else (none))) = some (r1,r2,r3):=h
 clear h
 have HC2:=am H
 clear H
 go_enter Tryz.func79,Tryz.ntmps79
 go_upto_region 1 with (first | ((with_reducible refine gD 2 rfl ?_);refine box_event rfl (N:=2) rfl (cs:=#[.int .i64 0,.int .i64 0]) (t:=34) hr_ ?_;intro gb428 hg w3 hbox hb;have BK428:=am hbox;have GW428:=gwE HB hg;have GE428:=gwE HB hg;replace HB:=hbS HB hb;clear hb hbox hg))
 (try simp only [Act.put,List.setIfInBounds_toArray,List.set_cons_zero,List.set_cons_succ])
 go_cut [13] (fun v13 wc=>∃ (kq : Nat) (x13_1 : Bool),v13 = .bool x13_1 ∧ Aside0 (spec_LinSays.j0 kq a0 x13_1 = some (r1,r2,r3)) ∧ Aside0 (kq ≤ k) ∧ Aside0 (wc.heap[gb428]? = some (.cells #[.int .i64 0,.int .i64 0] 34 (0,0))) ∧ Aside0 (Below w.heap.size w wc))
 case first=>
  have H:=HC2.out
  clear HC2
  by_cases c4 : (a0.size : Int) < 5
  ·rw [if_pos c4] at H
   have c4b0 : decide ((a0.size : Int) < 5) = true:=decide_eq_true c4
   have c4b1 : decide (a0.size < 5) = true:=decide_eq_true (by omega)
   clear c4
   (first | rw [c4b0] | (simp only [i64_w,i32_w];rw [c4b0]) | skip)
   have H':=am H
   clear H
   go_wp2
   go_meet
   case rel=>exact ⟨_,(true),rs_,H',⟨by first | omega | exact Nat.le_refl _⟩,⟨bk BK428⟩,⟨m2_⟩⟩
  ·rw [if_neg c4] at H
   have c4b0 : decide ((a0.size : Int) < 5) = false:=decide_eq_false c4
   have c4b1 : decide (a0.size < 5) = false:=decide_eq_false (by omega)
   clear c4
   (first | rw [c4b0] | (simp only [i64_w,i32_w];rw [c4b0]) | skip)
   by_cases c5 : 0 ≤ 5
   ·rw [if_pos c5] at H
    have c5b0:=eq_true c5
    have c5b1 : decide (0 ≤ 5) = true:=decide_eq_true c5
    clear c5
    by_cases c6 : 5 ≤ (a0.size : Int)
    ·rw [if_pos c6] at H
     have c6b0:=eq_true c6
     have c6b1 : decide (5 ≤ (a0.size : Int)) = true:=decide_eq_true c6
     clear c6
     have H':=am H
     clear H
     go_wp2
     go_meet
     case rel=>exact ⟨_,(((a0.extract 0 5).toList != ([112,111,114,116,32] : List UInt8))),rs_,H',⟨by first | omega | exact Nat.le_refl _⟩,⟨bk BK428⟩,⟨m2_⟩⟩
    ·rw [if_neg c6] at H
     exact absurd H (by simp)
   ·rw [if_neg c5] at H
    exact absurd H (by simp)
 case rest=>
  clear HC2
  try clear p2
  try clear c4
  try clear c4b0
  try clear c4b1
  try clear c5
  try clear c5b0
  try clear c5b1
  try clear c6
  try clear c6b0
  try clear c6b1
  obtain ⟨kq,x13_1,rfl,HA,HJ1,BK428,HB⟩:=hcut
  cases kq with
  | zero=>exact absurd HA.out (by simp [spec_LinSays.j0])
  | succ kj1=>
   have H:=HA.out
   clear HA
   simp only [spec_LinSays.j0] at H
   by_cases c7 : x13_1 = true
   ·subst c7
    have H1 : (some (0,0,false)) = some (r1,r2,r3):=by rw [if_pos rfl] at H;exact H
    clear H
    have H:=H1
    clear H1
    simp only [Option.some.injEq,Prod.mk.injEq] at H
    obtain ⟨rfl,rfl,rfl⟩:=H
    have:=bcell BK428 0
    have:=bcell BK428 1
    have:=bfz BK428 0
    have:=bfz BK428 1
    go_wp2
    refine bodyPost_ret (results_ct rfl _ _ gb428 34 #[.int .i64 0,.int .i64 0] (0,0) _ rfl (by (with_reducible repeat refine bu ?_);refine blk_put (cs:=#[.int .i64 0,.int .i64 0]) ?_ 1 _ rfl;(with_reducible repeat refine bu ?_);refine blk_put (cs:=#[.int .i64 0,.int .i64 0]) ?_ 0 _ rfl;(with_reducible repeat refine bu ?_);exact BK428.out) Tryz.underlying34 rfl (by kernel_rfl)) rfl ?_
    exact ⟨fi_,m2_⟩
   ·replace c7:=Bool.eq_false_iff.mpr c7
    subst c7
    have H1 : (if 5 ≤ (a0.size : Int) then ((spec_EndRead.f kj1 (a0.extract 5 a0.size)).bind fun bt429=>(if bt429.2.2 = true then ((spec_EndInside.f bt429.1 bt429.2.1).bind fun t433=>(if t433 = true then (some (bt429.1,bt429.2.1,true)) else (some (0,0,false)))) else (some (0,0,false)))) else (none)) = some (r1,r2,r3):=by rw [if_neg (show ¬ (false = true) by decide)] at H;exact H
    clear H
    have H:=H1
    clear H1
    by_cases c9 : 5 ≤ (a0.size : Int)
    ·rw [if_pos c9] at H
     have c9b0:=eq_true c9
     have c9b1 : decide (5 ≤ (a0.size : Int)) = true:=decide_eq_true c9
     clear c9
     obtain ⟨⟨t429,t430,t431⟩,A10,H⟩:=bse H
     try dsimp only at H
     by_cases c11 : t431 = true
     ·subst c11
      have H1 : ((spec_EndInside.f t429 t430).bind fun t433=>(if t433 = true then (some (t429,t430,true)) else (some (0,0,false)))) = some (r1,r2,r3):=by rw [if_pos rfl] at H;exact H
      clear H
      have H:=H1
      clear H1
      obtain ⟨t433,A12,H⟩:=bse H
      try dsimp only at H
      by_cases c13 : t433 = true
      ·subst c13
       have H1 : (some (t429,t430,true)) = some (r1,r2,r3):=by rw [if_pos rfl] at H;exact H
       clear H
       have H:=H1
       clear H1
       simp only [Option.some.injEq,Prod.mk.injEq] at H
       obtain ⟨rfl,rfl,rfl⟩:=H
       go_wp2_with (first | ((with_reducible refine gC 107 rfl ?_);refine gL (some 18) Tryz.func107 #[.string (a0.extract 5 a0.size)] ?_;(with_reducible refine (spec_EndRead.calls kj1 (a0.extract 5 a0.size) t429 t430 true _ A10.out).mono ?_);rintro e w14 ⟨rfl,hb⟩;refine ⟨_,rfl,?_⟩;replace BK428:=bkB BK428 hb;replace HB:=hbS HB hb;(try clear hb)) | ((with_reducible refine gD 4 rfl ?_);refine box_event rfl (N:=4) rfl (cs:=#[.int .i64 0,.int .i64 0]) (t:=34) hr_ ?_;intro gb432 hg w15 hbox hb;have BK432:=am hbox;have GW432:=gwE HB hg;have GE432:=gwE HB hg;replace HB:=hbS HB hb;have NB428_432:=neL BK428 hg;have NB432_428:=neG BK428 hg;replace BK428:=bkB BK428 hb;clear hb hbox hg;have:=NB432_428.out;have:=NB428_432.out;have:=bcell BK432 0;have:=bcell BK432 1;have:=bfz BK432 0;have:=bfz BK432 1) | (go_at_call 48;(with_reducible refine (spec_EndInside.calls t429 t430 true _ A12.out).mono ?_);rintro e w18 ⟨rfl,hb⟩;replace BK428:=am (blk_below (g:=gb428) (o:=.cells #[.int .i64 0,.int .i64 0] 34 (0,0)) (by (with_reducible repeat refine bu ?_);refine blk_far ?_ NB428_432.out _;(with_reducible repeat refine bu ?_);refine blk_far ?_ NB428_432.out _;(with_reducible repeat refine bu ?_);exact BK428.out) hb);replace BK432:=am (blk_below (g:=gb432) (o:=.cells #[.int .i64 t429,.int .i64 t430] 34 (0,0)) (by (with_reducible repeat refine bu ?_);refine blk_put (cs:=#[.int .i64 t429,.int .i64 0]) ?_ 1 _ rfl;(with_reducible repeat refine bu ?_);refine blk_put (cs:=#[.int .i64 0,.int .i64 0]) ?_ 0 _ rfl;(with_reducible repeat refine bu ?_);exact BK432.out) hb);replace HB:=hbS HB hb;(try clear hb);have:=bcell BK432 0;have:=bcell BK432 1;have:=bfz BK432 0;have:=bfz BK432 1;have:=bcell BK428 0;have:=bcell BK428 1;have:=bfz BK428 0;have:=bfz BK428 1))
       refine bodyPost_ret (results_ct rfl _ _ gb428 34 #[.int .i64 t429,.int .i64 t430] (0,0) _ rfl (by (with_reducible repeat refine bu ?_);refine blk_put (cs:=#[.int .i64 t429,.int .i64 0]) ?_ 1 _ rfl;(with_reducible repeat refine bu ?_);refine blk_put (cs:=#[.int .i64 0,.int .i64 0]) ?_ 0 _ rfl;(with_reducible repeat refine bu ?_);exact BK428.out) Tryz.underlying34 rfl (by kernel_rfl)) rfl ?_
       exact ⟨fi_,m2_⟩
      ·replace c13:=Bool.eq_false_iff.mpr c13
       subst c13
       have H1 : (some (0,0,false)) = some (r1,r2,r3):=by rw [if_neg (show ¬ (false = true) by decide)] at H;exact H
       clear H
       have H:=H1
       clear H1
       simp only [Option.some.injEq,Prod.mk.injEq] at H
       obtain ⟨rfl,rfl,rfl⟩:=H
       go_wp2_with (first | ((with_reducible refine gC 107 rfl ?_);refine gL (some 18) Tryz.func107 #[.string (a0.extract 5 a0.size)] ?_;(with_reducible refine (spec_EndRead.calls kj1 (a0.extract 5 a0.size) t429 t430 true _ A10.out).mono ?_);rintro e w21 ⟨rfl,hb⟩;refine ⟨_,rfl,?_⟩;replace BK428:=bkB BK428 hb;replace HB:=hbS HB hb;(try clear hb)) | ((with_reducible refine gD 4 rfl ?_);refine box_event rfl (N:=4) rfl (cs:=#[.int .i64 0,.int .i64 0]) (t:=34) hr_ ?_;intro gb432 hg w22 hbox hb;have BK432:=am hbox;have GW432:=gwE HB hg;have GE432:=gwE HB hg;replace HB:=hbS HB hb;have NB428_432:=neL BK428 hg;have NB432_428:=neG BK428 hg;replace BK428:=bkB BK428 hb;clear hb hbox hg;have:=NB432_428.out;have:=NB428_432.out;have:=bcell BK432 0;have:=bcell BK432 1;have:=bfz BK432 0;have:=bfz BK432 1) | (go_at_call 48;(with_reducible refine (spec_EndInside.calls t429 t430 false _ A12.out).mono ?_);rintro e w25 ⟨rfl,hb⟩;replace BK428:=am (blk_below (g:=gb428) (o:=.cells #[.int .i64 0,.int .i64 0] 34 (0,0)) (by (with_reducible repeat refine bu ?_);refine blk_far ?_ NB428_432.out _;(with_reducible repeat refine bu ?_);refine blk_far ?_ NB428_432.out _;(with_reducible repeat refine bu ?_);exact BK428.out) hb);replace BK432:=am (blk_below (g:=gb432) (o:=.cells #[.int .i64 t429,.int .i64 t430] 34 (0,0)) (by (with_reducible repeat refine bu ?_);refine blk_put (cs:=#[.int .i64 t429,.int .i64 0]) ?_ 1 _ rfl;(with_reducible repeat refine bu ?_);refine blk_put (cs:=#[.int .i64 0,.int .i64 0]) ?_ 0 _ rfl;(with_reducible repeat refine bu ?_);exact BK432.out) hb);replace HB:=hbS HB hb;(try clear hb);have:=bcell BK428 0;have:=bcell BK428 1;have:=bfz BK428 0;have:=bfz BK428 1))
       refine bodyPost_ret (results_ct rfl _ _ gb428 34 #[.int .i64 0,.int .i64 0] (0,0) _ rfl (by (with_reducible repeat refine bu ?_);refine blk_put (cs:=#[.int .i64 0,.int .i64 0]) ?_ 1 _ rfl;(with_reducible repeat refine bu ?_);refine blk_put (cs:=#[.int .i64 0,.int .i64 0]) ?_ 0 _ rfl;(with_reducible repeat refine bu ?_);exact BK428.out) Tryz.underlying34 rfl (by kernel_rfl)) rfl ?_
       exact ⟨fi_,m2_⟩
     ·replace c11:=Bool.eq_false_iff.mpr c11
      subst c11
      have H1 : (some (0,0,false)) = some (r1,r2,r3):=by rw [if_neg (show ¬ (false = true) by decide)] at H;exact H
      clear H
      have H:=H1
      clear H1
      simp only [Option.some.injEq,Prod.mk.injEq] at H
      obtain ⟨rfl,rfl,rfl⟩:=H
      go_wp2_with (first | ((with_reducible refine gC 107 rfl ?_);refine gL (some 18) Tryz.func107 #[.string (a0.extract 5 a0.size)] ?_;(with_reducible refine (spec_EndRead.calls kj1 (a0.extract 5 a0.size) t429 t430 false _ A10.out).mono ?_);rintro e w27 ⟨rfl,hb⟩;refine ⟨_,rfl,?_⟩;replace BK428:=bkB BK428 hb;replace HB:=hbS HB hb;(try clear hb)) | ((with_reducible refine gD 4 rfl ?_);refine box_event rfl (N:=4) rfl (cs:=#[.int .i64 0,.int .i64 0]) (t:=34) hr_ ?_;intro gb432 hg w28 hbox hb;have BK432:=am hbox;have GW432:=gwE HB hg;have GE432:=gwE HB hg;replace HB:=hbS HB hb;have NB428_432:=neL BK428 hg;have NB432_428:=neG BK428 hg;replace BK428:=bkB BK428 hb;clear hb hbox hg;have:=NB432_428.out;have:=NB428_432.out;have:=bcell BK432 0;have:=bcell BK432 1;have:=bfz BK432 0;have:=bfz BK432 1;have:=bcell BK428 0;have:=bcell BK428 1;have:=bfz BK428 0;have:=bfz BK428 1))
      refine bodyPost_ret (results_ct rfl _ _ gb428 34 #[.int .i64 0,.int .i64 0] (0,0) _ rfl (by (with_reducible repeat refine bu ?_);refine blk_put (cs:=#[.int .i64 0,.int .i64 0]) ?_ 1 _ rfl;(with_reducible repeat refine bu ?_);refine blk_put (cs:=#[.int .i64 0,.int .i64 0]) ?_ 0 _ rfl;(with_reducible repeat refine bu ?_);refine blk_far ?_ NB428_432.out _;(with_reducible repeat refine bu ?_);refine blk_far ?_ NB428_432.out _;(with_reducible repeat refine bu ?_);exact BK428.out) Tryz.underlying34 rfl (by kernel_rfl)) rfl ?_
      exact ⟨fi_,m2_⟩
    ·rw [if_neg c9] at H
     exact absurd H (by simp)
def spec_l3Line.f (k : Nat) (l0_0 : List (S34)) (a1 : ByteArray) : Option ((List (S34)) × ByteArray):=(spec_LinSays.f k a1).bind fun bt436=>(if bt436.2.2 = true then ((spec_l3Put.f k l0_0 bt436.1 bt436.2.1).bind fun bt440=>(if bt440.2 = 0 then (some (bt440.1,(⟨#[110,111,110,101]⟩ : ByteArray))) else ((spec_LinPort.f k 50 bt440.2).bind fun t445=>(some (bt440.1,t445))))) else (some (l0_0,a1)))
theorem spec_l3Line.mono : ∀ a0 a1 k,LeO (spec_l3Line.f k a0 a1) (spec_l3Line.f (k + 1) a0 a1):=by
 intro a0 a1 k
 unfold spec_l3Line.f
 repeat' first | (with_reducible first | exact spec_LinPort.mono _ _ _ | exact spec_LinSays.mono _ _ | exact spec_l3Put.mono _ _ _ _ | exact LeO.refl _ | exact LeO.none _ | refine LeO.ite ?_ ?_ | refine LeO.bind ?_ (fun _=>?_)) | exact spec_LinPort.mono _ _ _ | exact spec_LinSays.mono _ _ | exact spec_l3Put.mono _ _ _ _ | exact LeO.none _ | refine LeO.ite ?_ ?_ | refine LeO.bind ?_ (fun _=>?_)
set_option maxHeartbeats 8000000 in
set_option maxRecDepth 100000 in
theorem spec_l3Line.calls (k : Nat) (P0_0_ : Nat → Prop) (u9000_ : Value) (l0_0 : List (S34)) (a1 : ByteArray) (r1 : List (S34)) (r2 : ByteArray) (w0 w : World) (hB : Below w0.heap.size w0 w) (ho0_0 : Kd.R k34 34 w w0.heap.size P0_0_ u9000_ l0_0) (h : spec_l3Line.f k l0_0 a1 = some (r1,r2)) :
  Calls Tryz.prog 46 #[.agg #[u9000_],.string a1] w fun e w'=>∃ v0_ : Value,e = .returned (.tuple #[.agg #[v0_],.string r2]) ∧ Kd.R k34 34 w' w0.heap.size (fun k_=>(P0_0_ k_ ∨ w.heap.size ≤ k_)) v0_ r1 ∧ Below w0.heap.size w0 w' ∧ Kept w w' (fun k_=>P0_0_ k_):=by
 have hu25:=Tryz.underlying25
 have hu34:=Tryz.underlying34
 have HO0_0:=am (show Kd.R k34 34 w w0.heap.size (fun k_=>(P0_0_ k_ ∨ w.heap.size ≤ k_)) u9000_ l0_0 from Kd.R_mono ho0_0 (fun k_ hk=>(.inl hk)))
 have HK:=am (Kept.refl w (fun k_=>P0_0_ k_))
 have HW0:=am hB.size
 have HB:=am hB
 clear hB
 have H : ((spec_LinSays.f k a1).bind fun bt436=>(if bt436.2.2 = true then ((spec_l3Put.f k l0_0 bt436.1 bt436.2.1).bind fun bt440=>(if bt440.2 = 0 then (some (bt440.1,(⟨#[110,111,110,101]⟩ : ByteArray))) else ((spec_LinPort.f k 50 bt440.2).bind fun t445=>(some (bt440.1,t445))))) else (some (l0_0,a1)))) = some (r1,r2):=h
 clear h
 obtain ⟨⟨t436,t437,t438⟩,A3,H⟩:=bse H
 try dsimp only at H
 by_cases c4 : t438 = true
 ·subst c4
  have H1 : ((spec_l3Put.f k l0_0 t436 t437).bind fun bt440=>(if bt440.2 = 0 then (some (bt440.1,(⟨#[110,111,110,101]⟩ : ByteArray))) else ((spec_LinPort.f k 50 bt440.2).bind fun t445=>(some (bt440.1,t445))))) = some (r1,r2):=by rw [if_pos rfl] at H;exact H
  clear H
  have H:=H1
  clear H1
  obtain ⟨⟨t440,t443⟩,A5,H⟩:=bse H
  try dsimp only at H
  by_cases c6 : t443 = 0
  ·rw [if_pos c6] at H
   have c6b0 : (t443 == 0) = true:=beq_iff_eq.mpr c6
   have c6b1 : (t443 != 0) = false:=bne_eq_false_iff_eq.mpr c6
   clear c6
   simp only [Option.some.injEq,Prod.mk.injEq] at H
   obtain ⟨rfl,rfl⟩:=H
   obtain ⟨Ao7,co7,eo7⟩:=Kd.R_slice HO0_0.out
   subst eo7
   go_enter Tryz.func46,Tryz.ntmps46
   go_wp2_with (first | ((with_reducible refine gD 2 rfl ?_);refine box_event rfl (N:=2) rfl (cs:=#[.slice Ao7 l0_0.length co7]) (t:=25) hr_ ?_;intro gb434 hg w8 hbox hb;replace HO0_0:=am (Kd.R_below (rs HO0_0) hb);have BK434:=am hbox;have GW434:=am ((by rw [hg];exact (by first | exact HK.out.1 | exact (show Kept w _ (fun k_=>P0_0_ k_) from m15_).1) : w.heap.size ≤ gb434));replace HK:=am (Kept.below (S:=(fun k_=>P0_0_ k_)) m15_ hb);have GE434:=gwE HB hg;replace HB:=hbS HB hb;clear hb hbox hg) | ((with_reducible refine gD 4 rfl ?_);refine box_event rfl (N:=4) rfl (cs:=#[.slice none 0 0]) (t:=25) hr_ ?_;intro gb435 hg w9 hbox hb;replace HO0_0:=am (Kd.R_below (rs HO0_0) hb);have BK435:=am hbox;have GW435:=am ((by rw [hg];exact (by first | exact HK.out.1 | exact (show Kept w _ (fun k_=>P0_0_ k_) from m16_).1) : w.heap.size ≤ gb435));replace HK:=am (Kept.below (S:=(fun k_=>P0_0_ k_)) m16_ hb);have GE435:=gwE HB hg;replace HB:=hbS HB hb;have NB434_435:=neL BK434 hg;have NB435_434:=neG BK434 hg;replace BK434:=bkB BK434 hb;clear hb hbox hg) | ((with_reducible refine gC 79 rfl ?_);refine gL (some 12) Tryz.func79 #[.string a1] ?_;(with_reducible refine (spec_LinSays.calls k a1 t436 t437 true _ A3.out).mono ?_);rintro e w10 ⟨rfl,hb⟩;refine ⟨_,rfl,?_⟩;replace HO0_0:=am (Kd.R_below (rs HO0_0) hb);replace BK434:=bkB BK434 hb;replace BK435:=bkB BK435 hb;replace HK:=am (Kept.below (S:=(fun k_=>P0_0_ k_)) m16_ hb);replace HB:=hbS HB hb;(try clear hb)) | ((with_reducible refine gD 6 rfl ?_);refine box_event rfl (N:=6) rfl (cs:=#[.int .i64 0,.int .i64 0]) (t:=34) hr_ ?_;intro gb439 hg w11 hbox hb;replace HO0_0:=am (Kd.R_below (Kd.R_elderB (rs HO0_0) gb439 (Nat.le_of_eq hg.symm)) hb);have BK439:=am hbox;have GW439:=am ((by rw [hg];exact (by first | exact HK.out.1 | exact (show Kept w _ (fun k_=>P0_0_ k_) from m16_).1) : w.heap.size ≤ gb439));replace HK:=am (Kept.below (S:=(fun k_=>P0_0_ k_)) m16_ hb);have GE439:=gwE HB hg;replace HB:=hbS HB hb;have NB434_439:=neL BK434 hg;have NB439_434:=neG BK434 hg;replace BK434:=bkB BK434 hb;have NB435_439:=neL BK435 hg;have NB439_435:=neG BK435 hg;replace BK435:=bkB BK435 hb;clear hb hbox hg;have:=NB439_434.out;have:=NB434_439.out;have:=NB439_435.out;have:=NB435_439.out;have:=bcell BK439 0;have:=bcell BK439 1;have:=bfz BK439 0;have:=bfz BK439 1) | ((with_reducible refine gate_store (t:=34) (p:=6) rfl ?_);refine store_event (t:=34) (p:=6) (v:=?vo_w15) (w1:=((w11.setCell ⟨gb439,0,none⟩ (.int .i64 t436)).setCell ⟨gb439,1,none⟩ (.int .i64 t437))) ?hg ?ho ?hn ?hr ?_;(case ho=>rfl);(case hg=>rfl);(case hn=>rfl);(case hr=>first | (go_simp;done) | (go_simp;rfl));intro w15 hw;have n0_ : Aside0 (Kd.R k34 34 w15 w0.heap.size (fun k_=>(P0_0_ k_ ∨ w.heap.size ≤ k_) ∧ k_ ≠ gb439) (.slice Ao7 l0_0.length co7) l0_0):=⟨(by rw [hw];exact (by (with_reducible repeat apply ru);exact Kd.R_mono (Kd.R_far (p:=⟨gb439,1,none⟩) (Kd.R_far (p:=⟨gb439,0,none⟩) (Kd.R_mono HO0_0.out (fun k_ hk=>(⟨hk,hk.2⟩ : _ ∧ k_ ≠ gb439))) (fun _ hk=>hk.2) (.int .i64 t436)) (fun _ hk=>hk.2) (.int .i64 t437)) ok_))⟩;have n1_ : Aside0 (w15.heap[gb434]? = some (.cells #[.slice Ao7 l0_0.length co7] 25 (0,0))):=⟨(by rw [hw];exact (by (with_reducible repeat refine bu ?_);refine blk_far ?_ NB434_439.out _;(with_reducible repeat refine bu ?_);refine blk_far ?_ NB434_439.out _;(with_reducible repeat refine bu ?_);exact BK434.out))⟩;have n2_ : Aside0 (w15.heap[gb435]? = some (.cells #[.slice none 0 0] 25 (0,0))):=⟨(by rw [hw];exact (by (with_reducible repeat refine bu ?_);refine blk_far ?_ NB435_439.out _;(with_reducible repeat refine bu ?_);refine blk_far ?_ NB435_439.out _;(with_reducible repeat refine bu ?_);exact BK435.out))⟩;have n3_ : Aside0 (w15.heap[gb439]? = some (.cells #[.int .i64 t436,.int .i64 t437] 34 (0,0))):=⟨(by rw [hw];exact (by (with_reducible repeat refine bu ?_);refine blk_put (cs:=#[.int .i64 t436,.int .i64 0]) ?_ 1 _ rfl;(with_reducible repeat refine bu ?_);refine blk_put (cs:=#[.int .i64 0,.int .i64 0]) ?_ 0 _ rfl;(with_reducible repeat refine bu ?_);exact BK439.out))⟩;have n4_ : Aside0 (Kept w w15 (fun k_=>P0_0_ k_)):=⟨(by rw [hw];exact m16_)⟩;have n5_ : Aside0 (Below w0.heap.size w0 w15):=⟨(by rw [hw];exact (bl HB))⟩;clear hw;clear HO0_0;clear BK434;clear BK435;clear BK439;clear HK;clear HB;have HO0_0:=n0_;have BK434:=n1_;have BK435:=n2_;have BK439:=n3_;have HK:=n4_;have HB:=n5_;clear n0_ n1_ n2_ n3_ n4_ n5_;have:=NB434_435.out;have:=NB435_434.out;have:=bcell BK434 0;have:=bfz BK434 0;have:=bcell BK439 0;have:=bcell BK439 1;have:=bfz BK439 0;have:=bfz BK439 1) | ((with_reducible refine gC 80 rfl ?_);refine gL (some 22) Tryz.func80 #[.agg #[.slice Ao7 l0_0.length co7],.agg #[.int .i64 t436,.int .i64 t437]] ?_;(with_reducible refine (spec_l3Put.calls k (fun k_=>some k_ = (.slice Ao7 l0_0.length co7 : Value).ownBlock) (.slice Ao7 l0_0.length co7) l0_0 t436 t437 t440 t443 w0 _ ?side1 ?side2 A5.out).mono ?_);(case side1=>exact m2_);(case side2=>exact Kd.R_tight rfl HO0_0.out);rintro e w19 ⟨v441,rfl,ho0,hb,hkp⟩;refine ⟨_,rfl,?_⟩;replace BK434:=am (blk_kept (bk BK434) hkp (fun hs_=>(fun e_=>(Kd.R_ne HO0_0.out BK434.out (by decide)) e_) hs_));replace BK435:=am (blk_kept (bk BK435) hkp (fun hs_=>(fun e_=>(Kd.R_ne HO0_0.out BK435.out (by decide)) e_) hs_));have HO442:=am (Kd.R_mono (ok':=fun k_=>(P0_0_ k_ ∨ w.heap.size ≤ k_) ∧ k_ ≠ gb439) ho0 (fun k_ hk_=>⟨Or.elim hk_ (fun hs_=>(HO0_0.out.1 k_ (hs_).symm).1) (fun hn_=>(.inr (Nat.le_trans (by first | exact HK.out.1 | exact (show Kept w _ (fun k_=>P0_0_ k_) from m16_).1) hn_))),Or.elim hk_ (fun hs_=>fun e_=>(Kd.R_away HO0_0.out (fun _ hk=>hk.2)) (by rw [← e_];exact hs_)) (fun hn_=>(Kd.freshB (g:=gb439) (o:=.cells #[.int .i64 t436,.int .i64 t437] 34 (0,0)) (bk BK439) k_ hn_))⟩));replace BK439:=am (blk_kept (bk BK439) hkp (fun hs_=>(fun e_=>(Kd.R_away HO0_0.out (fun _ hk=>hk.2)) e_) hs_));replace HK:=am (Kept.then_ (S:=(fun k_=>P0_0_ k_)) m16_ hkp (fun k_ hs_=>(fun e_=>(HO0_0.out.1 k_ e_.symm).1) hs_));replace HB:=am hb;clear HO0_0;(try clear hb);(try clear hkp);(try clear ho0)) | ((with_reducible refine gD 8 rfl ?_);refine box_event rfl (N:=8) rfl (cs:=#[.slice none 0 0]) (t:=25) hr_ ?_;intro gb444 hg w20 hbox hb;replace HO442:=am (Kd.R_below (rs HO442) hb);have BK444:=am hbox;have GW444:=am ((by rw [hg];exact (by first | exact HK.out.1 | exact (show Kept w _ (fun k_=>P0_0_ k_) from m16_).1) : w.heap.size ≤ gb444));replace HK:=am (Kept.below (S:=(fun k_=>P0_0_ k_)) m16_ hb);have GE444:=gwE HB hg;replace HB:=hbS HB hb;have NB434_444:=neL BK434 hg;have NB444_434:=neG BK434 hg;replace BK434:=bkB BK434 hb;have NB435_444:=neL BK435 hg;have NB444_435:=neG BK435 hg;replace BK435:=bkB BK435 hb;have NB439_444:=neL BK439 hg;have NB444_439:=neG BK439 hg;replace BK439:=bkB BK439 hb;clear hb hbox hg;obtain ⟨Ao21,co21,eo21⟩:=Kd.R_slice HO442.out;subst eo21;have:=NB444_434.out;have:=NB434_444.out;have:=NB444_435.out;have:=NB435_444.out;have:=NB444_439.out;have:=NB439_444.out;have:=bcell BK444 0;have:=bfz BK444 0;have:=bcell BK435 0;have:=bfz BK435 0))
   refine bodyPost_ret (results_ct rfl _ _ gb435 25 #[.slice Ao21 t440.length co21] (0,0) _ rfl (by (with_reducible repeat refine bu ?_);refine blk_put (cs:=#[.slice none 0 0]) ?_ 0 _ rfl;(with_reducible repeat refine bu ?_);refine blk_far ?_ NB435_444.out _;(with_reducible repeat refine bu ?_);exact BK435.out) Tryz.underlying25 rfl (by kernel_rfl)) rfl ?_
   exact ⟨_,fi_,by (with_reducible repeat apply ru);exact Kd.R_mono (Kd.R_far (p:=⟨gb435,0,none⟩) (Kd.R_far (p:=⟨gb444,0,none⟩) (Kd.R_types (Kd.R_types HO442.out BK444.out (by decide)) BK435.out (by decide)) (fun _ hk=>hk.1.2) (.slice Ao21 t440.length co21)) (fun _ hk=>hk.2) (.slice Ao21 t440.length co21)) (fun _ hk=>hk.1.1.1),m2_,m16_⟩
  ·rw [if_neg c6] at H
   have c6b0 : (t443 == 0) = false:=beq_eq_false_iff_ne.mpr c6
   have c6b1 : (t443 != 0) = true:=bne_iff_ne.mpr c6
   obtain ⟨t445,A27,H⟩:=bse H
   try dsimp only at H
   simp only [Option.some.injEq,Prod.mk.injEq] at H
   obtain ⟨rfl,rfl⟩:=H
   obtain ⟨Ao28,co28,eo28⟩:=Kd.R_slice HO0_0.out
   subst eo28
   go_enter Tryz.func46,Tryz.ntmps46
   try go_wp2_with (first | ((with_reducible refine gD 2 rfl ?_);refine box_event rfl (N:=2) rfl (cs:=#[.slice Ao28 l0_0.length co28]) (t:=25) hr_ ?_;intro gb434 hg w29 hbox hb;replace HO0_0:=am (Kd.R_below (rs HO0_0) hb);have BK434:=am hbox;have GW434:=am ((by rw [hg];exact (by first | exact HK.out.1 | exact (show Kept w _ (fun k_=>P0_0_ k_) from m15_).1) : w.heap.size ≤ gb434));replace HK:=am (Kept.below (S:=(fun k_=>P0_0_ k_)) m15_ hb);have GE434:=gwE HB hg;replace HB:=hbS HB hb;clear hb hbox hg) | ((with_reducible refine gD 4 rfl ?_);refine box_event rfl (N:=4) rfl (cs:=#[.slice none 0 0]) (t:=25) hr_ ?_;intro gb435 hg w30 hbox hb;replace HO0_0:=am (Kd.R_below (rs HO0_0) hb);have BK435:=am hbox;have GW435:=am ((by rw [hg];exact (by first | exact HK.out.1 | exact (show Kept w _ (fun k_=>P0_0_ k_) from m16_).1) : w.heap.size ≤ gb435));replace HK:=am (Kept.below (S:=(fun k_=>P0_0_ k_)) m16_ hb);have GE435:=gwE HB hg;replace HB:=hbS HB hb;have NB434_435:=neL BK434 hg;have NB435_434:=neG BK434 hg;replace BK434:=bkB BK434 hb;clear hb hbox hg) | ((with_reducible refine gC 79 rfl ?_);refine gL (some 12) Tryz.func79 #[.string a1] ?_;(with_reducible refine (spec_LinSays.calls k a1 t436 t437 true _ A3.out).mono ?_);rintro e w31 ⟨rfl,hb⟩;refine ⟨_,rfl,?_⟩;replace HO0_0:=am (Kd.R_below (rs HO0_0) hb);replace BK434:=bkB BK434 hb;replace BK435:=bkB BK435 hb;replace HK:=am (Kept.below (S:=(fun k_=>P0_0_ k_)) m16_ hb);replace HB:=hbS HB hb;(try clear hb)) | ((with_reducible refine gD 6 rfl ?_);refine box_event rfl (N:=6) rfl (cs:=#[.int .i64 0,.int .i64 0]) (t:=34) hr_ ?_;intro gb439 hg w32 hbox hb;replace HO0_0:=am (Kd.R_below (Kd.R_elderB (rs HO0_0) gb439 (Nat.le_of_eq hg.symm)) hb);have BK439:=am hbox;have GW439:=am ((by rw [hg];exact (by first | exact HK.out.1 | exact (show Kept w _ (fun k_=>P0_0_ k_) from m16_).1) : w.heap.size ≤ gb439));replace HK:=am (Kept.below (S:=(fun k_=>P0_0_ k_)) m16_ hb);have GE439:=gwE HB hg;replace HB:=hbS HB hb;have NB434_439:=neL BK434 hg;have NB439_434:=neG BK434 hg;replace BK434:=bkB BK434 hb;have NB435_439:=neL BK435 hg;have NB439_435:=neG BK435 hg;replace BK435:=bkB BK435 hb;clear hb hbox hg;have:=NB439_434.out;have:=NB434_439.out;have:=NB439_435.out;have:=NB435_439.out;have:=bcell BK439 0;have:=bcell BK439 1;have:=bfz BK439 0;have:=bfz BK439 1) | ((with_reducible refine gate_store (t:=34) (p:=6) rfl ?_);refine store_event (t:=34) (p:=6) (v:=?vo_w36) (w1:=((w32.setCell ⟨gb439,0,none⟩ (.int .i64 t436)).setCell ⟨gb439,1,none⟩ (.int .i64 t437))) ?hg ?ho ?hn ?hr ?_;(case ho=>rfl);(case hg=>rfl);(case hn=>rfl);(case hr=>first | (go_simp;done) | (go_simp;rfl));intro w36 hw;have n0_ : Aside0 (Kd.R k34 34 w36 w0.heap.size (fun k_=>(P0_0_ k_ ∨ w.heap.size ≤ k_) ∧ k_ ≠ gb439) (.slice Ao28 l0_0.length co28) l0_0):=⟨(by rw [hw];exact (by (with_reducible repeat apply ru);exact Kd.R_mono (Kd.R_far (p:=⟨gb439,1,none⟩) (Kd.R_far (p:=⟨gb439,0,none⟩) (Kd.R_mono HO0_0.out (fun k_ hk=>(⟨hk,hk.2⟩ : _ ∧ k_ ≠ gb439))) (fun _ hk=>hk.2) (.int .i64 t436)) (fun _ hk=>hk.2) (.int .i64 t437)) ok_))⟩;have n1_ : Aside0 (w36.heap[gb434]? = some (.cells #[.slice Ao28 l0_0.length co28] 25 (0,0))):=⟨(by rw [hw];exact (by (with_reducible repeat refine bu ?_);refine blk_far ?_ NB434_439.out _;(with_reducible repeat refine bu ?_);refine blk_far ?_ NB434_439.out _;(with_reducible repeat refine bu ?_);exact BK434.out))⟩;have n2_ : Aside0 (w36.heap[gb435]? = some (.cells #[.slice none 0 0] 25 (0,0))):=⟨(by rw [hw];exact (by (with_reducible repeat refine bu ?_);refine blk_far ?_ NB435_439.out _;(with_reducible repeat refine bu ?_);refine blk_far ?_ NB435_439.out _;(with_reducible repeat refine bu ?_);exact BK435.out))⟩;have n3_ : Aside0 (w36.heap[gb439]? = some (.cells #[.int .i64 t436,.int .i64 t437] 34 (0,0))):=⟨(by rw [hw];exact (by (with_reducible repeat refine bu ?_);refine blk_put (cs:=#[.int .i64 t436,.int .i64 0]) ?_ 1 _ rfl;(with_reducible repeat refine bu ?_);refine blk_put (cs:=#[.int .i64 0,.int .i64 0]) ?_ 0 _ rfl;(with_reducible repeat refine bu ?_);exact BK439.out))⟩;have n4_ : Aside0 (Kept w w36 (fun k_=>P0_0_ k_)):=⟨(by rw [hw];exact m16_)⟩;have n5_ : Aside0 (Below w0.heap.size w0 w36):=⟨(by rw [hw];exact (bl HB))⟩;clear hw;clear HO0_0;clear BK434;clear BK435;clear BK439;clear HK;clear HB;have HO0_0:=n0_;have BK434:=n1_;have BK435:=n2_;have BK439:=n3_;have HK:=n4_;have HB:=n5_;clear n0_ n1_ n2_ n3_ n4_ n5_;have:=NB434_435.out;have:=NB435_434.out;have:=bcell BK434 0;have:=bfz BK434 0;have:=bcell BK439 0;have:=bcell BK439 1;have:=bfz BK439 0;have:=bfz BK439 1) | ((with_reducible refine gC 80 rfl ?_);refine gL (some 22) Tryz.func80 #[.agg #[.slice Ao28 l0_0.length co28],.agg #[.int .i64 t436,.int .i64 t437]] ?_;(with_reducible refine (spec_l3Put.calls k (fun k_=>some k_ = (.slice Ao28 l0_0.length co28 : Value).ownBlock) (.slice Ao28 l0_0.length co28) l0_0 t436 t437 t440 t443 w0 _ ?side1 ?side2 A5.out).mono ?_);(case side1=>exact m2_);(case side2=>exact Kd.R_tight rfl HO0_0.out);rintro e w40 ⟨v441,rfl,ho0,hb,hkp⟩;refine ⟨_,rfl,?_⟩;replace BK434:=am (blk_kept (bk BK434) hkp (fun hs_=>(fun e_=>(Kd.R_ne HO0_0.out BK434.out (by decide)) e_) hs_));replace BK435:=am (blk_kept (bk BK435) hkp (fun hs_=>(fun e_=>(Kd.R_ne HO0_0.out BK435.out (by decide)) e_) hs_));have HO442:=am (Kd.R_mono (ok':=fun k_=>(P0_0_ k_ ∨ w.heap.size ≤ k_) ∧ k_ ≠ gb439) ho0 (fun k_ hk_=>⟨Or.elim hk_ (fun hs_=>(HO0_0.out.1 k_ (hs_).symm).1) (fun hn_=>(.inr (Nat.le_trans (by first | exact HK.out.1 | exact (show Kept w _ (fun k_=>P0_0_ k_) from m16_).1) hn_))),Or.elim hk_ (fun hs_=>fun e_=>(Kd.R_away HO0_0.out (fun _ hk=>hk.2)) (by rw [← e_];exact hs_)) (fun hn_=>(Kd.freshB (g:=gb439) (o:=.cells #[.int .i64 t436,.int .i64 t437] 34 (0,0)) (bk BK439) k_ hn_))⟩));replace BK439:=am (blk_kept (bk BK439) hkp (fun hs_=>(fun e_=>(Kd.R_away HO0_0.out (fun _ hk=>hk.2)) e_) hs_));replace HK:=am (Kept.then_ (S:=(fun k_=>P0_0_ k_)) m16_ hkp (fun k_ hs_=>(fun e_=>(HO0_0.out.1 k_ e_.symm).1) hs_));replace HB:=am hb;clear HO0_0;(try clear hb);(try clear hkp);(try clear ho0)) | ((with_reducible refine gD 8 rfl ?_);refine box_event rfl (N:=8) rfl (cs:=#[.slice none 0 0]) (t:=25) hr_ ?_;intro gb444 hg w41 hbox hb;replace HO442:=am (Kd.R_below (rs HO442) hb);have BK444:=am hbox;have GW444:=am ((by rw [hg];exact (by first | exact HK.out.1 | exact (show Kept w _ (fun k_=>P0_0_ k_) from m16_).1) : w.heap.size ≤ gb444));replace HK:=am (Kept.below (S:=(fun k_=>P0_0_ k_)) m16_ hb);have GE444:=gwE HB hg;replace HB:=hbS HB hb;have NB434_444:=neL BK434 hg;have NB444_434:=neG BK434 hg;replace BK434:=bkB BK434 hb;have NB435_444:=neL BK435 hg;have NB444_435:=neG BK435 hg;replace BK435:=bkB BK435 hb;have NB439_444:=neL BK439 hg;have NB444_439:=neG BK439 hg;replace BK439:=bkB BK439 hb;clear hb hbox hg;obtain ⟨Ao42,co42,eo42⟩:=Kd.R_slice HO442.out;subst eo42;have:=NB444_434.out;have:=NB434_444.out;have:=NB444_435.out;have:=NB435_444.out;have:=NB444_439.out;have:=NB439_444.out;have:=bcell BK444 0;have:=bfz BK444 0))
   have n0_ : Aside0 (Kd.R k34 34 (w41.setCell ⟨gb444,0,none⟩ (.slice Ao42 t440.length co42)) w0.heap.size (fun k_=>(P0_0_ k_ ∨ w.heap.size ≤ k_) ∧ k_ ≠ gb439) (.slice Ao42 t440.length co42) t440):=⟨by (with_reducible repeat apply ru);exact Kd.R_mono (Kd.R_far (p:=⟨gb444,0,none⟩) (Kd.R_types HO442.out BK444.out (by decide)) (fun _ hk=>hk.2) (.slice Ao42 t440.length co42)) ok_⟩
   have n1_ : Aside0 ((w41.setCell ⟨gb444,0,none⟩ (.slice Ao42 t440.length co42)).heap[gb434]? = some (.cells #[.slice Ao28 l0_0.length co28] 25 (0,0))):=bf_ BK434
   have n2_ : Aside0 ((w41.setCell ⟨gb444,0,none⟩ (.slice Ao42 t440.length co42)).heap[gb435]? = some (.cells #[.slice none 0 0] 25 (0,0))):=bf_ BK435
   have n3_ : Aside0 ((w41.setCell ⟨gb444,0,none⟩ (.slice Ao42 t440.length co42)).heap[gb439]? = some (.cells #[.int .i64 t436,.int .i64 t437] 34 (0,0))):=bf_ BK439
   have n4_ : Aside0 ((w41.setCell ⟨gb444,0,none⟩ (.slice Ao42 t440.length co42)).heap[gb444]? = some (.cells #[.slice Ao42 t440.length co42] 25 (0,0))):=⟨by (with_reducible repeat refine bu ?_);refine blk_put (cs:=#[.slice none 0 0]) ?_ 0 _ rfl;(with_reducible repeat refine bu ?_);exact BK444.out⟩
   have n5_ : Aside0 (Kept w (w41.setCell ⟨gb444,0,none⟩ (.slice Ao42 t440.length co42)) (fun k_=>P0_0_ k_)):=⟨m16_⟩
   have n6_ : Aside0 (Below w0.heap.size w0 (w41.setCell ⟨gb444,0,none⟩ (.slice Ao42 t440.length co42))):=⟨m2_⟩
   (try clear HO442)
   (try clear BK434)
   (try clear BK435)
   (try clear BK439)
   (try clear BK444)
   (try clear HK)
   (try clear HB)
   generalize (w41.setCell ⟨gb444,0,none⟩ (.slice Ao42 t440.length co42)) = w47 at n0_ n1_ n2_ n3_ n4_ n5_ n6_ ⊢
   have HO442:=n0_
   have BK434:=n1_
   have BK435:=n2_
   have BK439:=n3_
   have BK444:=n4_
   have HK:=n5_
   have HB:=n6_
   clear n0_ n1_ n2_ n3_ n4_ n5_ n6_
   replace HO442:=am (Kd.R_drew HO442.out)
   replace BK434:=am (blk_drew BK434.out)
   replace BK435:=am (blk_drew BK435.out)
   replace BK439:=am (blk_drew BK439.out)
   replace BK444:=am (blk_drew BK444.out)
   replace HK:=am (Kept.drew HK.out)
   replace HB:=am (below_drew1 HB.out)
   refine start_ (n:=6) (S:=fun w'=>w'.cell? ⟨gb444,0,none⟩ = some (.slice Ao42 t440.length co42)) (ds:=[]) #[false,false,false,false,false,false] (by kernel_rfl) rfl rfl (bcell BK444 0) (fun hHeld=>?_)
   generalize w47.drew = w48 at HO442 BK434 BK435 BK439 BK444 HK HB hHeld ⊢
   refine pu_ 1 (some 29) (bm 6 2) ?_
   refine pu_ 2 (some 30) (bm 6 6) ?_
   refine take_ (i:=0) (N:=some 28) (v:=?_) (a':=?_) #[true,true,true,false,false,false] rfl rfl (by kernel_rfl) (fun _ _ _ h=>h) (Or.inl ⟨by rfl,?_⟩) hHeld ?_ ?_
   rotate_left
   ·intro w' s0
    go_simp
    with_reducible rfl
   rotate_left
   ·simp only [Act.put,List.setIfInBounds_toArray,List.set_cons_zero,List.set_cons_succ,i64_w,i32_w]
    rfl
   refine one_ (i:=3) (N:=some 31) #[true,true,true,true,false,false] rfl rfl (by kernel_rfl) (by decide) (fun K hK=>?_)
   refine gR Tryz.func64 #[.agg #[.int .i64 50,.int .i64 t443]] ?_
   with_reducible refine (spec_LinPort.calls k 50 t443 t445 _ A27.out).mono ?_
   rintro e w49 ⟨rfl,hb⟩
   refine ⟨_,rfl,?_⟩
   replace HO442:=am (Kd.R_below (rs HO442) hb)
   replace BK434:=bkB BK434 hb
   replace BK435:=bkB BK435 hb
   replace BK439:=bkB BK439 hb
   replace BK444:=bkB BK444 hb
   replace HK:=am (Kept.below (S:=(fun k_=>P0_0_ k_)) m16_ hb)
   replace HB:=hbS HB hb
   (try clear hb)
   (try clear hb2)
   (try clear hk)
   (try clear hi)
   refine hK.out _ _ (bcell BK444 0) (fun hHeld=>?_)
   clear hK K
   refine nm_ ?_
   refine one_ (i:=4) (N:=none) #[true,true,true,true,true,false] rfl rfl (by kernel_rfl) (by decide) (fun K hK=>?_)
   have : w49.cell? ⟨gb435,0,none⟩ = some (.slice none 0 0):=bcell BK435 0
   have:=bfz BK435 0
   have:=NB434_435.out
   have:=NB439_435.out
   have:=NB444_435.out
   have:=NB435_434.out
   have:=NB435_439.out
   have:=NB435_444.out
   refine skip_ (w1:=?_) (by rfl) rfl ?_ ?_
   rotate_left
   ·go_simp
    rfl
   refine hK.out _ _ (((cell_far (p:=⟨gb435,_,none⟩) NB444_435.out _).trans (hHeld))) (fun hHeld=>?_)
   clear hK K
   refine pu_ 5 (some 5) (bm 6 63) ?_
   refine done_ (by kernel_rfl) ?_
   try go_wp2
   refine bodyPost_ret (results_ct rfl _ _ gb435 25 #[.slice Ao42 t440.length co42] (0,0) _ rfl (by (with_reducible repeat refine bu ?_);refine blk_put (cs:=#[.slice none 0 0]) ?_ 0 _ rfl;(with_reducible repeat refine bu ?_);exact BK435.out) Tryz.underlying25 rfl (by kernel_rfl)) rfl ?_
   exact ⟨_,fi_,by (with_reducible repeat apply ru);exact Kd.R_mono (Kd.R_far (p:=⟨gb435,0,none⟩) (Kd.R_types HO442.out BK435.out (by decide)) (fun _ hk=>hk.2) (.slice Ao42 t440.length co42)) (fun _ hk=>hk.1.1),m2_,m16_⟩
 ·replace c4:=Bool.eq_false_iff.mpr c4
  subst c4
  have H1 : (some (l0_0,a1)) = some (r1,r2):=by rw [if_neg (show ¬ (false = true) by decide)] at H;exact H
  clear H
  have H:=H1
  clear H1
  simp only [Option.some.injEq,Prod.mk.injEq] at H
  obtain ⟨rfl,rfl⟩:=H
  obtain ⟨Ao51,co51,eo51⟩:=Kd.R_slice HO0_0.out
  subst eo51
  go_enter Tryz.func46,Tryz.ntmps46
  go_wp2_with (first | ((with_reducible refine gD 2 rfl ?_);refine box_event rfl (N:=2) rfl (cs:=#[.slice Ao51 l0_0.length co51]) (t:=25) hr_ ?_;intro gb434 hg w52 hbox hb;replace HO0_0:=am (Kd.R_below (rs HO0_0) hb);have BK434:=am hbox;have GW434:=am ((by rw [hg];exact (by first | exact HK.out.1 | exact (show Kept w _ (fun k_=>P0_0_ k_) from m15_).1) : w.heap.size ≤ gb434));replace HK:=am (Kept.below (S:=(fun k_=>P0_0_ k_)) m15_ hb);have GE434:=gwE HB hg;replace HB:=hbS HB hb;clear hb hbox hg) | ((with_reducible refine gD 4 rfl ?_);refine box_event rfl (N:=4) rfl (cs:=#[.slice none 0 0]) (t:=25) hr_ ?_;intro gb435 hg w53 hbox hb;replace HO0_0:=am (Kd.R_below (rs HO0_0) hb);have BK435:=am hbox;have GW435:=am ((by rw [hg];exact (by first | exact HK.out.1 | exact (show Kept w _ (fun k_=>P0_0_ k_) from m16_).1) : w.heap.size ≤ gb435));replace HK:=am (Kept.below (S:=(fun k_=>P0_0_ k_)) m16_ hb);have GE435:=gwE HB hg;replace HB:=hbS HB hb;have NB434_435:=neL BK434 hg;have NB435_434:=neG BK434 hg;replace BK434:=bkB BK434 hb;clear hb hbox hg) | ((with_reducible refine gC 79 rfl ?_);refine gL (some 12) Tryz.func79 #[.string a1] ?_;(with_reducible refine (spec_LinSays.calls k a1 t436 t437 false _ A3.out).mono ?_);rintro e w54 ⟨rfl,hb⟩;refine ⟨_,rfl,?_⟩;replace HO0_0:=am (Kd.R_below (rs HO0_0) hb);replace BK434:=bkB BK434 hb;replace BK435:=bkB BK435 hb;replace HK:=am (Kept.below (S:=(fun k_=>P0_0_ k_)) m16_ hb);replace HB:=hbS HB hb;(try clear hb)) | ((with_reducible refine gD 6 rfl ?_);refine box_event rfl (N:=6) rfl (cs:=#[.int .i64 0,.int .i64 0]) (t:=34) hr_ ?_;intro gb439 hg w55 hbox hb;replace HO0_0:=am (Kd.R_below (Kd.R_elderB (rs HO0_0) gb439 (Nat.le_of_eq hg.symm)) hb);have BK439:=am hbox;have GW439:=am ((by rw [hg];exact (by first | exact HK.out.1 | exact (show Kept w _ (fun k_=>P0_0_ k_) from m16_).1) : w.heap.size ≤ gb439));replace HK:=am (Kept.below (S:=(fun k_=>P0_0_ k_)) m16_ hb);have GE439:=gwE HB hg;replace HB:=hbS HB hb;have NB434_439:=neL BK434 hg;have NB439_434:=neG BK434 hg;replace BK434:=bkB BK434 hb;have NB435_439:=neL BK435 hg;have NB439_435:=neG BK435 hg;replace BK435:=bkB BK435 hb;clear hb hbox hg;have:=NB439_434.out;have:=NB434_439.out;have:=NB439_435.out;have:=NB435_439.out;have:=bcell BK439 0;have:=bcell BK439 1;have:=bfz BK439 0;have:=bfz BK439 1;have:=NB434_435.out;have:=NB435_434.out;have:=bcell BK434 0;have:=bfz BK434 0;have:=bcell BK435 0;have:=bfz BK435 0))
  refine bodyPost_ret (results_ct rfl _ _ gb435 25 #[.slice Ao51 l0_0.length co51] (0,0) _ rfl (by (with_reducible repeat refine bu ?_);refine blk_put (cs:=#[.slice none 0 0]) ?_ 0 _ rfl;(with_reducible repeat refine bu ?_);refine blk_far ?_ NB435_439.out _;(with_reducible repeat refine bu ?_);refine blk_far ?_ NB435_439.out _;(with_reducible repeat refine bu ?_);exact BK435.out) Tryz.underlying25 rfl (by kernel_rfl)) rfl ?_
  exact ⟨_,fi_,by (with_reducible repeat apply ru);exact Kd.R_mono (Kd.R_far (p:=⟨gb435,0,none⟩) (Kd.R_far (p:=⟨gb439,1,none⟩) (Kd.R_far (p:=⟨gb439,0,none⟩) (Kd.R_types (Kd.R_mono HO0_0.out (fun k_ hk=>(⟨hk,hk.2⟩ : _ ∧ k_ ≠ gb439))) BK435.out (by decide)) (fun _ hk=>hk.1.2) (.int .i64 t436)) (fun _ hk=>hk.1.2) (.int .i64 t437)) (fun _ hk=>hk.2) (.slice Ao51 l0_0.length co51)) (fun _ hk=>hk.1.1.1),m2_,m16_⟩
def spec_RwrLine.j0 : Nat → ByteArray → Bool → List (S34) → Option ((List (S34)) × ByteArray)
 | 0,_,_,_=>none
 | k + 1,x1,x13,x447000=>if x13 = true then (some (([] : List (S34)),(⟨#[]⟩ : ByteArray))) else ((spec_l3Copy.f x447000).bind fun t450=>((spec_l3Line.f k t450 x1).bind fun bt453=>(some (bt453.1,bt453.2))))
def spec_RwrLine.f (k : Nat) (l0_0 : List (S34)) (a1 : ByteArray) : Option ((List (S34)) × ByteArray):=(spec_MapOk.f k l0_0).bind fun t448=>(if t448 = true then ((spec_LinOk.f k a1).bind fun t449=>(spec_RwrLine.j0 k a1 (!t449) l0_0)) else (spec_RwrLine.j0 k a1 true l0_0))
theorem spec_RwrLine.mono_l : ∀ k,(∀ y0 y1 y2,LeO (spec_RwrLine.j0 k y0 y1 y2) (spec_RwrLine.j0 (k + 1) y0 y1 y2))
 | 0=>fun _ _ _ r h=>by simp [spec_RwrLine.j0] at h
 | k + 1=>by
  have ih0:=spec_RwrLine.mono_l k
  ·intro y0 y1 y2
   unfold spec_RwrLine.j0
   repeat' first | (with_reducible first | exact ih0 _ _ _ | exact spec_LinOk.mono _ _ | exact spec_MapOk.mono _ _ | exact spec_l3Line.mono _ _ _ | exact LeO.refl _ | exact LeO.none _ | refine LeO.ite ?_ ?_ | refine LeO.bind ?_ (fun _=>?_)) | exact ih0 _ _ _ | exact spec_LinOk.mono _ _ | exact spec_MapOk.mono _ _ | exact spec_l3Line.mono _ _ _ | exact LeO.none _ | refine LeO.ite ?_ ?_ | refine LeO.bind ?_ (fun _=>?_)
theorem spec_RwrLine.mono : ∀ a0 a1 k,LeO (spec_RwrLine.f k a0 a1) (spec_RwrLine.f (k + 1) a0 a1):=by
 intro a0 a1 k
 have ih0:=spec_RwrLine.mono_l k
 unfold spec_RwrLine.f
 repeat' first | (with_reducible first | exact ih0 _ _ _ | exact spec_LinOk.mono _ _ | exact spec_MapOk.mono _ _ | exact spec_l3Line.mono _ _ _ | exact LeO.refl _ | exact LeO.none _ | refine LeO.ite ?_ ?_ | refine LeO.bind ?_ (fun _=>?_)) | exact ih0 _ _ _ | exact spec_LinOk.mono _ _ | exact spec_MapOk.mono _ _ | exact spec_l3Line.mono _ _ _ | exact LeO.none _ | refine LeO.ite ?_ ?_ | refine LeO.bind ?_ (fun _=>?_)
set_option maxHeartbeats 8000000 in
set_option maxRecDepth 100000 in
theorem spec_RwrLine.calls (k : Nat) (A0_0 : Option Addr) (c0_0 : Nat) (l0_0 : List (S34)) (a1 : ByteArray) (r1 : List (S34)) (r2 : ByteArray) (w : World) (hr0_0 : Kd.C k34 w A0_0 l0_0.length l0_0) (hc0_0 : l0_0.length ≤ c0_0) (h : spec_RwrLine.f k l0_0 a1 = some (r1,r2)) :
  Calls Tryz.prog 14 #[.agg #[.slice A0_0 l0_0.length c0_0],.string a1] w fun e w'=>∃ v0_ : Value,e = .returned (.tuple #[.agg #[v0_],.string r2]) ∧ Kd.R k34 34 w' w.heap.size (fun _=>True) v0_ r1 ∧ Below w.heap.size w w':=by
 have hu25:=Tryz.underlying25
 have HR0_0:=am hr0_0
 have HC0_0:=am hc0_0
 clear hr0_0 hc0_0
 have HB:=am (Below.refl w.heap.size w)
 have H : ((spec_MapOk.f k l0_0).bind fun t448=>(if t448 = true then ((spec_LinOk.f k a1).bind fun t449=>(spec_RwrLine.j0 k a1 (!t449) l0_0)) else (spec_RwrLine.j0 k a1 true l0_0))) = some (r1,r2):=h
 clear h
 have HC3:=am H
 clear H
 go_enter Tryz.func14,Tryz.ntmps14
 go_upto_region 1 with (first | ((with_reducible refine gD 2 rfl ?_);refine box_event rfl (N:=2) rfl (cs:=#[.slice A0_0 l0_0.length c0_0]) (t:=25) hr_ ?_;intro gb446 hg w4 hbox hb;have BK446:=am hbox;have GW446:=gwE HB hg;have GE446:=gwE HB hg;replace HB:=hbS HB hb;clear hb hbox hg) | ((with_reducible refine gD 4 rfl ?_);refine box_event rfl (N:=4) rfl (cs:=#[.slice none 0 0]) (t:=25) hr_ ?_;intro gb447 hg w5 hbox hb;have BK447:=am hbox;have GW447:=gwE HB hg;have GE447:=gwE HB hg;replace HB:=hbS HB hb;have NB446_447:=neL BK446 hg;have NB447_446:=neG BK446 hg;replace BK446:=bkB BK446 hb;clear hb hbox hg))
 (try simp only [Act.put,List.setIfInBounds_toArray,List.set_cons_zero,List.set_cons_succ])
 go_cut [13] (fun v13 wc=>∃ (kq : Nat) (x13_2 : Bool),v13 = .bool x13_2 ∧ Aside0 (spec_RwrLine.j0 kq a1 x13_2 l0_0 = some (r1,r2)) ∧ Aside0 (kq ≤ k) ∧ Aside0 (wc.heap[gb446]? = some (.cells #[(.slice A0_0 l0_0.length c0_0)] 25 (0,0))) ∧ Aside0 (wc.heap[gb447]? = some (.cells #[(.slice none 0 0)] 25 (0,0))) ∧ Aside0 (Below w.heap.size w wc))
 case first=>
  have H:=HC3.out
  clear HC3
  obtain ⟨t448,A6,H⟩:=bse H
  try dsimp only at H
  by_cases c7 : t448 = true
  ·subst c7
   have H1 : ((spec_LinOk.f k a1).bind fun t449=>(spec_RwrLine.j0 k a1 (!t449) l0_0)) = some (r1,r2):=by rw [if_pos rfl] at H;exact H
   clear H
   have H:=H1
   clear H1
   obtain ⟨t449,A8,H⟩:=bse H
   try dsimp only at H
   have H':=am H
   clear H
   have:=NB446_447.out
   have:=NB447_446.out
   have hcz10_0:=bcell BK446 0
   have hfz10_0:=blk_frozen BK446.out 0
   go_wp2_with (first | ((with_reducible refine gC 16 rfl ?_);refine gL (some 7) Tryz.func16 #[.agg #[.slice A0_0 l0_0.length c0_0]] ?_;(with_reducible refine (spec_MapOk.calls k _ _ l0_0 true _ ?side1 ?side2 A6.out).mono ?_);(case side1=>exact m4_);(case side2=>exact HC0_0.out);rintro e w11 ⟨rfl,hb⟩;refine ⟨_,rfl,?_⟩;replace BK446:=bkB BK446 hb;replace BK447:=bkB BK447 hb;replace HB:=hbS HB hb;(try clear hb)) | (go_at_call 17;(with_reducible refine (spec_LinOk.calls k a1 t449 _ A8.out).mono ?_);rintro e w' ⟨rfl,⟨nd,rfl⟩⟩))
   go_meet
   case rel=>exact ⟨_,(!t449),rs_,H',⟨by first | omega | exact Nat.le_refl _⟩,⟨bk BK446⟩,⟨bk BK447⟩,⟨m2_⟩⟩
  ·replace c7:=Bool.eq_false_iff.mpr c7
   subst c7
   have H1 : (spec_RwrLine.j0 k a1 true l0_0) = some (r1,r2):=by rw [if_neg (show ¬ (false = true) by decide)] at H;exact H
   clear H
   have H:=H1
   clear H1
   have H':=am H
   clear H
   have:=NB446_447.out
   have:=NB447_446.out
   have hcz13_0:=bcell BK446 0
   have hfz13_0:=blk_frozen BK446.out 0
   go_wp2_with (first | ((with_reducible refine gC 16 rfl ?_);refine gL (some 7) Tryz.func16 #[.agg #[.slice A0_0 l0_0.length c0_0]] ?_;(with_reducible refine (spec_MapOk.calls k _ _ l0_0 false _ ?side1 ?side2 A6.out).mono ?_);(case side1=>exact m4_);(case side2=>exact HC0_0.out);rintro e w14 ⟨rfl,hb⟩;refine ⟨_,rfl,?_⟩;replace BK446:=bkB BK446 hb;replace BK447:=bkB BK447 hb;replace HB:=hbS HB hb;(try clear hb)))
   go_meet
   case rel=>exact ⟨_,(true),rs_,H',⟨by first | omega | exact Nat.le_refl _⟩,⟨bk BK446⟩,⟨bk BK447⟩,⟨m2_⟩⟩
 case rest=>
  clear HC3
  try clear c1
  try clear p2
  try clear c7
  try clear c9
  try clear c12
  try clear c14
  try clear hcz10_0
  try clear hcz13_0
  try clear hfz10_0
  try clear hfz13_0
  obtain ⟨kq,x13_2,rfl,HA,HJ2,BK446,BK447,HB⟩:=hcut
  cases kq with
  | zero=>exact absurd HA.out (by simp [spec_RwrLine.j0])
  | succ kj2=>
   have H:=HA.out
   clear HA
   simp only [spec_RwrLine.j0] at H
   by_cases c15 : x13_2 = true
   ·subst c15
    have H1 : (some (([] : List (S34)),(⟨#[]⟩ : ByteArray))) = some (r1,r2):=by rw [if_pos rfl] at H;exact H
    clear H
    have H:=H1
    clear H1
    simp only [Option.some.injEq,Prod.mk.injEq] at H
    obtain ⟨rfl,rfl⟩:=H
    have:=NB447_446.out
    have:=NB446_447.out
    have:=bcell BK447 0
    have:=bfz BK447 0
    go_wp2
    refine bodyPost_ret (results_ct rfl _ _ gb447 25 #[.slice none 0 0] (0,0) _ rfl (by (with_reducible repeat refine bu ?_);refine blk_put (cs:=#[.slice none 0 0]) ?_ 0 _ rfl;(with_reducible repeat refine bu ?_);exact BK447.out) Tryz.underlying25 rfl (by kernel_rfl)) rfl ?_
    exact ⟨_,fi_,by first | exact Kd.R_nil _ _ _ _ _ | exact Kd.N_nil _ _ _ _ _ | exact Kd.V_nil _ _ _ _ _ | exact Kd.Q_nil _ _ _ _ _ | exact Kd.S_nil _ _ _ _ _,m2_⟩
   ·replace c15:=Bool.eq_false_iff.mpr c15
    subst c15
    have H1 : ((spec_l3Copy.f l0_0).bind fun t450=>((spec_l3Line.f kj2 t450 a1).bind fun bt453=>(some (bt453.1,bt453.2)))) = some (r1,r2):=by rw [if_neg (show ¬ (false = true) by decide)] at H;exact H
    clear H
    have H:=H1
    clear H1
    obtain ⟨t450,A18,H⟩:=bse H
    try dsimp only at H
    obtain ⟨⟨t453,t456⟩,A19,H⟩:=bse H
    try dsimp only at H
    simp only [Option.some.injEq,Prod.mk.injEq] at H
    obtain ⟨rfl,rfl⟩:=H
    have:=NB446_447.out
    have:=NB447_446.out
    have:=bcell BK446 0
    have:=bfz BK446 0
    go_wp2_with (first | ((with_reducible refine gC 47 rfl ?_);refine gL (some 16) Tryz.func47 #[.agg #[.slice A0_0 l0_0.length c0_0]] ?_;(with_reducible refine (spec_l3Copy.calls _ _ l0_0 t450 _ ?side1 ?side2 A18.out).mono ?_);(case side1=>exact m4_);(case side2=>exact HC0_0.out);rintro e w22 ⟨v451,rfl,ho0,hb⟩;refine ⟨_,rfl,?_⟩;have HO452:=am (Kd.R_lower ho0 (below_size (bl HB)));replace BK446:=bkB BK446 hb;replace BK447:=bkB BK447 hb;replace HB:=hbS HB hb;(try clear hb);(try clear ho0);obtain ⟨Ao23,co23,eo23⟩:=Kd.R_slice HO452.out;subst eo23) | ((with_reducible refine gC 46 rfl ?_);refine gL (some 18) Tryz.func46 #[.agg #[.slice Ao23 t450.length co23],.string a1] ?_;(with_reducible refine (spec_l3Line.calls kj2 (fun k_=>some k_ = (.slice Ao23 t450.length co23 : Value).ownBlock) (.slice Ao23 t450.length co23) t450 a1 t453 t456 w _ ?side1 ?side2 A19.out).mono ?_);(case side1=>exact m2_);(case side2=>exact Kd.R_tight rfl HO452.out);rintro e w24 ⟨v454,rfl,ho0,hb,hkp⟩;refine ⟨_,rfl,?_⟩;replace BK446:=am (blk_kept (bk BK446) hkp (fun hs_=>(fun e_=>(Kd.R_ne HO452.out BK446.out (by decide)) e_) hs_));replace BK447:=am (blk_kept (bk BK447) hkp (fun hs_=>(fun e_=>(Kd.R_ne HO452.out BK447.out (by decide)) e_) hs_));have HO455:=am (Kd.R_mono (ok':=fun k_=>True) ho0 (fun k_ hk_=>trivial));replace HB:=am hb;clear HO452;(try clear hb);(try clear hkp);(try clear ho0);obtain ⟨Ao25,co25,eo25⟩:=Kd.R_slice HO455.out;subst eo25;have:=bcell BK447 0;have:=bfz BK447 0))
    refine bodyPost_ret (results_ct rfl _ _ gb447 25 #[.slice Ao25 t453.length co25] (0,0) _ rfl (by (with_reducible repeat refine bu ?_);refine blk_put (cs:=#[.slice none 0 0]) ?_ 0 _ rfl;(with_reducible repeat refine bu ?_);exact BK447.out) Tryz.underlying25 rfl (by kernel_rfl)) rfl ?_
    exact ⟨_,fi_,by (with_reducible repeat apply ru);exact Kd.R_mono (Kd.R_far (p:=⟨gb447,0,none⟩) (Kd.R_types HO455.out BK447.out (by decide)) (fun _ hk=>hk.2) (.slice Ao25 t453.length co25)) (fun _ hk=>trivial),m2_⟩
def impl_RwrLine.f (k : Nat) (l0_0 : List (S34)) (a1 : ByteArray) : Option ((List (S34)) × ByteArray):=(impl_MapOk.f k l0_0).bind fun t401=>(if t401 = true then ((impl_LinOk.f a1).bind fun t402=>(if t402 = true then ((impl_MapTab_goesOut.f l0_0 a1).bind fun bt403=>(some (bt403.1,bt403.2))) else (some (([] : List (S34)),(⟨#[]⟩ : ByteArray))))) else (some (([] : List (S34)),(⟨#[]⟩ : ByteArray))))
theorem impl_RwrLine.mono : ∀ a0 a1 k,LeO (impl_RwrLine.f k a0 a1) (impl_RwrLine.f (k + 1) a0 a1):=by
 intro a0 a1 k
 unfold impl_RwrLine.f
 repeat' first | (with_reducible first | exact impl_MapOk.mono _ _ | exact LeO.refl _ | exact LeO.none _ | refine LeO.ite ?_ ?_ | refine LeO.bind ?_ (fun _=>?_)) | exact impl_MapOk.mono _ _ | exact LeO.none _ | refine LeO.ite ?_ ?_ | refine LeO.bind ?_ (fun _=>?_)
set_option maxHeartbeats 8000000 in
set_option maxRecDepth 100000 in
theorem impl_RwrLine.calls (k : Nat) (A0_0 : Option Addr) (c0_0 : Nat) (l0_0 : List (S34)) (a1 : ByteArray) (r1 : List (S34)) (r2 : ByteArray) (w : World) (hr0_0 : Kd.C k34 w A0_0 l0_0.length l0_0) (hc0_0 : l0_0.length ≤ c0_0) (h : impl_RwrLine.f k l0_0 a1 = some (r1,r2)) (hE : EnvE w) :
  Calls Tryz.prog 13 #[.agg #[.slice A0_0 l0_0.length c0_0],.string a1] w fun e w'=>∃ v0_ : Value,e = .returned (.tuple #[.agg #[v0_],.string r2]) ∧ Kd.R k34 34 w' w.heap.size (fun _=>True) v0_ r1 ∧ Below w.heap.size w w':=by
 have hu25:=Tryz.underlying25
 have HR0_0:=am hr0_0
 have HC0_0:=am hc0_0
 clear hr0_0 hc0_0
 have HB:=am (Below.refl w.heap.size w)
 have H : ((impl_MapOk.f k l0_0).bind fun t401=>(if t401 = true then ((impl_LinOk.f a1).bind fun t402=>(if t402 = true then ((impl_MapTab_goesOut.f l0_0 a1).bind fun bt403=>(some (bt403.1,bt403.2))) else (some (([] : List (S34)),(⟨#[]⟩ : ByteArray))))) else (some (([] : List (S34)),(⟨#[]⟩ : ByteArray))))) = some (r1,r2):=h
 clear h
 obtain ⟨t401,A3,H⟩:=bse H
 try dsimp only at H
 by_cases c4 : t401 = true
 ·subst c4
  have H1 : ((impl_LinOk.f a1).bind fun t402=>(if t402 = true then ((impl_MapTab_goesOut.f l0_0 a1).bind fun bt403=>(some (bt403.1,bt403.2))) else (some (([] : List (S34)),(⟨#[]⟩ : ByteArray))))) = some (r1,r2):=by rw [if_pos rfl] at H;exact H
  clear H
  have H:=H1
  clear H1
  obtain ⟨t402,A5,H⟩:=bse H
  try dsimp only at H
  by_cases c6 : t402 = true
  ·subst c6
   have H1 : ((impl_MapTab_goesOut.f l0_0 a1).bind fun bt403=>(some (bt403.1,bt403.2))) = some (r1,r2):=by rw [if_pos rfl] at H;exact H
   clear H
   have H:=H1
   clear H1
   obtain ⟨⟨t403,t406⟩,A7,H⟩:=bse H
   try dsimp only at H
   simp only [Option.some.injEq,Prod.mk.injEq] at H
   obtain ⟨rfl,rfl⟩:=H
   go_enter Tryz.func13,Tryz.ntmps13
   go_wp2_with (first | ((with_reducible refine gD 2 rfl ?_);refine box_event rfl (N:=2) rfl (cs:=#[.slice A0_0 l0_0.length c0_0]) (t:=25) hr_ ?_;intro gb399 hg w8 hbox hb;have BK399:=am hbox;have GW399:=gwE HB hg;have GE399:=gwE HB hg;replace HB:=hbS HB hb;clear hb hbox hg) | ((with_reducible refine gD 4 rfl ?_);refine box_event rfl (N:=4) rfl (cs:=#[.slice none 0 0]) (t:=25) hr_ ?_;intro gb400 hg w9 hbox hb;have BK400:=am hbox;have GW400:=gwE HB hg;have GE400:=gwE HB hg;replace HB:=hbS HB hb;have NB399_400:=neL BK399 hg;have NB400_399:=neG BK399 hg;replace BK399:=bkB BK399 hb;clear hb hbox hg;have:=NB399_400.out;have:=NB400_399.out;have:=bcell BK399 0;have:=bfz BK399 0) | ((with_reducible refine gC 20 rfl ?_);refine gL (some 7) Tryz.func20 #[.agg #[.slice A0_0 l0_0.length c0_0]] ?_;(with_reducible refine (impl_MapOk.calls k _ _ l0_0 true _ ?side1 ?side2 A3.out).mono ?_);(case side1=>exact m4_);(case side2=>exact HC0_0.out);rintro e w12 ⟨rfl,hb⟩;refine ⟨_,rfl,?_⟩;replace BK399:=bkB BK399 hb;replace BK400:=bkB BK400 hb;replace HB:=hbS HB hb;(try clear hb)) | (go_at_call 22;(with_reducible refine (impl_LinOk.calls a1 true _ A5.out).mono ?_);rintro e w13 ⟨rfl,hb⟩;replace BK399:=bkB BK399 hb;replace BK400:=bkB BK400 hb;replace HB:=hbS HB hb;(try clear hb);have:=bcell BK399 0;have:=bfz BK399 0) | ((with_reducible refine gC 45 rfl ?_);refine gL (some 17) Tryz.func45 #[.agg #[.slice A0_0 l0_0.length c0_0],.string a1] ?_;(with_reducible refine (impl_MapTab_goesOut.calls _ _ l0_0 a1 t403 t406 _ ?side1 ?side2 A7.out (EnvE.below hE (bl HB))).mono ?_);(case side1=>exact m4_);(case side2=>exact HC0_0.out);rintro e w15 ⟨v404,rfl,ho0,hb⟩;refine ⟨_,rfl,?_⟩;have HO405:=am (Kd.R_lower ho0 (below_size (bl HB)));replace BK399:=bkB BK399 hb;replace BK400:=bkB BK400 hb;replace HB:=hbS HB hb;(try clear hb);(try clear ho0);obtain ⟨Ao16,co16,eo16⟩:=Kd.R_slice HO405.out;subst eo16;have:=bcell BK400 0;have:=bfz BK400 0))
   refine bodyPost_ret (results_ct rfl _ _ gb400 25 #[.slice Ao16 t403.length co16] (0,0) _ rfl (by (with_reducible repeat refine bu ?_);refine blk_put (cs:=#[.slice none 0 0]) ?_ 0 _ rfl;(with_reducible repeat refine bu ?_);exact BK400.out) Tryz.underlying25 rfl (by kernel_rfl)) rfl ?_
   exact ⟨_,fi_,by (with_reducible repeat apply ru);exact Kd.R_mono (Kd.R_far (p:=⟨gb400,0,none⟩) (Kd.R_types HO405.out BK400.out (by decide)) (fun _ hk=>hk.2) (.slice Ao16 t403.length co16)) (fun _ hk=>trivial),m2_⟩
  ·replace c6:=Bool.eq_false_iff.mpr c6
   subst c6
   have H1 : (some (([] : List (S34)),(⟨#[]⟩ : ByteArray))) = some (r1,r2):=by rw [if_neg (show ¬ (false = true) by decide)] at H;exact H
   clear H
   have H:=H1
   clear H1
   simp only [Option.some.injEq,Prod.mk.injEq] at H
   obtain ⟨rfl,rfl⟩:=H
   go_enter Tryz.func13,Tryz.ntmps13
   go_wp2_with (first | ((with_reducible refine gD 2 rfl ?_);refine box_event rfl (N:=2) rfl (cs:=#[.slice A0_0 l0_0.length c0_0]) (t:=25) hr_ ?_;intro gb399 hg w18 hbox hb;have BK399:=am hbox;have GW399:=gwE HB hg;have GE399:=gwE HB hg;replace HB:=hbS HB hb;clear hb hbox hg) | ((with_reducible refine gD 4 rfl ?_);refine box_event rfl (N:=4) rfl (cs:=#[.slice none 0 0]) (t:=25) hr_ ?_;intro gb400 hg w19 hbox hb;have BK400:=am hbox;have GW400:=gwE HB hg;have GE400:=gwE HB hg;replace HB:=hbS HB hb;have NB399_400:=neL BK399 hg;have NB400_399:=neG BK399 hg;replace BK399:=bkB BK399 hb;clear hb hbox hg;have:=NB399_400.out;have:=NB400_399.out;have:=bcell BK399 0;have:=bfz BK399 0) | ((with_reducible refine gC 20 rfl ?_);refine gL (some 7) Tryz.func20 #[.agg #[.slice A0_0 l0_0.length c0_0]] ?_;(with_reducible refine (impl_MapOk.calls k _ _ l0_0 true _ ?side1 ?side2 A3.out).mono ?_);(case side1=>exact m4_);(case side2=>exact HC0_0.out);rintro e w22 ⟨rfl,hb⟩;refine ⟨_,rfl,?_⟩;replace BK399:=bkB BK399 hb;replace BK400:=bkB BK400 hb;replace HB:=hbS HB hb;(try clear hb)) | (go_at_call 22;(with_reducible refine (impl_LinOk.calls a1 false _ A5.out).mono ?_);rintro e w23 ⟨rfl,hb⟩;replace BK399:=bkB BK399 hb;replace BK400:=bkB BK400 hb;replace HB:=hbS HB hb;(try clear hb);have:=bcell BK400 0;have:=bfz BK400 0))
   refine bodyPost_ret (results_ct rfl _ _ gb400 25 #[.slice none 0 0] (0,0) _ rfl (by (with_reducible repeat refine bu ?_);refine blk_put (cs:=#[.slice none 0 0]) ?_ 0 _ rfl;(with_reducible repeat refine bu ?_);exact BK400.out) Tryz.underlying25 rfl (by kernel_rfl)) rfl ?_
   exact ⟨_,fi_,by first | exact Kd.R_nil _ _ _ _ _ | exact Kd.N_nil _ _ _ _ _ | exact Kd.V_nil _ _ _ _ _ | exact Kd.Q_nil _ _ _ _ _ | exact Kd.S_nil _ _ _ _ _,m2_⟩
 ·replace c4:=Bool.eq_false_iff.mpr c4
  subst c4
  have H1 : (some (([] : List (S34)),(⟨#[]⟩ : ByteArray))) = some (r1,r2):=by rw [if_neg (show ¬ (false = true) by decide)] at H;exact H
  clear H
  have H:=H1
  clear H1
  simp only [Option.some.injEq,Prod.mk.injEq] at H
  obtain ⟨rfl,rfl⟩:=H
  go_enter Tryz.func13,Tryz.ntmps13
  go_wp2_with (first | ((with_reducible refine gD 2 rfl ?_);refine box_event rfl (N:=2) rfl (cs:=#[.slice A0_0 l0_0.length c0_0]) (t:=25) hr_ ?_;intro gb399 hg w25 hbox hb;have BK399:=am hbox;have GW399:=gwE HB hg;have GE399:=gwE HB hg;replace HB:=hbS HB hb;clear hb hbox hg) | ((with_reducible refine gD 4 rfl ?_);refine box_event rfl (N:=4) rfl (cs:=#[.slice none 0 0]) (t:=25) hr_ ?_;intro gb400 hg w26 hbox hb;have BK400:=am hbox;have GW400:=gwE HB hg;have GE400:=gwE HB hg;replace HB:=hbS HB hb;have NB399_400:=neL BK399 hg;have NB400_399:=neG BK399 hg;replace BK399:=bkB BK399 hb;clear hb hbox hg;have:=NB399_400.out;have:=NB400_399.out;have:=bcell BK399 0;have:=bfz BK399 0) | ((with_reducible refine gC 20 rfl ?_);refine gL (some 7) Tryz.func20 #[.agg #[.slice A0_0 l0_0.length c0_0]] ?_;(with_reducible refine (impl_MapOk.calls k _ _ l0_0 false _ ?side1 ?side2 A3.out).mono ?_);(case side1=>exact m4_);(case side2=>exact HC0_0.out);rintro e w29 ⟨rfl,hb⟩;refine ⟨_,rfl,?_⟩;replace BK399:=bkB BK399 hb;replace BK400:=bkB BK400 hb;replace HB:=hbS HB hb;(try clear hb);have:=bcell BK400 0;have:=bfz BK400 0))
  refine bodyPost_ret (results_ct rfl _ _ gb400 25 #[.slice none 0 0] (0,0) _ rfl (by (with_reducible repeat refine bu ?_);refine blk_put (cs:=#[.slice none 0 0]) ?_ 0 _ rfl;(with_reducible repeat refine bu ?_);exact BK400.out) Tryz.underlying25 rfl (by kernel_rfl)) rfl ?_
  exact ⟨_,fi_,by first | exact Kd.R_nil _ _ _ _ _ | exact Kd.N_nil _ _ _ _ _ | exact Kd.V_nil _ _ _ _ _ | exact Kd.Q_nil _ _ _ _ _ | exact Kd.S_nil _ _ _ _ _,m2_⟩
end
theorem specEndOk_f (a p : Int) : spec_EndOk.f a p = some (endOkB a p) := by
  unfold spec_EndOk.f endOkB
  rw [specEndInside_f, specEndOutside_f, l1In_f]
  unfold endIn endOut
  by_cases h3 : a = 50 <;> cases inB a 1 9 <;> cases inB a 100 109 <;> cases inB p 1 999 <;> simp [h3]
theorem specEndRead_a (s : ByteArray) (hs : s.size ≤ 1048576) : Ans (fun k => spec_EndRead.f k s) (fun r => r = match readEndW s with | some (a, p) => (a, p, true) | none => (0, 0, false)) := by
  unfold spec_EndRead.f
  refine Ans.bind (words_a s hs) ?_
  rintro v rfl
  by_cases h2 : (wordsB s).length = 2
  · obtain ⟨b1, b2, hw⟩ : ∃ b1 b2, wordsB s = [b1, b2] := by
      generalize wordsB s = l at h2
      match l, h2 with
      | [b1, b2], _ => exact ⟨b1, b2, rfl⟩
    rw [hw]
    refine Ans.pos (by simp) (Ans.pos (by simp) ?_)
    refine Ans.bind (num_a _) ?_
    intro x1 h1
    refine Ans.pos (by simp) (Ans.bind (num_a _) ?_)
    intro x2 h2
    rw [specEndOk_f]
    have hk := endW_key hw (x1 := x1) (x2 := x2) h1 h2
    refine Ans.bsome ?_
    cases hb : endOkB x1 x2 with
    | true => rw [hb] at hk; refine Ans.pos rfl (Ans.pure ?_); rw [hk]; rfl
    | false => rw [hb] at hk; refine Ans.neg (by simp) (Ans.pure ?_); rw [hk]; rfl
  · refine Ans.neg (by omega) (Ans.pure ?_)
    rw [endW_len h2]
def saysW (s : ByteArray) : Option (Int × Int) := if Lib.hasPrefix s.data.toList portL = true then (match readEndW (trimW s) with | some (a, p) => if endIn a p then some (a, p) else none | none => none) else none
def saysT (s : ByteArray) : Int × Int × Bool := match saysW s with | some (a, p) => (a, p, true) | none => (0, 0, false)
theorem pre_split (s : ByteArray) : Lib.hasPrefix s.data.toList portL = true ↔ (5 ≤ s.size ∧ (s.extract 0 5).toList = [112, 111, 114, 116, 32]) := by
  have hl : s.data.toList.length = s.size := by rw [Array.length_toList]; rfl
  unfold Lib.hasPrefix portL
  rw [List.isPrefixOf_iff_prefix, List.prefix_iff_eq_take]
  rw [ByteArray.toList_eq, Lib.extract_data]
  simp only [List.drop_zero, List.length_cons, List.length_nil]
  constructor
  · intro h
    have := congrArg List.length h
    simp only [List.length_take, List.length_cons, List.length_nil] at this
    exact ⟨by omega, h.symm⟩
  · rintro ⟨_, h⟩; exact h.symm
theorem trim_extract {s : ByteArray} (h : Lib.hasPrefix s.data.toList portL = true) : s.extract 5 s.size = trimW s := by
  have hl : s.data.toList.length = s.size := by rw [Array.length_toList]; rfl
  apply ba_ext
  unfold trimW Lib.trimPrefix
  rw [if_pos h, Lib.extract_data]
  simp only [portL, List.length_cons, List.length_nil]
  rw [List.take_of_length_le (by rw [List.length_drop]; omega)]
theorem implLinSays_f {s : ByteArray} (hs : s.size ≤ 1048576) : impl_LinSays.f s = some (saysT s) := by
  unfold impl_LinSays.f impl_said.f
  rw [if_pos (by omega), Option.bind_some]
  unfold saysT saysW saidW
  cases hr : readEndW (trimW s) with
  | none => simp
  | some r =>
    obtain ⟨a, p⟩ := r
    simp only
    cases hp : Lib.hasPrefix s.data.toList portL with
    | false => simp
    | true =>
      simp only [if_true]
      rw [EndInside_f, Option.bind_some]
      cases hi : endIn a p <;> simp
theorem specLinSays_a (s : ByteArray) (hs : s.size ≤ 1048576) : Ans (fun k => spec_LinSays.f k s) (fun r => r = saysT s) := by
  unfold spec_LinSays.f
  have J : ∀ (c : Bool), (c = true → Lib.hasPrefix s.data.toList portL = false) → (c = false → Lib.hasPrefix s.data.toList portL = true) → Ans (fun k => spec_LinSays.j0 k s c) (fun r => r = saysT s) := by
    intro c h1 h2
    refine Ans.succ ?_
    unfold spec_LinSays.j0
    cases c with
    | true =>
      refine Ans.pos rfl (Ans.pure ?_)
      unfold saysT saysW
      rw [h1 rfl]; rfl
    | false =>
      have hp := h2 rfl
      have h5 := ((pre_split s).mp hp).1
      refine Ans.neg (by simp) (Ans.pos (by omega) ?_)
      rw [trim_extract hp]
      refine Ans.bind (specEndRead_a (trimW s) (Nat.le_trans (trim_size s) hs)) ?_
      rintro v rfl
      unfold saysT saysW
      rw [if_pos hp]
      cases hr : readEndW (trimW s) with
      | none => exact Ans.neg (by simp) (Ans.pure rfl)
      | some r =>
        obtain ⟨a, p⟩ := r
        simp only
        rw [specEndInside_f]
        cases hi : endIn a p with
        | true => exact Ans.pos (by simp) (Ans.bsome (Ans.pos rfl (Ans.pure (by simp [hi]))))
        | false => exact Ans.pos (by simp) (Ans.bsome (Ans.neg (by simp) (Ans.pure (by simp [hi]))))
  refine Ans.ite (fun h => ?_) (fun h => ?_)
  · refine J true (fun _ => ?_) (fun h => by cases h)
    cases hp : Lib.hasPrefix s.data.toList portL with
    | false => rfl
    | true => have := ((pre_split s).mp hp).1; omega
  · refine Ans.pos (by omega) (Ans.pos (by omega) (J _ (fun hc => ?_) (fun hc => ?_)))
    · cases hp : Lib.hasPrefix s.data.toList portL with
      | false => rfl
      | true => rw [((pre_split s).mp hp).2] at hc; simp at hc
    · exact (pre_split s).mpr ⟨by omega, bne_eq_false_iff_eq.mp hc⟩
def lportW (a p : Int) : ByteArray := if endOkB a p then (⟨#[112, 111, 114, 116, 32]⟩ : ByteArray) ++ etext a p else ⟨#[]⟩
theorem etext_size (a p : Int) : (etext a p).size ≤ 7 := by
  unfold etext
  cases hk : endOkB a p with
  | false => exact Nat.zero_le _
  | true =>
    have hb := endOkB_le hk
    have h1 := numB_size (n := a) (by omega) (by omega)
    have h2 := numB_size (n := p) (by omega) (by omega)
    have h3 : ((⟨#[32]⟩ : ByteArray)).size = 1 := rfl
    simp only [if_true, ByteArray.size_append]
    omega
theorem implLinPort_f (a p : Int) : impl_LinPort.f a p = some (lportW a p) := by
  unfold impl_LinPort.f lportW
  rw [EndOk_f, Option.bind_some]
  have hz := etext_size a p
  cases hk : endOkB a p with
  | false => simp
  | true =>
    simp only [if_true]
    rw [EndText_f, Option.bind_some, if_pos (by omega)]
theorem specEndText_a (a p : Int) : Ans (fun k => spec_EndText.f k a p) (fun r => r = etext a p) := by
  unfold spec_EndText.f etext
  rw [specEndOk_f]
  refine Ans.bsome ?_
  cases hk : endOkB a p with
  | false => exact Ans.neg (by simp) (Ans.pure (by simp))
  | true =>
    have hb := endOkB_le hk
    obtain ⟨m, rfl⟩ : ∃ m : Nat, a = m := ⟨a.toNat, by omega⟩
    obtain ⟨n, rfl⟩ : ∃ n : Nat, p = n := ⟨p.toNat, by omega⟩
    have h1 := numB_size (n := (m : Int)) (by omega) (by omega)
    have h2 := numB_size (n := (n : Int)) (by omega) (by omega)
    have h3 : ((⟨#[32]⟩ : ByteArray)).size = 1 := rfl
    refine Ans.pos rfl (Ans.bind (plain_a (n := m) (by omega)) ?_)
    rintro v rfl
    refine Ans.pos (by omega) (Ans.bind (plain_a (n := n) (by omega)) ?_)
    rintro v rfl
    exact Ans.pos (by rw [ByteArray.size_append]; omega) (Ans.pure (by simp))
theorem specLinPort_a (a p : Int) : Ans (fun k => spec_LinPort.f k a p) (fun r => r = lportW a p) := by
  unfold spec_LinPort.f lportW
  rw [specEndOk_f]
  refine Ans.bsome ?_
  have hz := etext_size a p
  cases hk : endOkB a p with
  | false => exact Ans.neg (by simp) (Ans.pure (by simp))
  | true =>
    refine Ans.pos rfl (Ans.bind (specEndText_a a p) ?_)
    rintro v rfl
    exact Ans.pos (by omega) (Ans.pure (by simp))
def noneB : ByteArray := ⟨#[110, 111, 110, 101]⟩
def lineW (l : List S34) (s : ByteArray) : List S34 × ByteArray := match saysW s with
  | none => (l, s)
  | some (a, p) => if (putV l a p).2 = 0 then ((putV l a p).1, noneB) else ((putV l a p).1, lportW 50 (putV l a p).2)
theorem saysW_in {s : ByteArray} {a p : Int} (h : saysW s = some (a, p)) : endIn a p = true := by
  unfold saysW at h
  cases hp : Lib.hasPrefix s.data.toList portL with
  | false => rw [hp] at h; simp at h
  | true =>
    rw [hp] at h
    simp only [if_true] at h
    cases hr : readEndW (trimW s) with
    | none => rw [hr] at h; cases h
    | some r =>
      obtain ⟨a', p'⟩ := r
      rw [hr] at h
      simp only at h
      cases hi : endIn a' p' with
      | false => rw [hi] at h; simp at h
      | true => rw [hi] at h; simp at h; obtain ⟨rfl, rfl⟩ := h; exact hi
theorem implGoesOut_f {l : List S34} (c : okT l = true) {s : ByteArray} (hs : s.size ≤ 1048576) : impl_MapTab_goesOut.f l s = some (lineW l s) := by
  have hl := okT_le c
  unfold impl_MapTab_goesOut.f
  rw [implLinSays_f hs, Option.bind_some]
  unfold saysT lineW
  cases hr : saysW s with
  | none =>
    simp only
    have e : impl_MapTab_copied.f l = some l := by
      unfold impl_MapTab_copied.f impl_EndPoint_106.f impl_EndPoint_105.f
      rw [if_pos (by omega)]; rfl
    rw [e]
    simp
  | some r =>
    obtain ⟨a, p⟩ := r
    simp only
    rw [implPut_f c (saysW_in hr), Option.bind_some]
    simp only [if_true]
    by_cases h0 : (putV l a p).2 = 0
    · simp [h0, noneB]
    · simp only [h0, if_false]
      rw [implLinPort_f, Option.bind_some]
theorem specLine_a {l : List S34} (hl : l.length ≤ 2000000) {s : ByteArray} (hs : s.size ≤ 1048576) : Ans (fun k => spec_l3Line.f k l s) (fun r => r = lineW l s) := by
  unfold spec_l3Line.f
  refine Ans.bind (specLinSays_a s hs) ?_
  rintro v rfl
  unfold saysT lineW
  cases hr : saysW s with
  | none => exact Ans.neg (by simp) (Ans.pure rfl)
  | some r =>
    obtain ⟨a, p⟩ := r
    simp only
    refine Ans.pos (by simp) (Ans.bind (l3Put_a l hl a p) ?_)
    rintro v rfl
    refine Ans.ite (fun h => Ans.pure ?_) (fun h => ?_)
    · simp [h, noneB]
    · refine Ans.bind (specLinPort_a 50 (putV l a p).2) ?_
      rintro v rfl
      exact Ans.pure (by simp [h])
theorem specLinOk_a (s : ByteArray) : Ans (fun k => spec_LinOk.f k s) (fun r => r = linOk s) := by
  have hb : ∀ b : Int, spec_l2Byte.f b = some (lb b) := by
    intro b
    unfold spec_l2Byte.f lb
    by_cases h1 : 97 ≤ b <;> by_cases h2 : b ≤ 122 <;> by_cases h3 : 48 ≤ b <;> by_cases h4 : b ≤ 57 <;> simp [h1, h2, h3, h4]
  have L : s.size ≤ 16 → ∀ (m i : Nat), s.size - i = m → i ≤ s.size → Ans (fun k => spec_LinOk.l0 k s i) (fun r => r = ((bys s).drop i).all lb) := by
    intro hs m
    induction m with
    | zero =>
      intro i hm hi
      refine Ans.succ ?_
      unfold spec_LinOk.l0
      refine Ans.neg (by omega) (Ans.pure ?_)
      have hl : (bys s).length = s.size := by unfold bys; rw [List.length_map]; exact len_size s
      rw [List.drop_eq_nil_of_le (by omega)]; rfl
    | succ m ih =>
      intro i hm hi
      have hlt : i < s.size := by omega
      have hl : (bys s).length = s.size := by unfold bys; rw [List.length_map]; exact len_size s
      have hw : wrap64 ((i : Int) + 1) = ((i + 1 : Nat) : Int) := w64 _ (by omega)
      have hd : (bys s).drop i = (bys s)[i]'(by omega) :: (bys s).drop (i + 1) := List.drop_eq_getElem_cons (by omega)
      have hbt : bt s i = (bys s)[i]'(by omega) := by rw [bt_get s i hlt]; simp [bys]
      refine Ans.succ ?_
      unfold spec_LinOk.l0
      refine Ans.pos (by omega) (Ans.pos (by omega) ?_)
      rw [hbt, hb, hw]
      refine Ans.bsome ?_
      cases hq : lb ((bys s)[i]'(by omega)) with
      | true => exact Ans.pos rfl ((ih (i + 1) (by omega) (by omega)).mono (by rintro v rfl; rw [hd, List.all_cons, hq, Bool.true_and]))
      | false => exact Ans.neg (by simp) (Ans.pure (by rw [hd, List.all_cons, hq, Bool.false_and]))
  unfold spec_LinOk.f linOk
  refine Ans.ite (fun h => Ans.pure ?_) (fun h => ?_)
  · have : ¬ s.size ≤ 16 := by omega
    simp [this]
  · have hs : s.size ≤ 16 := by omega
    refine (L hs _ 0 rfl (Nat.zero_le _)).mono ?_
    rintro v rfl
    simp [hs]
def rwrLineW (l : List S34) (s : ByteArray) : List S34 × ByteArray := if okT l && linOk s then lineW l s else ([], ⟨#[]⟩)
theorem linOk_size {s : ByteArray} (h : linOk s = true) : s.size ≤ 16 := by
  unfold linOk at h; simp at h; exact h.2
theorem implRwrLine_a (l : List S34) (hl : l.length ≤ 2000000) (s : ByteArray) (hs : s.size ≤ 1048576) : Ans (fun k => impl_RwrLine.f k l s) (fun r => r = rwrLineW l s) := by
  unfold impl_RwrLine.f rwrLineW
  refine Ans.bind (implMapOk_a l hl) ?_
  rintro _ rfl
  cases c : okT l with
  | false => exact Ans.neg (by simp) (Ans.pure (by simp))
  | true =>
    refine Ans.pos rfl ?_
    have e : impl_LinOk.f s = some (linOk s) := by unfold impl_LinOk.f; rw [if_pos (by omega)]
    rw [e]
    refine Ans.bsome ?_
    cases c2 : linOk s with
    | false => exact Ans.neg (by simp) (Ans.pure (by simp))
    | true =>
      rw [implGoesOut_f c hs]
      exact Ans.pos rfl (Ans.bsome (Ans.pure (by simp)))
theorem specRwrLine_a (l : List S34) (hl : l.length ≤ 2000000) (s : ByteArray) (hs : s.size ≤ 1048576) : Ans (fun k => spec_RwrLine.f k l s) (fun r => r = rwrLineW l s) := by
  unfold spec_RwrLine.f rwrLineW
  refine Ans.bind (specMapOk_a l hl) ?_
  rintro _ rfl
  have J0 : Ans (fun k => spec_RwrLine.j0 k s true l) (fun r => r = ([], ⟨#[]⟩)) := by
    refine Ans.succ ?_
    unfold spec_RwrLine.j0
    exact Ans.pos rfl (Ans.pure rfl)
  cases c : okT l with
  | false => exact Ans.neg (by simp) (by simpa using J0)
  | true =>
    refine Ans.pos rfl (Ans.bind (specLinOk_a s) ?_)
    rintro _ rfl
    cases c2 : linOk s with
    | false => simpa using J0
    | true =>
      refine Ans.succ ?_
      unfold spec_RwrLine.j0
      refine Ans.neg (by simp) ?_
      have hl6 := okT_le c
      have hc : spec_l3Copy.f l = some l := by
        unfold spec_l3Copy.f
        rw [Option.bind_some, if_pos (by simp; omega)]
        rfl
      rw [hc]
      refine Ans.bsome (Ans.bind (specLine_a hl hs) ?_)
      rintro v rfl
      exact Ans.pure (by simp)
end Go.Proofs.YtffmbccgcaghjaaGreatDoor.P
