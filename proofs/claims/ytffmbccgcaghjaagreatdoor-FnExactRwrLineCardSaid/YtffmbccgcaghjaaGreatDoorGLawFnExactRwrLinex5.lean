import Derived.Test.YtffmbccgcaghjaaGreatDoorGLawFnExactRwrLinex4
/- Plain words of numbers and of words: what spec.l1Plain, spec.l1Words, spec.l1Num answer, over lists. -/
namespace Go.Proofs.YtffmbccgcaghjaaGreatDoor.P
open Go.RowKit Go.Proofs.YtffmbccgcaghjaaGreatDoorUFnExactRwrLine.PrintWords Go.Proofs.YtffmbccgcaghjaaGreatDoorUFnExactRwrLine.PrintLast Go.Proofs.YtffmbccgcaghjaaGreatDoorUFnExactRwrLine.PrintMore
set_option linter.unusedVariables false
set_option linter.unusedSimpArgs false
theorem ba_ext {a b : ByteArray} (h : a.data.toList = b.data.toList) : a = b := by
  cases a; cases b; simp at h; rw [h]
theorem numB_small {n : Nat} (h : n < 10) : numB n = strOfNums [((48 + n : Nat) : Int)] := by
  apply ba_ext
  unfold numB Lib.itoa
  rw [if_neg (by omega)]
  simp only [Int.toNat_natCast, Lib.decDigits_one h, strOfNums]
  rfl
theorem numB_big {n : Nat} (h : ¬ n < 10) : numB n = numB (n / 10 : Nat) ++ strOfNums [((48 + n % 10 : Nat) : Int)] := by
  apply ba_ext
  unfold numB Lib.itoa
  rw [if_neg (by omega), if_neg (by omega)]
  simp only [Int.toNat_natCast, ByteArray.data_append, Array.toList_append]
  rw [Lib.decDigits, dif_neg h]
  simp only [Int.toNat_natCast, strOfNums]
  rfl
theorem strOfNums_size (l : List Int) : (strOfNums l).size = l.length := by simp [strOfNums, ByteArray.size]
theorem plain_l0 : ∀ (N n : Nat), n < N → n < 1000000 → ∀ x3 : ByteArray, x3.size + N ≤ 1000000000 → Ans (fun k => spec_l1Plain.l0 k n x3) (fun b => b = numB n ++ x3)
  | 0, n, h, _, _, _ => by omega
  | N + 1, n, h, hn, x3, hx => by
    refine Ans.succ ?_
    unfold spec_l1Plain.l0
    by_cases h9 : n < 10
    · refine Ans.neg (by omega) ?_
      have e : (wrap64 (48 + (n : Int))) % 256 = ((48 + n : Nat) : Int) := by unfold wrap64; omega
      rw [e]
      refine Ans.bsome (Ans.pos (by rw [strOfNums_size]; simp; omega) (Ans.pure ?_))
      rw [numB_small h9]
    · refine Ans.pos (by omega) ?_
      have e1 : Int.tmod (n : Int) 10 = ((n % 10 : Nat) : Int) := by rw [Int.tmod_eq_emod_of_nonneg (by omega)]; rfl
      have e2 : Int.tdiv (n : Int) 10 = ((n / 10 : Nat) : Int) := by rw [Int.tdiv_eq_ediv_of_nonneg (by omega)]; rfl
      have e : (wrap64 (48 + Int.tmod (n : Int) 10)) % 256 = ((48 + n % 10 : Nat) : Int) := by rw [e1]; unfold wrap64; omega
      have e3 : wrap64 (Int.tdiv (n : Int) 10) = ((n / 10 : Nat) : Int) := by rw [e2]; unfold wrap64; omega
      rw [e, e3]
      have hs : (strOfNums [((48 + n % 10 : Nat) : Int)]).size = 1 := by rw [strOfNums_size]; rfl
      refine Ans.bsome (Ans.pos (by rw [hs]; omega) ?_)
      refine (plain_l0 N (n / 10) (by omega) (by omega) (strOfNums [((48 + n % 10 : Nat) : Int)] ++ x3) (by rw [ByteArray.size_append, hs]; omega)).mono ?_
      rintro v rfl
      rw [numB_big h9, ByteArray.append_assoc]
theorem plain_a {n : Nat} (hn : n < 1000000) : Ans (fun k => spec_l1Plain.f k n) (fun b => b = numB n) := by
  refine (plain_l0 (n + 1) n (by omega) hn (⟨#[]⟩ : ByteArray) (by simp [ByteArray.size]; omega)).mono ?_
  rintro v rfl
  exact ba_ext (by simp)
/-! ### Words, a blank between two -/
theorem len_size (s : ByteArray) : s.data.toList.length = s.size := by rw [Array.length_toList]; rfl
def wlpB : ByteArray → List UInt8 → List ByteArray
  | w, [] => [w]
  | w, c :: r => if c = 32 then w :: wlpB ⟨#[]⟩ r else wlpB (w ++ ⟨#[c]⟩) r
theorem bt_get (s : ByteArray) (i : Nat) (h : i < s.size) : bt s i = ((s.data.toList[i]'(by rw [len_size]; exact h)).toNat : Int) := by
  unfold bt
  simp only [Int.toNat_natCast, dif_pos h]
  rfl
theorem extract_get (s : ByteArray) (i : Nat) (h : i < s.size) : s.extract i (i + 1) = ⟨#[s.data.toList[i]'(by rw [len_size]; exact h)]⟩ := by
  apply ba_ext
  have hl : i < s.data.toList.length := by rw [len_size]; exact h
  rw [Lib.extract_data]
  have e : s.data.toList.drop i = s.data.toList[i] :: s.data.toList.drop (i + 1) := List.drop_eq_getElem_cons hl
  rw [e, show i + 1 - i = 1 by omega]
  rfl
theorem words_l0 (s : ByteArray) (hs : s.size ≤ 1048576) : ∀ (m i : Nat), s.size - i = m → i ≤ s.size → ∀ (x3 : List ByteArray) (x4 : ByteArray), x3.length ≤ i → x4.size ≤ i →
    Ans (fun k => spec_l1Words.l0 k s x3 x4 i) (fun r => r = x3 ++ wlpB x4 (s.data.toList.drop i))
  | 0, i, hm, hi, x3, x4, h3, h4 => by
    refine Ans.succ ?_
    unfold spec_l1Words.l0
    refine Ans.neg (by omega) (Ans.pos (by omega) (Ans.pure ?_))
    rw [List.drop_eq_nil_of_le (by rw [len_size]; omega)]
    rfl
  | m + 1, i, hm, hi, x3, x4, h3, h4 => by
    have hlt : i < s.size := by omega
    have hl : i < s.data.toList.length := by rw [len_size]; exact hlt
    have hw : wrap64 ((i : Int) + 1) = ((i + 1 : Nat) : Int) := by unfold wrap64; omega
    have e : s.data.toList.drop i = s.data.toList[i] :: s.data.toList.drop (i + 1) := List.drop_eq_getElem_cons hl
    refine Ans.succ ?_
    unfold spec_l1Words.l0
    refine Ans.pos (by omega) (Ans.pos (by omega) ?_)
    rw [bt_get s i hlt, hw, e]
    by_cases hc : s.data.toList[i] = 32
    · refine Ans.pos (by rw [hc]; rfl) (Ans.pos (by omega) ?_)
      refine (words_l0 s hs m (i + 1) (by omega) (by omega) (x3 ++ [x4]) (⟨#[]⟩ : ByteArray) (by simp; omega) (Nat.zero_le _)).mono ?_
      rintro v rfl
      rw [wlpB, if_pos hc]
      simp
    · refine Ans.neg (fun h => hc (UInt8.toNat_inj.mp (by have : ((32 : UInt8).toNat : Int) = 32 := rfl; omega))) (Ans.pos (by omega) (Ans.pos (by omega) ?_))
      have ex : s.extract ((i : Int)).toNat ((((i + 1 : Nat) : Int))).toNat = ⟨#[s.data.toList[i]]⟩ := by simp only [Int.toNat_natCast]; exact extract_get s i hlt
      rw [ex]
      have h1 : (⟨#[s.data.toList[i]]⟩ : ByteArray).size = 1 := rfl
      refine Ans.pos (by rw [h1]; omega) ?_
      refine (words_l0 s hs m (i + 1) (by omega) (by omega) x3 (x4 ++ ⟨#[s.data.toList[i]]⟩) (by omega) (by rw [ByteArray.size_append, h1]; omega)).mono ?_
      rintro v rfl
      rw [wlpB, if_neg hc]
theorem wlpB_data : ∀ (l : List UInt8) (w : ByteArray), wlpB w l = match wlpB ⟨#[]⟩ l with
    | [] => []
    | h :: t => (w ++ h) :: t
  | [], w => by simp only [wlpB]; congr 1; exact ba_ext (by simp)
  | c :: r, w => by
    by_cases hc : c = 32
    · subst hc
      simp only [wlpB, if_true]
      congr 1; exact ba_ext (by simp)
    · simp only [wlpB, if_neg hc]
      rw [wlpB_data r (w ++ ⟨#[c]⟩), wlpB_data r (⟨#[]⟩ ++ ⟨#[c]⟩)]
      cases wlpB ⟨#[]⟩ r with
      | nil => rfl
      | cons h t => simp only [List.cons.injEq, and_true]; exact ba_ext (by simp)
theorem wlp_eq : ∀ (l : List UInt8), Lib.splitK [32] 0 (Lib.count l [32]) l = (wlpB ⟨#[]⟩ l).map (·.data.toList)
  | [] => by rw [Lib.count_miss (by simp [Lib.index])]; rfl
  | b :: l => by
    by_cases h : b = 32
    · subst h
      rw [Lib.count_cons_eq, Nat.add_comm]
      have hix : Lib.index (32 :: l) [32] = 0 := by rw [Lib.index]; simp [List.isPrefixOf]
      unfold Lib.splitK
      rw [hix]
      simp only [wlpB, if_true, List.map_cons]
      simp [wlp_eq l]
    · rw [Lib.count_cons_ne b 32 l h]
      have hp : ([32] : List UInt8).isPrefixOf (b :: l) = false := by simp [List.isPrefixOf, Ne.symm h]
      have hix : Lib.index (b :: l) [32] = if Lib.index l [32] == -1 then -1 else Lib.index l [32] + 1 := by rw [Lib.index, hp]; simp
      have ih := wlp_eq l
      simp only [wlpB, if_neg h]
      rw [wlpB_data l (⟨#[]⟩ ++ ⟨#[b]⟩)]
      by_cases hm : Lib.index l [32] = -1
      · rw [Lib.count_miss hm] at ih ⊢
        simp only [Lib.splitK] at ih ⊢
        cases hw : wlpB ⟨#[]⟩ l with
        | nil => rw [hw] at ih; simp at ih
        | cons x t => rw [hw] at ih; simp at ih ⊢; exact ⟨ih.1, ih.2⟩
      · have hge := Lib.index_ge l [32]
        obtain ⟨j, hj⟩ : ∃ j : Nat, Lib.index l [32] = j := ⟨(Lib.index l [32]).toNat, by omega⟩
        have hix' : Lib.index (b :: l) [32] = ((j + 1 : Nat) : Int) := by rw [hix, if_neg (fun e => hm (beq_iff_eq.1 e)), hj]; omega
        rw [Lib.count_hit (by simp) hj, Nat.add_comm] at ih ⊢
        unfold Lib.splitK at ih ⊢
        rw [hix', if_neg (fun h => by have := beq_iff_eq.1 h; omega)]
        rw [hj, if_neg (fun h => by have := beq_iff_eq.1 h; omega)] at ih
        cases hw : wlpB ⟨#[]⟩ l with
        | nil => rw [hw] at ih; simp at ih
        | cons x t => rw [hw] at ih; simp at ih ⊢; exact ⟨ih.1, ih.2⟩
theorem map_inj_data : ∀ {a b : List ByteArray}, a.map (·.data.toList) = b.map (·.data.toList) → a = b
  | [], [], _ => rfl
  | [], _ :: _, h => by simp at h
  | _ :: _, [], h => by simp at h
  | x :: a, y :: b, h => by
    simp only [List.map_cons, List.cons.injEq] at h
    rw [ba_ext h.1, map_inj_data h.2]
theorem wordsB_eq (s : ByteArray) : wordsB s = wlpB ⟨#[]⟩ s.data.toList := by
  apply map_inj_data
  unfold wordsB
  rw [Lib.splitB_data, ← wlp_eq]
  try rfl
theorem words_a (s : ByteArray) (hs : s.size ≤ 1048576) : Ans (fun k => spec_l1Words.f k s) (fun r => r = wordsB s) := by
  refine (words_l0 s hs _ 0 rfl (Nat.zero_le _) [] ⟨#[]⟩ (Nat.le_refl _) (Nat.le_refl _)).mono ?_
  rintro v rfl
  rw [wordsB_eq]; rfl
/-! ### Words that are put together -/
def joinB (w : ByteArray) (l : List ByteArray) : ByteArray := l.foldl (fun s x => s ++ ((⟨#[32]⟩ : ByteArray) ++ x)) w
def noBlank (b : ByteArray) : Prop := ∀ c ∈ b.data.toList, c ≠ 32
theorem wlpB_noBlank : ∀ (l : List UInt8) (w : ByteArray) (r : List UInt8), (∀ c ∈ l, c ≠ 32) → wlpB w (l ++ r) = wlpB (w ++ ⟨l.toArray⟩) r
  | [], w, r, _ => by simp only [List.nil_append]; congr 1; exact ba_ext (by simp)
  | c :: l, w, r, h => by
    have hc : c ≠ 32 := h c (by simp)
    simp only [List.cons_append, wlpB, if_neg hc]
    rw [wlpB_noBlank l (w ++ ⟨#[c]⟩) r (fun x hx => h x (by simp [hx]))]
    congr 1; exact ba_ext (by simp)
theorem wlpB_join : ∀ (l : List ByteArray) (w u : ByteArray), noBlank w → (∀ x ∈ l, noBlank x) → wlpB u (joinB w l).data.toList = (u ++ w) :: l
  | [], w, u, hw, _ => by
    have := wlpB_noBlank w.data.toList u [] hw
    rw [List.append_nil] at this
    show wlpB u w.data.toList = _
    rw [this]
    rfl
  | x :: l, w, u, hw, hl => by
    have e : ∀ (l : List ByteArray) (w x : ByteArray), (joinB (w ++ ((⟨#[32]⟩ : ByteArray) ++ x)) l).data.toList = w.data.toList ++ 32 :: (joinB x l).data.toList := by
      intro l
      induction l with
      | nil => intro w x; simp [joinB]
      | cons y l ih =>
        intro w x
        have h1 := ih (w ++ ((⟨#[32]⟩ : ByteArray) ++ x)) y
        have h2 := ih x y
        simp only [joinB, List.foldl_cons] at h1 h2 ⊢
        rw [h1, h2]
        simp
    have h0 : joinB w (x :: l) = joinB (w ++ ((⟨#[32]⟩ : ByteArray) ++ x)) l := rfl
    rw [h0, e, wlpB_noBlank w.data.toList u _ hw]
    simp only [wlpB, if_true]
    rw [wlpB_join l x ⟨#[]⟩ (hl x (by simp)) (fun y hy => hl y (by simp [hy]))]
    have e2 : (⟨#[]⟩ : ByteArray) ++ x = x := ba_ext (by simp)
    have e3 : u ++ ⟨w.data.toList.toArray⟩ = u ++ w := ba_ext (by simp)
    rw [e2]
theorem words_join (w : ByteArray) (l : List ByteArray) (hw : noBlank w) (hl : ∀ x ∈ l, noBlank x) : wordsB (joinB w l) = w :: l := by
  have e2 : (⟨#[]⟩ : ByteArray) ++ w = w := ba_ext (by simp)
  rw [wordsB_eq, wlpB_join l w ⟨#[]⟩ hw hl, e2]
theorem wlpB_ne : ∀ (r : List UInt8) (w : ByteArray), wlpB w r ≠ []
  | [], w => by simp [wlpB]
  | c :: r, w => by
    unfold wlpB
    split
    · simp
    · exact wlpB_ne r _
theorem join_wlpB : ∀ (r : List UInt8) (w : ByteArray), (match wlpB w r with | [] => (⟨#[]⟩ : ByteArray) | h :: t => joinB h t).data.toList = w.data.toList ++ r
  | [], w => by simp [wlpB, joinB]
  | c :: r, w => by
    by_cases hc : c = 32
    · subst hc
      simp only [wlpB, if_true]
      have ih := join_wlpB r ⟨#[]⟩
      cases hw : wlpB ⟨#[]⟩ r with
      | nil => exact absurd hw (wlpB_ne r _)
      | cons x t =>
        rw [hw] at ih
        have e : ∀ (t : List ByteArray) (w x : ByteArray), (joinB w (x :: t)).data.toList = w.data.toList ++ 32 :: (joinB x t).data.toList := by
          intro t
          induction t with
          | nil => intro w x; simp [joinB]
          | cons y t ih =>
            intro w x
            have h1 := ih (w ++ ((⟨#[32]⟩ : ByteArray) ++ x)) y
            have h2 := ih x y
            simp only [joinB, List.foldl_cons] at h1 h2 ⊢
            rw [h1, h2]
            simp
        show (joinB w (x :: t)).data.toList = _
        rw [e]
        simp only [List.append_cancel_left_eq, List.cons.injEq, true_and]
        simpa using ih
    · simp only [wlpB, if_neg hc]
      have ih := join_wlpB r (w ++ ⟨#[c]⟩)
      rw [ih]
      simp
theorem join_words (s w : ByteArray) (l : List ByteArray) (h : wordsB s = w :: l) : joinB w l = s := by
  have := join_wlpB s.data.toList ⟨#[]⟩
  rw [← wordsB_eq, h] at this
  exact ba_ext (by simpa using this)
end Go.Proofs.YtffmbccgcaghjaaGreatDoor.P

/- Plain words of numbers: what spec.l1Num answers; what strconv.Atoi answers of a numeral. -/
namespace Go.Proofs.YtffmbccgcaghjaaGreatDoor.P
open Go.RowKit Go.Proofs.YtffmbccgcaghjaaGreatDoorUFnExactRwrLine.PrintWords Go.Proofs.YtffmbccgcaghjaaGreatDoorUFnExactRwrLine.PrintLast Go.Proofs.YtffmbccgcaghjaaGreatDoorUFnExactRwrLine.PrintMore
set_option linter.unusedVariables false
set_option linter.unusedSimpArgs false
def isDg (c : UInt8) : Prop := 48 ≤ c.toNat ∧ c.toNat ≤ 57
def valF (a : Nat) (l : List UInt8) : Nat := l.foldl (fun a b => a * 10 + (b.toNat - 48)) a
theorem dg_of {d : Nat} (h : d < 10) : isDg (UInt8.ofNat (48 + d)) ∧ (UInt8.ofNat (48 + d)).toNat - 48 = d := by
  have e : (UInt8.ofNat (48 + d)).toNat = 48 + d := by simp; omega
  unfold isDg; rw [e]; omega
theorem numB_data_small {n : Nat} (h : n < 10) : (numB n).data.toList = [UInt8.ofNat (48 + n)] := by
  rw [numB_small h]; rfl
theorem numB_data_big {n : Nat} (h : ¬ n < 10) : (numB n).data.toList = (numB (n / 10 : Nat)).data.toList ++ [UInt8.ofNat (48 + n % 10)] := by
  rw [numB_big h, ByteArray.data_append, Array.toList_append]; rfl
theorem numB_dg : ∀ (N n : Nat), n < N → (∀ c ∈ (numB n).data.toList, isDg c) ∧ valF 0 (numB n).data.toList = n ∧ (numB n).data.toList ≠ []
  | 0, n, h => by omega
  | N + 1, n, h => by
    by_cases h9 : n < 10
    · rw [numB_data_small h9]
      refine ⟨fun c hc => ?_, ?_, by simp⟩
      · simp at hc; subst hc; have := (dg_of h9).1; simpa using this
      · have := (dg_of h9).2; simp only [valF, List.foldl_cons, List.foldl_nil]; omega
    · rw [numB_data_big h9]
      obtain ⟨i1, i2, i3⟩ := numB_dg N (n / 10) (by omega)
      have hd : n % 10 < 10 := by omega
      refine ⟨fun c hc => ?_, ?_, by simp⟩
      · rcases List.mem_append.1 hc with hc | hc
        · exact i1 c hc
        · have e := List.mem_singleton.1 hc; subst e; exact (dg_of hd).1
      · have := (dg_of hd).2
        unfold valF at i2 ⊢
        rw [List.foldl_append, i2]
        simp only [List.foldl_cons, List.foldl_nil]
        omega
theorem numB_inj {a b : Nat} (h : numB a = numB b) : a = b := by
  have h1 := (numB_dg (a + 1) a (by omega)).2.1
  have h2 := (numB_dg (b + 1) b (by omega)).2.1
  rw [h] at h1; omega
theorem numB_size4 {n : Nat} (h : n ≤ 9999) : (numB n).size ≤ 4 ∧ 1 ≤ (numB n).size := by
  have e : (numB n).size = Lib.nDigits n := by
    unfold numB Lib.itoa
    rw [if_neg (by omega)]
    show (Lib.decDigits (n : Int).toNat).toArray.size = _
    rw [List.size_toArray, Lib.decDigits_length]; rfl
  rw [e]
  by_cases a : n < 10
  · rw [Lib.nDigits_small a]; omega
  · rw [Lib.nDigits_big a]
    by_cases b : n / 10 < 10
    · rw [Lib.nDigits_small b]; omega
    · rw [Lib.nDigits_big b]
      by_cases c : n / 10 / 10 < 10
      · rw [Lib.nDigits_small c]; omega
      · rw [Lib.nDigits_big c, Lib.nDigits_small (by omega)]; omega
theorem numB_noBlank (n : Nat) : noBlank (numB n) := by
  intro c hc e
  have := (numB_dg (n + 1) n (by omega)).1 c hc
  subst e
  unfold isDg at this
  simp at this
theorem valF_lt : ∀ (l : List UInt8) (a : Nat), (∀ c ∈ l, isDg c) → valF a l + 1 ≤ (a + 1) * 10 ^ l.length
  | [], a, _ => by simp [valF]
  | c :: l, a, h => by
    have hc := h c (by simp)
    have ih := valF_lt l (a * 10 + (c.toNat - 48)) (fun x hx => h x (by simp [hx]))
    unfold isDg at hc
    have : (a * 10 + (c.toNat - 48) + 1) * 10 ^ l.length ≤ ((a + 1) * 10) * 10 ^ l.length := Nat.mul_le_mul_right _ (by omega)
    simp only [valF, List.foldl_cons, List.length_cons, Nat.pow_succ] at ih ⊢
    rw [Nat.mul_assoc, Nat.mul_comm 10] at this
    omega
theorem parse_dg : ∀ (l : List UInt8) (a : Nat), (∀ c ∈ l, isDg c) → (a + 1) * 10 ^ l.length ≤ 10 ^ 18 → Lib.parseUint10 a l = .ok (valF a l)
  | [], a, _, _ => rfl
  | c :: l, a, h, hb => by
    have hc := h c (by simp)
    unfold isDg at hc
    have hp : 1 ≤ 10 ^ l.length := Nat.one_le_pow _ _ (by decide)
    have h1 : ((a + 1) * 10) * 1 ≤ ((a + 1) * 10) * 10 ^ l.length := Nat.mul_le_mul_left _ hp
    have h2 : (a + 1) * 10 ^ (l.length + 1) = ((a + 1) * 10) * 10 ^ l.length := by rw [Nat.pow_succ, Nat.mul_comm (10 ^ l.length) 10, Nat.mul_assoc]
    simp only [List.length_cons] at hb
    have h3 : (a * 10 + (c.toNat - 48) + 1) * 10 ^ l.length ≤ ((a + 1) * 10) * 10 ^ l.length := Nat.mul_le_mul_right _ (by omega)
    unfold Lib.parseUint10
    rw [if_pos hc, if_neg (by omega), if_neg (by omega), parse_dg l _ (fun x hx => h x (by simp [hx])) (by omega)]
    rfl
theorem atoiO_num {n : Nat} (h : n ≤ 9999) : atoiO (numB n) = some (n : Int) := by
  obtain ⟨h1, h2, h3⟩ := numB_dg (n + 1) n (by omega)
  have hs : (numB n).data.toList.length ≤ 4 := by rw [len_size]; exact (numB_size4 h).1
  have hp := parse_dg (numB n).data.toList 0 h1 (by
    have : 10 ^ (numB n).data.toList.length ≤ 10 ^ 4 := Nat.pow_le_pow_right (by decide) hs
    omega)
  rw [h2] at hp
  have e : Lib.atoiAll (numB n).data.toList = .ok (n : Int) := by
    generalize (numB n).data.toList = l at h1 h3 hp
    match l, h3 with
    | c :: r, _ =>
      have hc := h1 c (by simp)
      unfold isDg at hc
      unfold Lib.atoiAll
      simp only
      rw [if_neg (by omega)]
      unfold Lib.parseMag
      rw [if_neg (by simp), hp]
      simp only
      rw [if_neg (by omega), if_neg (by omega), if_neg (by omega)]
  unfold atoiO
  rw [e]
/-- What a word reads as. -/
def NumIs (s : ByteArray) (v : Int) : Prop := (∃ n : Nat, n ≤ 9999 ∧ s = numB n ∧ v = n) ∨ (v = -1 ∧ ∀ n : Nat, n ≤ 9999 → s ≠ numB n)
theorem num_step (V c : Nat) (hV : V ≤ 9999) (h0 : 48 ≤ c) (h1 : c ≤ 57) : wrap64 (wrap64 ((V : Int) * 10) + ((c : Int) - 48) % 256) = ((V * 10 + (c - 48) : Nat) : Int) := by
  have e1 : wrap64 ((V : Int) * 10) = (V : Int) * 10 := w64 _ (by omega)
  have e2 : ((c : Int) - 48) % 256 = (c : Int) - 48 := by omega
  rw [e1, e2, w64 _ (by omega)]
  omega
theorem num_l0 (s : ByteArray) (hs : s.size ≤ 4) : ∀ (m i : Nat), s.size - i = m → i ≤ s.size → (∀ c ∈ s.data.toList.take i, isDg c) →
    Ans (fun k => spec_l1Num.l0 k s (valF 0 (s.data.toList.take i) : Nat) i) (NumIs s)
  | 0, i, hm, hi, hd => by
    have hl : s.data.toList.length ≤ i := by rw [len_size]; omega
    rw [List.take_of_length_le hl] at hd ⊢
    have hv := valF_lt s.data.toList 0 hd
    have hp : 10 ^ s.data.toList.length ≤ 10 ^ 4 := Nat.pow_le_pow_right (by decide) (by rw [len_size]; exact hs)
    refine Ans.succ ?_
    unfold spec_l1Num.l0
    refine Ans.neg (by omega) ?_
    refine Ans.bind (plain_a (n := valF 0 s.data.toList) (by omega)) ?_
    rintro v rfl
    refine Ans.ite (fun h => Ans.pure (.inl ⟨_, by omega, (toList_inj h).symm, rfl⟩)) (fun h => Ans.pure (.inr ⟨rfl, ?_⟩))
    intro n hn e
    refine h ?_
    have := (numB_dg (n + 1) n (by omega)).2.1
    rw [← e] at this
    rw [this, ← e]
  | m + 1, i, hm, hi, hd => by
    have hlt : i < s.size := by omega
    have hl : i < s.data.toList.length := by rw [len_size]; exact hlt
    have hw : wrap64 ((i : Int) + 1) = ((i + 1 : Nat) : Int) := by unfold wrap64; omega
    have hno : ∀ (h : ¬ isDg s.data.toList[i]) (n : Nat), n ≤ 9999 → s ≠ numB n := by
      intro h n hn e
      have := (numB_dg (n + 1) n (by omega)).1 (s.data.toList[i]) (by rw [← e]; exact List.getElem_mem hl)
      exact h this
    refine Ans.succ ?_
    unfold spec_l1Num.l0
    refine Ans.pos (by omega) (Ans.pos (by omega) ?_)
    rw [bt_get s i hlt, hw]
    have hc8 := (s.data.toList[i]).toNat_lt
    refine Ans.ite (fun h => Ans.pure (.inr ⟨rfl, hno (fun q => by unfold isDg at q; omega)⟩)) (fun h1 => ?_)
    refine Ans.ite (fun h => Ans.pure (.inr ⟨rfl, hno (fun q => by unfold isDg at q; omega)⟩)) (fun h2 => ?_)
    have hdi : isDg s.data.toList[i] := by unfold isDg; omega
    have ht : s.data.toList.take (i + 1) = s.data.toList.take i ++ [s.data.toList[i]] := List.take_succ_eq_append_getElem hl
    have hd' : ∀ c ∈ s.data.toList.take (i + 1), isDg c := by
      rw [ht]
      intro c hc
      rcases List.mem_append.1 hc with hc | hc
      · exact hd c hc
      · have e := List.mem_singleton.1 hc; subst e; exact hdi
    have hv := valF_lt _ 0 hd
    have hp : 10 ^ (s.data.toList.take i).length ≤ 10 ^ 4 := Nat.pow_le_pow_right (by decide) (by rw [List.length_take]; omega)
    have e : wrap64 (wrap64 ((valF 0 (s.data.toList.take i) : Nat) * 10) + (((s.data.toList[i]).toNat : Int) - 48) % 256) = (valF 0 (s.data.toList.take (i + 1)) : Nat) := by
      have e1 : valF 0 (s.data.toList.take (i + 1)) = valF 0 (s.data.toList.take i) * 10 + ((s.data.toList[i]).toNat - 48) := by
        rw [ht]; unfold valF; rw [List.foldl_append]; rfl
      rw [e1]
      unfold isDg at hdi
      exact num_step _ _ (by omega) hdi.1 hdi.2
    rw [e]
    exact num_l0 s hs m (i + 1) (by omega) (by omega) hd'
theorem num_a (s : ByteArray) : Ans (fun k => spec_l1Num.f k s) (NumIs s) := by
  unfold spec_l1Num.f
  refine Ans.ite (fun h => ?_) (fun h => ?_)
  · refine Ans.succ ?_
    unfold spec_l1Num.j0
    refine Ans.pos rfl (Ans.pure (.inr ⟨rfl, fun n hn e => ?_⟩))
    have := (numB_size4 hn).2
    rw [← e] at this; omega
  · refine Ans.succ ?_
    unfold spec_l1Num.j0
    refine Ans.ite (fun h4 => Ans.pure (.inr ⟨rfl, fun n hn e => ?_⟩)) (fun h4 => ?_)
    · have := (numB_size4 hn).1
      rw [← e] at this
      have := of_decide_eq_true h4
      omega
    · have h4' : ¬ ((s.size : Int) > 4) := fun q => h4 (decide_eq_true q)
      exact num_l0 s (by omega) _ 0 rfl (Nat.zero_le _) (by simp)
end Go.Proofs.YtffmbccgcaghjaaGreatDoor.P

/- Ends' texts in plain words: what spec.EndRead, spec.LinSays and their like answer, and that impl.said agrees. -/
namespace Go.Proofs.YtffmbccgcaghjaaGreatDoor.P
open Go.RowKit Go.Proofs.YtffmbccgcaghjaaGreatDoorUFnExactRwrLine.PrintWords Go.Proofs.YtffmbccgcaghjaaGreatDoorUFnExactRwrLine.PrintLast Go.Proofs.YtffmbccgcaghjaaGreatDoorUFnExactRwrLine.PrintMore
set_option linter.unusedVariables false
set_option linter.unusedSimpArgs false
theorem index_at : ∀ (x y : List UInt8), (∀ c ∈ x, c ≠ 32) → Lib.index (x ++ 32 :: y) [32] = x.length
  | [], y, _ => by rw [List.nil_append, Lib.index]; simp [List.isPrefixOf]
  | b :: x, y, h => by
    have hb : b ≠ 32 := h b (by simp)
    have hp : ([32] : List UInt8).isPrefixOf (b :: (x ++ 32 :: y)) = false := by simp [List.isPrefixOf, Ne.symm hb]
    have ih := index_at x y (fun c hc => h c (by simp [hc]))
    rw [List.cons_append, Lib.index, hp, ih]
    simp
theorem cut_at {x y : ByteArray} (h : noBlank x) : cutW ((x ++ (⟨#[32]⟩ : ByteArray)) ++ y) = (x, y) := by
  have e : ((x ++ (⟨#[32]⟩ : ByteArray)) ++ y).data.toList = x.data.toList ++ 32 :: y.data.toList := by simp
  have hi := index_at x.data.toList y.data.toList h
  unfold cutW
  rw [e]
  unfold Lib.cut
  rw [hi, if_pos (by omega)]
  have e1 : (x.data.toList ++ 32 :: y.data.toList).take x.data.toList.length = x.data.toList := List.take_left
  have e2 : (x.data.toList ++ 32 :: y.data.toList).drop (x.data.toList.length + 1) = y.data.toList := by
    have : x.data.toList ++ 32 :: y.data.toList = (x.data.toList ++ [32]) ++ y.data.toList := by simp
    rw [this]
    exact List.drop_left' (by simp)
  simp only [Int.toNat_natCast, List.length_cons, List.length_nil, Nat.zero_add, e1, e2]
theorem readEndW_some {t : ByteArray} {a p : Int} (h : readEndW t = some (a, p)) : endOkB a p = true ∧ t = etext a p := by
  unfold readEndW at h
  simp only [Option.bind_eq_some_iff] at h
  obtain ⟨a', h1, p', h2, h3⟩ := h
  by_cases ht : etext a' p' = t
  · rw [if_pos ht] at h3
    cases h3
    refine ⟨?_, ht.symm⟩
    cases hk : endOkB a p with
    | true => rfl
    | false =>
      unfold etext at ht
      rw [hk] at ht
      rw [← ht, if_neg (by simp)] at h1
      have : atoiO (cutW (⟨#[]⟩ : ByteArray)).1 = none := by decide
      rw [this] at h1; cases h1
  · rw [if_neg ht] at h3; cases h3
theorem readEndW_of {a p : Int} (h : endOkB a p = true) : readEndW (etext a p) = some (a, p) := by
  have hb := endOkB_le h
  obtain ⟨m, rfl⟩ : ∃ m : Nat, a = m := ⟨a.toNat, by omega⟩
  obtain ⟨n, rfl⟩ : ∃ n : Nat, p = n := ⟨p.toNat, by omega⟩
  have e : etext (m : Int) n = (numB m ++ (⟨#[32]⟩ : ByteArray)) ++ numB n := by unfold etext; rw [if_pos h]
  unfold readEndW
  rw [e, cut_at (numB_noBlank m), atoiO_num (by omega), atoiO_num (by omega)]
  simp only [Option.bind_some]
  rw [if_pos e]
theorem etext_join {a p : Int} (h : endOkB a p = true) : etext a p = joinB (numB a) [numB p] := by
  unfold etext joinB; rw [if_pos h]; simp [ByteArray.append_assoc]
theorem etext_words {a p : Int} (h : endOkB a p = true) : wordsB (etext a p) = [numB a, numB p] := by
  have hb := endOkB_le h
  obtain ⟨m, rfl⟩ : ∃ m : Nat, a = m := ⟨a.toNat, by omega⟩
  obtain ⟨n, rfl⟩ : ∃ n : Nat, p = n := ⟨p.toNat, by omega⟩
  rw [etext_join h]
  exact words_join _ _ (numB_noBlank m) (by intro x hx; rw [List.mem_singleton.1 hx]; exact numB_noBlank n)
theorem numE_same {b : ByteArray} {n x : Int} (h : b = numB n) (h0 : 0 ≤ n) (h1 : n ≤ 999) (hx : NumIs b x) : x = n := by
  obtain ⟨k, rfl⟩ : ∃ k : Nat, n = k := ⟨n.toNat, by omega⟩
  rcases hx with ⟨m, hm, e, rfl⟩ | ⟨_, hno⟩
  · have := numB_inj (e.symm.trans h); omega
  · exact absurd h (hno k (by omega))
theorem endW_len {s : ByteArray} (h : (wordsB s).length ≠ 2) : readEndW s = none := by
  cases hr : readEndW s with
  | none => rfl
  | some r =>
    obtain ⟨a, p⟩ := r
    obtain ⟨hk, e⟩ := readEndW_some hr
    rw [e, etext_words hk] at h
    exact absurd rfl h
theorem endW_key {s b1 b2 : ByteArray} (hw : wordsB s = [b1, b2]) {x1 x2 : Int} (h1 : NumIs b1 x1) (h2 : NumIs b2 x2) : readEndW s = if endOkB x1 x2 then some (x1, x2) else none := by
  cases hk : endOkB x1 x2 with
  | true =>
    have hb := endOkB_le hk
    have q1 : b1 = numB x1 := by
      rcases h1 with ⟨m, hm, e, rfl⟩ | ⟨e, _⟩
      · exact e
      · omega
    have q2 : b2 = numB x2 := by
      rcases h2 with ⟨m, hm, e, rfl⟩ | ⟨e, _⟩
      · exact e
      · omega
    have e : s = etext x1 x2 := by rw [etext_join hk, ← q1, ← q2]; exact (join_words s b1 _ hw).symm
    rw [e]
    exact readEndW_of hk
  | false =>
    cases hr : readEndW s with
    | none => simp
    | some r =>
      obtain ⟨a, p⟩ := r
      obtain ⟨hk', e⟩ := readEndW_some hr
      have hb := endOkB_le hk'
      rw [e, etext_words hk'] at hw
      simp only [List.cons.injEq, and_true] at hw
      have g1 := numE_same hw.1.symm (by omega) (by omega) h1
      have g2 := numE_same hw.2.symm (by omega) (by omega) h2
      rw [g1, g2, hk'] at hk
      cases hk
end Go.Proofs.YtffmbccgcaghjaaGreatDoor.P

-- written by hw.py for this claim
namespace Go.Proofs.YtffmbccgcaghjaaGreatDoor.P
open Go.RowKit Go.Proofs.YtffmbccgcaghjaaGreatDoorUFnExactRwrLine.PrintWords Go.Proofs.YtffmbccgcaghjaaGreatDoorUFnExactRwrLine.PrintLast Go.Proofs.YtffmbccgcaghjaaGreatDoorUFnExactRwrLine.PrintMore
attribute [local go_sem] max2_int min2_int max_two min_two max_three min_three max_four min_four
set_option linter.unusedVariables false
set_option linter.unusedSimpArgs false

/-! ### impl_EndOk: function 56 -/
def impl_EndOk.f (a0_0 : Int) (a0_1 : Int) : Option (Bool) := (impl_inside.f a0_0).bind fun t305 => (if t305 = true then ((impl_portOk.f a0_1).bind fun t306 => (some t306)) else ((impl_outside.f a0_0).bind fun t307 => (if t307 = true then ((impl_portOk.f a0_1).bind fun t308 => (some t308)) else (if a0_0 = 50 then ((impl_portOk.f a0_1).bind fun t309 => (some t309)) else (some false)))))
set_option maxHeartbeats 8000000 in
set_option maxRecDepth 100000 in
theorem impl_EndOk.calls (a0_0 : Int) (a0_1 : Int) (r : Bool) (w : World) (h : impl_EndOk.f a0_0 a0_1 = some r) :
    Calls Tryz.prog 56 #[.agg #[.int .i64 a0_0, .int .i64 a0_1]] w fun e w' => e = .returned (.bool r) ∧ Below w.heap.size w w' := by
  have hu34 := Tryz.underlying34
  have HB := Aside0.mk (Below.refl w.heap.size w)
  have H : ((impl_inside.f a0_0).bind fun t305 => (if t305 = true then ((impl_portOk.f a0_1).bind fun t306 => (some t306)) else ((impl_outside.f a0_0).bind fun t307 => (if t307 = true then ((impl_portOk.f a0_1).bind fun t308 => (some t308)) else (if a0_0 = 50 then ((impl_portOk.f a0_1).bind fun t309 => (some t309)) else (some false)))))) = some r := h
  clear h
  replace H := Option.bind_eq_some_iff.mp H
  obtain ⟨t305, A20, H⟩ := H
  replace H : (if t305 = true then ((impl_portOk.f a0_1).bind fun t306 => (some t306)) else ((impl_outside.f a0_0).bind fun t307 => (if t307 = true then ((impl_portOk.f a0_1).bind fun t308 => (some t308)) else (if a0_0 = 50 then ((impl_portOk.f a0_1).bind fun t309 => (some t309)) else (some false))))) = some r := H
  have A2 := Aside0.mk A20
  clear A20
  by_cases c3 : t305 = true
  · subst c3
    have H1 : ((impl_portOk.f a0_1).bind fun t306 => (some t306)) = some r := by rw [if_pos rfl] at H; exact H
    clear H
    have H := H1
    clear H1
    replace H := Option.bind_eq_some_iff.mp H
    obtain ⟨t306, A40, H⟩ := H
    replace H : (some t306) = some r := H
    have A4 := Aside0.mk A40
    clear A40
    obtain rfl := Option.some.inj H
    go_enter Tryz.func56, Tryz.ntmps56
    go_wp2_with (first | ((with_reducible refine gate_dst (N := 1) rfl ?_); refine box_event ?hg (N := 1) ?hd (cs := #[.int .i64 a0_0, .int .i64 a0_1]) (t := 34) ?hr ?_; (case hd => rfl); (case hg => rfl); (case hr => first | (go_simp; done) | (go_simp; rfl)); intro gb304 hg w5 hbox hb; have n0_ := Aside0.mk (below_step (bl HB) hb); have n1_ := Aside0.mk (hbox); have n2_ := Aside0.mk ((by rw [hg]; exact (below_size (bl HB)) : w.heap.size ≤ gb304)); have n3_ := Aside0.mk ((by rw [hg]; exact (below_size (bl HB)) : w.heap.size ≤ gb304)); clear HB; have HB := n0_; have BK304 := n1_; have GW304 := n2_; have GE304 := n3_; clear n0_ n1_ n2_ n3_; clear hb hbox hg; have hcz6_0 : w5.cell? ⟨gb304, 0, none⟩ = some (.int .i64 a0_0) := (blk_cell BK304.out 0).trans rfl; have hcz6_1 : w5.cell? ⟨gb304, 1, none⟩ = some (.int .i64 a0_1) := (blk_cell BK304.out 1).trans rfl; have hfz6_0 := blk_frozen BK304.out 0; have hfz6_1 := blk_frozen BK304.out 1) | ((with_reducible refine gate_callee (f := 84) rfl ?_); refine goesL_ (some 5) rfl rfl Tryz.func84 (by kernel_rfl) rfl #[.int .i64 a0_0] rfl (by (try simp only [List.map_toArray, List.map_cons, List.map_nil]); first | done | rfl | (simp only [List.length_drop, List.length_take]; rfl)) ?_; (with_reducible refine (impl_inside.calls a0_0 true _ A2.out).mono ?_); rintro e w' ⟨rfl, ⟨nd, rfl⟩⟩; refine ⟨_, rfl, ?_⟩) | (go_at_call 85; (with_reducible refine (impl_portOk.calls a0_1 t306 _ A4.out).mono ?_); rintro e w' ⟨rfl, ⟨nd, rfl⟩⟩))
    go_ret
    exact ⟨by first | rfl | (simp [errW_none, errW_some] <;> rfl) | (simp [*, errW_none, errW_some] <;> rfl), by repeat (first | (with_reducible first | exact HB.out | apply below_alloc | apply pw_below_drewN | apply below_drew1 | refine below_set ?_ GE304.out) | exact HB.out)⟩
  · replace c3 := Bool.eq_false_iff.mpr c3
    subst c3
    have H1 : ((impl_outside.f a0_0).bind fun t307 => (if t307 = true then ((impl_portOk.f a0_1).bind fun t308 => (some t308)) else (if a0_0 = 50 then ((impl_portOk.f a0_1).bind fun t309 => (some t309)) else (some false)))) = some r := by rw [if_neg (show ¬ (false = true) by decide)] at H; exact H
    clear H
    have H := H1
    clear H1
    replace H := Option.bind_eq_some_iff.mp H
    obtain ⟨t307, A70, H⟩ := H
    replace H : (if t307 = true then ((impl_portOk.f a0_1).bind fun t308 => (some t308)) else (if a0_0 = 50 then ((impl_portOk.f a0_1).bind fun t309 => (some t309)) else (some false))) = some r := H
    have A7 := Aside0.mk A70
    clear A70
    by_cases c8 : t307 = true
    · subst c8
      have H1 : ((impl_portOk.f a0_1).bind fun t308 => (some t308)) = some r := by rw [if_pos rfl] at H; exact H
      clear H
      have H := H1
      clear H1
      replace H := Option.bind_eq_some_iff.mp H
      obtain ⟨t308, A90, H⟩ := H
      replace H : (some t308) = some r := H
      have A9 := Aside0.mk A90
      clear A90
      obtain rfl := Option.some.inj H
      go_enter Tryz.func56, Tryz.ntmps56
      go_wp2_with (first | ((with_reducible refine gate_dst (N := 1) rfl ?_); refine box_event ?hg (N := 1) ?hd (cs := #[.int .i64 a0_0, .int .i64 a0_1]) (t := 34) ?hr ?_; (case hd => rfl); (case hg => rfl); (case hr => first | (go_simp; done) | (go_simp; rfl)); intro gb304 hg w10 hbox hb; have n0_ := Aside0.mk (below_step (bl HB) hb); have n1_ := Aside0.mk (hbox); have n2_ := Aside0.mk ((by rw [hg]; exact (below_size (bl HB)) : w.heap.size ≤ gb304)); have n3_ := Aside0.mk ((by rw [hg]; exact (below_size (bl HB)) : w.heap.size ≤ gb304)); clear HB; have HB := n0_; have BK304 := n1_; have GW304 := n2_; have GE304 := n3_; clear n0_ n1_ n2_ n3_; clear hb hbox hg; have hcz11_0 : w10.cell? ⟨gb304, 0, none⟩ = some (.int .i64 a0_0) := (blk_cell BK304.out 0).trans rfl; have hcz11_1 : w10.cell? ⟨gb304, 1, none⟩ = some (.int .i64 a0_1) := (blk_cell BK304.out 1).trans rfl; have hfz11_0 := blk_frozen BK304.out 0; have hfz11_1 := blk_frozen BK304.out 1) | ((with_reducible refine gate_callee (f := 84) rfl ?_); refine goesL_ (some 5) rfl rfl Tryz.func84 (by kernel_rfl) rfl #[.int .i64 a0_0] rfl (by (try simp only [List.map_toArray, List.map_cons, List.map_nil]); first | done | rfl | (simp only [List.length_drop, List.length_take]; rfl)) ?_; (with_reducible refine (impl_inside.calls a0_0 false _ A2.out).mono ?_); rintro e w' ⟨rfl, ⟨nd, rfl⟩⟩; refine ⟨_, rfl, ?_⟩) | (go_at_call 88; (with_reducible refine (impl_outside.calls a0_0 true _ A7.out).mono ?_); rintro e w' ⟨rfl, ⟨nd, rfl⟩⟩) | (go_at_call 85; (with_reducible refine (impl_portOk.calls a0_1 t308 _ A9.out).mono ?_); rintro e w' ⟨rfl, ⟨nd, rfl⟩⟩))
      go_ret
      exact ⟨by first | rfl | (simp [errW_none, errW_some] <;> rfl) | (simp [*, errW_none, errW_some] <;> rfl), by repeat (first | (with_reducible first | exact HB.out | apply below_alloc | apply pw_below_drewN | apply below_drew1 | refine below_set ?_ GE304.out) | exact HB.out)⟩
    · replace c8 := Bool.eq_false_iff.mpr c8
      subst c8
      have H1 : (if a0_0 = 50 then ((impl_portOk.f a0_1).bind fun t309 => (some t309)) else (some false)) = some r := by rw [if_neg (show ¬ (false = true) by decide)] at H; exact H
      clear H
      have H := H1
      clear H1
      by_cases c12 : a0_0 = 50
      · rw [if_pos c12] at H
        have c12b0 : (a0_0 == 50) = true := beq_iff_eq.mpr c12
        have c12b1 : (a0_0 != 50) = false := bne_eq_false_iff_eq.mpr c12
        clear c12
        replace H := Option.bind_eq_some_iff.mp H
        obtain ⟨t309, A130, H⟩ := H
        replace H : (some t309) = some r := H
        have A13 := Aside0.mk A130
        clear A130
        obtain rfl := Option.some.inj H
        go_enter Tryz.func56, Tryz.ntmps56
        go_wp2_with (first | ((with_reducible refine gate_dst (N := 1) rfl ?_); refine box_event ?hg (N := 1) ?hd (cs := #[.int .i64 a0_0, .int .i64 a0_1]) (t := 34) ?hr ?_; (case hd => rfl); (case hg => rfl); (case hr => first | (go_simp; done) | (go_simp; rfl)); intro gb304 hg w14 hbox hb; have n0_ := Aside0.mk (below_step (bl HB) hb); have n1_ := Aside0.mk (hbox); have n2_ := Aside0.mk ((by rw [hg]; exact (below_size (bl HB)) : w.heap.size ≤ gb304)); have n3_ := Aside0.mk ((by rw [hg]; exact (below_size (bl HB)) : w.heap.size ≤ gb304)); clear HB; have HB := n0_; have BK304 := n1_; have GW304 := n2_; have GE304 := n3_; clear n0_ n1_ n2_ n3_; clear hb hbox hg; have hcz15_0 : w14.cell? ⟨gb304, 0, none⟩ = some (.int .i64 a0_0) := (blk_cell BK304.out 0).trans rfl; have hcz15_1 : w14.cell? ⟨gb304, 1, none⟩ = some (.int .i64 a0_1) := (blk_cell BK304.out 1).trans rfl; have hfz15_0 := blk_frozen BK304.out 0; have hfz15_1 := blk_frozen BK304.out 1) | ((with_reducible refine gate_callee (f := 84) rfl ?_); refine goesL_ (some 5) rfl rfl Tryz.func84 (by kernel_rfl) rfl #[.int .i64 a0_0] rfl (by (try simp only [List.map_toArray, List.map_cons, List.map_nil]); first | done | rfl | (simp only [List.length_drop, List.length_take]; rfl)) ?_; (with_reducible refine (impl_inside.calls a0_0 false _ A2.out).mono ?_); rintro e w' ⟨rfl, ⟨nd, rfl⟩⟩; refine ⟨_, rfl, ?_⟩) | (go_at_call 88; (with_reducible refine (impl_outside.calls a0_0 false _ A7.out).mono ?_); rintro e w' ⟨rfl, ⟨nd, rfl⟩⟩) | (go_at_call 85; (with_reducible refine (impl_portOk.calls a0_1 t309 _ A13.out).mono ?_); rintro e w' ⟨rfl, ⟨nd, rfl⟩⟩))
        go_ret
        exact ⟨by first | rfl | (simp [errW_none, errW_some] <;> rfl) | (simp [*, errW_none, errW_some] <;> rfl), by repeat (first | (with_reducible first | exact HB.out | apply below_alloc | apply pw_below_drewN | apply below_drew1 | refine below_set ?_ GE304.out) | exact HB.out)⟩
      · rw [if_neg c12] at H
        have c12b0 : (a0_0 == 50) = false := beq_eq_false_iff_ne.mpr c12
        have c12b1 : (a0_0 != 50) = true := bne_iff_ne.mpr c12
        obtain rfl := Option.some.inj H
        go_enter Tryz.func56, Tryz.ntmps56
        go_wp2_with (first | ((with_reducible refine gate_dst (N := 1) rfl ?_); refine box_event ?hg (N := 1) ?hd (cs := #[.int .i64 a0_0, .int .i64 a0_1]) (t := 34) ?hr ?_; (case hd => rfl); (case hg => rfl); (case hr => first | (go_simp; done) | (go_simp; rfl)); intro gb304 hg w16 hbox hb; have n0_ := Aside0.mk (below_step (bl HB) hb); have n1_ := Aside0.mk (hbox); have n2_ := Aside0.mk ((by rw [hg]; exact (below_size (bl HB)) : w.heap.size ≤ gb304)); have n3_ := Aside0.mk ((by rw [hg]; exact (below_size (bl HB)) : w.heap.size ≤ gb304)); clear HB; have HB := n0_; have BK304 := n1_; have GW304 := n2_; have GE304 := n3_; clear n0_ n1_ n2_ n3_; clear hb hbox hg; have hcz17_0 : w16.cell? ⟨gb304, 0, none⟩ = some (.int .i64 a0_0) := (blk_cell BK304.out 0).trans rfl; have hcz17_1 : w16.cell? ⟨gb304, 1, none⟩ = some (.int .i64 a0_1) := (blk_cell BK304.out 1).trans rfl; have hfz17_0 := blk_frozen BK304.out 0; have hfz17_1 := blk_frozen BK304.out 1) | ((with_reducible refine gate_callee (f := 84) rfl ?_); refine goesL_ (some 5) rfl rfl Tryz.func84 (by kernel_rfl) rfl #[.int .i64 a0_0] rfl (by (try simp only [List.map_toArray, List.map_cons, List.map_nil]); first | done | rfl | (simp only [List.length_drop, List.length_take]; rfl)) ?_; (with_reducible refine (impl_inside.calls a0_0 false _ A2.out).mono ?_); rintro e w' ⟨rfl, ⟨nd, rfl⟩⟩; refine ⟨_, rfl, ?_⟩) | (go_at_call 88; (with_reducible refine (impl_outside.calls a0_0 false _ A7.out).mono ?_); rintro e w' ⟨rfl, ⟨nd, rfl⟩⟩))
        go_ret
        exact ⟨by first | rfl | (simp [errW_none, errW_some] <;> rfl) | (simp [*, errW_none, errW_some] <;> rfl), by repeat (first | (with_reducible first | exact HB.out | apply below_alloc | apply pw_below_drewN | apply below_drew1 | refine below_set ?_ GE304.out) | exact HB.out)⟩

end Go.Proofs.YtffmbccgcaghjaaGreatDoor.P

/- strconv.Itoa, in the form in which the printed callers meet it. -/
namespace Go.Proofs.YtffmbccgcaghjaaGreatDoor.P
open Go Go.Sort Go.RowKit Go.Proofs.YtffmbccgcaghjaaGreatDoorUFnExactRwrLine.PrintWords Go.Proofs.YtffmbccgcaghjaaGreatDoorUFnExactRwrLine.PrintLast Go.Proofs.YtffmbccgcaghjaaGreatDoorUFnExactRwrLine.PrintMore
set_option linter.unusedVariables false
def strconv_Itoa_89.f (n : Int) : Option ByteArray := if 0 ≤ n ∧ n ≤ 999 then some (numB n) else none
theorem strconv_Itoa_89.calls (a0 : Int) (r : ByteArray) (w : World) (h : strconv_Itoa_89.f a0 = some r) (hE : EnvT w) :
    Calls Tryz.prog 89 #[.int .i64 a0] w fun e w' => e = .returned (.string r) ∧ Below w.heap.size w w' := by
  unfold strconv_Itoa_89.f at h
  by_cases hq : 0 ≤ a0 ∧ a0 ≤ 999
  · rw [if_pos hq] at h
    refine (num_calls a0 hq.1 hq.2 w hE).mono ?_
    rintro e w' ⟨b, rfl, hb, _, hB⟩
    cases h
    exact ⟨by rw [hb], hB⟩
  · rw [if_neg hq] at h; cases h
end Go.Proofs.YtffmbccgcaghjaaGreatDoor.P

-- written by hw.py for this claim
namespace Go.Proofs.YtffmbccgcaghjaaGreatDoor.P
open Go.RowKit Go.Proofs.YtffmbccgcaghjaaGreatDoorUFnExactRwrLine.PrintWords Go.Proofs.YtffmbccgcaghjaaGreatDoorUFnExactRwrLine.PrintLast Go.Proofs.YtffmbccgcaghjaaGreatDoorUFnExactRwrLine.PrintMore
attribute [local go_sem] max2_int min2_int max_two min_two max_three min_three max_four min_four
set_option linter.unusedVariables false
set_option linter.unusedSimpArgs false

/-! ### impl_EndText: function 57 -/
def impl_EndText.f (a0_0 : Int) (a0_1 : Int) : Option (ByteArray) := (impl_EndOk.f a0_0 a0_1).bind fun t330 => (if t330 = true then ((strconv_Itoa_89.f a0_0).bind fun t331 => (if t331.size + 1 ≤ 9223372036854775807 then ((strconv_Itoa_89.f a0_1).bind fun t332 => (if (t331 ++ (⟨#[32]⟩ : ByteArray)).size + t332.size ≤ 9223372036854775807 then (some ((t331 ++ (⟨#[32]⟩ : ByteArray)) ++ t332)) else (none))) else (none))) else (some (⟨#[]⟩ : ByteArray)))
def impl_EndText.T3 : Bool × List (List Nat × List Nat) := (true, [([], []), ([0], [0]), ([1], [1]), ([2], [2]), ([], []), ([4], [4]), ([5, 2], [5]), ([3, 6], [3, 6]), ([7, 6, 0, 1, 2, 3, 4, 5, 6, 7], [7])])
def impl_EndText.B3 : List Nat := [0, 1, 3, 7, 0, 16, 55, 127, 255]
theorem impl_EndText.tab3 : rtab .any (opsOf Tryz.f57 3) = impl_EndText.T3 := by kernel_rfl
theorem impl_EndText.bits3 : waitsOk impl_EndText.T3.2 impl_EndText.B3 = true := by kernel_rfl
set_option maxHeartbeats 8000000 in
set_option maxRecDepth 100000 in
theorem impl_EndText.calls (a0_0 : Int) (a0_1 : Int) (r : ByteArray) (w : World) (h : impl_EndText.f a0_0 a0_1 = some r) (hE : EnvT w) :
    Calls Tryz.prog 57 #[.agg #[.int .i64 a0_0, .int .i64 a0_1]] w fun e w' => e = .returned (.string r) ∧ Below w.heap.size w w' := by
  have hu34 := Tryz.underlying34
  have HB := Aside0.mk (Below.refl w.heap.size w)
  have H : ((impl_EndOk.f a0_0 a0_1).bind fun t330 => (if t330 = true then ((strconv_Itoa_89.f a0_0).bind fun t331 => (if t331.size + 1 ≤ 9223372036854775807 then ((strconv_Itoa_89.f a0_1).bind fun t332 => (if (t331 ++ (⟨#[32]⟩ : ByteArray)).size + t332.size ≤ 9223372036854775807 then (some ((t331 ++ (⟨#[32]⟩ : ByteArray)) ++ t332)) else (none))) else (none))) else (some (⟨#[]⟩ : ByteArray)))) = some r := h
  clear h
  replace H := Option.bind_eq_some_iff.mp H
  obtain ⟨t330, A20, H⟩ := H
  replace H : (if t330 = true then ((strconv_Itoa_89.f a0_0).bind fun t331 => (if t331.size + 1 ≤ 9223372036854775807 then ((strconv_Itoa_89.f a0_1).bind fun t332 => (if (t331 ++ (⟨#[32]⟩ : ByteArray)).size + t332.size ≤ 9223372036854775807 then (some ((t331 ++ (⟨#[32]⟩ : ByteArray)) ++ t332)) else (none))) else (none))) else (some (⟨#[]⟩ : ByteArray))) = some r := H
  have A2 := Aside0.mk A20
  clear A20
  by_cases c3 : t330 = true
  · subst c3
    have H1 : ((strconv_Itoa_89.f a0_0).bind fun t331 => (if t331.size + 1 ≤ 9223372036854775807 then ((strconv_Itoa_89.f a0_1).bind fun t332 => (if (t331 ++ (⟨#[32]⟩ : ByteArray)).size + t332.size ≤ 9223372036854775807 then (some ((t331 ++ (⟨#[32]⟩ : ByteArray)) ++ t332)) else (none))) else (none))) = some r := by rw [if_pos rfl] at H; exact H
    clear H
    have H := H1
    clear H1
    replace H := Option.bind_eq_some_iff.mp H
    obtain ⟨t331, A40, H⟩ := H
    replace H : (if t331.size + 1 ≤ 9223372036854775807 then ((strconv_Itoa_89.f a0_1).bind fun t332 => (if (t331 ++ (⟨#[32]⟩ : ByteArray)).size + t332.size ≤ 9223372036854775807 then (some ((t331 ++ (⟨#[32]⟩ : ByteArray)) ++ t332)) else (none))) else (none)) = some r := H
    have A4 := Aside0.mk A40
    clear A40
    by_cases c5 : t331.size + 1 ≤ 9223372036854775807
    · rw [if_pos c5] at H
      have c5b0 := eq_true c5
      have c5b1 : decide (t331.size + 1 ≤ 9223372036854775807) = true := decide_eq_true c5
      try have c5b2 : (9223372036854775807 < t331.size + 1) = False := eq_false (Nat.not_lt.2 c5)
      replace H := Option.bind_eq_some_iff.mp H
      obtain ⟨t332, A60, H⟩ := H
      replace H : (if (t331 ++ (⟨#[32]⟩ : ByteArray)).size + t332.size ≤ 9223372036854775807 then (some ((t331 ++ (⟨#[32]⟩ : ByteArray)) ++ t332)) else (none)) = some r := H
      have A6 := Aside0.mk A60
      clear A60
      by_cases c7 : (t331 ++ (⟨#[32]⟩ : ByteArray)).size + t332.size ≤ 9223372036854775807
      · rw [if_pos c7] at H
        have c7b0 := eq_true c7
        have c7b1 : decide ((t331 ++ (⟨#[32]⟩ : ByteArray)).size + t332.size ≤ 9223372036854775807) = true := decide_eq_true c7
        try have c7b2 : (9223372036854775807 < (t331 ++ (⟨#[32]⟩ : ByteArray)).size + t332.size) = False := eq_false (Nat.not_lt.2 c7)
        try have c7b3 : (9223372036854775807 < t331.size + 1 + t332.size) = False := (by have z_ := c7b2; simp only [ByteArray.size_append] at z_; exact z_)
        obtain rfl := Option.some.inj H
        go_enter Tryz.func57, Tryz.ntmps57
        try go_wp2_with (first | ((with_reducible refine gate_dst (N := 1) rfl ?_); refine box_event ?hg (N := 1) ?hd (cs := #[.int .i64 a0_0, .int .i64 a0_1]) (t := 34) ?hr ?_; (case hd => rfl); (case hg => rfl); (case hr => first | (go_simp; done) | (go_simp; rfl)); intro gb329 hg w8 hbox hb; have n0_ := Aside0.mk (below_step (bl HB) hb); have n1_ := Aside0.mk (hbox); have n2_ := Aside0.mk ((by rw [hg]; exact (below_size (bl HB)) : w.heap.size ≤ gb329)); have n3_ := Aside0.mk ((by rw [hg]; exact (below_size (bl HB)) : w.heap.size ≤ gb329)); clear HB; have HB := n0_; have BK329 := n1_; have GW329 := n2_; have GE329 := n3_; clear n0_ n1_ n2_ n3_; clear hb hbox hg; have hcz9_0 : w8.cell? ⟨gb329, 0, none⟩ = some (.int .i64 a0_0) := (blk_cell BK329.out 0).trans rfl; have hcz9_1 : w8.cell? ⟨gb329, 1, none⟩ = some (.int .i64 a0_1) := (blk_cell BK329.out 1).trans rfl; have hfz9_0 := blk_frozen BK329.out 0; have hfz9_1 := blk_frozen BK329.out 1) | ((with_reducible refine gate_callee (f := 56) rfl ?_); refine goesL_ (some 4) rfl rfl Tryz.func56 (by kernel_rfl) rfl #[.agg #[.int .i64 a0_0, .int .i64 a0_1]] rfl (by (try simp only [List.map_toArray, List.map_cons, List.map_nil]); first | done | rfl | (simp only [List.length_drop, List.length_take]; rfl)) ?_; (with_reducible refine (impl_EndOk.calls a0_0 a0_1 true _ A2.out).mono ?_); rintro e w10 ⟨rfl, hb⟩; refine ⟨_, rfl, ?_⟩; have n0_ := bkB BK329 hb; have n1_ := Aside0.mk (below_step (bl HB) hb); clear BK329; clear HB; have BK329 := n0_; have HB := n1_; clear n0_ n1_; (try clear hb); (try clear hb2); (try clear hk); (try clear hi)))
        have n0_ := Aside0.mk (blk_drew BK329.out)
        have n1_ := Aside0.mk (below_drew1 HB.out)
        clear BK329
        clear HB
        have BK329 := n0_
        have HB := n1_
        clear n0_ n1_
        refine start_ (n := 9) (S := fun w' => w'.cell? ⟨gb329, 0, none⟩ = some (.int .i64 a0_0) ∧ w'.cell? ⟨gb329, 1, none⟩ = some (.int .i64 a0_1)) (ds := []) #[false, false, false, false, false, false, false, false, false] (by kernel_rfl) rfl rfl ⟨(blk_cell BK329.out 0).trans rfl, (blk_cell BK329.out 1).trans rfl⟩ (fun hHeld => ?_); refine with_tabW impl_EndText.tab3 impl_EndText.bits3 (fun HT_ HW_ => ?_)
        generalize w10.drew = w11 at BK329 HB hHeld ⊢
        refine pure_ (i := 0) (N := some 6) (v := ?_) (a' := ?_) #[true, false, false, false, false, false, false, false, false] rfl rfl (any_of HT_.out (by kernel_rfl)) (fun _ _ _ h => h) (Or.inl ⟨by rfl, ?_⟩) ?_ ?_
        rotate_left
        · intro w'
          go_simp
          with_reducible rfl
        rotate_left
        · simp only [Act.put, List.setIfInBounds_toArray, List.set_cons_zero, List.set_cons_succ, i64_w, i32_w]
          rfl
        refine pure_ (i := 4) (N := some 10) (v := ?_) (a' := ?_) #[true, false, false, false, true, false, false, false, false] rfl rfl (any_of HT_.out (by kernel_rfl)) (fun _ _ _ h => h) (Or.inl ⟨by rfl, ?_⟩) ?_ ?_
        rotate_left
        · intro w'
          go_simp
          with_reducible rfl
        rotate_left
        · simp only [Act.put, List.setIfInBounds_toArray, List.set_cons_zero, List.set_cons_succ, i64_w, i32_w]
          rfl
        refine take_ (i := 1) (N := some 7) (v := ?_) (a' := ?_) #[true, true, false, false, true, false, false, false, false] rfl rfl (take_ofW HT_.out HW_.out (by kernel_rfl)) (fun _ _ _ h => h) (Or.inl ⟨by rfl, ?_⟩) hHeld ?_ ?_
        rotate_left
        · rintro w' ⟨s0, s1⟩
          go_simp
          with_reducible rfl
        rotate_left
        · simp only [Act.put, List.setIfInBounds_toArray, List.set_cons_zero, List.set_cons_succ, i64_w, i32_w]
          rfl
        refine take_ (i := 5) (N := some 11) (v := ?_) (a' := ?_) #[true, true, false, false, true, true, false, false, false] rfl rfl (take_ofW HT_.out HW_.out (by kernel_rfl)) (fun _ _ _ h => h) (Or.inl ⟨by rfl, ?_⟩) hHeld ?_ ?_
        rotate_left
        · rintro w' ⟨s0, s1⟩
          go_simp
          with_reducible rfl
        rotate_left
        · simp only [Act.put, List.setIfInBounds_toArray, List.set_cons_zero, List.set_cons_succ, i64_w, i32_w]
          rfl
        refine one_ (i := 2) (N := some 8) #[true, true, true, false, true, true, false, false, false] rfl rfl (one_of HT_.out (by kernel_rfl)) (by decide) (fun K hK => ?_)
        refine goes_ Tryz.func89 (by kernel_rfl) rfl #[.int .i64 a0_0] (by rfl) rfl rfl (by (try simp only [List.map_toArray, List.map_cons, List.map_nil]); first | done | rfl | (simp only [List.length_drop, List.length_take]; rfl)) ?_
        with_reducible refine (strconv_Itoa_89.calls a0_0 t331 _ A4.out (EnvT.below hE (bl HB))).mono ?_
        rintro e w12 ⟨rfl, hb⟩
        refine ⟨_, rfl, ?_⟩
        have n0_ := bkB BK329 hb
        have n1_ := Aside0.mk (below_step (bl HB) hb)
        clear BK329
        clear HB
        have BK329 := n0_
        have HB := n1_
        clear n0_ n1_
        (try clear hb)
        (try clear hb2)
        (try clear hk)
        (try clear hi)
        refine hK.out _ _ ⟨(blk_cell BK329.out 0).trans rfl, (blk_cell BK329.out 1).trans rfl⟩ (fun hHeld => ?_)
        clear hK K
        refine norm_ (a' := ?_) ?_ ?_
        rotate_left
        · show Act.put _ (some 8) _ = _
          simp only [Act.put, List.setIfInBounds_toArray, List.set_cons_zero, List.set_cons_succ, i64_w, i32_w]
          rfl
        refine pure_ (i := 3) (N := some 9) (v := ?_) (a' := ?_) #[true, true, true, true, true, true, false, false, false] rfl rfl (any_of HT_.out (by kernel_rfl)) (fun _ _ _ h => h) (Or.inl ⟨by rfl, ?_⟩) ?_ ?_
        rotate_left
        · intro w'
          go_simp
          with_reducible rfl
        rotate_left
        · simp only [Act.put, List.setIfInBounds_toArray, List.set_cons_zero, List.set_cons_succ, i64_w, i32_w]
          rfl
        refine one_ (i := 6) (N := some 12) #[true, true, true, true, true, true, true, false, false] rfl rfl (one_of HT_.out (by kernel_rfl)) (by decide) (fun K hK => ?_)
        refine goes_ Tryz.func89 (by kernel_rfl) rfl #[.int .i64 a0_1] (by rfl) rfl rfl (by (try simp only [List.map_toArray, List.map_cons, List.map_nil]); first | done | rfl | (simp only [List.length_drop, List.length_take]; rfl)) ?_
        with_reducible refine (strconv_Itoa_89.calls a0_1 t332 _ A6.out (EnvT.below hE (bl HB))).mono ?_
        rintro e w13 ⟨rfl, hb⟩
        refine ⟨_, rfl, ?_⟩
        have n0_ := bkB BK329 hb
        have n1_ := Aside0.mk (below_step (bl HB) hb)
        clear BK329
        clear HB
        have BK329 := n0_
        have HB := n1_
        clear n0_ n1_
        (try clear hb)
        (try clear hb2)
        (try clear hk)
        (try clear hi)
        refine hK.out _ _ ⟨(blk_cell BK329.out 0).trans rfl, (blk_cell BK329.out 1).trans rfl⟩ (fun hHeld => ?_)
        clear hK K
        refine norm_ (a' := ?_) ?_ ?_
        rotate_left
        · show Act.put _ (some 12) _ = _
          simp only [Act.put, List.setIfInBounds_toArray, List.set_cons_zero, List.set_cons_succ, i64_w, i32_w]
          rfl
        refine pure_ (i := 7) (N := some 13) (v := ?_) (a' := ?_) #[true, true, true, true, true, true, true, true, false] rfl rfl (any_of HT_.out (by kernel_rfl)) (fun _ _ _ h => h) (Or.inl ⟨by rfl, ?_⟩) ?_ ?_
        rotate_left
        · intro w'
          go_simp
          with_reducible rfl
        rotate_left
        · simp only [Act.put, List.setIfInBounds_toArray, List.set_cons_zero, List.set_cons_succ, i64_w, i32_w]
          rfl
        refine pure_ (i := 8) (N := some 2) (v := ?_) (a' := ?_) #[true, true, true, true, true, true, true, true, true] rfl rfl (any_of HT_.out (by kernel_rfl)) (fun _ _ _ h => h) (Or.inl ⟨by rfl, ?_⟩) ?_ ?_
        rotate_left
        · intro w'
          go_simp
          with_reducible rfl
        rotate_left
        · simp only [Act.put, List.setIfInBounds_toArray, List.set_cons_zero, List.set_cons_succ, i64_w, i32_w]
          rfl
        refine done_ (done_of HT_.out (by kernel_rfl)) ?_
        try go_wp2
        go_ret
        exact ⟨by first | rfl | (simp [errW_none, errW_some] <;> rfl) | (simp [*, errW_none, errW_some] <;> rfl), by repeat (first | (with_reducible first | exact HB.out | apply below_alloc | apply pw_below_drewN | apply below_drew1 | refine below_set ?_ GE329.out) | exact HB.out)⟩
      · rw [if_neg c7] at H
        exact absurd H (by simp)
    · rw [if_neg c5] at H
      exact absurd H (by simp)
  · replace c3 := Bool.eq_false_iff.mpr c3
    subst c3
    have H1 : (some (⟨#[]⟩ : ByteArray)) = some r := by rw [if_neg (show ¬ (false = true) by decide)] at H; exact H
    clear H
    have H := H1
    clear H1
    obtain rfl := Option.some.inj H
    go_enter Tryz.func57, Tryz.ntmps57
    go_wp2_with (first | ((with_reducible refine gate_dst (N := 1) rfl ?_); refine box_event ?hg (N := 1) ?hd (cs := #[.int .i64 a0_0, .int .i64 a0_1]) (t := 34) ?hr ?_; (case hd => rfl); (case hg => rfl); (case hr => first | (go_simp; done) | (go_simp; rfl)); intro gb329 hg w14 hbox hb; have n0_ := Aside0.mk (below_step (bl HB) hb); have n1_ := Aside0.mk (hbox); have n2_ := Aside0.mk ((by rw [hg]; exact (below_size (bl HB)) : w.heap.size ≤ gb329)); have n3_ := Aside0.mk ((by rw [hg]; exact (below_size (bl HB)) : w.heap.size ≤ gb329)); clear HB; have HB := n0_; have BK329 := n1_; have GW329 := n2_; have GE329 := n3_; clear n0_ n1_ n2_ n3_; clear hb hbox hg; have hcz15_0 : w14.cell? ⟨gb329, 0, none⟩ = some (.int .i64 a0_0) := (blk_cell BK329.out 0).trans rfl; have hcz15_1 : w14.cell? ⟨gb329, 1, none⟩ = some (.int .i64 a0_1) := (blk_cell BK329.out 1).trans rfl; have hfz15_0 := blk_frozen BK329.out 0; have hfz15_1 := blk_frozen BK329.out 1) | ((with_reducible refine gate_callee (f := 56) rfl ?_); refine goesL_ (some 4) rfl rfl Tryz.func56 (by kernel_rfl) rfl #[.agg #[.int .i64 a0_0, .int .i64 a0_1]] rfl (by (try simp only [List.map_toArray, List.map_cons, List.map_nil]); first | done | rfl | (simp only [List.length_drop, List.length_take]; rfl)) ?_; (with_reducible refine (impl_EndOk.calls a0_0 a0_1 false _ A2.out).mono ?_); rintro e w16 ⟨rfl, hb⟩; refine ⟨_, rfl, ?_⟩; have n0_ := bkB BK329 hb; have n1_ := Aside0.mk (below_step (bl HB) hb); clear BK329; clear HB; have BK329 := n0_; have HB := n1_; clear n0_ n1_; (try clear hb); (try clear hb2); (try clear hk); (try clear hi)))
    go_ret
    exact ⟨by first | rfl | (simp [errW_none, errW_some] <;> rfl) | (simp [*, errW_none, errW_some] <;> rfl), by repeat (first | (with_reducible first | exact HB.out | apply below_alloc | apply pw_below_drewN | apply below_drew1 | refine below_set ?_ GE329.out) | exact HB.out)⟩

end Go.Proofs.YtffmbccgcaghjaaGreatDoor.P

/- The contracts of impl.readEnd and impl.said: a text read as an end. (Written by mksaid.py.) -/
namespace Go.Proofs.YtffmbccgcaghjaaGreatDoor.P
open Go.RowKit Go.Proofs.YtffmbccgcaghjaaGreatDoorUFnExactRwrLine.PrintWords Go.Proofs.YtffmbccgcaghjaaGreatDoorUFnExactRwrLine.PrintLast Go.Proofs.YtffmbccgcaghjaaGreatDoorUFnExactRwrLine.PrintMore
set_option linter.unusedVariables false
set_option linter.unusedSimpArgs false
theorem set_ne {W : World} {g i k : Nat} {v : Value} (hk : k ≠ g) : (W.setCell ⟨g, i, none⟩ v).heap[k]? = W.heap[k]? := Below.heap_setCell W ⟨g, i, none⟩ v k hk
/-- An end stored into its own block. -/
theorem put2 {W : World} {g : Nat} {t : TypeId} {c0 c1 : Value} (h : W.heap[g]? = some (.cells #[c0, c1] t (0, 0))) (v0 v1 : Value) {W' : World}
    (hw : W' = (W.setCell ⟨g, 0, none⟩ v0).setCell ⟨g, 1, none⟩ v1) :
    W'.heap[g]? = some (.cells #[v0, v1] t (0, 0)) ∧ (∀ k, k ≠ g → W'.heap[k]? = W.heap[k]?) ∧ (∀ w : World, w.heap.size ≤ g → Below w.heap.size w W → Below w.heap.size w W') := by
  subst hw
  refine ⟨?_, ?_, ?_⟩
  · refine blk_put (cs := #[v0, c1]) ?_ 1 _ rfl
    exact blk_put h 0 _ rfl
  · intro k hk
    simp only [set_ne hk]
  · intro w hg hb
    exact below_set (below_set hb hg) hg
theorem cell_lt {w : World} {g : Nat} {v : Value} (h : w.cell? ⟨g, 0, none⟩ = some v) : g < w.heap.size := by
  simp only [World.cell?] at h
  cases hk : w.heap[g]? with
  | none => rw [hk] at h; simp at h
  | some o => exact (Array.getElem?_eq_some_iff.1 hk).1
theorem cut_calls (s : ByteArray) (hs : s.size < 4294967281) (w : World) (hE : Env w) :
    Calls Tryz.prog 102 #[.string s, .string (⟨#[32]⟩ : ByteArray)] w fun e w' => ∃ fl : Bool, e = .returned (.tuple #[.string (cutW s).1, .string (cutW s).2, .bool fl]) ∧ Below w.heap.size w w' := by
  obtain ⟨m, hm⟩ := hE.max
  refine (Tryz.strings_Cut s _ m w hs hm).mono ?_
  rintro e w' ⟨rfl, n, rfl⟩
  exact ⟨_, rfl, Go.below_drewN (Below.refl _ _) n⟩
theorem cutW_size (s : ByteArray) : (cutW s).1.size ≤ s.size ∧ (cutW s).2.size ≤ s.size := by
  have hl : s.data.toList.length = s.size := by rw [Array.length_toList]; rfl
  unfold cutW Lib.cut
  by_cases h : 0 ≤ Lib.index s.data.toList [32]
  · rw [if_pos h]
    simp only [ByteArray.size, List.size_toArray, List.length_take, List.length_drop]
    rw [hl]
    show _ ≤ s.size ∧ _ ≤ s.size
    omega
  · rw [if_neg h]
    show s.data.toList.toArray.size ≤ s.size ∧ ([] : List UInt8).toArray.size ≤ s.size
    rw [List.size_toArray, hl]
    exact ⟨Nat.le_refl _, Nat.zero_le _⟩
theorem EndOk_f (a p : Int) : impl_EndOk.f a p = some (endOkB a p) := by
  unfold impl_EndOk.f endOkB
  simp only [inside_f, outside_f, portOk_f, Option.bind_some]
  by_cases h3 : a = 50 <;> cases inB a 1 9 <;> cases inB a 100 109 <;> cases inB p 1 999 <;> simp [h3]
theorem EndText_f (a p : Int) : impl_EndText.f a p = some (etext a p) := by
  unfold impl_EndText.f etext
  rw [EndOk_f, Option.bind_some]
  cases hk : endOkB a p with
  | false => simp
  | true =>
    have hb := endOkB_le hk
    have h1 := numB_size (n := a) (by omega) (by omega)
    have h2 := numB_size (n := p) (by omega) (by omega)
    have h3 : ((⟨#[32]⟩ : ByteArray)).size = 1 := rfl
    unfold strconv_Itoa_89.f
    rw [if_pos rfl, if_pos ⟨by omega, by omega⟩, Option.bind_some, if_pos (by omega), if_pos ⟨by omega, by omega⟩, Option.bind_some, if_pos (by rw [ByteArray.size_append]; omega)]
    rfl
set_option maxHeartbeats 8000000 in
set_option maxRecDepth 100000 in
theorem readEnd_noA (s : ByteArray) (hs : s.size ≤ 4000000000) (ha : atoiO (cutW s).1 = none) (w : World) (hE : EnvE w) :
    Calls Tryz.prog 83 #[.string s] w fun e w' => ∃ t p, e = .returned (.tuple #[.agg #[.int .i64 0, .int .i64 0], .iface t p]) ∧ Below w.heap.size w w' := by
  obtain ⟨te, pe, he⟩ := hE.err
  have herr : ∀ w' : World, Below w.heap.size w w' → w'.cell? ⟨0, 0, none⟩ = some (.iface te pe) := fun w' b => cell_below he b
  have HLT := Aside0.mk (cell_lt he)
  clear he
  have HS := Aside0.mk hs
  have HE := Aside0.mk hE
  have HZ := Aside0.mk (cutW_size s)
  have HB := Aside0.mk (Below.refl w.heap.size w)
  have hu := Tryz.underlying34
  have HA := Aside0.mk ha
  clear ha
  clear hs hE
  go_enter Tryz.func83, Tryz.ntmps83
  go_wp2_with (first
      | ((with_reducible refine gate_dst (N := 2) rfl ?_)
         refine box_event ?hg (N := 2) ?hd (cs := #[.int .i64 0, .int .i64 0]) (t := 34) ?hr ?_
         (case hd => rfl)
         (case hg => rfl)
         (case hr => first | (go_simp; done) | (go_simp; rfl))
         intro g2 hg w1 hbox hb
         have GE2 : Aside0 (w.heap.size ≤ g2) := ⟨by rw [hg]; exact below_size (bl HB)⟩
         have BK2 := Aside0.mk hbox
         have n0_ := Aside0.mk (below_step (bl HB) hb)
         clear HB 
         have HB := n0_
         clear n0_ 
         clear hb hbox hg)
      | (go_at_call 102; refine (cut_calls _ (by have := HS.out; omega) _ (Env.below HE.out.e (bl HB))).mono ?_; rintro e w2 ⟨fl, rfl, hb⟩
         have n0_ := Aside0.mk (below_step (bl HB) hb)
         have m0_ := bkB BK2 hb
         clear HB BK2
         have HB := n0_
         have BK2 := m0_
         clear n0_ m0_
         clear hb)
      | (go_at_call 110; (with_reducible refine (atoi_no (cutW s).1 (by have := HS.out; have := HZ.out; omega) HA.out _ (Env.below HE.out.e (bl HB))).mono ?_); rintro e w3 ⟨v1, t1, p1, rfl, hb⟩
         have n0_ := Aside0.mk (below_step (bl HB) hb)
         have m0_ := bkB BK2 hb
         clear HB BK2
         have HB := n0_
         have BK2 := m0_
         clear n0_ m0_
         clear hb)
      | (go_at_call 110; (with_reducible refine (atoi_calls (cutW s).2 (by have := HS.out; have := HZ.out; omega) _ (Env.below HE.out.e (bl HB))).mono ?_); rintro e w4 ⟨v2, ev2, rfl, hev, hb⟩
         have n0_ := Aside0.mk (below_step (bl HB) hb)
         have m0_ := bkB BK2 hb
         clear HB BK2
         have HB := n0_
         have BK2 := m0_
         clear n0_ m0_
         clear hb hev)
      | ((with_reducible refine gate_dst (N := 11) rfl ?_)
         refine box_event ?hg (N := 11) ?hd (cs := #[.int .i64 0, .int .i64 0]) (t := 34) ?hr ?_
         (case hd => rfl)
         (case hg => rfl)
         (case hr => first | (go_simp; done) | (go_simp; rfl))
         intro g11 hg w5 hbox hb
         have GE11 : Aside0 (w.heap.size ≤ g11) := ⟨by rw [hg]; exact below_size (bl HB)⟩
         have NE : Aside0 (g2 ≠ g11) := ⟨by rw [hg]; have := bkL BK2; omega⟩
         have BK11 := Aside0.mk hbox
         have zc0 := (blk_cell BK11.out 0).trans rfl
         have zf0 := blk_frozen BK11.out 0
         have zc1 := (blk_cell BK11.out 1).trans rfl
         have zf1 := blk_frozen BK11.out 1
         have n0_ := Aside0.mk (below_step (bl HB) hb)
         have m0_ := bkB BK2 hb
         clear HB BK2
         have HB := n0_
         have BK2 := m0_
         clear n0_ m0_
         clear hb hbox hg))
  have hp := put2 BK11.out (.int .i64 v1) (.int .i64 v2) rfl
  have kb := Aside0.mk (hp.2.2 w GE11.out HB.out)
  have k2 := (hp.2.1 _ NE.out).trans BK2.out
  have he2 := herr _ kb.out
  clear herr
  generalize (w5.setCell ⟨g11, 0, none⟩ (.int .i64 v1)).setCell ⟨g11, 1, none⟩ (.int .i64 v2) = X at kb k2 he2 ⊢
  have KB := Aside0.mk (blk_drew k2)
  have hne : g2 ≠ 0 := by have := GE2.out; have := HLT.out; omega
  have hne' := hne.symm
  have xc0 := (blk_cell k2 0).trans rfl
  have xc1 := (blk_cell k2 1).trans rfl
  have xf0 := blk_frozen k2 0
  have xf1 := blk_frozen k2 1
  clear k2
  go_region
  all_goals go_wp2
  all_goals
    have hq := put2 KB.out (.int .i64 0) (.int .i64 0) rfl
    refine bodyPost_ret (results_ct rfl _ _ g2 34 #[.int .i64 0, .int .i64 0] (0, 0) _ rfl hq.1 Tryz.underlying34 rfl (by kernel_rfl)) rfl ?_
    exact ⟨_, _, rfl, hq.2.2 w GE2.out (below_drew1 kb.out)⟩
set_option maxHeartbeats 8000000 in
set_option maxRecDepth 100000 in
theorem readEnd_noB (s : ByteArray) (hs : s.size ≤ 4000000000) (x : Int) (ha : atoiO (cutW s).1 = some x) (ha2 : atoiO (cutW s).2 = none) (w : World) (hE : EnvE w) :
    Calls Tryz.prog 83 #[.string s] w fun e w' => ∃ t p, e = .returned (.tuple #[.agg #[.int .i64 0, .int .i64 0], .iface t p]) ∧ Below w.heap.size w w' := by
  obtain ⟨te, pe, he⟩ := hE.err
  have herr : ∀ w' : World, Below w.heap.size w w' → w'.cell? ⟨0, 0, none⟩ = some (.iface te pe) := fun w' b => cell_below he b
  have HLT := Aside0.mk (cell_lt he)
  clear he
  have HS := Aside0.mk hs
  have HE := Aside0.mk hE
  have HZ := Aside0.mk (cutW_size s)
  have HB := Aside0.mk (Below.refl w.heap.size w)
  have hu := Tryz.underlying34
  have HA := Aside0.mk ha
  have HA2 := Aside0.mk ha2
  clear ha ha2
  clear hs hE
  go_enter Tryz.func83, Tryz.ntmps83
  go_wp2_with (first
      | ((with_reducible refine gate_dst (N := 2) rfl ?_)
         refine box_event ?hg (N := 2) ?hd (cs := #[.int .i64 0, .int .i64 0]) (t := 34) ?hr ?_
         (case hd => rfl)
         (case hg => rfl)
         (case hr => first | (go_simp; done) | (go_simp; rfl))
         intro g2 hg w1 hbox hb
         have GE2 : Aside0 (w.heap.size ≤ g2) := ⟨by rw [hg]; exact below_size (bl HB)⟩
         have BK2 := Aside0.mk hbox
         have n0_ := Aside0.mk (below_step (bl HB) hb)
         clear HB 
         have HB := n0_
         clear n0_ 
         clear hb hbox hg)
      | (go_at_call 102; refine (cut_calls _ (by have := HS.out; omega) _ (Env.below HE.out.e (bl HB))).mono ?_; rintro e w2 ⟨fl, rfl, hb⟩
         have n0_ := Aside0.mk (below_step (bl HB) hb)
         have m0_ := bkB BK2 hb
         clear HB BK2
         have HB := n0_
         have BK2 := m0_
         clear n0_ m0_
         clear hb)
      | (go_at_call 110; (with_reducible refine (atoi_ok (cutW s).1 (by have := HS.out; have := HZ.out; omega) x HA.out _ (Env.below HE.out.e (bl HB))).mono ?_); rintro e w3 ⟨rfl, hb⟩
         have n0_ := Aside0.mk (below_step (bl HB) hb)
         have m0_ := bkB BK2 hb
         clear HB BK2
         have HB := n0_
         have BK2 := m0_
         clear n0_ m0_
         clear hb)
      | (go_at_call 110; (with_reducible refine (atoi_no (cutW s).2 (by have := HS.out; have := HZ.out; omega) HA2.out _ (Env.below HE.out.e (bl HB))).mono ?_); rintro e w4 ⟨v2, t2, p2, rfl, hb⟩
         have n0_ := Aside0.mk (below_step (bl HB) hb)
         have m0_ := bkB BK2 hb
         clear HB BK2
         have HB := n0_
         have BK2 := m0_
         clear n0_ m0_
         clear hb)
      | ((with_reducible refine gate_dst (N := 11) rfl ?_)
         refine box_event ?hg (N := 11) ?hd (cs := #[.int .i64 0, .int .i64 0]) (t := 34) ?hr ?_
         (case hd => rfl)
         (case hg => rfl)
         (case hr => first | (go_simp; done) | (go_simp; rfl))
         intro g11 hg w5 hbox hb
         have GE11 : Aside0 (w.heap.size ≤ g11) := ⟨by rw [hg]; exact below_size (bl HB)⟩
         have NE : Aside0 (g2 ≠ g11) := ⟨by rw [hg]; have := bkL BK2; omega⟩
         have BK11 := Aside0.mk hbox
         have zc0 := (blk_cell BK11.out 0).trans rfl
         have zf0 := blk_frozen BK11.out 0
         have zc1 := (blk_cell BK11.out 1).trans rfl
         have zf1 := blk_frozen BK11.out 1
         have n0_ := Aside0.mk (below_step (bl HB) hb)
         have m0_ := bkB BK2 hb
         clear HB BK2
         have HB := n0_
         have BK2 := m0_
         clear n0_ m0_
         clear hb hbox hg))
  have hp := put2 BK11.out (.int .i64 x) (.int .i64 v2) rfl
  have kb := Aside0.mk (hp.2.2 w GE11.out HB.out)
  have k2 := (hp.2.1 _ NE.out).trans BK2.out
  have he2 := herr _ kb.out
  clear herr
  generalize (w5.setCell ⟨g11, 0, none⟩ (.int .i64 x)).setCell ⟨g11, 1, none⟩ (.int .i64 v2) = X at kb k2 he2 ⊢
  have KB := Aside0.mk (blk_drew k2)
  have hne : g2 ≠ 0 := by have := GE2.out; have := HLT.out; omega
  have hne' := hne.symm
  have xc0 := (blk_cell k2 0).trans rfl
  have xc1 := (blk_cell k2 1).trans rfl
  have xf0 := blk_frozen k2 0
  have xf1 := blk_frozen k2 1
  clear k2
  go_region
  all_goals go_wp2
  all_goals
    have hq := put2 KB.out (.int .i64 0) (.int .i64 0) rfl
    refine bodyPost_ret (results_ct rfl _ _ g2 34 #[.int .i64 0, .int .i64 0] (0, 0) _ rfl hq.1 Tryz.underlying34 rfl (by kernel_rfl)) rfl ?_
    exact ⟨_, _, rfl, hq.2.2 w GE2.out (below_drew1 kb.out)⟩
set_option maxHeartbeats 8000000 in
set_option maxRecDepth 100000 in
theorem readEnd_noC (s : ByteArray) (hs : s.size ≤ 4000000000) (x y : Int) (ha : atoiO (cutW s).1 = some x) (ha2 : atoiO (cutW s).2 = some y) (hq : etext x y ≠ s) (w : World) (hE : EnvE w) :
    Calls Tryz.prog 83 #[.string s] w fun e w' => ∃ t p, e = .returned (.tuple #[.agg #[.int .i64 0, .int .i64 0], .iface t p]) ∧ Below w.heap.size w w' := by
  obtain ⟨te, pe, he⟩ := hE.err
  have herr : ∀ w' : World, Below w.heap.size w w' → w'.cell? ⟨0, 0, none⟩ = some (.iface te pe) := fun w' b => cell_below he b
  have HLT := Aside0.mk (cell_lt he)
  clear he
  have HS := Aside0.mk hs
  have HE := Aside0.mk hE
  have HZ := Aside0.mk (cutW_size s)
  have HB := Aside0.mk (Below.refl w.heap.size w)
  have hu := Tryz.underlying34
  have HA := Aside0.mk ha
  have HA2 := Aside0.mk ha2
  obtain ⟨T, hT⟩ : ∃ T, etext x y = T := ⟨_, rfl⟩
  have HT := Aside0.mk (show impl_EndText.f x y = some T from hT ▸ EndText_f x y)
  rw [hT] at hq
  clear hT ha ha2
  have hq1 : (T.toList == s.toList) = false := beq_eq_false_iff_ne.mpr (fun e => hq (toList_inj e))
  have hq2 : (T.toList != s.toList) = true := by rw [bne, hq1]; rfl
  clear hq
  clear hs hE
  go_enter Tryz.func83, Tryz.ntmps83
  go_wp2_with (first
      | ((with_reducible refine gate_dst (N := 2) rfl ?_)
         refine box_event ?hg (N := 2) ?hd (cs := #[.int .i64 0, .int .i64 0]) (t := 34) ?hr ?_
         (case hd => rfl)
         (case hg => rfl)
         (case hr => first | (go_simp; done) | (go_simp; rfl))
         intro g2 hg w1 hbox hb
         have GE2 : Aside0 (w.heap.size ≤ g2) := ⟨by rw [hg]; exact below_size (bl HB)⟩
         have BK2 := Aside0.mk hbox
         have n0_ := Aside0.mk (below_step (bl HB) hb)
         clear HB 
         have HB := n0_
         clear n0_ 
         clear hb hbox hg)
      | (go_at_call 102; refine (cut_calls _ (by have := HS.out; omega) _ (Env.below HE.out.e (bl HB))).mono ?_; rintro e w2 ⟨fl, rfl, hb⟩
         have n0_ := Aside0.mk (below_step (bl HB) hb)
         have m0_ := bkB BK2 hb
         clear HB BK2
         have HB := n0_
         have BK2 := m0_
         clear n0_ m0_
         clear hb)
      | (go_at_call 110; (with_reducible refine (atoi_ok (cutW s).1 (by have := HS.out; have := HZ.out; omega) x HA.out _ (Env.below HE.out.e (bl HB))).mono ?_); rintro e w3 ⟨rfl, hb⟩
         have n0_ := Aside0.mk (below_step (bl HB) hb)
         have m0_ := bkB BK2 hb
         clear HB BK2
         have HB := n0_
         have BK2 := m0_
         clear n0_ m0_
         clear hb)
      | (go_at_call 110; (with_reducible refine (atoi_ok (cutW s).2 (by have := HS.out; have := HZ.out; omega) y HA2.out _ (Env.below HE.out.e (bl HB))).mono ?_); rintro e w4 ⟨rfl, hb⟩
         have n0_ := Aside0.mk (below_step (bl HB) hb)
         have m0_ := bkB BK2 hb
         clear HB BK2
         have HB := n0_
         have BK2 := m0_
         clear n0_ m0_
         clear hb)
      | ((with_reducible refine gate_dst (N := 11) rfl ?_)
         refine box_event ?hg (N := 11) ?hd (cs := #[.int .i64 0, .int .i64 0]) (t := 34) ?hr ?_
         (case hd => rfl)
         (case hg => rfl)
         (case hr => first | (go_simp; done) | (go_simp; rfl))
         intro g11 hg w5 hbox hb
         have GE11 : Aside0 (w.heap.size ≤ g11) := ⟨by rw [hg]; exact below_size (bl HB)⟩
         have NE : Aside0 (g2 ≠ g11) := ⟨by rw [hg]; have := bkL BK2; omega⟩
         have BK11 := Aside0.mk hbox
         have zc0 := (blk_cell BK11.out 0).trans rfl
         have zf0 := blk_frozen BK11.out 0
         have zc1 := (blk_cell BK11.out 1).trans rfl
         have zf1 := blk_frozen BK11.out 1
         have n0_ := Aside0.mk (below_step (bl HB) hb)
         have m0_ := bkB BK2 hb
         clear HB BK2
         have HB := n0_
         have BK2 := m0_
         clear n0_ m0_
         clear hb hbox hg)
      | (go_at_call 57; have hp := put2 BK11.out (.int .i64 x) (.int .i64 y) rfl; refine (impl_EndText.calls _ _ T _ HT.out (EnvT.below HE.out.e.t (hp.2.2 w GE11.out HB.out))).mono ?_; rintro e w6 ⟨rfl, hb⟩
         have n0_ := Aside0.mk (below_step (hp.2.2 w GE11.out HB.out) hb)
         have m0_ := Aside0.mk (blk_below ((hp.2.1 _ NE.out).trans BK2.out) hb)
         have m1_ := Aside0.mk (blk_below hp.1 hb)
         clear HB BK2 BK11 hp hb zc0 zf0 zc1 zf1
         have HB := n0_
         have BK2 := m0_
         have BK11 := m1_
         clear n0_ m0_ m1_))
  have kb := HB
  have k2 := BK2.out
  have he2 := herr _ kb.out
  clear herr
  generalize w6 = X at kb k2 he2 ⊢
  have KB := Aside0.mk (blk_drew k2)
  have hne : g2 ≠ 0 := by have := GE2.out; have := HLT.out; omega
  have hne' := hne.symm
  have xc0 := (blk_cell k2 0).trans rfl
  have xc1 := (blk_cell k2 1).trans rfl
  have xf0 := blk_frozen k2 0
  have xf1 := blk_frozen k2 1
  clear k2
  go_region
  all_goals go_wp2
  all_goals
    have hq := put2 KB.out (.int .i64 0) (.int .i64 0) rfl
    refine bodyPost_ret (results_ct rfl _ _ g2 34 #[.int .i64 0, .int .i64 0] (0, 0) _ rfl hq.1 Tryz.underlying34 rfl (by kernel_rfl)) rfl ?_
    exact ⟨_, _, rfl, hq.2.2 w GE2.out (below_drew1 kb.out)⟩
set_option maxHeartbeats 8000000 in
set_option maxRecDepth 100000 in
theorem readEnd_ok (s : ByteArray) (hs : s.size ≤ 4000000000) (x y : Int) (ha : atoiO (cutW s).1 = some x) (ha2 : atoiO (cutW s).2 = some y) (hq : etext x y = s) (w : World) (hE : EnvE w) :
    Calls Tryz.prog 83 #[.string s] w fun e w' => e = .returned (.tuple #[.agg #[.int .i64 x, .int .i64 y], .nilIface]) ∧ Below w.heap.size w w' := by
  obtain ⟨te, pe, he⟩ := hE.err
  have herr : ∀ w' : World, Below w.heap.size w w' → w'.cell? ⟨0, 0, none⟩ = some (.iface te pe) := fun w' b => cell_below he b
  have HLT := Aside0.mk (cell_lt he)
  clear he
  have HS := Aside0.mk hs
  have HE := Aside0.mk hE
  have HZ := Aside0.mk (cutW_size s)
  have HB := Aside0.mk (Below.refl w.heap.size w)
  have hu := Tryz.underlying34
  have HA := Aside0.mk ha
  have HA2 := Aside0.mk ha2
  obtain ⟨T, hT⟩ : ∃ T, etext x y = T := ⟨_, rfl⟩
  have HT := Aside0.mk (show impl_EndText.f x y = some T from hT ▸ EndText_f x y)
  rw [hT] at hq
  clear hT ha ha2
  have hq1 : (T.toList == s.toList) = true := by rw [hq]; exact beq_self_eq_true _
  have hq2 : (T.toList != s.toList) = false := by rw [bne, hq1]; rfl
  clear hq
  clear hs hE
  go_enter Tryz.func83, Tryz.ntmps83
  go_wp2_with (first
      | ((with_reducible refine gate_dst (N := 2) rfl ?_)
         refine box_event ?hg (N := 2) ?hd (cs := #[.int .i64 0, .int .i64 0]) (t := 34) ?hr ?_
         (case hd => rfl)
         (case hg => rfl)
         (case hr => first | (go_simp; done) | (go_simp; rfl))
         intro g2 hg w1 hbox hb
         have GE2 : Aside0 (w.heap.size ≤ g2) := ⟨by rw [hg]; exact below_size (bl HB)⟩
         have BK2 := Aside0.mk hbox
         have n0_ := Aside0.mk (below_step (bl HB) hb)
         clear HB 
         have HB := n0_
         clear n0_ 
         clear hb hbox hg)
      | (go_at_call 102; refine (cut_calls _ (by have := HS.out; omega) _ (Env.below HE.out.e (bl HB))).mono ?_; rintro e w2 ⟨fl, rfl, hb⟩
         have n0_ := Aside0.mk (below_step (bl HB) hb)
         have m0_ := bkB BK2 hb
         clear HB BK2
         have HB := n0_
         have BK2 := m0_
         clear n0_ m0_
         clear hb)
      | (go_at_call 110; (with_reducible refine (atoi_ok (cutW s).1 (by have := HS.out; have := HZ.out; omega) x HA.out _ (Env.below HE.out.e (bl HB))).mono ?_); rintro e w3 ⟨rfl, hb⟩
         have n0_ := Aside0.mk (below_step (bl HB) hb)
         have m0_ := bkB BK2 hb
         clear HB BK2
         have HB := n0_
         have BK2 := m0_
         clear n0_ m0_
         clear hb)
      | (go_at_call 110; (with_reducible refine (atoi_ok (cutW s).2 (by have := HS.out; have := HZ.out; omega) y HA2.out _ (Env.below HE.out.e (bl HB))).mono ?_); rintro e w4 ⟨rfl, hb⟩
         have n0_ := Aside0.mk (below_step (bl HB) hb)
         have m0_ := bkB BK2 hb
         clear HB BK2
         have HB := n0_
         have BK2 := m0_
         clear n0_ m0_
         clear hb)
      | ((with_reducible refine gate_dst (N := 11) rfl ?_)
         refine box_event ?hg (N := 11) ?hd (cs := #[.int .i64 0, .int .i64 0]) (t := 34) ?hr ?_
         (case hd => rfl)
         (case hg => rfl)
         (case hr => first | (go_simp; done) | (go_simp; rfl))
         intro g11 hg w5 hbox hb
         have GE11 : Aside0 (w.heap.size ≤ g11) := ⟨by rw [hg]; exact below_size (bl HB)⟩
         have NE : Aside0 (g2 ≠ g11) := ⟨by rw [hg]; have := bkL BK2; omega⟩
         have BK11 := Aside0.mk hbox
         have zc0 := (blk_cell BK11.out 0).trans rfl
         have zf0 := blk_frozen BK11.out 0
         have zc1 := (blk_cell BK11.out 1).trans rfl
         have zf1 := blk_frozen BK11.out 1
         have n0_ := Aside0.mk (below_step (bl HB) hb)
         have m0_ := bkB BK2 hb
         clear HB BK2
         have HB := n0_
         have BK2 := m0_
         clear n0_ m0_
         clear hb hbox hg)
      | (go_at_call 57; have hp := put2 BK11.out (.int .i64 x) (.int .i64 y) rfl; refine (impl_EndText.calls _ _ T _ HT.out (EnvT.below HE.out.e.t (hp.2.2 w GE11.out HB.out))).mono ?_; rintro e w6 ⟨rfl, hb⟩
         have n0_ := Aside0.mk (below_step (hp.2.2 w GE11.out HB.out) hb)
         have m0_ := Aside0.mk (blk_below ((hp.2.1 _ NE.out).trans BK2.out) hb)
         have m1_ := Aside0.mk (blk_below hp.1 hb)
         clear HB BK2 BK11 hp hb zc0 zf0 zc1 zf1
         have HB := n0_
         have BK2 := m0_
         have BK11 := m1_
         clear n0_ m0_ m1_
         have xc0 := (blk_cell BK2.out 0).trans rfl
         have xf0 := blk_frozen BK2.out 0
         have xc1 := (blk_cell BK2.out 1).trans rfl
         have xf1 := blk_frozen BK2.out 1
         have yc0 := (blk_cell BK11.out 0).trans rfl
         have yf0 := blk_frozen BK11.out 0
         have yc1 := (blk_cell BK11.out 1).trans rfl
         have yf1 := blk_frozen BK11.out 1))
  have hq := put2 BK2.out (.int .i64 x) (.int .i64 y) rfl
  refine bodyPost_ret (results_ct rfl _ _ g2 34 #[.int .i64 x, .int .i64 y] (0, 0) _ rfl hq.1 Tryz.underlying34 rfl (by kernel_rfl)) rfl ?_
  exact ⟨rfl, hq.2.2 w GE2.out HB.out⟩
theorem readEnd_some (s : ByteArray) (hs : s.size ≤ 4000000000) (x y : Int) (h : readEndW s = some (x, y)) (w : World) (hE : EnvE w) :
    Calls Tryz.prog 83 #[.string s] w fun e w' => e = .returned (.tuple #[.agg #[.int .i64 x, .int .i64 y], .nilIface]) ∧ Below w.heap.size w w' := by
  unfold readEndW at h
  simp only [Option.bind_eq_some_iff] at h
  obtain ⟨x', h1, y', h2, h3⟩ := h
  by_cases ht : etext x' y' = s
  · rw [if_pos ht] at h3
    cases h3
    exact readEnd_ok s hs x y h1 h2 ht w hE
  · rw [if_neg ht] at h3; cases h3
theorem readEnd_none (s : ByteArray) (hs : s.size ≤ 4000000000) (h : readEndW s = none) (w : World) (hE : EnvE w) :
    Calls Tryz.prog 83 #[.string s] w fun e w' => ∃ t p, e = .returned (.tuple #[.agg #[.int .i64 0, .int .i64 0], .iface t p]) ∧ Below w.heap.size w w' := by
  cases h1 : atoiO (cutW s).1 with
  | none => exact readEnd_noA s hs h1 w hE
  | some x =>
    cases h2 : atoiO (cutW s).2 with
    | none => exact readEnd_noB s hs x h1 h2 w hE
    | some y =>
      refine readEnd_noC s hs x y h1 h2 (fun e => ?_) w hE
      unfold readEndW at h
      rw [h1, h2] at h
      simp only [Option.bind_some] at h
      rw [if_pos e] at h
      cases h
theorem trim_size (s : ByteArray) : (trimW s).size ≤ s.size := by
  have hl : s.data.toList.length = s.size := by rw [Array.length_toList]; rfl
  unfold trimW Lib.trimPrefix
  show (List.toArray _).size ≤ s.size
  rw [List.size_toArray]
  split
  · rw [List.length_drop]; omega
  · omega
theorem prefix_calls (s : ByteArray) (w : World) :
    Calls Tryz.prog 82 #[.string s, .string (⟨#[112, 111, 114, 116, 32]⟩ : ByteArray)] w fun e w' => e = .returned (.tuple #[.string (trimW s), .bool (Lib.hasPrefix s.data.toList portL)]) ∧ w' = w := Tryz.strings_CutPrefix s _ w
def impl_said.f (s : ByteArray) : Option (Int × Int × Bool) := if s.size ≤ 4000000000 then some (saidW s) else none
set_option maxHeartbeats 8000000 in
set_option maxRecDepth 100000 in
theorem said_some_true (s : ByteArray) (hs : s.size ≤ 4000000000) (x y : Int) (ha : readEndW (trimW s) = some (x, y)) (hp0 : Lib.hasPrefix s.data.toList portL = true) (w : World) (hE : EnvE w) :
    Calls Tryz.prog 51 #[.string s] w fun e w' => e = .returned (.tuple #[.agg #[.int .i64 x, .int .i64 y], .bool true]) ∧ Below w.heap.size w w' := by
  have HS := Aside0.mk hs
  have HE := Aside0.mk hE
  have HA := Aside0.mk ha
  have HZ := Aside0.mk (trim_size s)
  have HP := Aside0.mk hp0
  have HB := Aside0.mk (Below.refl w.heap.size w)
  have hu := Tryz.underlying34
  clear hs hE ha hp0
  go_enter Tryz.func51, Tryz.ntmps51
  go_wp2_with (first
      | ((with_reducible refine gate_dst (N := 2) rfl ?_)
         refine box_event ?hg (N := 2) ?hd (cs := #[.int .i64 0, .int .i64 0]) (t := 34) ?hr ?_
         (case hd => rfl)
         (case hg => rfl)
         (case hr => first | (go_simp; done) | (go_simp; rfl))
         intro g2 hg w1 hbox hb
         have GE2 : Aside0 (w.heap.size ≤ g2) := ⟨by rw [hg]; exact below_size (bl HB)⟩
         have BK2 := Aside0.mk hbox
         have n0_ := Aside0.mk (below_step (bl HB) hb)
         clear HB 
         have HB := n0_
         clear n0_ 
         clear hb hbox hg)
      | (go_at_call 82; refine (prefix_calls s _).mono ?_; rw [HP.out]; rintro e w2 ⟨rfl, rfl⟩)
      | (go_at_call 83; refine (readEnd_some (trimW s) (by have := HS.out; have := HZ.out; omega) x y HA.out _ (EnvE.below HE.out (bl HB))).mono ?_; rintro e w4 ⟨rfl, hb⟩
         have n0_ := Aside0.mk (below_step (bl HB) hb)
         have m0_ := bkB BK2 hb
         clear HB BK2
         have HB := n0_
         have BK2 := m0_
         clear n0_ m0_
         clear hb)
      | ((with_reducible refine gate_dst (N := 6) rfl ?_)
         refine box_event ?hg (N := 6) ?hd (cs := #[.int .i64 0, .int .i64 0]) (t := 34) ?hr ?_
         (case hd => rfl)
         (case hg => rfl)
         (case hr => first | (go_simp; done) | (go_simp; rfl))
         intro g6 hg w5 hbox hb
         have GE6 : Aside0 (w.heap.size ≤ g6) := ⟨by rw [hg]; exact below_size (bl HB)⟩
         have NE : Aside0 (g2 ≠ g6) := ⟨by rw [hg]; have := bkL BK2; omega⟩
         have BK6 := Aside0.mk hbox
         have zc0 := (blk_cell BK6.out 0).trans rfl
         have zf0 := blk_frozen BK6.out 0
         have zc1 := (blk_cell BK6.out 1).trans rfl
         have zf1 := blk_frozen BK6.out 1
         have n0_ := Aside0.mk (below_step (bl HB) hb)
         have m0_ := bkB BK2 hb
         clear HB BK2
         have HB := n0_
         have BK2 := m0_
         clear n0_ m0_
         clear hb hbox hg))
  have hp := put2 BK6.out (.int .i64 x) (.int .i64 y) rfl
  have kb := Aside0.mk (hp.2.2 w GE6.out HB.out)
  have k2 := (hp.2.1 _ NE.out).trans BK2.out
  have k6 := hp.1
  generalize (w5.setCell ⟨g6, 0, none⟩ (.int .i64 x)).setCell ⟨g6, 1, none⟩ (.int .i64 y) = X at kb k2 k6 ⊢
  clear hp zc0 zc1 zf0 zf1
  have KB := Aside0.mk (blk_drew k2)
  have hne := NE.out
  have hne' := NE.out.symm
  have xc0 := (blk_cell k2 0).trans rfl
  have xc1 := (blk_cell k2 1).trans rfl
  have xf0 := blk_frozen k2 0
  have xf1 := blk_frozen k2 1
  have yc0 := (blk_cell k6 0).trans rfl
  have yc1 := (blk_cell k6 1).trans rfl
  clear k2 k6
  go_region
  all_goals go_wp2
  all_goals
    have hq := put2 KB.out (.int .i64 x) (.int .i64 y) rfl
    refine bodyPost_ret (results_ct rfl _ _ g2 34 #[.int .i64 x, .int .i64 y] (0, 0) _ rfl hq.1 Tryz.underlying34 rfl (by kernel_rfl)) rfl ?_
    exact ⟨rfl, hq.2.2 w GE2.out (below_drew1 kb.out)⟩
set_option maxHeartbeats 8000000 in
set_option maxRecDepth 100000 in
theorem said_none_true (s : ByteArray) (hs : s.size ≤ 4000000000) (ha : readEndW (trimW s) = none) (hp0 : Lib.hasPrefix s.data.toList portL = true) (w : World) (hE : EnvE w) :
    Calls Tryz.prog 51 #[.string s] w fun e w' => e = .returned (.tuple #[.agg #[.int .i64 0, .int .i64 0], .bool false]) ∧ Below w.heap.size w w' := by
  have HS := Aside0.mk hs
  have HE := Aside0.mk hE
  have HA := Aside0.mk ha
  have HZ := Aside0.mk (trim_size s)
  have HP := Aside0.mk hp0
  have HB := Aside0.mk (Below.refl w.heap.size w)
  have hu := Tryz.underlying34
  clear hs hE ha hp0
  go_enter Tryz.func51, Tryz.ntmps51
  go_wp2_with (first
      | ((with_reducible refine gate_dst (N := 2) rfl ?_)
         refine box_event ?hg (N := 2) ?hd (cs := #[.int .i64 0, .int .i64 0]) (t := 34) ?hr ?_
         (case hd => rfl)
         (case hg => rfl)
         (case hr => first | (go_simp; done) | (go_simp; rfl))
         intro g2 hg w1 hbox hb
         have GE2 : Aside0 (w.heap.size ≤ g2) := ⟨by rw [hg]; exact below_size (bl HB)⟩
         have BK2 := Aside0.mk hbox
         have n0_ := Aside0.mk (below_step (bl HB) hb)
         clear HB 
         have HB := n0_
         clear n0_ 
         clear hb hbox hg)
      | (go_at_call 82; refine (prefix_calls s _).mono ?_; rw [HP.out]; rintro e w2 ⟨rfl, rfl⟩)
      | (go_at_call 83; refine (readEnd_none (trimW s) (by have := HS.out; have := HZ.out; omega) HA.out _ (EnvE.below HE.out (bl HB))).mono ?_; rintro e w4 ⟨t1, p1, rfl, hb⟩
         have n0_ := Aside0.mk (below_step (bl HB) hb)
         have m0_ := bkB BK2 hb
         clear HB BK2
         have HB := n0_
         have BK2 := m0_
         clear n0_ m0_
         clear hb)
      | ((with_reducible refine gate_dst (N := 6) rfl ?_)
         refine box_event ?hg (N := 6) ?hd (cs := #[.int .i64 0, .int .i64 0]) (t := 34) ?hr ?_
         (case hd => rfl)
         (case hg => rfl)
         (case hr => first | (go_simp; done) | (go_simp; rfl))
         intro g6 hg w5 hbox hb
         have GE6 : Aside0 (w.heap.size ≤ g6) := ⟨by rw [hg]; exact below_size (bl HB)⟩
         have NE : Aside0 (g2 ≠ g6) := ⟨by rw [hg]; have := bkL BK2; omega⟩
         have BK6 := Aside0.mk hbox
         have zc0 := (blk_cell BK6.out 0).trans rfl
         have zf0 := blk_frozen BK6.out 0
         have zc1 := (blk_cell BK6.out 1).trans rfl
         have zf1 := blk_frozen BK6.out 1
         have n0_ := Aside0.mk (below_step (bl HB) hb)
         have m0_ := bkB BK2 hb
         clear HB BK2
         have HB := n0_
         have BK2 := m0_
         clear n0_ m0_
         clear hb hbox hg))
  have hp := put2 BK6.out (.int .i64 0) (.int .i64 0) rfl
  have kb := Aside0.mk (hp.2.2 w GE6.out HB.out)
  have k2 := (hp.2.1 _ NE.out).trans BK2.out
  have k6 := hp.1
  generalize (w5.setCell ⟨g6, 0, none⟩ (.int .i64 0)).setCell ⟨g6, 1, none⟩ (.int .i64 0) = X at kb k2 k6 ⊢
  clear hp zc0 zc1 zf0 zf1
  have KB := Aside0.mk (blk_drew k2)
  have hne := NE.out
  have hne' := NE.out.symm
  have xc0 := (blk_cell k2 0).trans rfl
  have xc1 := (blk_cell k2 1).trans rfl
  have xf0 := blk_frozen k2 0
  have xf1 := blk_frozen k2 1
  have yc0 := (blk_cell k6 0).trans rfl
  have yc1 := (blk_cell k6 1).trans rfl
  clear k2 k6
  go_region
  all_goals go_wp2
  all_goals
    have hq := put2 KB.out (.int .i64 0) (.int .i64 0) rfl
    refine bodyPost_ret (results_ct rfl _ _ g2 34 #[.int .i64 0, .int .i64 0] (0, 0) _ rfl hq.1 Tryz.underlying34 rfl (by kernel_rfl)) rfl ?_
    exact ⟨rfl, hq.2.2 w GE2.out (below_drew1 kb.out)⟩
set_option maxHeartbeats 8000000 in
set_option maxRecDepth 100000 in
theorem said_some_false (s : ByteArray) (hs : s.size ≤ 4000000000) (x y : Int) (ha : readEndW (trimW s) = some (x, y)) (hp0 : Lib.hasPrefix s.data.toList portL = false) (w : World) (hE : EnvE w) :
    Calls Tryz.prog 51 #[.string s] w fun e w' => e = .returned (.tuple #[.agg #[.int .i64 x, .int .i64 y], .bool false]) ∧ Below w.heap.size w w' := by
  have HS := Aside0.mk hs
  have HE := Aside0.mk hE
  have HA := Aside0.mk ha
  have HZ := Aside0.mk (trim_size s)
  have HP := Aside0.mk hp0
  have HB := Aside0.mk (Below.refl w.heap.size w)
  have hu := Tryz.underlying34
  clear hs hE ha hp0
  go_enter Tryz.func51, Tryz.ntmps51
  go_wp2_with (first
      | ((with_reducible refine gate_dst (N := 2) rfl ?_)
         refine box_event ?hg (N := 2) ?hd (cs := #[.int .i64 0, .int .i64 0]) (t := 34) ?hr ?_
         (case hd => rfl)
         (case hg => rfl)
         (case hr => first | (go_simp; done) | (go_simp; rfl))
         intro g2 hg w1 hbox hb
         have GE2 : Aside0 (w.heap.size ≤ g2) := ⟨by rw [hg]; exact below_size (bl HB)⟩
         have BK2 := Aside0.mk hbox
         have n0_ := Aside0.mk (below_step (bl HB) hb)
         clear HB 
         have HB := n0_
         clear n0_ 
         clear hb hbox hg)
      | (go_at_call 82; refine (prefix_calls s _).mono ?_; rw [HP.out]; rintro e w2 ⟨rfl, rfl⟩)
      | (go_at_call 83; refine (readEnd_some (trimW s) (by have := HS.out; have := HZ.out; omega) x y HA.out _ (EnvE.below HE.out (bl HB))).mono ?_; rintro e w4 ⟨rfl, hb⟩
         have n0_ := Aside0.mk (below_step (bl HB) hb)
         have m0_ := bkB BK2 hb
         clear HB BK2
         have HB := n0_
         have BK2 := m0_
         clear n0_ m0_
         clear hb)
      | ((with_reducible refine gate_dst (N := 6) rfl ?_)
         refine box_event ?hg (N := 6) ?hd (cs := #[.int .i64 0, .int .i64 0]) (t := 34) ?hr ?_
         (case hd => rfl)
         (case hg => rfl)
         (case hr => first | (go_simp; done) | (go_simp; rfl))
         intro g6 hg w5 hbox hb
         have GE6 : Aside0 (w.heap.size ≤ g6) := ⟨by rw [hg]; exact below_size (bl HB)⟩
         have NE : Aside0 (g2 ≠ g6) := ⟨by rw [hg]; have := bkL BK2; omega⟩
         have BK6 := Aside0.mk hbox
         have zc0 := (blk_cell BK6.out 0).trans rfl
         have zf0 := blk_frozen BK6.out 0
         have zc1 := (blk_cell BK6.out 1).trans rfl
         have zf1 := blk_frozen BK6.out 1
         have n0_ := Aside0.mk (below_step (bl HB) hb)
         have m0_ := bkB BK2 hb
         clear HB BK2
         have HB := n0_
         have BK2 := m0_
         clear n0_ m0_
         clear hb hbox hg))
  have hp := put2 BK6.out (.int .i64 x) (.int .i64 y) rfl
  have kb := Aside0.mk (hp.2.2 w GE6.out HB.out)
  have k2 := (hp.2.1 _ NE.out).trans BK2.out
  have k6 := hp.1
  generalize (w5.setCell ⟨g6, 0, none⟩ (.int .i64 x)).setCell ⟨g6, 1, none⟩ (.int .i64 y) = X at kb k2 k6 ⊢
  clear hp zc0 zc1 zf0 zf1
  have KB := Aside0.mk (blk_drew k2)
  have hne := NE.out
  have hne' := NE.out.symm
  have xc0 := (blk_cell k2 0).trans rfl
  have xc1 := (blk_cell k2 1).trans rfl
  have xf0 := blk_frozen k2 0
  have xf1 := blk_frozen k2 1
  have yc0 := (blk_cell k6 0).trans rfl
  have yc1 := (blk_cell k6 1).trans rfl
  clear k2 k6
  go_region
  all_goals go_wp2
  all_goals
    have hq := put2 KB.out (.int .i64 x) (.int .i64 y) rfl
    refine bodyPost_ret (results_ct rfl _ _ g2 34 #[.int .i64 x, .int .i64 y] (0, 0) _ rfl hq.1 Tryz.underlying34 rfl (by kernel_rfl)) rfl ?_
    exact ⟨rfl, hq.2.2 w GE2.out (below_drew1 kb.out)⟩
set_option maxHeartbeats 8000000 in
set_option maxRecDepth 100000 in
theorem said_none_false (s : ByteArray) (hs : s.size ≤ 4000000000) (ha : readEndW (trimW s) = none) (hp0 : Lib.hasPrefix s.data.toList portL = false) (w : World) (hE : EnvE w) :
    Calls Tryz.prog 51 #[.string s] w fun e w' => e = .returned (.tuple #[.agg #[.int .i64 0, .int .i64 0], .bool false]) ∧ Below w.heap.size w w' := by
  have HS := Aside0.mk hs
  have HE := Aside0.mk hE
  have HA := Aside0.mk ha
  have HZ := Aside0.mk (trim_size s)
  have HP := Aside0.mk hp0
  have HB := Aside0.mk (Below.refl w.heap.size w)
  have hu := Tryz.underlying34
  clear hs hE ha hp0
  go_enter Tryz.func51, Tryz.ntmps51
  go_wp2_with (first
      | ((with_reducible refine gate_dst (N := 2) rfl ?_)
         refine box_event ?hg (N := 2) ?hd (cs := #[.int .i64 0, .int .i64 0]) (t := 34) ?hr ?_
         (case hd => rfl)
         (case hg => rfl)
         (case hr => first | (go_simp; done) | (go_simp; rfl))
         intro g2 hg w1 hbox hb
         have GE2 : Aside0 (w.heap.size ≤ g2) := ⟨by rw [hg]; exact below_size (bl HB)⟩
         have BK2 := Aside0.mk hbox
         have n0_ := Aside0.mk (below_step (bl HB) hb)
         clear HB 
         have HB := n0_
         clear n0_ 
         clear hb hbox hg)
      | (go_at_call 82; refine (prefix_calls s _).mono ?_; rw [HP.out]; rintro e w2 ⟨rfl, rfl⟩)
      | (go_at_call 83; refine (readEnd_none (trimW s) (by have := HS.out; have := HZ.out; omega) HA.out _ (EnvE.below HE.out (bl HB))).mono ?_; rintro e w4 ⟨t1, p1, rfl, hb⟩
         have n0_ := Aside0.mk (below_step (bl HB) hb)
         have m0_ := bkB BK2 hb
         clear HB BK2
         have HB := n0_
         have BK2 := m0_
         clear n0_ m0_
         clear hb)
      | ((with_reducible refine gate_dst (N := 6) rfl ?_)
         refine box_event ?hg (N := 6) ?hd (cs := #[.int .i64 0, .int .i64 0]) (t := 34) ?hr ?_
         (case hd => rfl)
         (case hg => rfl)
         (case hr => first | (go_simp; done) | (go_simp; rfl))
         intro g6 hg w5 hbox hb
         have GE6 : Aside0 (w.heap.size ≤ g6) := ⟨by rw [hg]; exact below_size (bl HB)⟩
         have NE : Aside0 (g2 ≠ g6) := ⟨by rw [hg]; have := bkL BK2; omega⟩
         have BK6 := Aside0.mk hbox
         have zc0 := (blk_cell BK6.out 0).trans rfl
         have zf0 := blk_frozen BK6.out 0
         have zc1 := (blk_cell BK6.out 1).trans rfl
         have zf1 := blk_frozen BK6.out 1
         have n0_ := Aside0.mk (below_step (bl HB) hb)
         have m0_ := bkB BK2 hb
         clear HB BK2
         have HB := n0_
         have BK2 := m0_
         clear n0_ m0_
         clear hb hbox hg))
  have hp := put2 BK6.out (.int .i64 0) (.int .i64 0) rfl
  have kb := Aside0.mk (hp.2.2 w GE6.out HB.out)
  have k2 := (hp.2.1 _ NE.out).trans BK2.out
  have k6 := hp.1
  generalize (w5.setCell ⟨g6, 0, none⟩ (.int .i64 0)).setCell ⟨g6, 1, none⟩ (.int .i64 0) = X at kb k2 k6 ⊢
  clear hp zc0 zc1 zf0 zf1
  have KB := Aside0.mk (blk_drew k2)
  have hne := NE.out
  have hne' := NE.out.symm
  have xc0 := (blk_cell k2 0).trans rfl
  have xc1 := (blk_cell k2 1).trans rfl
  have xf0 := blk_frozen k2 0
  have xf1 := blk_frozen k2 1
  have yc0 := (blk_cell k6 0).trans rfl
  have yc1 := (blk_cell k6 1).trans rfl
  clear k2 k6
  go_region
  all_goals go_wp2
  all_goals
    have hq := put2 KB.out (.int .i64 0) (.int .i64 0) rfl
    refine bodyPost_ret (results_ct rfl _ _ g2 34 #[.int .i64 0, .int .i64 0] (0, 0) _ rfl hq.1 Tryz.underlying34 rfl (by kernel_rfl)) rfl ?_
    exact ⟨rfl, hq.2.2 w GE2.out (below_drew1 kb.out)⟩
theorem impl_said.calls (a0 : ByteArray) (r1 : Int) (r2 : Int) (r3 : Bool) (w : World) (h : impl_said.f a0 = some (r1, r2, r3)) (hE : EnvE w) :
    Calls Tryz.prog 51 #[.string a0] w fun e w' => e = .returned (.tuple #[.agg #[.int .i64 r1, .int .i64 r2], .bool r3]) ∧ Below w.heap.size w w' := by
  unfold impl_said.f at h
  by_cases hs : a0.size ≤ 4000000000
  · rw [if_pos hs] at h
    have h := Option.some.inj h
    unfold saidW at h
    cases hr : readEndW (trimW a0) with
    | none =>
      rw [hr] at h
      cases h
      cases hp : Lib.hasPrefix a0.data.toList portL with
      | true => exact said_none_true a0 hs hr hp w hE
      | false => exact said_none_false a0 hs hr hp w hE
    | some r =>
      obtain ⟨x, y⟩ := r
      rw [hr] at h
      cases h
      cases hp : Lib.hasPrefix a0.data.toList portL with
      | true => exact said_some_true a0 hs _ _ hr hp w hE
      | false => exact said_some_false a0 hs _ _ hr hp w hE
  · rw [if_neg hs] at h; cases h
end Go.Proofs.YtffmbccgcaghjaaGreatDoor.P

-- written by hw.py for this claim
namespace Go.Proofs.YtffmbccgcaghjaaGreatDoor.P
open Go.RowKit Go.Proofs.YtffmbccgcaghjaaGreatDoorUFnExactRwrLine.PrintWords Go.Proofs.YtffmbccgcaghjaaGreatDoorUFnExactRwrLine.PrintLast Go.Proofs.YtffmbccgcaghjaaGreatDoorUFnExactRwrLine.PrintMore
attribute [local go_sem] max2_int min2_int max_two min_two max_three min_three max_four min_four
set_option linter.unusedVariables false
set_option linter.unusedSimpArgs false

/-! ### spec_EndOk: function 92 -/
def spec_EndOk.f (a0_0 : Int) (a0_1 : Int) : Option (Bool) := (spec_EndInside.f a0_0 a0_1).bind fun t218 => (if t218 = true then (some true) else ((spec_EndOutside.f a0_0 a0_1).bind fun t219 => (if t219 = true then (some true) else (if a0_0 = 50 then ((spec_l1In.f a0_1 1 999).bind fun t220 => (some t220)) else (some false)))))
set_option maxHeartbeats 8000000 in
set_option maxRecDepth 100000 in
theorem spec_EndOk.calls (a0_0 : Int) (a0_1 : Int) (r : Bool) (w : World) (h : spec_EndOk.f a0_0 a0_1 = some r) :
    Calls Tryz.prog 92 #[.agg #[.int .i64 a0_0, .int .i64 a0_1]] w fun e w' => e = .returned (.bool r) ∧ Below w.heap.size w w' := by
  have hu34 := Tryz.underlying34
  have HB := Aside0.mk (Below.refl w.heap.size w)
  have H : ((spec_EndInside.f a0_0 a0_1).bind fun t218 => (if t218 = true then (some true) else ((spec_EndOutside.f a0_0 a0_1).bind fun t219 => (if t219 = true then (some true) else (if a0_0 = 50 then ((spec_l1In.f a0_1 1 999).bind fun t220 => (some t220)) else (some false)))))) = some r := h
  clear h
  replace H := Option.bind_eq_some_iff.mp H
  obtain ⟨t218, A20, H⟩ := H
  replace H : (if t218 = true then (some true) else ((spec_EndOutside.f a0_0 a0_1).bind fun t219 => (if t219 = true then (some true) else (if a0_0 = 50 then ((spec_l1In.f a0_1 1 999).bind fun t220 => (some t220)) else (some false))))) = some r := H
  have A2 := Aside0.mk A20
  clear A20
  by_cases c3 : t218 = true
  · subst c3
    have H1 : (some true) = some r := by rw [if_pos rfl] at H; exact H
    clear H
    have H := H1
    clear H1
    obtain rfl := Option.some.inj H
    go_enter Tryz.func92, Tryz.ntmps92
    go_wp2_with (first | ((with_reducible refine gate_dst (N := 1) rfl ?_); refine box_event ?hg (N := 1) ?hd (cs := #[.int .i64 a0_0, .int .i64 a0_1]) (t := 34) ?hr ?_; (case hd => rfl); (case hg => rfl); (case hr => first | (go_simp; done) | (go_simp; rfl)); intro gb217 hg w4 hbox hb; have n0_ := Aside0.mk (below_step (bl HB) hb); have n1_ := Aside0.mk (hbox); have n2_ := Aside0.mk ((by rw [hg]; exact (below_size (bl HB)) : w.heap.size ≤ gb217)); have n3_ := Aside0.mk ((by rw [hg]; exact (below_size (bl HB)) : w.heap.size ≤ gb217)); clear HB; have HB := n0_; have BK217 := n1_; have GW217 := n2_; have GE217 := n3_; clear n0_ n1_ n2_ n3_; clear hb hbox hg; have hcz5_0 : w4.cell? ⟨gb217, 0, none⟩ = some (.int .i64 a0_0) := (blk_cell BK217.out 0).trans rfl; have hcz5_1 : w4.cell? ⟨gb217, 1, none⟩ = some (.int .i64 a0_1) := (blk_cell BK217.out 1).trans rfl; have hfz5_0 := blk_frozen BK217.out 0; have hfz5_1 := blk_frozen BK217.out 1) | ((with_reducible refine gate_callee (f := 48) rfl ?_); refine goesL_ (some 4) rfl rfl Tryz.func48 (by kernel_rfl) rfl #[.agg #[.int .i64 a0_0, .int .i64 a0_1]] rfl (by (try simp only [List.map_toArray, List.map_cons, List.map_nil]); first | done | rfl | (simp only [List.length_drop, List.length_take]; rfl)) ?_; (with_reducible refine (spec_EndInside.calls a0_0 a0_1 true _ A2.out).mono ?_); rintro e w6 ⟨rfl, hb⟩; refine ⟨_, rfl, ?_⟩; have n0_ := bkB BK217 hb; have n1_ := Aside0.mk (below_step (bl HB) hb); clear BK217; clear HB; have BK217 := n0_; have HB := n1_; clear n0_ n1_; (try clear hb); (try clear hb2); (try clear hk); (try clear hi)))
    go_ret
    exact ⟨by first | rfl | (simp [errW_none, errW_some] <;> rfl) | (simp [*, errW_none, errW_some] <;> rfl), by repeat (first | (with_reducible first | exact HB.out | apply below_alloc | apply pw_below_drewN | apply below_drew1 | refine below_set ?_ GE217.out) | exact HB.out)⟩
  · replace c3 := Bool.eq_false_iff.mpr c3
    subst c3
    have H1 : ((spec_EndOutside.f a0_0 a0_1).bind fun t219 => (if t219 = true then (some true) else (if a0_0 = 50 then ((spec_l1In.f a0_1 1 999).bind fun t220 => (some t220)) else (some false)))) = some r := by rw [if_neg (show ¬ (false = true) by decide)] at H; exact H
    clear H
    have H := H1
    clear H1
    replace H := Option.bind_eq_some_iff.mp H
    obtain ⟨t219, A70, H⟩ := H
    replace H : (if t219 = true then (some true) else (if a0_0 = 50 then ((spec_l1In.f a0_1 1 999).bind fun t220 => (some t220)) else (some false))) = some r := H
    have A7 := Aside0.mk A70
    clear A70
    by_cases c8 : t219 = true
    · subst c8
      have H1 : (some true) = some r := by rw [if_pos rfl] at H; exact H
      clear H
      have H := H1
      clear H1
      obtain rfl := Option.some.inj H
      go_enter Tryz.func92, Tryz.ntmps92
      go_wp2_with (first | ((with_reducible refine gate_dst (N := 1) rfl ?_); refine box_event ?hg (N := 1) ?hd (cs := #[.int .i64 a0_0, .int .i64 a0_1]) (t := 34) ?hr ?_; (case hd => rfl); (case hg => rfl); (case hr => first | (go_simp; done) | (go_simp; rfl)); intro gb217 hg w9 hbox hb; have n0_ := Aside0.mk (below_step (bl HB) hb); have n1_ := Aside0.mk (hbox); have n2_ := Aside0.mk ((by rw [hg]; exact (below_size (bl HB)) : w.heap.size ≤ gb217)); have n3_ := Aside0.mk ((by rw [hg]; exact (below_size (bl HB)) : w.heap.size ≤ gb217)); clear HB; have HB := n0_; have BK217 := n1_; have GW217 := n2_; have GE217 := n3_; clear n0_ n1_ n2_ n3_; clear hb hbox hg; have hcz10_0 : w9.cell? ⟨gb217, 0, none⟩ = some (.int .i64 a0_0) := (blk_cell BK217.out 0).trans rfl; have hcz10_1 : w9.cell? ⟨gb217, 1, none⟩ = some (.int .i64 a0_1) := (blk_cell BK217.out 1).trans rfl; have hfz10_0 := blk_frozen BK217.out 0; have hfz10_1 := blk_frozen BK217.out 1) | ((with_reducible refine gate_callee (f := 48) rfl ?_); refine goesL_ (some 4) rfl rfl Tryz.func48 (by kernel_rfl) rfl #[.agg #[.int .i64 a0_0, .int .i64 a0_1]] rfl (by (try simp only [List.map_toArray, List.map_cons, List.map_nil]); first | done | rfl | (simp only [List.length_drop, List.length_take]; rfl)) ?_; (with_reducible refine (spec_EndInside.calls a0_0 a0_1 false _ A2.out).mono ?_); rintro e w11 ⟨rfl, hb⟩; refine ⟨_, rfl, ?_⟩; have n0_ := bkB BK217 hb; have n1_ := Aside0.mk (below_step (bl HB) hb); clear BK217; clear HB; have BK217 := n0_; have HB := n1_; clear n0_ n1_; (try clear hb); (try clear hb2); (try clear hk); (try clear hi); have hcz12_0 : w11.cell? ⟨gb217, 0, none⟩ = some (.int .i64 a0_0) := (blk_cell BK217.out 0).trans rfl; have hcz12_1 : w11.cell? ⟨gb217, 1, none⟩ = some (.int .i64 a0_1) := (blk_cell BK217.out 1).trans rfl; have hfz12_0 := blk_frozen BK217.out 0; have hfz12_1 := blk_frozen BK217.out 1) | (go_at_call 113; (with_reducible refine (spec_EndOutside.calls a0_0 a0_1 true _ A7.out).mono ?_); rintro e w13 ⟨rfl, hb⟩; have n0_ := bkB BK217 hb; have n1_ := Aside0.mk (below_step (bl HB) hb); clear BK217; clear HB; have BK217 := n0_; have HB := n1_; clear n0_ n1_; (try clear hb); (try clear hb2); (try clear hk); (try clear hi)))
      go_ret
      exact ⟨by first | rfl | (simp [errW_none, errW_some] <;> rfl) | (simp [*, errW_none, errW_some] <;> rfl), by repeat (first | (with_reducible first | exact HB.out | apply below_alloc | apply pw_below_drewN | apply below_drew1 | refine below_set ?_ GE217.out) | exact HB.out)⟩
    · replace c8 := Bool.eq_false_iff.mpr c8
      subst c8
      have H1 : (if a0_0 = 50 then ((spec_l1In.f a0_1 1 999).bind fun t220 => (some t220)) else (some false)) = some r := by rw [if_neg (show ¬ (false = true) by decide)] at H; exact H
      clear H
      have H := H1
      clear H1
      by_cases c14 : a0_0 = 50
      · rw [if_pos c14] at H
        have c14b0 : (a0_0 == 50) = true := beq_iff_eq.mpr c14
        have c14b1 : (a0_0 != 50) = false := bne_eq_false_iff_eq.mpr c14
        clear c14
        replace H := Option.bind_eq_some_iff.mp H
        obtain ⟨t220, A150, H⟩ := H
        replace H : (some t220) = some r := H
        have A15 := Aside0.mk A150
        clear A150
        obtain rfl := Option.some.inj H
        go_enter Tryz.func92, Tryz.ntmps92
        go_wp2_with (first | ((with_reducible refine gate_dst (N := 1) rfl ?_); refine box_event ?hg (N := 1) ?hd (cs := #[.int .i64 a0_0, .int .i64 a0_1]) (t := 34) ?hr ?_; (case hd => rfl); (case hg => rfl); (case hr => first | (go_simp; done) | (go_simp; rfl)); intro gb217 hg w16 hbox hb; have n0_ := Aside0.mk (below_step (bl HB) hb); have n1_ := Aside0.mk (hbox); have n2_ := Aside0.mk ((by rw [hg]; exact (below_size (bl HB)) : w.heap.size ≤ gb217)); have n3_ := Aside0.mk ((by rw [hg]; exact (below_size (bl HB)) : w.heap.size ≤ gb217)); clear HB; have HB := n0_; have BK217 := n1_; have GW217 := n2_; have GE217 := n3_; clear n0_ n1_ n2_ n3_; clear hb hbox hg; have hcz17_0 : w16.cell? ⟨gb217, 0, none⟩ = some (.int .i64 a0_0) := (blk_cell BK217.out 0).trans rfl; have hcz17_1 : w16.cell? ⟨gb217, 1, none⟩ = some (.int .i64 a0_1) := (blk_cell BK217.out 1).trans rfl; have hfz17_0 := blk_frozen BK217.out 0; have hfz17_1 := blk_frozen BK217.out 1) | ((with_reducible refine gate_callee (f := 48) rfl ?_); refine goesL_ (some 4) rfl rfl Tryz.func48 (by kernel_rfl) rfl #[.agg #[.int .i64 a0_0, .int .i64 a0_1]] rfl (by (try simp only [List.map_toArray, List.map_cons, List.map_nil]); first | done | rfl | (simp only [List.length_drop, List.length_take]; rfl)) ?_; (with_reducible refine (spec_EndInside.calls a0_0 a0_1 false _ A2.out).mono ?_); rintro e w18 ⟨rfl, hb⟩; refine ⟨_, rfl, ?_⟩; have n0_ := bkB BK217 hb; have n1_ := Aside0.mk (below_step (bl HB) hb); clear BK217; clear HB; have BK217 := n0_; have HB := n1_; clear n0_ n1_; (try clear hb); (try clear hb2); (try clear hk); (try clear hi); have hcz19_0 : w18.cell? ⟨gb217, 0, none⟩ = some (.int .i64 a0_0) := (blk_cell BK217.out 0).trans rfl; have hcz19_1 : w18.cell? ⟨gb217, 1, none⟩ = some (.int .i64 a0_1) := (blk_cell BK217.out 1).trans rfl; have hfz19_0 := blk_frozen BK217.out 0; have hfz19_1 := blk_frozen BK217.out 1) | (go_at_call 113; (with_reducible refine (spec_EndOutside.calls a0_0 a0_1 false _ A7.out).mono ?_); rintro e w20 ⟨rfl, hb⟩; have n0_ := bkB BK217 hb; have n1_ := Aside0.mk (below_step (bl HB) hb); clear BK217; clear HB; have BK217 := n0_; have HB := n1_; clear n0_ n1_; (try clear hb); (try clear hb2); (try clear hk); (try clear hi); have hcz21_0 : w20.cell? ⟨gb217, 0, none⟩ = some (.int .i64 a0_0) := (blk_cell BK217.out 0).trans rfl; have hcz21_1 : w20.cell? ⟨gb217, 1, none⟩ = some (.int .i64 a0_1) := (blk_cell BK217.out 1).trans rfl; have hfz21_0 := blk_frozen BK217.out 0; have hfz21_1 := blk_frozen BK217.out 1) | (go_at_call 81; (with_reducible refine (spec_l1In.calls a0_1 1 999 t220 _ A15.out).mono ?_); rintro e w' ⟨rfl, ⟨nd, rfl⟩⟩))
        go_ret
        exact ⟨by first | rfl | (simp [errW_none, errW_some] <;> rfl) | (simp [*, errW_none, errW_some] <;> rfl), by repeat (first | (with_reducible first | exact HB.out | apply below_alloc | apply pw_below_drewN | apply below_drew1 | refine below_set ?_ GE217.out) | exact HB.out)⟩
      · rw [if_neg c14] at H
        have c14b0 : (a0_0 == 50) = false := beq_eq_false_iff_ne.mpr c14
        have c14b1 : (a0_0 != 50) = true := bne_iff_ne.mpr c14
        obtain rfl := Option.some.inj H
        go_enter Tryz.func92, Tryz.ntmps92
        go_wp2_with (first | ((with_reducible refine gate_dst (N := 1) rfl ?_); refine box_event ?hg (N := 1) ?hd (cs := #[.int .i64 a0_0, .int .i64 a0_1]) (t := 34) ?hr ?_; (case hd => rfl); (case hg => rfl); (case hr => first | (go_simp; done) | (go_simp; rfl)); intro gb217 hg w22 hbox hb; have n0_ := Aside0.mk (below_step (bl HB) hb); have n1_ := Aside0.mk (hbox); have n2_ := Aside0.mk ((by rw [hg]; exact (below_size (bl HB)) : w.heap.size ≤ gb217)); have n3_ := Aside0.mk ((by rw [hg]; exact (below_size (bl HB)) : w.heap.size ≤ gb217)); clear HB; have HB := n0_; have BK217 := n1_; have GW217 := n2_; have GE217 := n3_; clear n0_ n1_ n2_ n3_; clear hb hbox hg; have hcz23_0 : w22.cell? ⟨gb217, 0, none⟩ = some (.int .i64 a0_0) := (blk_cell BK217.out 0).trans rfl; have hcz23_1 : w22.cell? ⟨gb217, 1, none⟩ = some (.int .i64 a0_1) := (blk_cell BK217.out 1).trans rfl; have hfz23_0 := blk_frozen BK217.out 0; have hfz23_1 := blk_frozen BK217.out 1) | ((with_reducible refine gate_callee (f := 48) rfl ?_); refine goesL_ (some 4) rfl rfl Tryz.func48 (by kernel_rfl) rfl #[.agg #[.int .i64 a0_0, .int .i64 a0_1]] rfl (by (try simp only [List.map_toArray, List.map_cons, List.map_nil]); first | done | rfl | (simp only [List.length_drop, List.length_take]; rfl)) ?_; (with_reducible refine (spec_EndInside.calls a0_0 a0_1 false _ A2.out).mono ?_); rintro e w24 ⟨rfl, hb⟩; refine ⟨_, rfl, ?_⟩; have n0_ := bkB BK217 hb; have n1_ := Aside0.mk (below_step (bl HB) hb); clear BK217; clear HB; have BK217 := n0_; have HB := n1_; clear n0_ n1_; (try clear hb); (try clear hb2); (try clear hk); (try clear hi); have hcz25_0 : w24.cell? ⟨gb217, 0, none⟩ = some (.int .i64 a0_0) := (blk_cell BK217.out 0).trans rfl; have hcz25_1 : w24.cell? ⟨gb217, 1, none⟩ = some (.int .i64 a0_1) := (blk_cell BK217.out 1).trans rfl; have hfz25_0 := blk_frozen BK217.out 0; have hfz25_1 := blk_frozen BK217.out 1) | (go_at_call 113; (with_reducible refine (spec_EndOutside.calls a0_0 a0_1 false _ A7.out).mono ?_); rintro e w26 ⟨rfl, hb⟩; have n0_ := bkB BK217 hb; have n1_ := Aside0.mk (below_step (bl HB) hb); clear BK217; clear HB; have BK217 := n0_; have HB := n1_; clear n0_ n1_; (try clear hb); (try clear hb2); (try clear hk); (try clear hi); have hcz27_0 : w26.cell? ⟨gb217, 0, none⟩ = some (.int .i64 a0_0) := (blk_cell BK217.out 0).trans rfl; have hcz27_1 : w26.cell? ⟨gb217, 1, none⟩ = some (.int .i64 a0_1) := (blk_cell BK217.out 1).trans rfl; have hfz27_0 := blk_frozen BK217.out 0; have hfz27_1 := blk_frozen BK217.out 1))
        go_ret
        exact ⟨by first | rfl | (simp [errW_none, errW_some] <;> rfl) | (simp [*, errW_none, errW_some] <;> rfl), by repeat (first | (with_reducible first | exact HB.out | apply below_alloc | apply pw_below_drewN | apply below_drew1 | refine below_set ?_ GE217.out) | exact HB.out)⟩

end Go.Proofs.YtffmbccgcaghjaaGreatDoor.P
