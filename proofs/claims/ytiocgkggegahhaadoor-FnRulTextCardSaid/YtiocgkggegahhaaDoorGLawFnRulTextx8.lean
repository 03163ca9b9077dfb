import Derived.Test.YtiocgkggegahhaaDoorGLawFnRulTextx7
/- What the reader of drawn bytes answers: one pick. -/
namespace Go.Proofs.YtiocgkggegahhaaDoor.P
open Go.RowKit Go.Proofs.YtiocgkggegahhaaDoorUFnRulText.PrintWords Go.Proofs.YtiocgkggegahhaaDoorUFnRulText.PrintLast Go.Proofs.YtiocgkggegahhaaDoorUFnRulText.PrintMore
set_option linter.unusedVariables false
set_option linter.unusedSimpArgs false
theorem i64_xor_nat (a b : Nat) (ha : a < 2 ^ 62) (hb : b < 2 ^ 62) : Go.bits .xor .i64 (a : Int) (b : Int) = ((a ^^^ b : Nat) : Int) := by
  have hx : a ^^^ b < 2 ^ 62 := Nat.xor_lt_two_pow ha hb
  show IntKind.i64.wrap ((BitVec.ofInt 64 (a : Int) ^^^ BitVec.ofInt 64 (b : Int)).toNat : Int) = _
  have e : ∀ n : Nat, n < 2 ^ 62 → (BitVec.ofInt 64 (n : Int)).toNat = n := by
    intro n hn
    rw [BitVec.ofInt_natCast, BitVec.toNat_ofNat]; exact Nat.mod_eq_of_lt (by omega)
  rw [BitVec.toNat_xor, e a ha, e b hb]
  rw [i64_w]; unfold wrap64; omega
theorem i64_xor_nonneg (a b : Int) (h1 : 0 ≤ a) (h2 : a < 2 ^ 62) (h3 : 0 ≤ b) (h4 : b < 2 ^ 62) : 0 ≤ Go.bits .xor .i64 a b := by
  obtain ⟨A, rfl⟩ := Int.eq_ofNat_of_zero_le h1
  obtain ⟨B, rfl⟩ := Int.eq_ofNat_of_zero_le h3
  rw [i64_xor_nat A B (by omega) (by omega)]
  omega
theorem w64 (n : Int) (h : -9223372036854775808 ≤ n ∧ n ≤ 9223372036854775807) : wrap64 n = n := by unfold wrap64; omega
/-- Every byte of the list. -/
def Bys (l : List Int) : Prop := ∀ x ∈ l, 0 ≤ x ∧ x ≤ 255
theorem rd_bys {l : List Int} (h : Bys l) (i : Int) : 0 ≤ rd l i ∧ rd l i ≤ 255 := by
  unfold rd
  by_cases hi : i.toNat < l.length
  · have e : l.getD i.toNat 0 = l[i.toNat] := by simp [List.getD, hi]
    rw [e]; exact h _ (List.getElem_mem hi)
  · have e : l.getD i.toNat 0 = 0 := by simp [List.getD, Nat.not_lt.mp hi]
    rw [e]; omega
theorem tmod_in {a n : Int} (ha : 0 ≤ a) (hn : 1 ≤ n) : 0 ≤ Int.tmod a n ∧ Int.tmod a n < n := by
  rw [Int.tmod_eq_emod_of_nonneg ha]
  exact ⟨Int.emod_nonneg _ (by omega), Int.emod_lt_of_pos _ (by omega)⟩
theorem tdiv_in {a n : Int} (ha : 0 ≤ a) (hn : 1 ≤ n) : 0 ≤ Int.tdiv a n ∧ Int.tdiv a n ≤ a := by
  rw [Int.tdiv_eq_ediv_of_nonneg ha]
  exact ⟨Int.ediv_nonneg ha (by omega), Int.ediv_le_self _ ha⟩
/-- One pick: it answers, within its bound, and the place moves on by one. -/
theorem pick_f {l : List Int} (hl : Bys l) (s n : Int) (k : Nat) (hs : 0 ≤ s) (hs' : s < 1000000) : ∃ v, spec_l20Rd_pick.f (k + 1) l s n = some (v, s + 1) ∧ 0 ≤ v ∧ (v < n ∨ v = 0) := by
  unfold spec_l20Rd_pick.f spec_l20Rd_pick.j0
  dsimp only
  have e1 : wrap64 (s + 1) = s + 1 := w64 _ (by omega)
  have e2 : wrap64 (s + 1 - 1) = s := by rw [show s + 1 - 1 = s by omega]; exact w64 _ (by omega)
  by_cases c : n < 1
  · exact ⟨0, by simp [c, e1], by omega, .inr rfl⟩
  · rw [if_neg c, e1]
    simp only [e2]
    by_cases c0 : (l.length : Int) = 0
    · exact ⟨0, by simp [c0], by omega, .inr rfl⟩
    · have cb : ¬ (((l.length : Int) == 0) = true) := by simpa using c0
      have cn : ¬ (n = 0) := by omega
      rw [if_neg cb]
      by_cases c1 : s < (l.length : Int)
      · have hb := rd_bys hl s
        have hm := tmod_in hb.1 (show 1 ≤ n by omega)
        refine ⟨_, by rw [if_pos c1, if_pos hs, if_neg cn, w64 (rd l s) (by omega)], hm.1, .inl hm.2⟩
      · have hL : 1 ≤ (l.length : Int) := by omega
        have m1 := tmod_in hs hL
        have f1 : wrap64 (s * 7) = s * 7 := w64 _ (by omega)
        have f2 : wrap64 (s * 7 + 3) = s * 7 + 3 := w64 _ (by omega)
        have m2 := tmod_in (show 0 ≤ s * 7 + 3 by omega) hL
        rw [if_neg c1, if_neg c0, if_pos m1.1, if_pos m1.2]
        simp only [f1, f2]
        rw [if_pos m2.1, if_pos m2.2, if_neg cn]
        have r1 := rd_bys hl (Int.tmod s (l.length : Int))
        have r2 := rd_bys hl (Int.tmod (s * 7 + 3) (l.length : Int))
        have d1 := tdiv_in hs hL
        generalize rd l (Int.tmod s (l.length : Int)) = u1 at *
        generalize rd l (Int.tmod (s * 7 + 3) (l.length : Int)) = u2 at *
        generalize Int.tdiv s (l.length : Int) = u3 at *
        have g1 : wrap64 u1 = u1 := w64 _ (by omega)
        have g2 : wrap64 u2 = u2 := w64 _ (by omega)
        have g3 : wrap64 u3 = u3 := w64 _ (by omega)
        have g4 : wrap64 (u1 * 131) = u1 * 131 := w64 _ (by omega)
        have g5 : wrap64 (u2 * 1117) = u2 * 1117 := w64 _ (by omega)
        have g6 : wrap64 (s * 29) = s * 29 := w64 _ (by omega)
        have g7 : wrap64 (u3 * 53) = u3 * 53 := w64 _ (by omega)
        simp only [g1, g2, g3, g4, g5, g6, g7]
        have g8 : wrap64 (u1 * 131 + u2 * 1117) = u1 * 131 + u2 * 1117 := w64 _ (by omega)
        rw [g8]
        have g9 : wrap64 (u1 * 131 + u2 * 1117 + s * 29) = u1 * 131 + u2 * 1117 + s * 29 := w64 _ (by omega)
        rw [g9]
        have g10 : wrap64 (u1 * 131 + u2 * 1117 + s * 29 + u3 * 53) = u1 * 131 + u2 * 1117 + s * 29 + u3 * 53 := w64 _ (by omega)
        rw [g10]
        have hX0 : 0 ≤ u1 * 131 + u2 * 1117 + s * 29 + u3 * 53 := by omega
        have hX1 : u1 * 131 + u2 * 1117 + s * 29 + u3 * 53 < 1000000000 := by omega
        generalize u1 * 131 + u2 * 1117 + s * 29 + u3 * 53 = X at *
        have d2 := tdiv_in hX0 (show (1:Int) ≤ 64 by omega)
        have g11 : wrap64 (Int.tdiv X 64) = Int.tdiv X 64 := w64 _ (by omega)
        rw [g11]
        have hz := i64_xor_nonneg X (Int.tdiv X 64) hX0 (by omega) d2.1 (by omega)
        have hm := tmod_in hz (show 1 ≤ n by omega)
        exact ⟨_, rfl, hm.1, .inl hm.2⟩
theorem odd_f {l : List Int} (hl : Bys l) (s n : Int) (k : Nat) (hs : 0 ≤ s) (hs' : s < 1000000) : ∃ b s', spec_l20Rd_odd.f (k + 1) l s n = some (b, s') ∧ s ≤ s' ∧ s' ≤ s + 1 := by
  unfold spec_l20Rd_odd.f
  by_cases c : n < 9000
  · obtain ⟨v, h, _⟩ := pick_f hl s n k hs hs'
    exact ⟨_, s + 1, by rw [if_pos c, h]; rfl, by omega, by omega⟩
  · exact ⟨_, _, by rw [if_neg c], by omega, by omega⟩
theorem open_f (l : List Int) (hl : Bys l) : ∃ l', spec_l20Open.f l = some (l', 0) ∧ Bys l' := by
  unfold spec_l20Open.f
  by_cases c : (l.length : Int) > 2000
  · exact ⟨l.take 2000, by rw [if_pos c, if_pos (by omega)], fun x h => hl x (List.mem_of_mem_take h)⟩
  · exact ⟨l, by rw [if_neg c], hl⟩

theorem rd_three (a b c i : Int) (h : 0 ≤ i ∧ (i < 3 ∨ i = 0)) : rd ([a, b, c] : List Int) i = a ∨ rd ([a, b, c] : List Int) i = b ∨ rd ([a, b, c] : List Int) i = c := by
  have : i = 0 ∨ i = 1 ∨ i = 2 := by omega
  rcases this with rfl | rfl | rfl
  · exact .inl rfl
  · exact .inr (.inl rfl)
  · exact .inr (.inr rfl)
theorem rd_two (a b i : Int) (h : 0 ≤ i ∧ (i < 2 ∨ i = 0)) : rd ([a, b] : List Int) i = a ∨ rd ([a, b] : List Int) i = b := by
  have : i = 0 ∨ i = 1 := by omega
  rcases this with rfl | rfl
  · exact .inl rfl
  · exact .inr rfl
/-- Small whole numbers. -/
def Sm (n : Int) : Prop := -10 ≤ n ∧ n ≤ 1200
end Go.Proofs.YtiocgkggegahhaaDoor.P

/- Functions with rounds: what they answer from some round on. -/
namespace Go.Proofs.YtiocgkggegahhaaDoor.P
open Go.RowKit Go.Proofs.YtiocgkggegahhaaDoorUFnRulText.PrintWords Go.Proofs.YtiocgkggegahhaaDoorUFnRulText.PrintLast Go.Proofs.YtiocgkggegahhaaDoorUFnRulText.PrintMore
set_option linter.unusedVariables false
set_option linter.unusedSimpArgs false
/-- From some round on, the function answers one value, of which P holds. -/
def Ans {α : Type} (f : Nat → Option α) (P : α → Prop) : Prop := ∃ K v, P v ∧ ∀ k, K ≤ k → f k = some v
namespace Ans
variable {α β : Type} {f g : Nat → Option α} {P Q : α → Prop}
theorem of {v : α} (h : ∀ k, f k = some v) (p : P v) : Ans f P := ⟨0, v, p, fun k _ => h k⟩
theorem pure {v : α} (p : P v) : Ans (fun _ => some v) P := ⟨0, v, p, fun k _ => rfl⟩
theorem mono (h : Ans f P) (hq : ∀ v, P v → Q v) : Ans f Q := by obtain ⟨K, v, p, e⟩ := h; exact ⟨K, v, hq v p, e⟩
theorem succ (h : Ans (fun k => f (k + 1)) P) : Ans f P := by
  obtain ⟨K, v, p, e⟩ := h
  refine ⟨K + 1, v, p, fun k hk => ?_⟩
  obtain ⟨k', rfl⟩ : ∃ k', k = k' + 1 := ⟨k - 1, by omega⟩
  exact e k' (by omega)
theorem bind {a : Nat → Option β} {R : β → Prop} {b : Nat → β → Option α} (h : Ans a R) (hb : ∀ v, R v → Ans (fun k => b k v) P) : Ans (fun k => (a k).bind (b k)) P := by
  obtain ⟨K, v, p, e⟩ := h
  obtain ⟨K', u, q, e'⟩ := hb v p
  exact ⟨max K K', u, q, fun k hk => by show (a k).bind (b k) = some u; rw [e k (by omega)]; exact e' k (by omega)⟩
theorem bsome {v : β} {b : Nat → β → Option α} (h : Ans (fun k => b k v) P) : Ans (fun k => (some v).bind (b k)) P := h
theorem congr (h : Ans g P) (e : ∀ k, f k = g k) : Ans f P := by obtain ⟨K, v, p, e'⟩ := h; exact ⟨K, v, p, fun k hk => (e k).trans (e' k hk)⟩
theorem got (h : Ans f P) : ∃ k v, P v ∧ f k = some v := by obtain ⟨K, v, p, e⟩ := h; exact ⟨K, v, p, e K (Nat.le_refl _)⟩
theorem pos {c : Prop} [Decidable c] (h : c) (ht : Ans f P) : Ans (fun k => if c then f k else g k) P := congr ht (fun k => if_pos h)
theorem neg {c : Prop} [Decidable c] (h : ¬ c) (ht : Ans g P) : Ans (fun k => if c then f k else g k) P := congr ht (fun k => if_neg h)
theorem ite {c : Prop} [Decidable c] (ht : c → Ans f P) (he : ¬ c → Ans g P) : Ans (fun k => if c then f k else g k) P := by
  by_cases h : c
  · exact pos h (ht h)
  · exact neg h (he h)
end Ans
/-- A place among the drawn bytes, at most n. -/
def At (n s : Int) : Prop := 0 ≤ s ∧ s ≤ n
theorem pick_a {l : List Int} (hl : Bys l) {s B : Int} (hs : At B s) (hB : B < 900000) (n : Int) : Ans (fun k => spec_l20Rd_pick.f k l s n) (fun r => At (B + 1) r.2 ∧ 0 ≤ r.1 ∧ (r.1 < n ∨ r.1 = 0)) := by
  obtain ⟨h0, h1⟩ := hs
  refine Ans.succ ?_
  obtain ⟨v, h, p⟩ := pick_f hl s n 0 h0 (by omega)
  refine Ans.of (v := (v, s + 1)) (fun k => ?_) ⟨⟨by omega, by first | omega | (dsimp only; omega)⟩, p⟩
  obtain ⟨v', h', _⟩ := pick_f hl s n k h0 (by omega)
  have e : spec_l20Rd_pick.f (k + 1) l s n = spec_l20Rd_pick.f (0 + 1) l s n := by
    unfold spec_l20Rd_pick.f spec_l20Rd_pick.j0
    rfl
  rw [e, h]
theorem odd_a {l : List Int} (hl : Bys l) {s B : Int} (hs : At B s) (hB : B < 900000) (n : Int) : Ans (fun k => spec_l20Rd_odd.f k l s n) (fun r => At (B + 1) r.2) := by
  unfold spec_l20Rd_odd.f
  refine Ans.ite (fun _ => ?_) (fun _ => Ans.pure ⟨hs.1, by have := hs.2; dsimp only; omega⟩)
  refine Ans.bind (pick_a hl hs hB n) ?_
  rintro ⟨v, s'⟩ ⟨h, _⟩
  exact Ans.pure h
theorem at_le {B B' s : Int} (h : At B s) (hb : B ≤ B') : At B' s := ⟨h.1, by have := h.2; omega⟩
theorem sm_rd {xs : List Int} (h : ∀ x ∈ xs, Sm x) (i : Int) : Sm (rd xs i) := by
  unfold rd
  by_cases hi : i.toNat < xs.length
  · have e : xs.getD i.toNat 0 = xs[i.toNat] := by simp [List.getD, hi]
    rw [e]; exact h _ (List.getElem_mem hi)
  · have e : xs.getD i.toNat 0 = 0 := by simp [List.getD, Nat.not_lt.mp hi]
    rw [e]; unfold Sm; omega
end Go.Proofs.YtiocgkggegahhaaDoor.P

/- Plain words of numbers and of words: what spec.l1Plain, spec.l1Words, spec.l1Num answer, over lists. -/
namespace Go.Proofs.YtiocgkggegahhaaDoor.P
open Go.RowKit Go.Proofs.YtiocgkggegahhaaDoorUFnRulText.PrintWords Go.Proofs.YtiocgkggegahhaaDoorUFnRulText.PrintLast Go.Proofs.YtiocgkggegahhaaDoorUFnRulText.PrintMore
set_option linter.unusedVariables false
set_option linter.unusedSimpArgs false
theorem ba_ext {a b : ByteArray} (h : a.data.toList = b.data.toList) : a = b := by
  cases a; cases b; simp at h; rw [h]
theorem numB_small {n : Nat} (h : n < 10) : numB n = strOfNums [((48 + n : Nat) : Int)] := by
  apply ba_ext
  unfold numB Lib.itoa
  rw [if_neg (by omega)]
  simp only [Int.toNat_natCast, Lib.decDigits_one h, strOfNums]
  rfl
theorem numB_big {n : Nat} (h : ¬ n < 10) : numB n = numB (n / 10 : Nat) ++ strOfNums [((48 + n % 10 : Nat) : Int)] := by
  apply ba_ext
  unfold numB Lib.itoa
  rw [if_neg (by omega), if_neg (by omega)]
  simp only [Int.toNat_natCast, ByteArray.data_append, Array.toList_append]
  rw [Lib.decDigits, dif_neg h]
  simp only [Int.toNat_natCast, strOfNums]
  rfl
theorem strOfNums_size (l : List Int) : (strOfNums l).size = l.length := by simp [strOfNums, ByteArray.size]
theorem plain_l0 : ∀ (N n : Nat), n < N → n < 1000000 → ∀ x3 : ByteArray, x3.size + N ≤ 1000000000 → Ans (fun k => spec_l1Plain.l0 k n x3) (fun b => b = numB n ++ x3)
  | 0, n, h, _, _, _ => by omega
  | N + 1, n, h, hn, x3, hx => by
    refine Ans.succ ?_
    unfold spec_l1Plain.l0
    by_cases h9 : n < 10
    · refine Ans.neg (by omega) ?_
      have e : (wrap64 (48 + (n : Int))) % 256 = ((48 + n : Nat) : Int) := by unfold wrap64; omega
      rw [e]
      refine Ans.bsome (Ans.pos (by rw [strOfNums_size]; simp; omega) (Ans.pure ?_))
      rw [numB_small h9]
    · refine Ans.pos (by omega) ?_
      have e1 : Int.tmod (n : Int) 10 = ((n % 10 : Nat) : Int) := by rw [Int.tmod_eq_emod_of_nonneg (by omega)]; rfl
      have e2 : Int.tdiv (n : Int) 10 = ((n / 10 : Nat) : Int) := by rw [Int.tdiv_eq_ediv_of_nonneg (by omega)]; rfl
      have e : (wrap64 (48 + Int.tmod (n : Int) 10)) % 256 = ((48 + n % 10 : Nat) : Int) := by rw [e1]; unfold wrap64; omega
      have e3 : wrap64 (Int.tdiv (n : Int) 10) = ((n / 10 : Nat) : Int) := by rw [e2]; unfold wrap64; omega
      rw [e, e3]
      have hs : (strOfNums [((48 + n % 10 : Nat) : Int)]).size = 1 := by rw [strOfNums_size]; rfl
      refine Ans.bsome (Ans.pos (by rw [hs]; omega) ?_)
      refine (plain_l0 N (n / 10) (by omega) (by omega) (strOfNums [((48 + n % 10 : Nat) : Int)] ++ x3) (by rw [ByteArray.size_append, hs]; omega)).mono ?_
      rintro v rfl
      rw [numB_big h9, ByteArray.append_assoc]
theorem plain_a {n : Nat} (hn : n < 1000000) : Ans (fun k => spec_l1Plain.f k n) (fun b => b = numB n) := by
  refine (plain_l0 (n + 1) n (by omega) hn (⟨#[]⟩ : ByteArray) (by simp [ByteArray.size]; omega)).mono ?_
  rintro v rfl
  exact ba_ext (by simp)
/-! ### Words, a blank between two -/
theorem len_size (s : ByteArray) : s.data.toList.length = s.size := by rw [Array.length_toList]; rfl
def wlpB : ByteArray → List UInt8 → List ByteArray
  | w, [] => [w]
  | w, c :: r => if c = 32 then w :: wlpB ⟨#[]⟩ r else wlpB (w ++ ⟨#[c]⟩) r
theorem bt_get (s : ByteArray) (i : Nat) (h : i < s.size) : bt s i = ((s.data.toList[i]'(by rw [len_size]; exact h)).toNat : Int) := by
  unfold bt
  simp only [Int.toNat_natCast, dif_pos h]
  rfl
theorem extract_get (s : ByteArray) (i : Nat) (h : i < s.size) : s.extract i (i + 1) = ⟨#[s.data.toList[i]'(by rw [len_size]; exact h)]⟩ := by
  apply ba_ext
  have hl : i < s.data.toList.length := by rw [len_size]; exact h
  rw [Lib.extract_data]
  have e : s.data.toList.drop i = s.data.toList[i] :: s.data.toList.drop (i + 1) := List.drop_eq_getElem_cons hl
  rw [e, show i + 1 - i = 1 by omega]
  rfl
theorem words_l0 (s : ByteArray) (hs : s.size ≤ 1048576) : ∀ (m i : Nat), s.size - i = m → i ≤ s.size → ∀ (x3 : List ByteArray) (x4 : ByteArray), x3.length ≤ i → x4.size ≤ i →
    Ans (fun k => spec_l1Words.l0 k s x3 x4 i) (fun r => r = x3 ++ wlpB x4 (s.data.toList.drop i))
  | 0, i, hm, hi, x3, x4, h3, h4 => by
    refine Ans.succ ?_
    unfold spec_l1Words.l0
    refine Ans.neg (by omega) (Ans.pos (by omega) (Ans.pure ?_))
    rw [List.drop_eq_nil_of_le (by rw [len_size]; omega)]
    rfl
  | m + 1, i, hm, hi, x3, x4, h3, h4 => by
    have hlt : i < s.size := by omega
    have hl : i < s.data.toList.length := by rw [len_size]; exact hlt
    have hw : wrap64 ((i : Int) + 1) = ((i + 1 : Nat) : Int) := by unfold wrap64; omega
    have e : s.data.toList.drop i = s.data.toList[i] :: s.data.toList.drop (i + 1) := List.drop_eq_getElem_cons hl
    refine Ans.succ ?_
    unfold spec_l1Words.l0
    refine Ans.pos (by omega) (Ans.pos (by omega) ?_)
    rw [bt_get s i hlt, hw, e]
    by_cases hc : s.data.toList[i] = 32
    · refine Ans.pos (by rw [hc]; rfl) (Ans.pos (by omega) ?_)
      refine (words_l0 s hs m (i + 1) (by omega) (by omega) (x3 ++ [x4]) (⟨#[]⟩ : ByteArray) (by simp; omega) (Nat.zero_le _)).mono ?_
      rintro v rfl
      rw [wlpB, if_pos hc]
      simp
    · refine Ans.neg (fun h => hc (UInt8.toNat_inj.mp (by have : ((32 : UInt8).toNat : Int) = 32 := rfl; omega))) (Ans.pos (by omega) (Ans.pos (by omega) ?_))
      have ex : s.extract ((i : Int)).toNat ((((i + 1 : Nat) : Int))).toNat = ⟨#[s.data.toList[i]]⟩ := by simp only [Int.toNat_natCast]; exact extract_get s i hlt
      rw [ex]
      have h1 : (⟨#[s.data.toList[i]]⟩ : ByteArray).size = 1 := rfl
      refine Ans.pos (by rw [h1]; omega) ?_
      refine (words_l0 s hs m (i + 1) (by omega) (by omega) x3 (x4 ++ ⟨#[s.data.toList[i]]⟩) (by omega) (by rw [ByteArray.size_append, h1]; omega)).mono ?_
      rintro v rfl
      rw [wlpB, if_neg hc]
theorem wlpB_data : ∀ (l : List UInt8) (w : ByteArray), wlpB w l = match wlpB ⟨#[]⟩ l with
    | [] => []
    | h :: t => (w ++ h) :: t
  | [], w => by simp only [wlpB]; congr 1; exact ba_ext (by simp)
  | c :: r, w => by
    by_cases hc : c = 32
    · subst hc
      simp only [wlpB, if_true]
      congr 1; exact ba_ext (by simp)
    · simp only [wlpB, if_neg hc]
      rw [wlpB_data r (w ++ ⟨#[c]⟩), wlpB_data r (⟨#[]⟩ ++ ⟨#[c]⟩)]
      cases wlpB ⟨#[]⟩ r with
      | nil => rfl
      | cons h t => simp only [List.cons.injEq, and_true]; exact ba_ext (by simp)
theorem wlp_eq : ∀ (l : List UInt8), Lib.splitK [32] 0 (Lib.count l [32]) l = (wlpB ⟨#[]⟩ l).map (·.data.toList)
  | [] => by rw [Lib.count_miss (by simp [Lib.index])]; rfl
  | b :: l => by
    by_cases h : b = 32
    · subst h
      rw [Lib.count_cons_eq, Nat.add_comm]
      have hix : Lib.index (32 :: l) [32] = 0 := by rw [Lib.index]; simp [List.isPrefixOf]
      unfold Lib.splitK
      rw [hix]
      simp only [wlpB, if_true, List.map_cons]
      simp [wlp_eq l]
    · rw [Lib.count_cons_ne b 32 l h]
      have hp : ([32] : List UInt8).isPrefixOf (b :: l) = false := by simp [List.isPrefixOf, Ne.symm h]
      have hix : Lib.index (b :: l) [32] = if Lib.index l [32] == -1 then -1 else Lib.index l [32] + 1 := by rw [Lib.index, hp]; simp
      have ih := wlp_eq l
      simp only [wlpB, if_neg h]
      rw [wlpB_data l (⟨#[]⟩ ++ ⟨#[b]⟩)]
      by_cases hm : Lib.index l [32] = -1
      · rw [Lib.count_miss hm] at ih ⊢
        simp only [Lib.splitK] at ih ⊢
        cases hw : wlpB ⟨#[]⟩ l with
        | nil => rw [hw] at ih; simp at ih
        | cons x t => rw [hw] at ih; simp at ih ⊢; exact ⟨ih.1, ih.2⟩
      · have hge := Lib.index_ge l [32]
        obtain ⟨j, hj⟩ : ∃ j : Nat, Lib.index l [32] = j := ⟨(Lib.index l [32]).toNat, by omega⟩
        have hix' : Lib.index (b :: l) [32] = ((j + 1 : Nat) : Int) := by rw [hix, if_neg (fun e => hm (beq_iff_eq.1 e)), hj]; omega
        rw [Lib.count_hit (by simp) hj, Nat.add_comm] at ih ⊢
        unfold Lib.splitK at ih ⊢
        rw [hix', if_neg (fun h => by have := beq_iff_eq.1 h; omega)]
        rw [hj, if_neg (fun h => by have := beq_iff_eq.1 h; omega)] at ih
        cases hw : wlpB ⟨#[]⟩ l with
        | nil => rw [hw] at ih; simp at ih
        | cons x t => rw [hw] at ih; simp at ih ⊢; exact ⟨ih.1, ih.2⟩
theorem map_inj_data : ∀ {a b : List ByteArray}, a.map (·.data.toList) = b.map (·.data.toList) → a = b
  | [], [], _ => rfl
  | [], _ :: _, h => by simp at h
  | _ :: _, [], h => by simp at h
  | x :: a, y :: b, h => by
    simp only [List.map_cons, List.cons.injEq] at h
    rw [ba_ext h.1, map_inj_data h.2]
theorem wordsB_eq (s : ByteArray) : wordsB s = wlpB ⟨#[]⟩ s.data.toList := by
  apply map_inj_data
  unfold wordsB
  rw [Lib.splitB_data, ← wlp_eq]
  try rfl
theorem words_a (s : ByteArray) (hs : s.size ≤ 1048576) : Ans (fun k => spec_l1Words.f k s) (fun r => r = wordsB s) := by
  refine (words_l0 s hs _ 0 rfl (Nat.zero_le _) [] ⟨#[]⟩ (Nat.le_refl _) (Nat.le_refl _)).mono ?_
  rintro v rfl
  rw [wordsB_eq]; rfl
/-! ### Words that are put together -/
def joinB (w : ByteArray) (l : List ByteArray) : ByteArray := l.foldl (fun s x => s ++ ((⟨#[32]⟩ : ByteArray) ++ x)) w
def noBlank (b : ByteArray) : Prop := ∀ c ∈ b.data.toList, c ≠ 32
theorem wlpB_noBlank : ∀ (l : List UInt8) (w : ByteArray) (r : List UInt8), (∀ c ∈ l, c ≠ 32) → wlpB w (l ++ r) = wlpB (w ++ ⟨l.toArray⟩) r
  | [], w, r, _ => by simp only [List.nil_append]; congr 1; exact ba_ext (by simp)
  | c :: l, w, r, h => by
    have hc : c ≠ 32 := h c (by simp)
    simp only [List.cons_append, wlpB, if_neg hc]
    rw [wlpB_noBlank l (w ++ ⟨#[c]⟩) r (fun x hx => h x (by simp [hx]))]
    congr 1; exact ba_ext (by simp)
theorem wlpB_join : ∀ (l : List ByteArray) (w u : ByteArray), noBlank w → (∀ x ∈ l, noBlank x) → wlpB u (joinB w l).data.toList = (u ++ w) :: l
  | [], w, u, hw, _ => by
    have := wlpB_noBlank w.data.toList u [] hw
    rw [List.append_nil] at this
    show wlpB u w.data.toList = _
    rw [this]
    rfl
  | x :: l, w, u, hw, hl => by
    have e : ∀ (l : List ByteArray) (w x : ByteArray), (joinB (w ++ ((⟨#[32]⟩ : ByteArray) ++ x)) l).data.toList = w.data.toList ++ 32 :: (joinB x l).data.toList := by
      intro l
      induction l with
      | nil => intro w x; simp [joinB]
      | cons y l ih =>
        intro w x
        have h1 := ih (w ++ ((⟨#[32]⟩ : ByteArray) ++ x)) y
        have h2 := ih x y
        simp only [joinB, List.foldl_cons] at h1 h2 ⊢
        rw [h1, h2]
        simp
    have h0 : joinB w (x :: l) = joinB (w ++ ((⟨#[32]⟩ : ByteArray) ++ x)) l := rfl
    rw [h0, e, wlpB_noBlank w.data.toList u _ hw]
    simp only [wlpB, if_true]
    rw [wlpB_join l x ⟨#[]⟩ (hl x (by simp)) (fun y hy => hl y (by simp [hy]))]
    have e2 : (⟨#[]⟩ : ByteArray) ++ x = x := ba_ext (by simp)
    have e3 : u ++ ⟨w.data.toList.toArray⟩ = u ++ w := ba_ext (by simp)
    rw [e2]
theorem words_join (w : ByteArray) (l : List ByteArray) (hw : noBlank w) (hl : ∀ x ∈ l, noBlank x) : wordsB (joinB w l) = w :: l := by
  have e2 : (⟨#[]⟩ : ByteArray) ++ w = w := ba_ext (by simp)
  rw [wordsB_eq, wlpB_join l w ⟨#[]⟩ hw hl, e2]
theorem wlpB_ne : ∀ (r : List UInt8) (w : ByteArray), wlpB w r ≠ []
  | [], w => by simp [wlpB]
  | c :: r, w => by
    unfold wlpB
    split
    · simp
    · exact wlpB_ne r _
theorem join_wlpB : ∀ (r : List UInt8) (w : ByteArray), (match wlpB w r with | [] => (⟨#[]⟩ : ByteArray) | h :: t => joinB h t).data.toList = w.data.toList ++ r
  | [], w => by simp [wlpB, joinB]
  | c :: r, w => by
    by_cases hc : c = 32
    · subst hc
      simp only [wlpB, if_true]
      have ih := join_wlpB r ⟨#[]⟩
      cases hw : wlpB ⟨#[]⟩ r with
      | nil => exact absurd hw (wlpB_ne r _)
      | cons x t =>
        rw [hw] at ih
        have e : ∀ (t : List ByteArray) (w x : ByteArray), (joinB w (x :: t)).data.toList = w.data.toList ++ 32 :: (joinB x t).data.toList := by
          intro t
          induction t with
          | nil => intro w x; simp [joinB]
          | cons y t ih =>
            intro w x
            have h1 := ih (w ++ ((⟨#[32]⟩ : ByteArray) ++ x)) y
            have h2 := ih x y
            simp only [joinB, List.foldl_cons] at h1 h2 ⊢
            rw [h1, h2]
            simp
        show (joinB w (x :: t)).data.toList = _
        rw [e]
        simp only [List.append_cancel_left_eq, List.cons.injEq, true_and]
        simpa using ih
    · simp only [wlpB, if_neg hc]
      have ih := join_wlpB r (w ++ ⟨#[c]⟩)
      rw [ih]
      simp
theorem join_words (s w : ByteArray) (l : List ByteArray) (h : wordsB s = w :: l) : joinB w l = s := by
  have := join_wlpB s.data.toList ⟨#[]⟩
  rw [← wordsB_eq, h] at this
  exact ba_ext (by simpa using this)
theorem textB_join (w : ByteArray) (l : List Int) : textB w l = joinB w (l.map numB) := by
  unfold textB joinB
  rw [List.foldl_map]
end Go.Proofs.YtiocgkggegahhaaDoor.P

/- Plain words of numbers: what spec.l1Num answers; what strconv.Atoi answers of a numeral. -/
namespace Go.Proofs.YtiocgkggegahhaaDoor.P
open Go.RowKit Go.Proofs.YtiocgkggegahhaaDoorUFnRulText.PrintWords Go.Proofs.YtiocgkggegahhaaDoorUFnRulText.PrintLast Go.Proofs.YtiocgkggegahhaaDoorUFnRulText.PrintMore
set_option linter.unusedVariables false
set_option linter.unusedSimpArgs false
def isDg (c : UInt8) : Prop := 48 ≤ c.toNat ∧ c.toNat ≤ 57
def valF (a : Nat) (l : List UInt8) : Nat := l.foldl (fun a b => a * 10 + (b.toNat - 48)) a
theorem dg_of {d : Nat} (h : d < 10) : isDg (UInt8.ofNat (48 + d)) ∧ (UInt8.ofNat (48 + d)).toNat - 48 = d := by
  have e : (UInt8.ofNat (48 + d)).toNat = 48 + d := by simp; omega
  unfold isDg; rw [e]; omega
theorem numB_data_small {n : Nat} (h : n < 10) : (numB n).data.toList = [UInt8.ofNat (48 + n)] := by
  rw [numB_small h]; rfl
theorem numB_data_big {n : Nat} (h : ¬ n < 10) : (numB n).data.toList = (numB (n / 10 : Nat)).data.toList ++ [UInt8.ofNat (48 + n % 10)] := by
  rw [numB_big h, ByteArray.data_append, Array.toList_append]; rfl
theorem numB_dg : ∀ (N n : Nat), n < N → (∀ c ∈ (numB n).data.toList, isDg c) ∧ valF 0 (numB n).data.toList = n ∧ (numB n).data.toList ≠ []
  | 0, n, h => by omega
  | N + 1, n, h => by
    by_cases h9 : n < 10
    · rw [numB_data_small h9]
      refine ⟨fun c hc => ?_, ?_, by simp⟩
      · simp at hc; subst hc; have := (dg_of h9).1; simpa using this
      · have := (dg_of h9).2; simp only [valF, List.foldl_cons, List.foldl_nil]; omega
    · rw [numB_data_big h9]
      obtain ⟨i1, i2, i3⟩ := numB_dg N (n / 10) (by omega)
      have hd : n % 10 < 10 := by omega
      refine ⟨fun c hc => ?_, ?_, by simp⟩
      · rcases List.mem_append.1 hc with hc | hc
        · exact i1 c hc
        · have e := List.mem_singleton.1 hc; subst e; exact (dg_of hd).1
      · have := (dg_of hd).2
        unfold valF at i2 ⊢
        rw [List.foldl_append, i2]
        simp only [List.foldl_cons, List.foldl_nil]
        omega
theorem numB_inj {a b : Nat} (h : numB a = numB b) : a = b := by
  have h1 := (numB_dg (a + 1) a (by omega)).2.1
  have h2 := (numB_dg (b + 1) b (by omega)).2.1
  rw [h] at h1; omega
theorem numB_size4 {n : Nat} (h : n ≤ 9999) : (numB n).size ≤ 4 ∧ 1 ≤ (numB n).size := by
  have e : (numB n).size = Lib.nDigits n := by
    unfold numB Lib.itoa
    rw [if_neg (by omega)]
    show (Lib.decDigits (n : Int).toNat).toArray.size = _
    rw [List.size_toArray, Lib.decDigits_length]; rfl
  rw [e]
  by_cases a : n < 10
  · rw [Lib.nDigits_small a]; omega
  · rw [Lib.nDigits_big a]
    by_cases b : n / 10 < 10
    · rw [Lib.nDigits_small b]; omega
    · rw [Lib.nDigits_big b]
      by_cases c : n / 10 / 10 < 10
      · rw [Lib.nDigits_small c]; omega
      · rw [Lib.nDigits_big c, Lib.nDigits_small (by omega)]; omega
theorem numB_noBlank (n : Nat) : noBlank (numB n) := by
  intro c hc e
  have := (numB_dg (n + 1) n (by omega)).1 c hc
  subst e
  unfold isDg at this
  simp at this
theorem valF_lt : ∀ (l : List UInt8) (a : Nat), (∀ c ∈ l, isDg c) → valF a l + 1 ≤ (a + 1) * 10 ^ l.length
  | [], a, _ => by simp [valF]
  | c :: l, a, h => by
    have hc := h c (by simp)
    have ih := valF_lt l (a * 10 + (c.toNat - 48)) (fun x hx => h x (by simp [hx]))
    unfold isDg at hc
    have : (a * 10 + (c.toNat - 48) + 1) * 10 ^ l.length ≤ ((a + 1) * 10) * 10 ^ l.length := Nat.mul_le_mul_right _ (by omega)
    simp only [valF, List.foldl_cons, List.length_cons, Nat.pow_succ] at ih ⊢
    rw [Nat.mul_assoc, Nat.mul_comm 10] at this
    omega
theorem parse_dg : ∀ (l : List UInt8) (a : Nat), (∀ c ∈ l, isDg c) → (a + 1) * 10 ^ l.length ≤ 10 ^ 18 → Lib.parseUint10 a l = .ok (valF a l)
  | [], a, _, _ => rfl
  | c :: l, a, h, hb => by
    have hc := h c (by simp)
    unfold isDg at hc
    have hp : 1 ≤ 10 ^ l.length := Nat.one_le_pow _ _ (by decide)
    have h1 : ((a + 1) * 10) * 1 ≤ ((a + 1) * 10) * 10 ^ l.length := Nat.mul_le_mul_left _ hp
    have h2 : (a + 1) * 10 ^ (l.length + 1) = ((a + 1) * 10) * 10 ^ l.length := by rw [Nat.pow_succ, Nat.mul_comm (10 ^ l.length) 10, Nat.mul_assoc]
    simp only [List.length_cons] at hb
    have h3 : (a * 10 + (c.toNat - 48) + 1) * 10 ^ l.length ≤ ((a + 1) * 10) * 10 ^ l.length := Nat.mul_le_mul_right _ (by omega)
    unfold Lib.parseUint10
    rw [if_pos hc, if_neg (by omega), if_neg (by omega), parse_dg l _ (fun x hx => h x (by simp [hx])) (by omega)]
    rfl
theorem atoiO_num {n : Nat} (h : n ≤ 9999) : atoiO (numB n) = some (n : Int) := by
  obtain ⟨h1, h2, h3⟩ := numB_dg (n + 1) n (by omega)
  have hs : (numB n).data.toList.length ≤ 4 := by rw [len_size]; exact (numB_size4 h).1
  have hp := parse_dg (numB n).data.toList 0 h1 (by
    have : 10 ^ (numB n).data.toList.length ≤ 10 ^ 4 := Nat.pow_le_pow_right (by decide) hs
    omega)
  rw [h2] at hp
  have e : Lib.atoiAll (numB n).data.toList = .ok (n : Int) := by
    generalize (numB n).data.toList = l at h1 h3 hp
    match l, h3 with
    | c :: r, _ =>
      have hc := h1 c (by simp)
      unfold isDg at hc
      unfold Lib.atoiAll
      simp only
      rw [if_neg (by omega)]
      unfold Lib.parseMag
      rw [if_neg (by simp), hp]
      simp only
      rw [if_neg (by omega), if_neg (by omega), if_neg (by omega)]
  unfold atoiO
  rw [e]
/-- What a word reads as. -/
def NumIs (s : ByteArray) (v : Int) : Prop := (∃ n : Nat, n ≤ 9999 ∧ s = numB n ∧ v = n) ∨ (v = -1 ∧ ∀ n : Nat, n ≤ 9999 → s ≠ numB n)
theorem num_step (V c : Nat) (hV : V ≤ 9999) (h0 : 48 ≤ c) (h1 : c ≤ 57) : wrap64 (wrap64 ((V : Int) * 10) + ((c : Int) - 48) % 256) = ((V * 10 + (c - 48) : Nat) : Int) := by
  have e1 : wrap64 ((V : Int) * 10) = (V : Int) * 10 := w64 _ (by omega)
  have e2 : ((c : Int) - 48) % 256 = (c : Int) - 48 := by omega
  rw [e1, e2, w64 _ (by omega)]
  omega
theorem num_l0 (s : ByteArray) (hs : s.size ≤ 4) : ∀ (m i : Nat), s.size - i = m → i ≤ s.size → (∀ c ∈ s.data.toList.take i, isDg c) →
    Ans (fun k => spec_l1Num.l0 k s (valF 0 (s.data.toList.take i) : Nat) i) (NumIs s)
  | 0, i, hm, hi, hd => by
    have hl : s.data.toList.length ≤ i := by rw [len_size]; omega
    rw [List.take_of_length_le hl] at hd ⊢
    have hv := valF_lt s.data.toList 0 hd
    have hp : 10 ^ s.data.toList.length ≤ 10 ^ 4 := Nat.pow_le_pow_right (by decide) (by rw [len_size]; exact hs)
    refine Ans.succ ?_
    unfold spec_l1Num.l0
    refine Ans.neg (by omega) ?_
    refine Ans.bind (plain_a (n := valF 0 s.data.toList) (by omega)) ?_
    rintro v rfl
    refine Ans.ite (fun h => Ans.pure (.inl ⟨_, by omega, (toList_inj h).symm, rfl⟩)) (fun h => Ans.pure (.inr ⟨rfl, ?_⟩))
    intro n hn e
    refine h ?_
    have := (numB_dg (n + 1) n (by omega)).2.1
    rw [← e] at this
    rw [this, ← e]
  | m + 1, i, hm, hi, hd => by
    have hlt : i < s.size := by omega
    have hl : i < s.data.toList.length := by rw [len_size]; exact hlt
    have hw : wrap64 ((i : Int) + 1) = ((i + 1 : Nat) : Int) := by unfold wrap64; omega
    have hno : ∀ (h : ¬ isDg s.data.toList[i]) (n : Nat), n ≤ 9999 → s ≠ numB n := by
      intro h n hn e
      have := (numB_dg (n + 1) n (by omega)).1 (s.data.toList[i]) (by rw [← e]; exact List.getElem_mem hl)
      exact h this
    refine Ans.succ ?_
    unfold spec_l1Num.l0
    refine Ans.pos (by omega) (Ans.pos (by omega) ?_)
    rw [bt_get s i hlt, hw]
    have hc8 := (s.data.toList[i]).toNat_lt
    refine Ans.ite (fun h => Ans.pure (.inr ⟨rfl, hno (fun q => by unfold isDg at q; omega)⟩)) (fun h1 => ?_)
    refine Ans.ite (fun h => Ans.pure (.inr ⟨rfl, hno (fun q => by unfold isDg at q; omega)⟩)) (fun h2 => ?_)
    have hdi : isDg s.data.toList[i] := by unfold isDg; omega
    have ht : s.data.toList.take (i + 1) = s.data.toList.take i ++ [s.data.toList[i]] := List.take_succ_eq_append_getElem hl
    have hd' : ∀ c ∈ s.data.toList.take (i + 1), isDg c := by
      rw [ht]
      intro c hc
      rcases List.mem_append.1 hc with hc | hc
      · exact hd c hc
      · have e := List.mem_singleton.1 hc; subst e; exact hdi
    have hv := valF_lt _ 0 hd
    have hp : 10 ^ (s.data.toList.take i).length ≤ 10 ^ 4 := Nat.pow_le_pow_right (by decide) (by rw [List.length_take]; omega)
    have e : wrap64 (wrap64 ((valF 0 (s.data.toList.take i) : Nat) * 10) + (((s.data.toList[i]).toNat : Int) - 48) % 256) = (valF 0 (s.data.toList.take (i + 1)) : Nat) := by
      have e1 : valF 0 (s.data.toList.take (i + 1)) = valF 0 (s.data.toList.take i) * 10 + ((s.data.toList[i]).toNat - 48) := by
        rw [ht]; unfold valF; rw [List.foldl_append]; rfl
      rw [e1]
      unfold isDg at hdi
      exact num_step _ _ (by omega) hdi.1 hdi.2
    rw [e]
    exact num_l0 s hs m (i + 1) (by omega) (by omega) hd'
theorem num_a (s : ByteArray) : Ans (fun k => spec_l1Num.f k s) (NumIs s) := by
  unfold spec_l1Num.f
  refine Ans.ite (fun h => ?_) (fun h => ?_)
  · refine Ans.succ ?_
    unfold spec_l1Num.j0
    refine Ans.pos rfl (Ans.pure (.inr ⟨rfl, fun n hn e => ?_⟩))
    have := (numB_size4 hn).2
    rw [← e] at this; omega
  · refine Ans.succ ?_
    unfold spec_l1Num.j0
    refine Ans.ite (fun h4 => Ans.pure (.inr ⟨rfl, fun n hn e => ?_⟩)) (fun h4 => ?_)
    · have := (numB_size4 hn).1
      rw [← e] at this
      have := of_decide_eq_true h4
      omega
    · have h4' : ¬ ((s.size : Int) > 4) := fun q => h4 (decide_eq_true q)
      exact num_l0 s (by omega) _ 0 rfl (Nat.zero_le _) (by simp)
end Go.Proofs.YtiocgkggegahhaaDoor.P

/- What spec.RulText and spec.RulRead answer, in plain words; they answer as impl.RulText and impl.RulRead. -/
namespace Go.Proofs.YtiocgkggegahhaaDoor.P
open Go.RowKit Go.Proofs.YtiocgkggegahhaaDoorUFnRulText.PrintWords Go.Proofs.YtiocgkggegahhaaDoorUFnRulText.PrintLast Go.Proofs.YtiocgkggegahhaaDoorUFnRulText.PrintMore
set_option linter.unusedVariables false
set_option linter.unusedSimpArgs false
theorem specRulOk_f (f0 : Bool) (f1 f2 f3 f4 f5 f6 : Int) : spec_RulOk.f f0 f1 f2 f3 f4 f5 f6 = some (ruleOk7 f1 f2 f3 f4 f5 f6) := by
  have hi : ∀ a b c : Int, spec_l1In.f a b c = some (inB a b c) := by
    intro a b c
    unfold spec_l1In.f inB
    by_cases h : a ≥ b
    · rw [if_pos h]; simp [show b ≤ a from h]
    · rw [if_neg h]; simp [show ¬ b ≤ a from h]
  unfold spec_RulOk.f
  simp only [hi, Option.bind_some]
  have key : ∀ b1 b2 b3 : Bool, ∀ p1 p2 p3 : Prop, [Decidable p1] → [Decidable p2] → [Decidable p3] →
      (if b1 = true then (if p1 then (if b2 = true then (if p2 then (if b3 = true then some (decide p3) else some false) else some false) else some false) else some false) else some false) = some (b1 && decide p1 && b2 && decide p2 && b3 && decide p3) := by
    intro b1 b2 b3 p1 p2 p3 _ _ _
    cases b1 <;> cases b2 <;> cases b3 <;> by_cases p1 <;> by_cases p2 <;> by_cases p3 <;> simp_all
  rw [key]
  congr 1
  rw [Bool.eq_iff_iff]
  simp only [ruleOk7, inB, Bool.and_eq_true, decide_eq_true_eq]
  omega
def rtext (f0 : Bool) (f1 f2 f3 f4 f5 f6 : Int) : ByteArray := if ruleOk7 f1 f2 f3 f4 f5 f6 then textB (allowB f0) [f1, f2, f3, f4, f5, f6] else ⟨#[]⟩
theorem implRulText_f (f0 : Bool) (f1 f2 f3 f4 f5 f6 : Int) : impl_RulText.f f0 f1 f2 f3 f4 f5 f6 = some (rtext f0 f1 f2 f3 f4 f5 f6) := rfl
theorem rtext_l0 (l : List Int) (hl : ∀ n ∈ l, 0 ≤ n ∧ n ≤ 999) (hn : l.length ≤ 10) : ∀ (m i : Nat), l.length - i = m → i ≤ l.length → ∀ x3 : ByteArray, x3.size ≤ 100 + 10 * i →
    Ans (fun k => spec_RulText.l0 k x3 l i) (fun b => b = textB x3 (l.drop i))
  | 0, i, hm, hi, x3, h3 => by
    refine Ans.succ ?_
    unfold spec_RulText.l0
    refine Ans.neg (by omega) (Ans.pure ?_)
    rw [List.drop_eq_nil_of_le (by omega)]; rfl
  | m + 1, i, hm, hi, x3, h3 => by
    have hlt : i < l.length := by omega
    have hw : wrap64 ((i : Int) + 1) = ((i + 1 : Nat) : Int) := w64 _ (by omega)
    have hx := hl l[i] (List.getElem_mem hlt)
    have hr : rd l (i : Int) = l[i] := by simp [rd, List.getD, hlt]
    have hd : l.drop i = l[i] :: l.drop (i + 1) := List.drop_eq_getElem_cons hlt
    obtain ⟨n, hnn⟩ : ∃ n : Nat, l[i] = n := ⟨l[i].toNat, by omega⟩
    refine Ans.succ ?_
    unfold spec_RulText.l0
    refine Ans.pos (by omega) (Ans.pos (by omega) (Ans.pos (by omega) ?_))
    rw [hr, hw, hnn]
    refine Ans.bind (plain_a (n := n) (by omega)) ?_
    rintro v rfl
    have hz := numB_size (n := (n : Int)) (by omega) (by omega)
    have h1 : (x3 ++ (⟨#[32]⟩ : ByteArray)).size = x3.size + 1 := by rw [ByteArray.size_append]; rfl
    refine Ans.pos (by rw [h1]; omega) ?_
    refine (rtext_l0 l hl hn m (i + 1) (by omega) (by omega) (x3 ++ (⟨#[32]⟩ : ByteArray) ++ numB n) (by rw [ByteArray.size_append, h1]; omega)).mono ?_
    rintro v rfl
    rw [hd, hnn, ByteArray.append_assoc]
    rfl
theorem specRulText_a (f0 : Bool) (f1 f2 f3 f4 f5 f6 : Int) : Ans (fun k => spec_RulText.f k f0 f1 f2 f3 f4 f5 f6) (fun b => b = rtext f0 f1 f2 f3 f4 f5 f6) := by
  unfold spec_RulText.f
  rw [specRulOk_f]
  refine Ans.bsome ?_
  unfold rtext
  cases hk : ruleOk7 f1 f2 f3 f4 f5 f6 with
  | false => exact Ans.neg (by simp) (Ans.pure rfl)
  | true =>
    have hb := ruleOk7_le hk
    have hl : ∀ n ∈ ([f1, f2, f3, f4, f5, f6] : List Int), 0 ≤ n ∧ n ≤ 999 := by
      intro n hn
      simp only [List.mem_cons, List.mem_nil_iff, or_false] at hn
      rcases hn with rfl | rfl | rfl | rfl | rfl | rfl <;> omega
    refine Ans.pos rfl ?_
    cases f0 with
    | true =>
      refine Ans.pos rfl (Ans.succ ?_)
      unfold spec_RulText.j0
      exact rtext_l0 _ hl (by simp) _ 0 rfl (Nat.zero_le _) _ (by decide)
    | false =>
      refine Ans.neg (by simp) (Ans.succ ?_)
      unfold spec_RulText.j0
      exact rtext_l0 _ hl (by simp) _ 0 rfl (Nat.zero_le _) _ (by decide)
/-- What spec.RulRead makes of words. -/
def RulIs (a : ByteArray) (n1 n2 n3 n4 n5 n6 : Int) : RR :=
  if (a = allowB true ∨ a = allowB false) ∧ ruleOk7 n1 n2 n3 n4 n5 n6 = true then (decide (a = allowB true), n1, n2, n3, n4, n5, n6, true) else zeroRR
theorem nums_l0 (l : List ByteArray) (hl : l.length = 7) : ∀ (m i : Nat), 7 - i = m → 1 ≤ i → i ≤ 7 → ∀ x5 : List Int, x5.length + 1 = i → (∀ j : Nat, (h : j + 1 < i) → (h7 : j + 1 < 7) → NumIs (l[j + 1]'(by omega)) (x5.getD j 0)) → ∀ P : RR → Prop,
    (∀ xs : List Int, xs.length = 6 → (∀ j : Nat, (h : j < 6) → NumIs (l[j + 1]'(by omega)) (xs.getD j 0)) → P (if ruleOk7 (rd xs 0) (rd xs 1) (rd xs 2) (rd xs 3) (rd xs 4) (rd xs 5) then (((rdOf ByteArray.empty l 0).toList == ([97, 108, 108, 111, 119] : List UInt8)), rd xs 0, rd xs 1, rd xs 2, rd xs 3, rd xs 4, rd xs 5, true) else zeroRR)) →
    Ans (fun k => spec_RulRead.l0 k l x5 i) P
  | 0, i, hm, h1, hi, x5, h5, hj, P, hP => by
    refine Ans.succ ?_
    unfold spec_RulRead.l0
    refine Ans.neg (by omega) ?_
    refine Ans.pos (by omega) (Ans.pos (by omega) (Ans.pos (by omega) (Ans.pos (by omega) (Ans.pos (by omega) (Ans.pos (by omega) (Ans.pos (by omega) ?_))))))
    rw [specRulOk_f]
    refine Ans.bsome ?_
    have := hP x5 (by omega) (fun j h => hj j (by omega) (by omega))
    refine Ans.ite (fun h => Ans.pure ?_) (fun h => Ans.pure ?_)
    · rw [if_pos h] at this; exact this
    · rw [if_neg h] at this; exact this
  | m + 1, i, hm, h1, hi, x5, h5, hj, P, hP => by
    have hlt : i < 7 := by omega
    have hw : wrap64 ((i : Int) + 1) = ((i + 1 : Nat) : Int) := w64 _ (by omega)
    refine Ans.succ ?_
    unfold spec_RulRead.l0
    refine Ans.pos (by omega) (Ans.pos (by omega) (Ans.pos (by omega) ?_))
    have hr : rdOf ByteArray.empty l (i : Int) = l[i]'(by omega) := by simp [rdOf, List.getD, hl, hlt]
    rw [hr, hw]
    refine Ans.bind (num_a _) ?_
    intro v hv
    refine Ans.pos (by omega) ?_
    refine nums_l0 l hl m (i + 1) (by omega) (by omega) (by omega) (x5 ++ [v]) (by simp; omega) ?_ P hP
    intro j h h7
    by_cases hji : j + 1 < i
    · have := hj j hji h7
      have e : (x5 ++ [v]).getD j 0 = x5.getD j 0 := by simp [List.getD, List.getElem?_append_left (show j < x5.length by omega)]
      rw [e]; exact this
    · have hji' : j = x5.length := by omega
      subst hji'
      have e : (x5 ++ [v]).getD x5.length 0 = v := by simp [List.getD]
      rw [e]
      have : l[x5.length + 1]'(by omega) = l[i]'(by omega) := by congr 1
      rw [this]; exact hv
def rulReadO (s a b1 b2 b3 b4 b5 b6 : ByteArray) : Option RR :=
  (atoiO b1).bind fun n1 => (atoiO b2).bind fun n2 => (atoiO b3).bind fun n3 => (atoiO b4).bind fun n4 => (atoiO b5).bind fun n5 => (atoiO b6).bind fun n6 =>
    (impl_RulText.f (decide (a = allowB true)) n1 n2 n3 n4 n5 n6).bind fun t => if t = s then some (decide (a = allowB true), n1, n2, n3, n4, n5, n6, true) else none
theorem allow_noBlank (b : Bool) : noBlank (allowB b) := by
  cases b <;> (intro c hc; simp [allowB] at hc; rcases hc with rfl | rfl | rfl | rfl | rfl <;> decide)
theorem numI_noBlank {n : Int} (h : 0 ≤ n) : noBlank (numB n) := by
  obtain ⟨k, rfl⟩ : ∃ k : Nat, n = k := ⟨n.toNat, by omega⟩
  exact numB_noBlank k
theorem words_nil : wordsB (⟨#[]⟩ : ByteArray) = [⟨#[]⟩] := by rw [wordsB_eq]; rfl
theorem read_some {s a b1 b2 b3 b4 b5 b6 : ByteArray} (hw : wordsB s = [a, b1, b2, b3, b4, b5, b6]) {r : RR} (h : rulReadO s a b1 b2 b3 b4 b5 b6 = some r) :
    ∃ n1 n2 n3 n4 n5 n6 : Int, ruleOk7 n1 n2 n3 n4 n5 n6 = true ∧ a = allowB (decide (a = allowB true)) ∧ b1 = numB n1 ∧ b2 = numB n2 ∧ b3 = numB n3 ∧ b4 = numB n4 ∧ b5 = numB n5 ∧ b6 = numB n6 ∧ r = (decide (a = allowB true), n1, n2, n3, n4, n5, n6, true) := by
  unfold rulReadO at h
  simp only [Option.bind_eq_some_iff] at h
  obtain ⟨n1, e1, n2, e2, n3, e3, n4, e4, n5, e5, n6, e6, t, et, h⟩ := h
  rw [implRulText_f] at et
  have et := Option.some.inj et
  by_cases ht : t = s
  · rw [if_pos ht] at h
    have h := Option.some.inj h
    subst ht
    unfold rtext at et
    by_cases hk : ruleOk7 n1 n2 n3 n4 n5 n6 = true
    · rw [if_pos hk, textB_join] at et
      have hb := ruleOk7_le hk
      have hj := words_join (allowB (decide (a = allowB true))) ([n1, n2, n3, n4, n5, n6].map numB) (allow_noBlank _) (by
        intro x hx
        simp only [List.map_cons, List.map_nil, List.mem_cons, List.mem_nil_iff, or_false] at hx
        rcases hx with rfl | rfl | rfl | rfl | rfl | rfl <;> exact numI_noBlank (by omega))
      rw [et, hw] at hj
      simp only [List.map_cons, List.map_nil, List.cons.injEq, and_true] at hj
      obtain ⟨h0, h1, h2, h3, h4, h5, h6⟩ := hj
      exact ⟨n1, n2, n3, n4, n5, n6, hk, h0, h1, h2, h3, h4, h5, h6, h.symm⟩
    · rw [if_neg hk] at et
      rw [← et, words_nil] at hw
      simp at hw
  · rw [if_neg ht] at h; cases h
theorem num_same {b : ByteArray} {n x : Int} (h : b = numB n) (h0 : 0 ≤ n) (h1 : n ≤ 999) (hx : NumIs b x) : x = n := by
  obtain ⟨k, rfl⟩ : ∃ k : Nat, n = k := ⟨n.toNat, by omega⟩
  rcases hx with ⟨m, hm, e, rfl⟩ | ⟨_, hno⟩
  · have := numB_inj (e.symm.trans h); omega
  · exact absurd h (hno k (by omega))
theorem num_pos {b : ByteArray} {x : Int} (h : 1 ≤ x) (hx : NumIs b x) : b = numB x ∧ atoiO b = some x := by
  rcases hx with ⟨m, hm, e, rfl⟩ | ⟨e, _⟩
  · exact ⟨e, by rw [e]; exact atoiO_num hm⟩
  · omega
theorem read_key {s a b1 b2 b3 b4 b5 b6 : ByteArray} (hw : wordsB s = [a, b1, b2, b3, b4, b5, b6]) (ha : a = allowB true ∨ a = allowB false) {x1 x2 x3 x4 x5 x6 : Int}
    (h1 : NumIs b1 x1) (h2 : NumIs b2 x2) (h3 : NumIs b3 x3) (h4 : NumIs b4 x4) (h5 : NumIs b5 x5) (h6 : NumIs b6 x6) :
    (if ruleOk7 x1 x2 x3 x4 x5 x6 = true then (decide (a = allowB true), x1, x2, x3, x4, x5, x6, true) else zeroRR) = rulReadW s [a, b1, b2, b3, b4, b5, b6] := by
  show _ = (rulReadO s a b1 b2 b3 b4 b5 b6).getD zeroRR
  by_cases hk : ruleOk7 x1 x2 x3 x4 x5 x6 = true
  · rw [if_pos hk]
    have hb := ruleOk7_le hk
    obtain ⟨q1, r1⟩ := num_pos (by omega) h1
    obtain ⟨q2, r2⟩ := num_pos (by omega) h2
    obtain ⟨q3, r3⟩ := num_pos (by omega) h3
    obtain ⟨q4, r4⟩ := num_pos (by omega) h4
    obtain ⟨q5, r5⟩ := num_pos (by omega) h5
    obtain ⟨q6, r6⟩ := num_pos (by omega) h6
    have hal : allowB (decide (a = allowB true)) = a := by
      rcases ha with e | e
      · rw [decide_eq_true e, e]
      · have : a ≠ allowB true := by rw [e]; decide
        rw [decide_eq_false this, e]
    have ht : rtext (decide (a = allowB true)) x1 x2 x3 x4 x5 x6 = s := by
      unfold rtext
      rw [if_pos hk, textB_join, hal]
      simp only [List.map_cons, List.map_nil]
      rw [← q1, ← q2, ← q3, ← q4, ← q5, ← q6]
      exact join_words s a _ hw
    unfold rulReadO
    rw [r1, r2, r3, r4, r5, r6]
    simp only [Option.bind_some, implRulText_f, ht, if_true, Option.getD_some]
  · rw [if_neg hk]
    cases h : rulReadO s a b1 b2 b3 b4 b5 b6 with
    | none => rfl
    | some r =>
      obtain ⟨n1, n2, n3, n4, n5, n6, hn, _, e1, e2, e3, e4, e5, e6, _⟩ := read_some hw h
      have hb := ruleOk7_le hn
      have g1 := num_same e1 (by omega) (by omega) h1
      have g2 := num_same e2 (by omega) (by omega) h2
      have g3 := num_same e3 (by omega) (by omega) h3
      have g4 := num_same e4 (by omega) (by omega) h4
      have g5 := num_same e5 (by omega) (by omega) h5
      have g6 := num_same e6 (by omega) (by omega) h6
      rw [g1, g2, g3, g4, g5, g6] at hk
      exact absurd hn hk
theorem read_not {s a b1 b2 b3 b4 b5 b6 : ByteArray} (hw : wordsB s = [a, b1, b2, b3, b4, b5, b6]) (ha : a ≠ allowB true) (ha' : a ≠ allowB false) :
    rulReadW s [a, b1, b2, b3, b4, b5, b6] = zeroRR := by
  show (rulReadO s a b1 b2 b3 b4 b5 b6).getD zeroRR = _
  cases h : rulReadO s a b1 b2 b3 b4 b5 b6 with
  | none => rfl
  | some r =>
    obtain ⟨n1, n2, n3, n4, n5, n6, hn, e, _⟩ := read_some hw h
    rw [decide_eq_false ha] at e
    exact absurd e ha'
theorem list7 {l : List ByteArray} (h : l.length = 7) : ∃ a b1 b2 b3 b4 b5 b6, l = [a, b1, b2, b3, b4, b5, b6] := by
  match l, h with
  | [a, b1, b2, b3, b4, b5, b6], _ => exact ⟨a, b1, b2, b3, b4, b5, b6, rfl⟩
theorem deny_list : (allowB false).toList = [100, 101, 110, 121] := by rw [ByteArray.toList_eq]; rfl
theorem allow_list : (allowB true).toList = [97, 108, 108, 111, 119] := by rw [ByteArray.toList_eq]; rfl
theorem specRulRead_a (s : ByteArray) (hs : s.size ≤ 1048576) : Ans (fun k => spec_RulRead.f k s) (fun r => r = rulReadW s (wordsB s)) := by
  unfold spec_RulRead.f
  refine Ans.bind (words_a s hs) ?_
  rintro v rfl
  by_cases h7 : (wordsB s).length = 7
  · obtain ⟨a, b1, b2, b3, b4, b5, b6, hw⟩ := list7 h7
    rw [hw]
    have hfin : ∀ (ha : a = allowB true ∨ a = allowB false), Ans (fun k => spec_RulRead.l0 k [a, b1, b2, b3, b4, b5, b6] [] 1) (fun r => r = rulReadW s [a, b1, b2, b3, b4, b5, b6]) := by
      intro ha
      refine nums_l0 [a, b1, b2, b3, b4, b5, b6] rfl 6 1 rfl (by omega) (by omega) [] rfl (fun j h => by omega) _ ?_
      intro xs hx hn
      match xs, hx with
      | [x1, x2, x3, x4, x5, x6], _ =>
        have := read_key hw ha (hn 0 (by omega)) (hn 1 (by omega)) (hn 2 (by omega)) (hn 3 (by omega)) (hn 4 (by omega)) (hn 5 (by omega))
        rw [← this]
        show (if ruleOk7 x1 x2 x3 x4 x5 x6 = true then ((a.toList == ([97, 108, 108, 111, 119] : List UInt8)), x1, x2, x3, x4, x5, x6, true) else zeroRR) = _
        rw [← allowB_eq]
        rfl
    refine Ans.pos (by simp) (Ans.pos (by simp) ?_)
    have h0 : rdOf ByteArray.empty [a, b1, b2, b3, b4, b5, b6] 0 = a := rfl
    rw [h0]
    refine Ans.ite (fun hal => ?_) (fun hal => ?_)
    · refine Ans.succ ?_
      unfold spec_RulRead.j0
      refine Ans.neg (by simp) ?_
      exact hfin (.inl (toList_inj (hal.trans allow_list.symm)))
    · refine Ans.succ ?_
      unfold spec_RulRead.j0
      by_cases hd : a = allowB false
      · refine Ans.neg (by rw [hd, deny_list]; decide) ?_
        exact hfin (.inr hd)
      · refine Ans.pos (bne_iff_ne.mpr (fun e => hd (toList_inj (e.trans deny_list.symm)))) (Ans.pure ?_)
        rw [read_not hw (fun e => hal (by rw [e, allow_list])) hd]
        rfl
  · refine Ans.neg (by omega) (Ans.succ ?_)
    unfold spec_RulRead.j0
    refine Ans.pos rfl (Ans.pure ?_)
    rw [rulReadW_ne h7]; rfl
end Go.Proofs.YtiocgkggegahhaaDoor.P

/- What the reader of drawn bytes answers: one drawn rule. -/
namespace Go.Proofs.YtiocgkggegahhaaDoor.P
open Go.RowKit Go.Proofs.YtiocgkggegahhaaDoorUFnRulText.PrintWords Go.Proofs.YtiocgkggegahhaaDoorUFnRulText.PrintLast Go.Proofs.YtiocgkggegahhaaDoorUFnRulText.PrintMore
set_option linter.unusedVariables false
set_option linter.unusedSimpArgs false
/-- One drawn rule: it answers, and all numbers are small. -/
theorem rule_f {l : List Int} (hl : Bys l) (s n : Int) (k : Nat) (hs : 0 ≤ s) (hs' : s < 900000) :
    ∃ b x1 x2 x3 x4 x5 x6 s', spec_l20Rule.f (k + 2) l s n = some (b, x1, x2, x3, x4, x5, x6, s') ∧ s ≤ s' ∧ s' ≤ s + 10 ∧ Sm x1 ∧ Sm x2 ∧ Sm x3 ∧ Sm x4 ∧ Sm x5 ∧ Sm x6 := by
  unfold spec_l20Rule.f
  obtain ⟨v0, h0, p0⟩ := pick_f hl s 2 (k + 1) hs (by omega)
  rw [h0, Option.bind_some]
  obtain ⟨v1, h1, p1⟩ := pick_f hl (s + 1) 4 (k + 1) (by omega) (by omega)
  dsimp only
  rw [h1, Option.bind_some]
  obtain ⟨v2, h2, p2⟩ := pick_f hl (s + 1 + 1) 4 (k + 1) (by omega) (by omega)
  dsimp only
  rw [h2, Option.bind_some, Option.bind_some]
  obtain ⟨v3, h3, p3⟩ := pick_f hl (s + 1 + 1 + 1) 3 (k + 1) (by omega) (by omega)
  dsimp only
  rw [h3, Option.bind_some]
  dsimp only
  rw [if_pos p3.1, if_pos (show v3 < (([1, 21, 7] : List Int).length : Int) by simp; omega)]
  obtain ⟨v4, h4, p4⟩ := pick_f hl (s + 1 + 1 + 1 + 1) 3 (k + 1) (by omega) (by omega)
  rw [h4, Option.bind_some]
  obtain ⟨v5, h5, p5⟩ := pick_f hl (s + 1 + 1 + 1 + 1 + 1) 3 (k + 1) (by omega) (by omega)
  dsimp only
  rw [h5, Option.bind_some, Option.bind_some]
  obtain ⟨v6, h6, p6⟩ := pick_f hl (s + 1 + 1 + 1 + 1 + 1 + 1) 3 (k + 1) (by omega) (by omega)
  dsimp only
  rw [h6, Option.bind_some]
  dsimp only
  have q3 := rd_three 1 21 7 v3 p3
  generalize rd ([1, 21, 7] : List Int) v3 = lo at *
  rw [if_pos p6.1, if_pos (show v6 < (([999, 21, lo] : List Int).length : Int) by simp; omega)]
  have q6 := rd_three 999 21 lo v6 p6
  generalize rd ([999, 21, lo] : List Int) v6 = hi at *
  have w1 : wrap64 (1 + v1) = 1 + v1 := w64 _ (by omega)
  have w2 : wrap64 (100 + v2) = 100 + v2 := w64 _ (by omega)
  have w3 : wrap64 (1 + v1 + v4) = 1 + v1 + v4 := w64 _ (by omega)
  have w4 : wrap64 (100 + v2 + v5) = 100 + v2 + v5 := w64 _ (by omega)
  rw [w1, w2, w3, w4]
  have J : ∀ (t : Int) (b : Bool) (x1 x2 x3 x4 x5 x6 : Int), s ≤ t → t ≤ s + 7 → Sm x1 → Sm x2 → Sm x3 → Sm x4 → Sm x5 → Sm x6 →
      ∃ b' x1' x2' x3' x4' x5' x6' s', spec_l20Rule.j0 (k + 2) n l t b x1 x2 x3 x4 x5 x6 = some (b', x1', x2', x3', x4', x5', x6', s') ∧ s ≤ s' ∧ s' ≤ s + 10 ∧ Sm x1' ∧ Sm x2' ∧ Sm x3' ∧ Sm x4' ∧ Sm x5' ∧ Sm x6' := by
    intro t b x1 x2 x3 x4 x5 x6 ht ht' m1 m2 m3 m4 m5 m6
    unfold spec_l20Rule.j0
    obtain ⟨o, t1, g0, u0, u0'⟩ := odd_f hl t n k (by omega) (by omega)
    dsimp only
    rw [g0, Option.bind_some]
    dsimp only
    by_cases c : o = true
    · rw [if_pos c]
      obtain ⟨a1, g1, z1⟩ := pick_f hl t1 4 k (by omega) (by omega)
      rw [g1, Option.bind_some]
      dsimp only
      by_cases c1 : a1 = 0
      · rw [if_pos c1, Option.bind_some]
        obtain ⟨a2, g2, z2⟩ := pick_f hl (t1 + 1) 3 k (by omega) (by omega)
        rw [g2, Option.bind_some]
        dsimp only
        rw [if_pos z2.1, if_pos (show a2 < (([0, 9, -1] : List Int).length : Int) by simp; omega)]
        have := rd_three 0 9 (-1) a2 z2
        refine ⟨_, _, _, _, _, _, _, _, rfl, by omega, by omega, ?_, m2, m3, m4, m5, m6⟩
        unfold Sm; omega
      · rw [if_neg c1]
        by_cases c2 : a1 = 1
        · rw [if_pos c2, Option.bind_some]
          obtain ⟨a2, g2, z2⟩ := pick_f hl (t1 + 1) 2 k (by omega) (by omega)
          rw [g2, Option.bind_some]
          dsimp only
          rw [if_pos z2.1, if_pos (show a2 < (([110, 99] : List Int).length : Int) by simp; omega)]
          have := rd_two 110 99 a2 z2
          refine ⟨_, _, _, _, _, _, _, _, rfl, by omega, by omega, m1, m2, m3, ?_, m5, m6⟩
          unfold Sm; omega
        · rw [if_neg c2]
          by_cases c3 : a1 = 2
          · rw [if_pos c3, Option.bind_some]
            obtain ⟨a2, g2, z2⟩ := pick_f hl (t1 + 1) 2 k (by omega) (by omega)
            rw [g2, Option.bind_some]
            dsimp only
            rw [if_pos z2.1, if_pos (show a2 < (([0, 1000] : List Int).length : Int) by simp; omega)]
            have := rd_two 0 1000 a2 z2
            refine ⟨_, _, _, _, _, _, _, _, rfl, by omega, by omega, m1, m2, m3, m4, m5, ?_⟩
            unfold Sm; omega
          · rw [if_neg c3]
            exact ⟨_, _, _, _, _, _, _, _, rfl, by omega, by omega, m1, by unfold Sm; omega, m3, m4, m5, m6⟩
    · rw [if_neg c]
      exact ⟨_, _, _, _, _, _, _, _, rfl, by omega, by omega, m1, m2, m3, m4, m5, m6⟩
  have n1 : Sm (1 + v1) := by unfold Sm; omega
  have n2 : Sm (1 + v1 + v4) := by unfold Sm; omega
  have n3 : Sm (100 + v2) := by unfold Sm; omega
  have n4 : Sm (100 + v2 + v5) := by unfold Sm; omega
  have n5 : Sm lo := by unfold Sm; omega
  have n6 : Sm hi := by unfold Sm; omega
  by_cases c : hi < lo
  · rw [if_pos c]
    exact J _ _ _ _ _ _ _ _ (by omega) (by omega) n1 n2 n3 n4 n5 n5
  · rw [if_neg c]
    exact J _ _ _ _ _ _ _ _ (by omega) (by omega) n1 n2 n3 n4 n5 n6
end Go.Proofs.YtiocgkggegahhaaDoor.P

/- One drawn rule, from some round on. -/
namespace Go.Proofs.YtiocgkggegahhaaDoor.P
open Go.RowKit Go.Proofs.YtiocgkggegahhaaDoorUFnRulText.PrintWords Go.Proofs.YtiocgkggegahhaaDoorUFnRulText.PrintLast Go.Proofs.YtiocgkggegahhaaDoorUFnRulText.PrintMore
set_option linter.unusedVariables false
set_option linter.unusedSimpArgs false
theorem rule_a {l : List Int} (hl : Bys l) {s B : Int} (hs : At B s) (hB : B < 800000) (n : Int) : Ans (fun k => spec_l20Rule.f k l s n) (fun r => At (B + 10) r.2.2.2.2.2.2.2 ∧ Sm r.2.1 ∧ Sm r.2.2.1 ∧ Sm r.2.2.2.1 ∧ Sm r.2.2.2.2.1 ∧ Sm r.2.2.2.2.2.1 ∧ Sm r.2.2.2.2.2.2.1) := by
  obtain ⟨h0, h1⟩ := hs
  obtain ⟨b, x1, x2, x3, x4, x5, x6, s', h, a, a', m⟩ := rule_f hl s n 0 h0 (by omega)
  refine ⟨2, (b, x1, x2, x3, x4, x5, x6, s'), ⟨⟨by show 0 ≤ s'; omega, by show s' ≤ B + 10; omega⟩, m⟩, ?_⟩
  intro k hk
  obtain ⟨j, rfl⟩ := Nat.exists_eq_add_of_le hk
  clear hk
  induction j with
  | zero => exact h
  | succ j ih => exact spec_l20Rule.mono _ _ _ _ _ ih
end Go.Proofs.YtiocgkggegahhaaDoor.P

-- written by hw.py for this claim
namespace Go.Proofs.YtiocgkggegahhaaDoor.P
open Go.RowKit Go.Proofs.YtiocgkggegahhaaDoorUFnRulText.PrintWords Go.Proofs.YtiocgkggegahhaaDoorUFnRulText.PrintLast Go.Proofs.YtiocgkggegahhaaDoorUFnRulText.PrintMore
attribute [local go_sem] max2_int min2_int max_two min_two max_three min_three max_four min_four
set_option linter.unusedVariables false
set_option linter.unusedSimpArgs false

/-! ### laws_eqRulRule: function 11 -/
def laws_eqRulRule.f (a0_0 : Bool) (a0_1 : Int) (a0_2 : Int) (a0_3 : Int) (a0_4 : Int) (a0_5 : Int) (a0_6 : Int) (a1_0 : Bool) (a1_1 : Int) (a1_2 : Int) (a1_3 : Int) (a1_4 : Int) (a1_5 : Int) (a1_6 : Int) : Option (Bool) := if (a0_0 != a1_0) = true then (some false) else (if a0_1 = a1_1 then (if a0_2 = a1_2 then (if a0_3 = a1_3 then (if a0_4 = a1_4 then (if a0_5 = a1_5 then (if a0_6 = a1_6 then (some true) else (some false)) else (some false)) else (some false)) else (some false)) else (some false)) else (some false))
set_option maxHeartbeats 8000000 in
set_option maxRecDepth 100000 in
theorem laws_eqRulRule.calls (a0_0 : Bool) (a0_1 : Int) (a0_2 : Int) (a0_3 : Int) (a0_4 : Int) (a0_5 : Int) (a0_6 : Int) (a1_0 : Bool) (a1_1 : Int) (a1_2 : Int) (a1_3 : Int) (a1_4 : Int) (a1_5 : Int) (a1_6 : Int) (r : Bool) (w : World) (h : laws_eqRulRule.f a0_0 a0_1 a0_2 a0_3 a0_4 a0_5 a0_6 a1_0 a1_1 a1_2 a1_3 a1_4 a1_5 a1_6 = some r) :
    Calls Tryd.prog 11 #[.agg #[.bool a0_0, .int .i64 a0_1, .int .i64 a0_2, .int .i64 a0_3, .int .i64 a0_4, .int .i64 a0_5, .int .i64 a0_6], .agg #[.bool a1_0, .int .i64 a1_1, .int .i64 a1_2, .int .i64 a1_3, .int .i64 a1_4, .int .i64 a1_5, .int .i64 a1_6]] w fun e w' => e = .returned (.bool r) ∧ Below w.heap.size w w' := by
  have hu25 := Tryd.underlying25
  have HB := Aside0.mk (Below.refl w.heap.size w)
  have H : (if (a0_0 != a1_0) = true then (some false) else (if a0_1 = a1_1 then (if a0_2 = a1_2 then (if a0_3 = a1_3 then (if a0_4 = a1_4 then (if a0_5 = a1_5 then (if a0_6 = a1_6 then (some true) else (some false)) else (some false)) else (some false)) else (some false)) else (some false)) else (some false))) = some r := h
  clear h
  by_cases c3 : (a0_0 != a1_0) = true
  · rw [if_pos c3] at H
    have c3b0 : (a0_0 != a1_0) = true := c3
    (try (have c3b1 : decide (a0_0 = a1_0) = false := by simpa using c3))
    (try (have c3b2 : (a0_0 == a1_0) = false := by simpa using c3))
    (try (have c3b3 : ¬ (a0_0 = a1_0) := by simpa using c3))
    clear c3
    obtain rfl := Option.some.inj H
    go_enter Tryd.func11, Tryd.ntmps11
    go_wp2_with (first | ((with_reducible refine gate_dst (N := 2) rfl ?_); refine box_event ?hg (N := 2) ?hd (cs := #[.bool a0_0, .int .i64 a0_1, .int .i64 a0_2, .int .i64 a0_3, .int .i64 a0_4, .int .i64 a0_5, .int .i64 a0_6]) (t := 25) ?hr ?_; (case hd => rfl); (case hg => rfl); (case hr => first | (go_simp; done) | (go_simp; rfl)); intro gb217 hg w4 hbox hb; have n0_ := Aside0.mk (below_step (bl HB) hb); have n1_ := Aside0.mk (hbox); have n2_ := Aside0.mk ((by rw [hg]; exact (below_size (bl HB)) : w.heap.size ≤ gb217)); have n3_ := Aside0.mk ((by rw [hg]; exact (below_size (bl HB)) : w.heap.size ≤ gb217)); clear HB; have HB := n0_; have BK217 := n1_; have GW217 := n2_; have GE217 := n3_; clear n0_ n1_ n2_ n3_; clear hb hbox hg) | ((with_reducible refine gate_dst (N := 3) rfl ?_); refine box_event ?hg (N := 3) ?hd (cs := #[.bool a1_0, .int .i64 a1_1, .int .i64 a1_2, .int .i64 a1_3, .int .i64 a1_4, .int .i64 a1_5, .int .i64 a1_6]) (t := 25) ?hr ?_; (case hd => rfl); (case hg => rfl); (case hr => first | (go_simp; done) | (go_simp; rfl)); intro gb218 hg w5 hbox hb; have n0_ := bkB BK217 hb; have n1_ := Aside0.mk (below_step (bl HB) hb); have n2_ := Aside0.mk (hbox); have n3_ := Aside0.mk ((by rw [hg]; exact (below_size (bl HB)) : w.heap.size ≤ gb218)); have n4_ := Aside0.mk ((by rw [hg]; exact (below_size (bl HB)) : w.heap.size ≤ gb218)); have n5_ := Aside0.mk ((by rw [hg]; exact Nat.ne_of_lt (bkL BK217) : gb217 ≠ gb218)); have n6_ := Aside0.mk ((by rw [hg]; exact Nat.ne_of_gt (bkL BK217) : gb218 ≠ gb217)); clear BK217; clear HB; have BK217 := n0_; have HB := n1_; have BK218 := n2_; have GW218 := n3_; have GE218 := n4_; have NB217_218 := n5_; have NB218_217 := n6_; clear n0_ n1_ n2_ n3_ n4_ n5_ n6_; clear hb hbox hg; have hnb6 := NB217_218.out; have hnc6 := NB218_217.out; have hcz7_0 : w5.cell? ⟨gb217, 0, none⟩ = some (.bool a0_0) := (blk_cell BK217.out 0).trans rfl; have hcz7_1 : w5.cell? ⟨gb217, 1, none⟩ = some (.int .i64 a0_1) := (blk_cell BK217.out 1).trans rfl; have hcz7_2 : w5.cell? ⟨gb217, 2, none⟩ = some (.int .i64 a0_2) := (blk_cell BK217.out 2).trans rfl; have hcz7_3 : w5.cell? ⟨gb217, 3, none⟩ = some (.int .i64 a0_3) := (blk_cell BK217.out 3).trans rfl; have hcz7_4 : w5.cell? ⟨gb217, 4, none⟩ = some (.int .i64 a0_4) := (blk_cell BK217.out 4).trans rfl; have hcz7_5 : w5.cell? ⟨gb217, 5, none⟩ = some (.int .i64 a0_5) := (blk_cell BK217.out 5).trans rfl; have hcz7_6 : w5.cell? ⟨gb217, 6, none⟩ = some (.int .i64 a0_6) := (blk_cell BK217.out 6).trans rfl; have hfz7_0 := blk_frozen BK217.out 0; have hfz7_1 := blk_frozen BK217.out 1; have hfz7_2 := blk_frozen BK217.out 2; have hfz7_3 := blk_frozen BK217.out 3; have hfz7_4 := blk_frozen BK217.out 4; have hfz7_5 := blk_frozen BK217.out 5; have hfz7_6 := blk_frozen BK217.out 6; have hcz8_0 : w5.cell? ⟨gb218, 0, none⟩ = some (.bool a1_0) := (blk_cell BK218.out 0).trans rfl; have hcz8_1 : w5.cell? ⟨gb218, 1, none⟩ = some (.int .i64 a1_1) := (blk_cell BK218.out 1).trans rfl; have hcz8_2 : w5.cell? ⟨gb218, 2, none⟩ = some (.int .i64 a1_2) := (blk_cell BK218.out 2).trans rfl; have hcz8_3 : w5.cell? ⟨gb218, 3, none⟩ = some (.int .i64 a1_3) := (blk_cell BK218.out 3).trans rfl; have hcz8_4 : w5.cell? ⟨gb218, 4, none⟩ = some (.int .i64 a1_4) := (blk_cell BK218.out 4).trans rfl; have hcz8_5 : w5.cell? ⟨gb218, 5, none⟩ = some (.int .i64 a1_5) := (blk_cell BK218.out 5).trans rfl; have hcz8_6 : w5.cell? ⟨gb218, 6, none⟩ = some (.int .i64 a1_6) := (blk_cell BK218.out 6).trans rfl; have hfz8_0 := blk_frozen BK218.out 0; have hfz8_1 := blk_frozen BK218.out 1; have hfz8_2 := blk_frozen BK218.out 2; have hfz8_3 := blk_frozen BK218.out 3; have hfz8_4 := blk_frozen BK218.out 4; have hfz8_5 := blk_frozen BK218.out 5; have hfz8_6 := blk_frozen BK218.out 6))
    go_ret
    exact ⟨by first | rfl | (simp [errW_none, errW_some] <;> rfl) | (simp [*, errW_none, errW_some] <;> rfl), by repeat (first | (with_reducible first | exact HB.out | apply below_alloc | apply pw_below_drewN | apply below_drew1 | refine below_set ?_ GE217.out | refine below_set ?_ GE218.out) | exact HB.out)⟩
  · rw [if_neg c3] at H
    have c3b0 : (a0_0 != a1_0) = false := by simpa using c3
    (try (have c3b1 : decide (a0_0 = a1_0) = true := by simpa using c3))
    (try (have c3b2 : (a0_0 == a1_0) = true := by simpa using c3))
    clear c3
    by_cases c9 : a0_1 = a1_1
    · rw [if_pos c9] at H
      have c9b0 : (a0_1 == a1_1) = true := beq_iff_eq.mpr c9
      have c9b1 : (a0_1 != a1_1) = false := bne_eq_false_iff_eq.mpr c9
      clear c9
      by_cases c10 : a0_2 = a1_2
      · rw [if_pos c10] at H
        have c10b0 : (a0_2 == a1_2) = true := beq_iff_eq.mpr c10
        have c10b1 : (a0_2 != a1_2) = false := bne_eq_false_iff_eq.mpr c10
        clear c10
        by_cases c11 : a0_3 = a1_3
        · rw [if_pos c11] at H
          have c11b0 : (a0_3 == a1_3) = true := beq_iff_eq.mpr c11
          have c11b1 : (a0_3 != a1_3) = false := bne_eq_false_iff_eq.mpr c11
          clear c11
          by_cases c12 : a0_4 = a1_4
          · rw [if_pos c12] at H
            have c12b0 : (a0_4 == a1_4) = true := beq_iff_eq.mpr c12
            have c12b1 : (a0_4 != a1_4) = false := bne_eq_false_iff_eq.mpr c12
            clear c12
            by_cases c13 : a0_5 = a1_5
            · rw [if_pos c13] at H
              have c13b0 : (a0_5 == a1_5) = true := beq_iff_eq.mpr c13
              have c13b1 : (a0_5 != a1_5) = false := bne_eq_false_iff_eq.mpr c13
              clear c13
              by_cases c14 : a0_6 = a1_6
              · rw [if_pos c14] at H
                have c14b0 : (a0_6 == a1_6) = true := beq_iff_eq.mpr c14
                have c14b1 : (a0_6 != a1_6) = false := bne_eq_false_iff_eq.mpr c14
                clear c14
                obtain rfl := Option.some.inj H
                go_enter Tryd.func11, Tryd.ntmps11
                go_wp2_with (first | ((with_reducible refine gate_dst (N := 2) rfl ?_); refine box_event ?hg (N := 2) ?hd (cs := #[.bool a0_0, .int .i64 a0_1, .int .i64 a0_2, .int .i64 a0_3, .int .i64 a0_4, .int .i64 a0_5, .int .i64 a0_6]) (t := 25) ?hr ?_; (case hd => rfl); (case hg => rfl); (case hr => first | (go_simp; done) | (go_simp; rfl)); intro gb217 hg w15 hbox hb; have n0_ := Aside0.mk (below_step (bl HB) hb); have n1_ := Aside0.mk (hbox); have n2_ := Aside0.mk ((by rw [hg]; exact (below_size (bl HB)) : w.heap.size ≤ gb217)); have n3_ := Aside0.mk ((by rw [hg]; exact (below_size (bl HB)) : w.heap.size ≤ gb217)); clear HB; have HB := n0_; have BK217 := n1_; have GW217 := n2_; have GE217 := n3_; clear n0_ n1_ n2_ n3_; clear hb hbox hg) | ((with_reducible refine gate_dst (N := 3) rfl ?_); refine box_event ?hg (N := 3) ?hd (cs := #[.bool a1_0, .int .i64 a1_1, .int .i64 a1_2, .int .i64 a1_3, .int .i64 a1_4, .int .i64 a1_5, .int .i64 a1_6]) (t := 25) ?hr ?_; (case hd => rfl); (case hg => rfl); (case hr => first | (go_simp; done) | (go_simp; rfl)); intro gb218 hg w16 hbox hb; have n0_ := bkB BK217 hb; have n1_ := Aside0.mk (below_step (bl HB) hb); have n2_ := Aside0.mk (hbox); have n3_ := Aside0.mk ((by rw [hg]; exact (below_size (bl HB)) : w.heap.size ≤ gb218)); have n4_ := Aside0.mk ((by rw [hg]; exact (below_size (bl HB)) : w.heap.size ≤ gb218)); have n5_ := Aside0.mk ((by rw [hg]; exact Nat.ne_of_lt (bkL BK217) : gb217 ≠ gb218)); have n6_ := Aside0.mk ((by rw [hg]; exact Nat.ne_of_gt (bkL BK217) : gb218 ≠ gb217)); clear BK217; clear HB; have BK217 := n0_; have HB := n1_; have BK218 := n2_; have GW218 := n3_; have GE218 := n4_; have NB217_218 := n5_; have NB218_217 := n6_; clear n0_ n1_ n2_ n3_ n4_ n5_ n6_; clear hb hbox hg; have hnb17 := NB217_218.out; have hnc17 := NB218_217.out; have hcz18_0 : w16.cell? ⟨gb217, 0, none⟩ = some (.bool a0_0) := (blk_cell BK217.out 0).trans rfl; have hcz18_1 : w16.cell? ⟨gb217, 1, none⟩ = some (.int .i64 a0_1) := (blk_cell BK217.out 1).trans rfl; have hcz18_2 : w16.cell? ⟨gb217, 2, none⟩ = some (.int .i64 a0_2) := (blk_cell BK217.out 2).trans rfl; have hcz18_3 : w16.cell? ⟨gb217, 3, none⟩ = some (.int .i64 a0_3) := (blk_cell BK217.out 3).trans rfl; have hcz18_4 : w16.cell? ⟨gb217, 4, none⟩ = some (.int .i64 a0_4) := (blk_cell BK217.out 4).trans rfl; have hcz18_5 : w16.cell? ⟨gb217, 5, none⟩ = some (.int .i64 a0_5) := (blk_cell BK217.out 5).trans rfl; have hcz18_6 : w16.cell? ⟨gb217, 6, none⟩ = some (.int .i64 a0_6) := (blk_cell BK217.out 6).trans rfl; have hfz18_0 := blk_frozen BK217.out 0; have hfz18_1 := blk_frozen BK217.out 1; have hfz18_2 := blk_frozen BK217.out 2; have hfz18_3 := blk_frozen BK217.out 3; have hfz18_4 := blk_frozen BK217.out 4; have hfz18_5 := blk_frozen BK217.out 5; have hfz18_6 := blk_frozen BK217.out 6; have hcz19_0 : w16.cell? ⟨gb218, 0, none⟩ = some (.bool a1_0) := (blk_cell BK218.out 0).trans rfl; have hcz19_1 : w16.cell? ⟨gb218, 1, none⟩ = some (.int .i64 a1_1) := (blk_cell BK218.out 1).trans rfl; have hcz19_2 : w16.cell? ⟨gb218, 2, none⟩ = some (.int .i64 a1_2) := (blk_cell BK218.out 2).trans rfl; have hcz19_3 : w16.cell? ⟨gb218, 3, none⟩ = some (.int .i64 a1_3) := (blk_cell BK218.out 3).trans rfl; have hcz19_4 : w16.cell? ⟨gb218, 4, none⟩ = some (.int .i64 a1_4) := (blk_cell BK218.out 4).trans rfl; have hcz19_5 : w16.cell? ⟨gb218, 5, none⟩ = some (.int .i64 a1_5) := (blk_cell BK218.out 5).trans rfl; have hcz19_6 : w16.cell? ⟨gb218, 6, none⟩ = some (.int .i64 a1_6) := (blk_cell BK218.out 6).trans rfl; have hfz19_0 := blk_frozen BK218.out 0; have hfz19_1 := blk_frozen BK218.out 1; have hfz19_2 := blk_frozen BK218.out 2; have hfz19_3 := blk_frozen BK218.out 3; have hfz19_4 := blk_frozen BK218.out 4; have hfz19_5 := blk_frozen BK218.out 5; have hfz19_6 := blk_frozen BK218.out 6))
                go_ret
                exact ⟨by first | rfl | (simp [errW_none, errW_some] <;> rfl) | (simp [*, errW_none, errW_some] <;> rfl), by repeat (first | (with_reducible first | exact HB.out | apply below_alloc | apply pw_below_drewN | apply below_drew1 | refine below_set ?_ GE217.out | refine below_set ?_ GE218.out) | exact HB.out)⟩
              · rw [if_neg c14] at H
                have c14b0 : (a0_6 == a1_6) = false := beq_eq_false_iff_ne.mpr c14
                have c14b1 : (a0_6 != a1_6) = true := bne_iff_ne.mpr c14
                obtain rfl := Option.some.inj H
                go_enter Tryd.func11, Tryd.ntmps11
                go_wp2_with (first | ((with_reducible refine gate_dst (N := 2) rfl ?_); refine box_event ?hg (N := 2) ?hd (cs := #[.bool a0_0, .int .i64 a0_1, .int .i64 a0_2, .int .i64 a0_3, .int .i64 a0_4, .int .i64 a0_5, .int .i64 a0_6]) (t := 25) ?hr ?_; (case hd => rfl); (case hg => rfl); (case hr => first | (go_simp; done) | (go_simp; rfl)); intro gb217 hg w20 hbox hb; have n0_ := Aside0.mk (below_step (bl HB) hb); have n1_ := Aside0.mk (hbox); have n2_ := Aside0.mk ((by rw [hg]; exact (below_size (bl HB)) : w.heap.size ≤ gb217)); have n3_ := Aside0.mk ((by rw [hg]; exact (below_size (bl HB)) : w.heap.size ≤ gb217)); clear HB; have HB := n0_; have BK217 := n1_; have GW217 := n2_; have GE217 := n3_; clear n0_ n1_ n2_ n3_; clear hb hbox hg) | ((with_reducible refine gate_dst (N := 3) rfl ?_); refine box_event ?hg (N := 3) ?hd (cs := #[.bool a1_0, .int .i64 a1_1, .int .i64 a1_2, .int .i64 a1_3, .int .i64 a1_4, .int .i64 a1_5, .int .i64 a1_6]) (t := 25) ?hr ?_; (case hd => rfl); (case hg => rfl); (case hr => first | (go_simp; done) | (go_simp; rfl)); intro gb218 hg w21 hbox hb; have n0_ := bkB BK217 hb; have n1_ := Aside0.mk (below_step (bl HB) hb); have n2_ := Aside0.mk (hbox); have n3_ := Aside0.mk ((by rw [hg]; exact (below_size (bl HB)) : w.heap.size ≤ gb218)); have n4_ := Aside0.mk ((by rw [hg]; exact (below_size (bl HB)) : w.heap.size ≤ gb218)); have n5_ := Aside0.mk ((by rw [hg]; exact Nat.ne_of_lt (bkL BK217) : gb217 ≠ gb218)); have n6_ := Aside0.mk ((by rw [hg]; exact Nat.ne_of_gt (bkL BK217) : gb218 ≠ gb217)); clear BK217; clear HB; have BK217 := n0_; have HB := n1_; have BK218 := n2_; have GW218 := n3_; have GE218 := n4_; have NB217_218 := n5_; have NB218_217 := n6_; clear n0_ n1_ n2_ n3_ n4_ n5_ n6_; clear hb hbox hg; have hnb22 := NB217_218.out; have hnc22 := NB218_217.out; have hcz23_0 : w21.cell? ⟨gb217, 0, none⟩ = some (.bool a0_0) := (blk_cell BK217.out 0).trans rfl; have hcz23_1 : w21.cell? ⟨gb217, 1, none⟩ = some (.int .i64 a0_1) := (blk_cell BK217.out 1).trans rfl; have hcz23_2 : w21.cell? ⟨gb217, 2, none⟩ = some (.int .i64 a0_2) := (blk_cell BK217.out 2).trans rfl; have hcz23_3 : w21.cell? ⟨gb217, 3, none⟩ = some (.int .i64 a0_3) := (blk_cell BK217.out 3).trans rfl; have hcz23_4 : w21.cell? ⟨gb217, 4, none⟩ = some (.int .i64 a0_4) := (blk_cell BK217.out 4).trans rfl; have hcz23_5 : w21.cell? ⟨gb217, 5, none⟩ = some (.int .i64 a0_5) := (blk_cell BK217.out 5).trans rfl; have hcz23_6 : w21.cell? ⟨gb217, 6, none⟩ = some (.int .i64 a0_6) := (blk_cell BK217.out 6).trans rfl; have hfz23_0 := blk_frozen BK217.out 0; have hfz23_1 := blk_frozen BK217.out 1; have hfz23_2 := blk_frozen BK217.out 2; have hfz23_3 := blk_frozen BK217.out 3; have hfz23_4 := blk_frozen BK217.out 4; have hfz23_5 := blk_frozen BK217.out 5; have hfz23_6 := blk_frozen BK217.out 6; have hcz24_0 : w21.cell? ⟨gb218, 0, none⟩ = some (.bool a1_0) := (blk_cell BK218.out 0).trans rfl; have hcz24_1 : w21.cell? ⟨gb218, 1, none⟩ = some (.int .i64 a1_1) := (blk_cell BK218.out 1).trans rfl; have hcz24_2 : w21.cell? ⟨gb218, 2, none⟩ = some (.int .i64 a1_2) := (blk_cell BK218.out 2).trans rfl; have hcz24_3 : w21.cell? ⟨gb218, 3, none⟩ = some (.int .i64 a1_3) := (blk_cell BK218.out 3).trans rfl; have hcz24_4 : w21.cell? ⟨gb218, 4, none⟩ = some (.int .i64 a1_4) := (blk_cell BK218.out 4).trans rfl; have hcz24_5 : w21.cell? ⟨gb218, 5, none⟩ = some (.int .i64 a1_5) := (blk_cell BK218.out 5).trans rfl; have hcz24_6 : w21.cell? ⟨gb218, 6, none⟩ = some (.int .i64 a1_6) := (blk_cell BK218.out 6).trans rfl; have hfz24_0 := blk_frozen BK218.out 0; have hfz24_1 := blk_frozen BK218.out 1; have hfz24_2 := blk_frozen BK218.out 2; have hfz24_3 := blk_frozen BK218.out 3; have hfz24_4 := blk_frozen BK218.out 4; have hfz24_5 := blk_frozen BK218.out 5; have hfz24_6 := blk_frozen BK218.out 6))
                go_ret
                exact ⟨by first | rfl | (simp [errW_none, errW_some] <;> rfl) | (simp [*, errW_none, errW_some] <;> rfl), by repeat (first | (with_reducible first | exact HB.out | apply below_alloc | apply pw_below_drewN | apply below_drew1 | refine below_set ?_ GE217.out | refine below_set ?_ GE218.out) | exact HB.out)⟩
            · rw [if_neg c13] at H
              have c13b0 : (a0_5 == a1_5) = false := beq_eq_false_iff_ne.mpr c13
              have c13b1 : (a0_5 != a1_5) = true := bne_iff_ne.mpr c13
              obtain rfl := Option.some.inj H
              go_enter Tryd.func11, Tryd.ntmps11
              go_wp2_with (first | ((with_reducible refine gate_dst (N := 2) rfl ?_); refine box_event ?hg (N := 2) ?hd (cs := #[.bool a0_0, .int .i64 a0_1, .int .i64 a0_2, .int .i64 a0_3, .int .i64 a0_4, .int .i64 a0_5, .int .i64 a0_6]) (t := 25) ?hr ?_; (case hd => rfl); (case hg => rfl); (case hr => first | (go_simp; done) | (go_simp; rfl)); intro gb217 hg w25 hbox hb; have n0_ := Aside0.mk (below_step (bl HB) hb); have n1_ := Aside0.mk (hbox); have n2_ := Aside0.mk ((by rw [hg]; exact (below_size (bl HB)) : w.heap.size ≤ gb217)); have n3_ := Aside0.mk ((by rw [hg]; exact (below_size (bl HB)) : w.heap.size ≤ gb217)); clear HB; have HB := n0_; have BK217 := n1_; have GW217 := n2_; have GE217 := n3_; clear n0_ n1_ n2_ n3_; clear hb hbox hg) | ((with_reducible refine gate_dst (N := 3) rfl ?_); refine box_event ?hg (N := 3) ?hd (cs := #[.bool a1_0, .int .i64 a1_1, .int .i64 a1_2, .int .i64 a1_3, .int .i64 a1_4, .int .i64 a1_5, .int .i64 a1_6]) (t := 25) ?hr ?_; (case hd => rfl); (case hg => rfl); (case hr => first | (go_simp; done) | (go_simp; rfl)); intro gb218 hg w26 hbox hb; have n0_ := bkB BK217 hb; have n1_ := Aside0.mk (below_step (bl HB) hb); have n2_ := Aside0.mk (hbox); have n3_ := Aside0.mk ((by rw [hg]; exact (below_size (bl HB)) : w.heap.size ≤ gb218)); have n4_ := Aside0.mk ((by rw [hg]; exact (below_size (bl HB)) : w.heap.size ≤ gb218)); have n5_ := Aside0.mk ((by rw [hg]; exact Nat.ne_of_lt (bkL BK217) : gb217 ≠ gb218)); have n6_ := Aside0.mk ((by rw [hg]; exact Nat.ne_of_gt (bkL BK217) : gb218 ≠ gb217)); clear BK217; clear HB; have BK217 := n0_; have HB := n1_; have BK218 := n2_; have GW218 := n3_; have GE218 := n4_; have NB217_218 := n5_; have NB218_217 := n6_; clear n0_ n1_ n2_ n3_ n4_ n5_ n6_; clear hb hbox hg; have hnb27 := NB217_218.out; have hnc27 := NB218_217.out; have hcz28_0 : w26.cell? ⟨gb217, 0, none⟩ = some (.bool a0_0) := (blk_cell BK217.out 0).trans rfl; have hcz28_1 : w26.cell? ⟨gb217, 1, none⟩ = some (.int .i64 a0_1) := (blk_cell BK217.out 1).trans rfl; have hcz28_2 : w26.cell? ⟨gb217, 2, none⟩ = some (.int .i64 a0_2) := (blk_cell BK217.out 2).trans rfl; have hcz28_3 : w26.cell? ⟨gb217, 3, none⟩ = some (.int .i64 a0_3) := (blk_cell BK217.out 3).trans rfl; have hcz28_4 : w26.cell? ⟨gb217, 4, none⟩ = some (.int .i64 a0_4) := (blk_cell BK217.out 4).trans rfl; have hcz28_5 : w26.cell? ⟨gb217, 5, none⟩ = some (.int .i64 a0_5) := (blk_cell BK217.out 5).trans rfl; have hcz28_6 : w26.cell? ⟨gb217, 6, none⟩ = some (.int .i64 a0_6) := (blk_cell BK217.out 6).trans rfl; have hfz28_0 := blk_frozen BK217.out 0; have hfz28_1 := blk_frozen BK217.out 1; have hfz28_2 := blk_frozen BK217.out 2; have hfz28_3 := blk_frozen BK217.out 3; have hfz28_4 := blk_frozen BK217.out 4; have hfz28_5 := blk_frozen BK217.out 5; have hfz28_6 := blk_frozen BK217.out 6; have hcz29_0 : w26.cell? ⟨gb218, 0, none⟩ = some (.bool a1_0) := (blk_cell BK218.out 0).trans rfl; have hcz29_1 : w26.cell? ⟨gb218, 1, none⟩ = some (.int .i64 a1_1) := (blk_cell BK218.out 1).trans rfl; have hcz29_2 : w26.cell? ⟨gb218, 2, none⟩ = some (.int .i64 a1_2) := (blk_cell BK218.out 2).trans rfl; have hcz29_3 : w26.cell? ⟨gb218, 3, none⟩ = some (.int .i64 a1_3) := (blk_cell BK218.out 3).trans rfl; have hcz29_4 : w26.cell? ⟨gb218, 4, none⟩ = some (.int .i64 a1_4) := (blk_cell BK218.out 4).trans rfl; have hcz29_5 : w26.cell? ⟨gb218, 5, none⟩ = some (.int .i64 a1_5) := (blk_cell BK218.out 5).trans rfl; have hcz29_6 : w26.cell? ⟨gb218, 6, none⟩ = some (.int .i64 a1_6) := (blk_cell BK218.out 6).trans rfl; have hfz29_0 := blk_frozen BK218.out 0; have hfz29_1 := blk_frozen BK218.out 1; have hfz29_2 := blk_frozen BK218.out 2; have hfz29_3 := blk_frozen BK218.out 3; have hfz29_4 := blk_frozen BK218.out 4; have hfz29_5 := blk_frozen BK218.out 5; have hfz29_6 := blk_frozen BK218.out 6))
              go_ret
              exact ⟨by first | rfl | (simp [errW_none, errW_some] <;> rfl) | (simp [*, errW_none, errW_some] <;> rfl), by repeat (first | (with_reducible first | exact HB.out | apply below_alloc | apply pw_below_drewN | apply below_drew1 | refine below_set ?_ GE217.out | refine below_set ?_ GE218.out) | exact HB.out)⟩
          · rw [if_neg c12] at H
            have c12b0 : (a0_4 == a1_4) = false := beq_eq_false_iff_ne.mpr c12
            have c12b1 : (a0_4 != a1_4) = true := bne_iff_ne.mpr c12
            obtain rfl := Option.some.inj H
            go_enter Tryd.func11, Tryd.ntmps11
            go_wp2_with (first | ((with_reducible refine gate_dst (N := 2) rfl ?_); refine box_event ?hg (N := 2) ?hd (cs := #[.bool a0_0, .int .i64 a0_1, .int .i64 a0_2, .int .i64 a0_3, .int .i64 a0_4, .int .i64 a0_5, .int .i64 a0_6]) (t := 25) ?hr ?_; (case hd => rfl); (case hg => rfl); (case hr => first | (go_simp; done) | (go_simp; rfl)); intro gb217 hg w30 hbox hb; have n0_ := Aside0.mk (below_step (bl HB) hb); have n1_ := Aside0.mk (hbox); have n2_ := Aside0.mk ((by rw [hg]; exact (below_size (bl HB)) : w.heap.size ≤ gb217)); have n3_ := Aside0.mk ((by rw [hg]; exact (below_size (bl HB)) : w.heap.size ≤ gb217)); clear HB; have HB := n0_; have BK217 := n1_; have GW217 := n2_; have GE217 := n3_; clear n0_ n1_ n2_ n3_; clear hb hbox hg) | ((with_reducible refine gate_dst (N := 3) rfl ?_); refine box_event ?hg (N := 3) ?hd (cs := #[.bool a1_0, .int .i64 a1_1, .int .i64 a1_2, .int .i64 a1_3, .int .i64 a1_4, .int .i64 a1_5, .int .i64 a1_6]) (t := 25) ?hr ?_; (case hd => rfl); (case hg => rfl); (case hr => first | (go_simp; done) | (go_simp; rfl)); intro gb218 hg w31 hbox hb; have n0_ := bkB BK217 hb; have n1_ := Aside0.mk (below_step (bl HB) hb); have n2_ := Aside0.mk (hbox); have n3_ := Aside0.mk ((by rw [hg]; exact (below_size (bl HB)) : w.heap.size ≤ gb218)); have n4_ := Aside0.mk ((by rw [hg]; exact (below_size (bl HB)) : w.heap.size ≤ gb218)); have n5_ := Aside0.mk ((by rw [hg]; exact Nat.ne_of_lt (bkL BK217) : gb217 ≠ gb218)); have n6_ := Aside0.mk ((by rw [hg]; exact Nat.ne_of_gt (bkL BK217) : gb218 ≠ gb217)); clear BK217; clear HB; have BK217 := n0_; have HB := n1_; have BK218 := n2_; have GW218 := n3_; have GE218 := n4_; have NB217_218 := n5_; have NB218_217 := n6_; clear n0_ n1_ n2_ n3_ n4_ n5_ n6_; clear hb hbox hg; have hnb32 := NB217_218.out; have hnc32 := NB218_217.out; have hcz33_0 : w31.cell? ⟨gb217, 0, none⟩ = some (.bool a0_0) := (blk_cell BK217.out 0).trans rfl; have hcz33_1 : w31.cell? ⟨gb217, 1, none⟩ = some (.int .i64 a0_1) := (blk_cell BK217.out 1).trans rfl; have hcz33_2 : w31.cell? ⟨gb217, 2, none⟩ = some (.int .i64 a0_2) := (blk_cell BK217.out 2).trans rfl; have hcz33_3 : w31.cell? ⟨gb217, 3, none⟩ = some (.int .i64 a0_3) := (blk_cell BK217.out 3).trans rfl; have hcz33_4 : w31.cell? ⟨gb217, 4, none⟩ = some (.int .i64 a0_4) := (blk_cell BK217.out 4).trans rfl; have hcz33_5 : w31.cell? ⟨gb217, 5, none⟩ = some (.int .i64 a0_5) := (blk_cell BK217.out 5).trans rfl; have hcz33_6 : w31.cell? ⟨gb217, 6, none⟩ = some (.int .i64 a0_6) := (blk_cell BK217.out 6).trans rfl; have hfz33_0 := blk_frozen BK217.out 0; have hfz33_1 := blk_frozen BK217.out 1; have hfz33_2 := blk_frozen BK217.out 2; have hfz33_3 := blk_frozen BK217.out 3; have hfz33_4 := blk_frozen BK217.out 4; have hfz33_5 := blk_frozen BK217.out 5; have hfz33_6 := blk_frozen BK217.out 6; have hcz34_0 : w31.cell? ⟨gb218, 0, none⟩ = some (.bool a1_0) := (blk_cell BK218.out 0).trans rfl; have hcz34_1 : w31.cell? ⟨gb218, 1, none⟩ = some (.int .i64 a1_1) := (blk_cell BK218.out 1).trans rfl; have hcz34_2 : w31.cell? ⟨gb218, 2, none⟩ = some (.int .i64 a1_2) := (blk_cell BK218.out 2).trans rfl; have hcz34_3 : w31.cell? ⟨gb218, 3, none⟩ = some (.int .i64 a1_3) := (blk_cell BK218.out 3).trans rfl; have hcz34_4 : w31.cell? ⟨gb218, 4, none⟩ = some (.int .i64 a1_4) := (blk_cell BK218.out 4).trans rfl; have hcz34_5 : w31.cell? ⟨gb218, 5, none⟩ = some (.int .i64 a1_5) := (blk_cell BK218.out 5).trans rfl; have hcz34_6 : w31.cell? ⟨gb218, 6, none⟩ = some (.int .i64 a1_6) := (blk_cell BK218.out 6).trans rfl; have hfz34_0 := blk_frozen BK218.out 0; have hfz34_1 := blk_frozen BK218.out 1; have hfz34_2 := blk_frozen BK218.out 2; have hfz34_3 := blk_frozen BK218.out 3; have hfz34_4 := blk_frozen BK218.out 4; have hfz34_5 := blk_frozen BK218.out 5; have hfz34_6 := blk_frozen BK218.out 6))
            go_ret
            exact ⟨by first | rfl | (simp [errW_none, errW_some] <;> rfl) | (simp [*, errW_none, errW_some] <;> rfl), by repeat (first | (with_reducible first | exact HB.out | apply below_alloc | apply pw_below_drewN | apply below_drew1 | refine below_set ?_ GE217.out | refine below_set ?_ GE218.out) | exact HB.out)⟩
        · rw [if_neg c11] at H
          have c11b0 : (a0_3 == a1_3) = false := beq_eq_false_iff_ne.mpr c11
          have c11b1 : (a0_3 != a1_3) = true := bne_iff_ne.mpr c11
          obtain rfl := Option.some.inj H
          go_enter Tryd.func11, Tryd.ntmps11
          go_wp2_with (first | ((with_reducible refine gate_dst (N := 2) rfl ?_); refine box_event ?hg (N := 2) ?hd (cs := #[.bool a0_0, .int .i64 a0_1, .int .i64 a0_2, .int .i64 a0_3, .int .i64 a0_4, .int .i64 a0_5, .int .i64 a0_6]) (t := 25) ?hr ?_; (case hd => rfl); (case hg => rfl); (case hr => first | (go_simp; done) | (go_simp; rfl)); intro gb217 hg w35 hbox hb; have n0_ := Aside0.mk (below_step (bl HB) hb); have n1_ := Aside0.mk (hbox); have n2_ := Aside0.mk ((by rw [hg]; exact (below_size (bl HB)) : w.heap.size ≤ gb217)); have n3_ := Aside0.mk ((by rw [hg]; exact (below_size (bl HB)) : w.heap.size ≤ gb217)); clear HB; have HB := n0_; have BK217 := n1_; have GW217 := n2_; have GE217 := n3_; clear n0_ n1_ n2_ n3_; clear hb hbox hg) | ((with_reducible refine gate_dst (N := 3) rfl ?_); refine box_event ?hg (N := 3) ?hd (cs := #[.bool a1_0, .int .i64 a1_1, .int .i64 a1_2, .int .i64 a1_3, .int .i64 a1_4, .int .i64 a1_5, .int .i64 a1_6]) (t := 25) ?hr ?_; (case hd => rfl); (case hg => rfl); (case hr => first | (go_simp; done) | (go_simp; rfl)); intro gb218 hg w36 hbox hb; have n0_ := bkB BK217 hb; have n1_ := Aside0.mk (below_step (bl HB) hb); have n2_ := Aside0.mk (hbox); have n3_ := Aside0.mk ((by rw [hg]; exact (below_size (bl HB)) : w.heap.size ≤ gb218)); have n4_ := Aside0.mk ((by rw [hg]; exact (below_size (bl HB)) : w.heap.size ≤ gb218)); have n5_ := Aside0.mk ((by rw [hg]; exact Nat.ne_of_lt (bkL BK217) : gb217 ≠ gb218)); have n6_ := Aside0.mk ((by rw [hg]; exact Nat.ne_of_gt (bkL BK217) : gb218 ≠ gb217)); clear BK217; clear HB; have BK217 := n0_; have HB := n1_; have BK218 := n2_; have GW218 := n3_; have GE218 := n4_; have NB217_218 := n5_; have NB218_217 := n6_; clear n0_ n1_ n2_ n3_ n4_ n5_ n6_; clear hb hbox hg; have hnb37 := NB217_218.out; have hnc37 := NB218_217.out; have hcz38_0 : w36.cell? ⟨gb217, 0, none⟩ = some (.bool a0_0) := (blk_cell BK217.out 0).trans rfl; have hcz38_1 : w36.cell? ⟨gb217, 1, none⟩ = some (.int .i64 a0_1) := (blk_cell BK217.out 1).trans rfl; have hcz38_2 : w36.cell? ⟨gb217, 2, none⟩ = some (.int .i64 a0_2) := (blk_cell BK217.out 2).trans rfl; have hcz38_3 : w36.cell? ⟨gb217, 3, none⟩ = some (.int .i64 a0_3) := (blk_cell BK217.out 3).trans rfl; have hcz38_4 : w36.cell? ⟨gb217, 4, none⟩ = some (.int .i64 a0_4) := (blk_cell BK217.out 4).trans rfl; have hcz38_5 : w36.cell? ⟨gb217, 5, none⟩ = some (.int .i64 a0_5) := (blk_cell BK217.out 5).trans rfl; have hcz38_6 : w36.cell? ⟨gb217, 6, none⟩ = some (.int .i64 a0_6) := (blk_cell BK217.out 6).trans rfl; have hfz38_0 := blk_frozen BK217.out 0; have hfz38_1 := blk_frozen BK217.out 1; have hfz38_2 := blk_frozen BK217.out 2; have hfz38_3 := blk_frozen BK217.out 3; have hfz38_4 := blk_frozen BK217.out 4; have hfz38_5 := blk_frozen BK217.out 5; have hfz38_6 := blk_frozen BK217.out 6; have hcz39_0 : w36.cell? ⟨gb218, 0, none⟩ = some (.bool a1_0) := (blk_cell BK218.out 0).trans rfl; have hcz39_1 : w36.cell? ⟨gb218, 1, none⟩ = some (.int .i64 a1_1) := (blk_cell BK218.out 1).trans rfl; have hcz39_2 : w36.cell? ⟨gb218, 2, none⟩ = some (.int .i64 a1_2) := (blk_cell BK218.out 2).trans rfl; have hcz39_3 : w36.cell? ⟨gb218, 3, none⟩ = some (.int .i64 a1_3) := (blk_cell BK218.out 3).trans rfl; have hcz39_4 : w36.cell? ⟨gb218, 4, none⟩ = some (.int .i64 a1_4) := (blk_cell BK218.out 4).trans rfl; have hcz39_5 : w36.cell? ⟨gb218, 5, none⟩ = some (.int .i64 a1_5) := (blk_cell BK218.out 5).trans rfl; have hcz39_6 : w36.cell? ⟨gb218, 6, none⟩ = some (.int .i64 a1_6) := (blk_cell BK218.out 6).trans rfl; have hfz39_0 := blk_frozen BK218.out 0; have hfz39_1 := blk_frozen BK218.out 1; have hfz39_2 := blk_frozen BK218.out 2; have hfz39_3 := blk_frozen BK218.out 3; have hfz39_4 := blk_frozen BK218.out 4; have hfz39_5 := blk_frozen BK218.out 5; have hfz39_6 := blk_frozen BK218.out 6))
          go_ret
          exact ⟨by first | rfl | (simp [errW_none, errW_some] <;> rfl) | (simp [*, errW_none, errW_some] <;> rfl), by repeat (first | (with_reducible first | exact HB.out | apply below_alloc | apply pw_below_drewN | apply below_drew1 | refine below_set ?_ GE217.out | refine below_set ?_ GE218.out) | exact HB.out)⟩
      · rw [if_neg c10] at H
        have c10b0 : (a0_2 == a1_2) = false := beq_eq_false_iff_ne.mpr c10
        have c10b1 : (a0_2 != a1_2) = true := bne_iff_ne.mpr c10
        obtain rfl := Option.some.inj H
        go_enter Tryd.func11, Tryd.ntmps11
        go_wp2_with (first | ((with_reducible refine gate_dst (N := 2) rfl ?_); refine box_event ?hg (N := 2) ?hd (cs := #[.bool a0_0, .int .i64 a0_1, .int .i64 a0_2, .int .i64 a0_3, .int .i64 a0_4, .int .i64 a0_5, .int .i64 a0_6]) (t := 25) ?hr ?_; (case hd => rfl); (case hg => rfl); (case hr => first | (go_simp; done) | (go_simp; rfl)); intro gb217 hg w40 hbox hb; have n0_ := Aside0.mk (below_step (bl HB) hb); have n1_ := Aside0.mk (hbox); have n2_ := Aside0.mk ((by rw [hg]; exact (below_size (bl HB)) : w.heap.size ≤ gb217)); have n3_ := Aside0.mk ((by rw [hg]; exact (below_size (bl HB)) : w.heap.size ≤ gb217)); clear HB; have HB := n0_; have BK217 := n1_; have GW217 := n2_; have GE217 := n3_; clear n0_ n1_ n2_ n3_; clear hb hbox hg) | ((with_reducible refine gate_dst (N := 3) rfl ?_); refine box_event ?hg (N := 3) ?hd (cs := #[.bool a1_0, .int .i64 a1_1, .int .i64 a1_2, .int .i64 a1_3, .int .i64 a1_4, .int .i64 a1_5, .int .i64 a1_6]) (t := 25) ?hr ?_; (case hd => rfl); (case hg => rfl); (case hr => first | (go_simp; done) | (go_simp; rfl)); intro gb218 hg w41 hbox hb; have n0_ := bkB BK217 hb; have n1_ := Aside0.mk (below_step (bl HB) hb); have n2_ := Aside0.mk (hbox); have n3_ := Aside0.mk ((by rw [hg]; exact (below_size (bl HB)) : w.heap.size ≤ gb218)); have n4_ := Aside0.mk ((by rw [hg]; exact (below_size (bl HB)) : w.heap.size ≤ gb218)); have n5_ := Aside0.mk ((by rw [hg]; exact Nat.ne_of_lt (bkL BK217) : gb217 ≠ gb218)); have n6_ := Aside0.mk ((by rw [hg]; exact Nat.ne_of_gt (bkL BK217) : gb218 ≠ gb217)); clear BK217; clear HB; have BK217 := n0_; have HB := n1_; have BK218 := n2_; have GW218 := n3_; have GE218 := n4_; have NB217_218 := n5_; have NB218_217 := n6_; clear n0_ n1_ n2_ n3_ n4_ n5_ n6_; clear hb hbox hg; have hnb42 := NB217_218.out; have hnc42 := NB218_217.out; have hcz43_0 : w41.cell? ⟨gb217, 0, none⟩ = some (.bool a0_0) := (blk_cell BK217.out 0).trans rfl; have hcz43_1 : w41.cell? ⟨gb217, 1, none⟩ = some (.int .i64 a0_1) := (blk_cell BK217.out 1).trans rfl; have hcz43_2 : w41.cell? ⟨gb217, 2, none⟩ = some (.int .i64 a0_2) := (blk_cell BK217.out 2).trans rfl; have hcz43_3 : w41.cell? ⟨gb217, 3, none⟩ = some (.int .i64 a0_3) := (blk_cell BK217.out 3).trans rfl; have hcz43_4 : w41.cell? ⟨gb217, 4, none⟩ = some (.int .i64 a0_4) := (blk_cell BK217.out 4).trans rfl; have hcz43_5 : w41.cell? ⟨gb217, 5, none⟩ = some (.int .i64 a0_5) := (blk_cell BK217.out 5).trans rfl; have hcz43_6 : w41.cell? ⟨gb217, 6, none⟩ = some (.int .i64 a0_6) := (blk_cell BK217.out 6).trans rfl; have hfz43_0 := blk_frozen BK217.out 0; have hfz43_1 := blk_frozen BK217.out 1; have hfz43_2 := blk_frozen BK217.out 2; have hfz43_3 := blk_frozen BK217.out 3; have hfz43_4 := blk_frozen BK217.out 4; have hfz43_5 := blk_frozen BK217.out 5; have hfz43_6 := blk_frozen BK217.out 6; have hcz44_0 : w41.cell? ⟨gb218, 0, none⟩ = some (.bool a1_0) := (blk_cell BK218.out 0).trans rfl; have hcz44_1 : w41.cell? ⟨gb218, 1, none⟩ = some (.int .i64 a1_1) := (blk_cell BK218.out 1).trans rfl; have hcz44_2 : w41.cell? ⟨gb218, 2, none⟩ = some (.int .i64 a1_2) := (blk_cell BK218.out 2).trans rfl; have hcz44_3 : w41.cell? ⟨gb218, 3, none⟩ = some (.int .i64 a1_3) := (blk_cell BK218.out 3).trans rfl; have hcz44_4 : w41.cell? ⟨gb218, 4, none⟩ = some (.int .i64 a1_4) := (blk_cell BK218.out 4).trans rfl; have hcz44_5 : w41.cell? ⟨gb218, 5, none⟩ = some (.int .i64 a1_5) := (blk_cell BK218.out 5).trans rfl; have hcz44_6 : w41.cell? ⟨gb218, 6, none⟩ = some (.int .i64 a1_6) := (blk_cell BK218.out 6).trans rfl; have hfz44_0 := blk_frozen BK218.out 0; have hfz44_1 := blk_frozen BK218.out 1; have hfz44_2 := blk_frozen BK218.out 2; have hfz44_3 := blk_frozen BK218.out 3; have hfz44_4 := blk_frozen BK218.out 4; have hfz44_5 := blk_frozen BK218.out 5; have hfz44_6 := blk_frozen BK218.out 6))
        go_ret
        exact ⟨by first | rfl | (simp [errW_none, errW_some] <;> rfl) | (simp [*, errW_none, errW_some] <;> rfl), by repeat (first | (with_reducible first | exact HB.out | apply below_alloc | apply pw_below_drewN | apply below_drew1 | refine below_set ?_ GE217.out | refine below_set ?_ GE218.out) | exact HB.out)⟩
    · rw [if_neg c9] at H
      have c9b0 : (a0_1 == a1_1) = false := beq_eq_false_iff_ne.mpr c9
      have c9b1 : (a0_1 != a1_1) = true := bne_iff_ne.mpr c9
      obtain rfl := Option.some.inj H
      go_enter Tryd.func11, Tryd.ntmps11
      go_wp2_with (first | ((with_reducible refine gate_dst (N := 2) rfl ?_); refine box_event ?hg (N := 2) ?hd (cs := #[.bool a0_0, .int .i64 a0_1, .int .i64 a0_2, .int .i64 a0_3, .int .i64 a0_4, .int .i64 a0_5, .int .i64 a0_6]) (t := 25) ?hr ?_; (case hd => rfl); (case hg => rfl); (case hr => first | (go_simp; done) | (go_simp; rfl)); intro gb217 hg w45 hbox hb; have n0_ := Aside0.mk (below_step (bl HB) hb); have n1_ := Aside0.mk (hbox); have n2_ := Aside0.mk ((by rw [hg]; exact (below_size (bl HB)) : w.heap.size ≤ gb217)); have n3_ := Aside0.mk ((by rw [hg]; exact (below_size (bl HB)) : w.heap.size ≤ gb217)); clear HB; have HB := n0_; have BK217 := n1_; have GW217 := n2_; have GE217 := n3_; clear n0_ n1_ n2_ n3_; clear hb hbox hg) | ((with_reducible refine gate_dst (N := 3) rfl ?_); refine box_event ?hg (N := 3) ?hd (cs := #[.bool a1_0, .int .i64 a1_1, .int .i64 a1_2, .int .i64 a1_3, .int .i64 a1_4, .int .i64 a1_5, .int .i64 a1_6]) (t := 25) ?hr ?_; (case hd => rfl); (case hg => rfl); (case hr => first | (go_simp; done) | (go_simp; rfl)); intro gb218 hg w46 hbox hb; have n0_ := bkB BK217 hb; have n1_ := Aside0.mk (below_step (bl HB) hb); have n2_ := Aside0.mk (hbox); have n3_ := Aside0.mk ((by rw [hg]; exact (below_size (bl HB)) : w.heap.size ≤ gb218)); have n4_ := Aside0.mk ((by rw [hg]; exact (below_size (bl HB)) : w.heap.size ≤ gb218)); have n5_ := Aside0.mk ((by rw [hg]; exact Nat.ne_of_lt (bkL BK217) : gb217 ≠ gb218)); have n6_ := Aside0.mk ((by rw [hg]; exact Nat.ne_of_gt (bkL BK217) : gb218 ≠ gb217)); clear BK217; clear HB; have BK217 := n0_; have HB := n1_; have BK218 := n2_; have GW218 := n3_; have GE218 := n4_; have NB217_218 := n5_; have NB218_217 := n6_; clear n0_ n1_ n2_ n3_ n4_ n5_ n6_; clear hb hbox hg; have hnb47 := NB217_218.out; have hnc47 := NB218_217.out; have hcz48_0 : w46.cell? ⟨gb217, 0, none⟩ = some (.bool a0_0) := (blk_cell BK217.out 0).trans rfl; have hcz48_1 : w46.cell? ⟨gb217, 1, none⟩ = some (.int .i64 a0_1) := (blk_cell BK217.out 1).trans rfl; have hcz48_2 : w46.cell? ⟨gb217, 2, none⟩ = some (.int .i64 a0_2) := (blk_cell BK217.out 2).trans rfl; have hcz48_3 : w46.cell? ⟨gb217, 3, none⟩ = some (.int .i64 a0_3) := (blk_cell BK217.out 3).trans rfl; have hcz48_4 : w46.cell? ⟨gb217, 4, none⟩ = some (.int .i64 a0_4) := (blk_cell BK217.out 4).trans rfl; have hcz48_5 : w46.cell? ⟨gb217, 5, none⟩ = some (.int .i64 a0_5) := (blk_cell BK217.out 5).trans rfl; have hcz48_6 : w46.cell? ⟨gb217, 6, none⟩ = some (.int .i64 a0_6) := (blk_cell BK217.out 6).trans rfl; have hfz48_0 := blk_frozen BK217.out 0; have hfz48_1 := blk_frozen BK217.out 1; have hfz48_2 := blk_frozen BK217.out 2; have hfz48_3 := blk_frozen BK217.out 3; have hfz48_4 := blk_frozen BK217.out 4; have hfz48_5 := blk_frozen BK217.out 5; have hfz48_6 := blk_frozen BK217.out 6; have hcz49_0 : w46.cell? ⟨gb218, 0, none⟩ = some (.bool a1_0) := (blk_cell BK218.out 0).trans rfl; have hcz49_1 : w46.cell? ⟨gb218, 1, none⟩ = some (.int .i64 a1_1) := (blk_cell BK218.out 1).trans rfl; have hcz49_2 : w46.cell? ⟨gb218, 2, none⟩ = some (.int .i64 a1_2) := (blk_cell BK218.out 2).trans rfl; have hcz49_3 : w46.cell? ⟨gb218, 3, none⟩ = some (.int .i64 a1_3) := (blk_cell BK218.out 3).trans rfl; have hcz49_4 : w46.cell? ⟨gb218, 4, none⟩ = some (.int .i64 a1_4) := (blk_cell BK218.out 4).trans rfl; have hcz49_5 : w46.cell? ⟨gb218, 5, none⟩ = some (.int .i64 a1_5) := (blk_cell BK218.out 5).trans rfl; have hcz49_6 : w46.cell? ⟨gb218, 6, none⟩ = some (.int .i64 a1_6) := (blk_cell BK218.out 6).trans rfl; have hfz49_0 := blk_frozen BK218.out 0; have hfz49_1 := blk_frozen BK218.out 1; have hfz49_2 := blk_frozen BK218.out 2; have hfz49_3 := blk_frozen BK218.out 3; have hfz49_4 := blk_frozen BK218.out 4; have hfz49_5 := blk_frozen BK218.out 5; have hfz49_6 := blk_frozen BK218.out 6))
      go_ret
      exact ⟨by first | rfl | (simp [errW_none, errW_some] <;> rfl) | (simp [*, errW_none, errW_some] <;> rfl), by repeat (first | (with_reducible first | exact HB.out | apply below_alloc | apply pw_below_drewN | apply below_drew1 | refine below_set ?_ GE217.out | refine below_set ?_ GE218.out) | exact HB.out)⟩

end Go.Proofs.YtiocgkggegahhaaDoor.P

-- written by hw.py for this claim
namespace Go.Proofs.YtiocgkggegahhaaDoor.P
open Go.RowKit Go.Proofs.YtiocgkggegahhaaDoorUFnRulText.PrintWords Go.Proofs.YtiocgkggegahhaaDoorUFnRulText.PrintLast Go.Proofs.YtiocgkggegahhaaDoorUFnRulText.PrintMore
attribute [local go_sem] max2_int min2_int max_two min_two max_three min_three max_four min_four
set_option linter.unusedVariables false
set_option linter.unusedSimpArgs false

/-! ### laws_FnExactRulRead: function 4 -/
def laws_FnExactRulRead.f (k : Nat) (a0 : ByteArray) : Option (Bool) := if (a0.size : Int) > 1048576 then (some true) else ((spec_RulRead.f k a0).bind fun bt219 => ((impl_RulRead.f a0).bind fun bt228 => ((laws_eqRulRule.f bt228.1 bt228.2.1 bt228.2.2.1 bt228.2.2.2.1 bt228.2.2.2.2.1 bt228.2.2.2.2.2.1 bt228.2.2.2.2.2.2.1 bt219.1 bt219.2.1 bt219.2.2.1 bt219.2.2.2.1 bt219.2.2.2.2.1 bt219.2.2.2.2.2.1 bt219.2.2.2.2.2.2.1).bind fun t237 => (if t237 = true then (if (bt228.2.2.2.2.2.2.2 != bt219.2.2.2.2.2.2.2) = true then (some false) else (some true)) else (some false)))))
theorem laws_FnExactRulRead.mono : ∀ a0 k, LeO (laws_FnExactRulRead.f k a0) (laws_FnExactRulRead.f (k + 1) a0) := by
  intro a0 k
  unfold laws_FnExactRulRead.f
  repeat' first
      | (with_reducible exact spec_RulRead.mono _ _)
      | (with_reducible exact LeO.refl _)
      | (with_reducible exact LeO.none _)
      | (with_reducible refine LeO.ite ?_ ?_)
      | (with_reducible refine LeO.bind ?_ (fun _ => ?_))
      | exact spec_RulRead.mono _ _
      | exact LeO.none _
      | refine LeO.ite ?_ ?_
      | refine LeO.bind ?_ (fun _ => ?_)
set_option maxHeartbeats 8000000 in
set_option maxRecDepth 100000 in
theorem laws_FnExactRulRead.calls (k : Nat) (a0 : ByteArray) (r : Bool) (w : World) (h : laws_FnExactRulRead.f k a0 = some r) (hrt : Aside0 (r = true)) (hE : Env w) :
    Calls Tryd.prog 4 #[.string a0] w fun e w' => e = .returned (.bool r) ∧ Below w.heap.size w w' := by
  have hu25 := Tryd.underlying25
  have HB := Aside0.mk (Below.refl w.heap.size w)
  have H : (if (a0.size : Int) > 1048576 then (some true) else ((spec_RulRead.f k a0).bind fun bt219 => ((impl_RulRead.f a0).bind fun bt228 => ((laws_eqRulRule.f bt228.1 bt228.2.1 bt228.2.2.1 bt228.2.2.2.1 bt228.2.2.2.2.1 bt228.2.2.2.2.2.1 bt228.2.2.2.2.2.2.1 bt219.1 bt219.2.1 bt219.2.2.1 bt219.2.2.2.1 bt219.2.2.2.2.1 bt219.2.2.2.2.2.1 bt219.2.2.2.2.2.2.1).bind fun t237 => (if t237 = true then (if (bt228.2.2.2.2.2.2.2 != bt219.2.2.2.2.2.2.2) = true then (some false) else (some true)) else (some false)))))) = some r := h
  clear h
  by_cases c2 : (a0.size : Int) > 1048576
  · rw [if_pos c2] at H
    have c2b0 : decide (1048576 < (a0.size : Int)) = true := decide_eq_true c2
    have c2b1 : decide (1048576 < a0.size) = true := decide_eq_true (by omega)
    clear c2
    obtain rfl := Option.some.inj H
    go_enter Tryd.func4, Tryd.ntmps4
    go_wp2
    go_ret
    exact ⟨by first | rfl | (simp [errW_none, errW_some] <;> rfl) | (simp [*, errW_none, errW_some] <;> rfl), by repeat (first | (with_reducible first | exact HB.out | apply below_alloc | apply pw_below_drewN | apply below_drew1) | exact HB.out)⟩
  · rw [if_neg c2] at H
    have c2b0 : decide (1048576 < (a0.size : Int)) = false := decide_eq_false c2
    have c2b1 : decide (1048576 < a0.size) = false := decide_eq_false (by omega)
    clear c2
    replace H := Option.bind_eq_some_iff.mp H
    obtain ⟨⟨t219, t220, t221, t222, t223, t224, t225, t226⟩, A30, H⟩ := H
    replace H : ((impl_RulRead.f a0).bind fun bt228 => ((laws_eqRulRule.f bt228.1 bt228.2.1 bt228.2.2.1 bt228.2.2.2.1 bt228.2.2.2.2.1 bt228.2.2.2.2.2.1 bt228.2.2.2.2.2.2.1 t219 t220 t221 t222 t223 t224 t225).bind fun t237 => (if t237 = true then (if (bt228.2.2.2.2.2.2.2 != t226) = true then (some false) else (some true)) else (some false)))) = some r := H
    have A3 := Aside0.mk A30
    clear A30
    replace H := Option.bind_eq_some_iff.mp H
    obtain ⟨⟨t228, t229, t230, t231, t232, t233, t234, t235⟩, A40, H⟩ := H
    replace H : ((laws_eqRulRule.f t228 t229 t230 t231 t232 t233 t234 t219 t220 t221 t222 t223 t224 t225).bind fun t237 => (if t237 = true then (if (t235 != t226) = true then (some false) else (some true)) else (some false))) = some r := H
    have A4 := Aside0.mk A40
    clear A40
    replace H := Option.bind_eq_some_iff.mp H
    obtain ⟨t237, A50, H⟩ := H
    replace H : (if t237 = true then (if (t235 != t226) = true then (some false) else (some true)) else (some false)) = some r := H
    have A5 := Aside0.mk A50
    clear A50
    by_cases c6 : t237 = true
    · subst c6
      have H1 : (if (t235 != t226) = true then (some false) else (some true)) = some r := by rw [if_pos rfl] at H; exact H
      clear H
      have H := H1
      clear H1
      by_cases c7 : (t235 != t226) = true
      · rw [if_pos c7] at H
        have c7b0 : (t235 != t226) = true := c7
        (try (have c7b1 : decide (t235 = t226) = false := by simpa using c7))
        (try (have c7b2 : (t235 == t226) = false := by simpa using c7))
        (try (have c7b3 : ¬ (t235 = t226) := by simpa using c7))
        clear c7
        exact absurd ((Option.some.inj H).trans hrt.out) (by decide)
      · rw [if_neg c7] at H
        have c7b0 : (t235 != t226) = false := by simpa using c7
        (try (have c7b1 : decide (t235 = t226) = true := by simpa using c7))
        (try (have c7b2 : (t235 == t226) = true := by simpa using c7))
        clear c7
        obtain rfl := Option.some.inj H
        go_enter Tryd.func4, Tryd.ntmps4
        go_wp2_with (first | ((with_reducible refine gate_callee (f := 9) rfl ?_); refine goesL_ (some 12) rfl rfl Tryd.func9 (by kernel_rfl) rfl #[.string a0] rfl (by (try simp only [List.map_toArray, List.map_cons, List.map_nil]); first | done | rfl | (simp only [List.length_drop, List.length_take]; rfl)) ?_; (with_reducible refine (spec_RulRead.calls k a0 t219 t220 t221 t222 t223 t224 t225 t226 _ A3.out).mono ?_); rintro e w8 ⟨rfl, hb⟩; refine ⟨_, rfl, ?_⟩; have n0_ := Aside0.mk (below_step (bl HB) hb); clear HB; have HB := n0_; clear n0_; (try clear hb); (try clear hb2); (try clear hk); (try clear hi)) | ((with_reducible refine gate_dst (N := 3) rfl ?_); refine box_event ?hg (N := 3) ?hd (cs := #[.bool false, .int .i64 0, .int .i64 0, .int .i64 0, .int .i64 0, .int .i64 0, .int .i64 0]) (t := 25) ?hr ?_; (case hd => rfl); (case hg => rfl); (case hr => first | (go_simp; done) | (go_simp; rfl)); intro gb227 hg w9 hbox hb; have n0_ := Aside0.mk (below_step (bl HB) hb); have n1_ := Aside0.mk (hbox); have n2_ := Aside0.mk ((by rw [hg]; exact (below_size (bl HB)) : w.heap.size ≤ gb227)); have n3_ := Aside0.mk ((by rw [hg]; exact (below_size (bl HB)) : w.heap.size ≤ gb227)); clear HB; have HB := n0_; have BK227 := n1_; have GW227 := n2_; have GE227 := n3_; clear n0_ n1_ n2_ n3_; clear hb hbox hg; have hcz10_0 : w9.cell? ⟨gb227, 0, none⟩ = some (.bool false) := (blk_cell BK227.out 0).trans rfl; have hcz10_1 : w9.cell? ⟨gb227, 1, none⟩ = some (.int .i64 0) := (blk_cell BK227.out 1).trans rfl; have hcz10_2 : w9.cell? ⟨gb227, 2, none⟩ = some (.int .i64 0) := (blk_cell BK227.out 2).trans rfl; have hcz10_3 : w9.cell? ⟨gb227, 3, none⟩ = some (.int .i64 0) := (blk_cell BK227.out 3).trans rfl; have hcz10_4 : w9.cell? ⟨gb227, 4, none⟩ = some (.int .i64 0) := (blk_cell BK227.out 4).trans rfl; have hcz10_5 : w9.cell? ⟨gb227, 5, none⟩ = some (.int .i64 0) := (blk_cell BK227.out 5).trans rfl; have hcz10_6 : w9.cell? ⟨gb227, 6, none⟩ = some (.int .i64 0) := (blk_cell BK227.out 6).trans rfl; have hfz10_0 := blk_frozen BK227.out 0; have hfz10_1 := blk_frozen BK227.out 1; have hfz10_2 := blk_frozen BK227.out 2; have hfz10_3 := blk_frozen BK227.out 3; have hfz10_4 := blk_frozen BK227.out 4; have hfz10_5 := blk_frozen BK227.out 5; have hfz10_6 := blk_frozen BK227.out 6) | ((with_reducible refine gate_callee (f := 10) rfl ?_); refine goesL_ (some 17) rfl rfl Tryd.func10 (by kernel_rfl) rfl #[.string a0] rfl (by (try simp only [List.map_toArray, List.map_cons, List.map_nil]); first | done | rfl | (simp only [List.length_drop, List.length_take]; rfl)) ?_; (with_reducible refine (impl_RulRead.calls a0 t228 t229 t230 t231 t232 t233 t234 t235 _ A4.out (Env.below hE (bl HB))).mono ?_); rintro e w11 ⟨rfl, hb⟩; refine ⟨_, rfl, ?_⟩; have n0_ := Aside0.mk (blk_below (g := gb227) (o := .cells #[.bool t219, .int .i64 t220, .int .i64 t221, .int .i64 t222, .int .i64 t223, .int .i64 t224, .int .i64 t225] 25 (0, 0)) (by (with_reducible repeat refine bu ?_); refine blk_put (cs := #[.bool t219, .int .i64 t220, .int .i64 t221, .int .i64 t222, .int .i64 t223, .int .i64 t224, .int .i64 0]) ?_ 6 _ rfl; (with_reducible repeat refine bu ?_); refine blk_put (cs := #[.bool t219, .int .i64 t220, .int .i64 t221, .int .i64 t222, .int .i64 t223, .int .i64 0, .int .i64 0]) ?_ 5 _ rfl; (with_reducible repeat refine bu ?_); refine blk_put (cs := #[.bool t219, .int .i64 t220, .int .i64 t221, .int .i64 t222, .int .i64 0, .int .i64 0, .int .i64 0]) ?_ 4 _ rfl; (with_reducible repeat refine bu ?_); refine blk_put (cs := #[.bool t219, .int .i64 t220, .int .i64 t221, .int .i64 0, .int .i64 0, .int .i64 0, .int .i64 0]) ?_ 3 _ rfl; (with_reducible repeat refine bu ?_); refine blk_put (cs := #[.bool t219, .int .i64 t220, .int .i64 0, .int .i64 0, .int .i64 0, .int .i64 0, .int .i64 0]) ?_ 2 _ rfl; (with_reducible repeat refine bu ?_); refine blk_put (cs := #[.bool t219, .int .i64 0, .int .i64 0, .int .i64 0, .int .i64 0, .int .i64 0, .int .i64 0]) ?_ 1 _ rfl; (with_reducible repeat refine bu ?_); refine blk_put (cs := #[.bool false, .int .i64 0, .int .i64 0, .int .i64 0, .int .i64 0, .int .i64 0, .int .i64 0]) ?_ 0 _ rfl; (with_reducible repeat refine bu ?_); exact BK227.out) hb); have n1_ := Aside0.mk (below_step (bl HB) hb); clear BK227; clear HB; have BK227 := n0_; have HB := n1_; clear n0_ n1_; (try clear hb); (try clear hb2); (try clear hk); (try clear hi)) | ((with_reducible refine gate_dst (N := 5) rfl ?_); refine box_event ?hg (N := 5) ?hd (cs := #[.bool false, .int .i64 0, .int .i64 0, .int .i64 0, .int .i64 0, .int .i64 0, .int .i64 0]) (t := 25) ?hr ?_; (case hd => rfl); (case hg => rfl); (case hr => first | (go_simp; done) | (go_simp; rfl)); intro gb236 hg w12 hbox hb; have n0_ := bkB BK227 hb; have n1_ := Aside0.mk (below_step (bl HB) hb); have n2_ := Aside0.mk (hbox); have n3_ := Aside0.mk ((by rw [hg]; exact (below_size (bl HB)) : w.heap.size ≤ gb236)); have n4_ := Aside0.mk ((by rw [hg]; exact (below_size (bl HB)) : w.heap.size ≤ gb236)); have n5_ := Aside0.mk ((by rw [hg]; exact Nat.ne_of_lt (bkL BK227) : gb227 ≠ gb236)); have n6_ := Aside0.mk ((by rw [hg]; exact Nat.ne_of_gt (bkL BK227) : gb236 ≠ gb227)); clear BK227; clear HB; have BK227 := n0_; have HB := n1_; have BK236 := n2_; have GW236 := n3_; have GE236 := n4_; have NB227_236 := n5_; have NB236_227 := n6_; clear n0_ n1_ n2_ n3_ n4_ n5_ n6_; clear hb hbox hg; have hnb13 := NB236_227.out; have hnc13 := NB227_236.out; have hcz14_0 : w12.cell? ⟨gb236, 0, none⟩ = some (.bool false) := (blk_cell BK236.out 0).trans rfl; have hcz14_1 : w12.cell? ⟨gb236, 1, none⟩ = some (.int .i64 0) := (blk_cell BK236.out 1).trans rfl; have hcz14_2 : w12.cell? ⟨gb236, 2, none⟩ = some (.int .i64 0) := (blk_cell BK236.out 2).trans rfl; have hcz14_3 : w12.cell? ⟨gb236, 3, none⟩ = some (.int .i64 0) := (blk_cell BK236.out 3).trans rfl; have hcz14_4 : w12.cell? ⟨gb236, 4, none⟩ = some (.int .i64 0) := (blk_cell BK236.out 4).trans rfl; have hcz14_5 : w12.cell? ⟨gb236, 5, none⟩ = some (.int .i64 0) := (blk_cell BK236.out 5).trans rfl; have hcz14_6 : w12.cell? ⟨gb236, 6, none⟩ = some (.int .i64 0) := (blk_cell BK236.out 6).trans rfl; have hfz14_0 := blk_frozen BK236.out 0; have hfz14_1 := blk_frozen BK236.out 1; have hfz14_2 := blk_frozen BK236.out 2; have hfz14_3 := blk_frozen BK236.out 3; have hfz14_4 := blk_frozen BK236.out 4; have hfz14_5 := blk_frozen BK236.out 5; have hfz14_6 := blk_frozen BK236.out 6; have hcz15_0 : w12.cell? ⟨gb227, 0, none⟩ = some (.bool t219) := (blk_cell BK227.out 0).trans rfl; have hcz15_1 : w12.cell? ⟨gb227, 1, none⟩ = some (.int .i64 t220) := (blk_cell BK227.out 1).trans rfl; have hcz15_2 : w12.cell? ⟨gb227, 2, none⟩ = some (.int .i64 t221) := (blk_cell BK227.out 2).trans rfl; have hcz15_3 : w12.cell? ⟨gb227, 3, none⟩ = some (.int .i64 t222) := (blk_cell BK227.out 3).trans rfl; have hcz15_4 : w12.cell? ⟨gb227, 4, none⟩ = some (.int .i64 t223) := (blk_cell BK227.out 4).trans rfl; have hcz15_5 : w12.cell? ⟨gb227, 5, none⟩ = some (.int .i64 t224) := (blk_cell BK227.out 5).trans rfl; have hcz15_6 : w12.cell? ⟨gb227, 6, none⟩ = some (.int .i64 t225) := (blk_cell BK227.out 6).trans rfl; have hfz15_0 := blk_frozen BK227.out 0; have hfz15_1 := blk_frozen BK227.out 1; have hfz15_2 := blk_frozen BK227.out 2; have hfz15_3 := blk_frozen BK227.out 3; have hfz15_4 := blk_frozen BK227.out 4; have hfz15_5 := blk_frozen BK227.out 5; have hfz15_6 := blk_frozen BK227.out 6) | ((with_reducible refine gate_callee (f := 11) rfl ?_); refine goesL_ (some 22) rfl rfl Tryd.func11 (by kernel_rfl) rfl #[.agg #[.bool t228, .int .i64 t229, .int .i64 t230, .int .i64 t231, .int .i64 t232, .int .i64 t233, .int .i64 t234], .agg #[.bool t219, .int .i64 t220, .int .i64 t221, .int .i64 t222, .int .i64 t223, .int .i64 t224, .int .i64 t225]] rfl (by (try simp only [List.map_toArray, List.map_cons, List.map_nil]); first | done | rfl | (simp only [List.length_drop, List.length_take]; rfl)) ?_; (with_reducible refine (laws_eqRulRule.calls t228 t229 t230 t231 t232 t233 t234 t219 t220 t221 t222 t223 t224 t225 true _ A5.out).mono ?_); rintro e w16 ⟨rfl, hb⟩; refine ⟨_, rfl, ?_⟩; have n0_ := Aside0.mk (blk_below (g := gb227) (o := .cells #[.bool t219, .int .i64 t220, .int .i64 t221, .int .i64 t222, .int .i64 t223, .int .i64 t224, .int .i64 t225] 25 (0, 0)) (by (with_reducible repeat refine bu ?_); refine blk_far ?_ NB227_236.out _; (with_reducible repeat refine bu ?_); refine blk_far ?_ NB227_236.out _; (with_reducible repeat refine bu ?_); refine blk_far ?_ NB227_236.out _; (with_reducible repeat refine bu ?_); refine blk_far ?_ NB227_236.out _; (with_reducible repeat refine bu ?_); refine blk_far ?_ NB227_236.out _; (with_reducible repeat refine bu ?_); refine blk_far ?_ NB227_236.out _; (with_reducible repeat refine bu ?_); refine blk_far ?_ NB227_236.out _; (with_reducible repeat refine bu ?_); exact BK227.out) hb); have n1_ := Aside0.mk (blk_below (g := gb236) (o := .cells #[.bool t228, .int .i64 t229, .int .i64 t230, .int .i64 t231, .int .i64 t232, .int .i64 t233, .int .i64 t234] 25 (0, 0)) (by (with_reducible repeat refine bu ?_); refine blk_put (cs := #[.bool t228, .int .i64 t229, .int .i64 t230, .int .i64 t231, .int .i64 t232, .int .i64 t233, .int .i64 0]) ?_ 6 _ rfl; (with_reducible repeat refine bu ?_); refine blk_put (cs := #[.bool t228, .int .i64 t229, .int .i64 t230, .int .i64 t231, .int .i64 t232, .int .i64 0, .int .i64 0]) ?_ 5 _ rfl; (with_reducible repeat refine bu ?_); refine blk_put (cs := #[.bool t228, .int .i64 t229, .int .i64 t230, .int .i64 t231, .int .i64 0, .int .i64 0, .int .i64 0]) ?_ 4 _ rfl; (with_reducible repeat refine bu ?_); refine blk_put (cs := #[.bool t228, .int .i64 t229, .int .i64 t230, .int .i64 0, .int .i64 0, .int .i64 0, .int .i64 0]) ?_ 3 _ rfl; (with_reducible repeat refine bu ?_); refine blk_put (cs := #[.bool t228, .int .i64 t229, .int .i64 0, .int .i64 0, .int .i64 0, .int .i64 0, .int .i64 0]) ?_ 2 _ rfl; (with_reducible repeat refine bu ?_); refine blk_put (cs := #[.bool t228, .int .i64 0, .int .i64 0, .int .i64 0, .int .i64 0, .int .i64 0, .int .i64 0]) ?_ 1 _ rfl; (with_reducible repeat refine bu ?_); refine blk_put (cs := #[.bool false, .int .i64 0, .int .i64 0, .int .i64 0, .int .i64 0, .int .i64 0, .int .i64 0]) ?_ 0 _ rfl; (with_reducible repeat refine bu ?_); exact BK236.out) hb); have n2_ := Aside0.mk (below_step (bl HB) hb); clear BK227; clear BK236; clear HB; have BK227 := n0_; have BK236 := n1_; have HB := n2_; clear n0_ n1_ n2_; (try clear hb); (try clear hb2); (try clear hk); (try clear hi)))
        go_ret
        exact ⟨by first | rfl | (simp [errW_none, errW_some] <;> rfl) | (simp [*, errW_none, errW_some] <;> rfl), by repeat (first | (with_reducible first | exact HB.out | apply below_alloc | apply pw_below_drewN | apply below_drew1 | refine below_set ?_ GE227.out | refine below_set ?_ GE236.out) | exact HB.out)⟩
    · replace c6 := Bool.eq_false_iff.mpr c6
      subst c6
      have H1 : (some false) = some r := by rw [if_neg (show ¬ (false = true) by decide)] at H; exact H
      clear H
      have H := H1
      clear H1
      exact absurd ((Option.some.inj H).trans hrt.out) (by decide)

/-- THE ONE PURE STATEMENT of laws_FnExactRulRead: yours. -/
def laws_FnExactRulRead.Pure : Prop := ∀ (a0 : ByteArray), a0.size ≤ 140737488351232 → ∃ k, laws_FnExactRulRead.f k a0 = some true
theorem laws_FnExactRulRead.walk (P : laws_FnExactRulRead.Pure) (a0 : ByteArray) (w : World) (w0 : a0.size ≤ 140737488351232) (hE : Env w) :
    Calls Tryd.prog 4 #[.string a0] w fun e w' => e = .returned (.bool true) ∧ Below w.heap.size w w' := by
  obtain ⟨k, h⟩ := P a0 w0
  refine (laws_FnExactRulRead.calls k a0 true w h ⟨rfl⟩ hE).mono ?_
  rintro e w' ⟨rfl, hd⟩
  exact ⟨rfl, hd⟩

end Go.Proofs.YtiocgkggegahhaaDoor.P

/- The plain law of FnExactRulRead: what the printed law computes is true. -/
namespace Go.Proofs.YtiocgkggegahhaaDoor.P
open Go.RowKit Go.Proofs.YtiocgkggegahhaaDoorUFnRulText.PrintWords Go.Proofs.YtiocgkggegahhaaDoorUFnRulText.PrintLast Go.Proofs.YtiocgkggegahhaaDoorUFnRulText.PrintMore
set_option linter.unusedVariables false
set_option linter.unusedSimpArgs false
theorem implRulRead_f {s : ByteArray} (hs : s.size ≤ 1048576) : impl_RulRead.f s = some (rulReadW s (wordsB s)) := by
  unfold impl_RulRead.f; rw [if_pos (by omega)]
theorem eqRulRule_f (b : Bool) (n1 n2 n3 n4 n5 n6 : Int) : laws_eqRulRule.f b n1 n2 n3 n4 n5 n6 b n1 n2 n3 n4 n5 n6 = some true := by
  unfold laws_eqRulRule.f; simp
theorem laws_FnExactRulRead.pure : laws_FnExactRulRead.Pure := by
  intro s hm
  have A : Ans (fun k => laws_FnExactRulRead.f k s) (fun r => r = true) := by
    unfold laws_FnExactRulRead.f
    by_cases c : (s.size : Int) > 1048576
    · exact Ans.pos c (Ans.pure rfl)
    · have hs : s.size ≤ 1048576 := by omega
      refine Ans.neg c ?_
      refine Ans.bind (specRulRead_a s hs) ?_
      rintro v rfl
      rw [implRulRead_f hs]
      obtain ⟨b, n1, n2, n3, n4, n5, n6, o⟩ := rulReadW s (wordsB s)
      refine Ans.bsome ?_
      simp only
      rw [eqRulRule_f]
      exact Ans.bsome (Ans.pos rfl (Ans.neg (by simp) (Ans.pure rfl)))
  obtain ⟨k, v, rfl, h⟩ := A.got
  exact ⟨k, h⟩
end Go.Proofs.YtiocgkggegahhaaDoor.P

/- The plain law of FnRulText: what the printed law computes is true. -/
namespace Go.Proofs.YtiocgkggegahhaaDoor.P
open Go.RowKit Go.Proofs.YtiocgkggegahhaaDoorUFnRulText.PrintWords Go.Proofs.YtiocgkggegahhaaDoorUFnRulText.PrintLast Go.Proofs.YtiocgkggegahhaaDoorUFnRulText.PrintMore
set_option linter.unusedVariables false
set_option linter.unusedSimpArgs false
theorem bys_of {l : List Int} (hw : ∀ x ∈ l, (Lit.int .u8 x).wf = true) : Bys l := fun x hx => by
  have := hw x hx
  simp [Lit.wf, IntKind.min, IntKind.max, IntKind.signed, IntKind.bits] at this
  omega
theorem haOk_f : laws_haOk.f = some true := by
  unfold laws_haOk.f impl_LinOk.f
  rfl
theorem bent_tail (b y : ByteArray) (ys : y.size = 1) (k' : Nat) (hk : k' ≤ b.size) (hb : b.size ≤ 100000) (v4 s4 B : Int) (h5 : At B s4) :
    Ans (fun (_ : Nat) => (if v4 = 0 then (if 0 ≤ (k' : Int) then (if (k' : Int) ≤ (b.size : Int) then (if (b.extract 0 ((k' : Int)).toNat).size + y.size ≤ 9223372036854775807 then (if ((b.extract 0 ((k' : Int)).toNat) ++ y).size + (b.extract ((k' : Int)).toNat b.size).size ≤ 9223372036854775807 then (some (((b.extract 0 ((k' : Int)).toNat) ++ y) ++ (b.extract ((k' : Int)).toNat b.size), s4)) else (none)) else (none)) else (none)) else (none)) else (if v4 = 1 then (if (k' : Int) < (b.size : Int) then (if 0 ≤ (k' : Int) then (if (k' : Int) ≤ (b.size : Int) then (if 0 ≤ (wrap64 ((k' : Int) + 1)) then (if (wrap64 ((k' : Int) + 1)) ≤ (b.size : Int) then (if (b.extract 0 ((k' : Int)).toNat).size + (b.extract ((wrap64 ((k' : Int) + 1)) : Int).toNat b.size).size ≤ 9223372036854775807 then (some ((b.extract 0 ((k' : Int)).toNat) ++ (b.extract ((wrap64 ((k' : Int) + 1)) : Int).toNat b.size), s4)) else (none)) else (none)) else (none)) else (none)) else (none)) else (some (b, s4))) else (if (k' : Int) < (b.size : Int) then (if 0 ≤ (k' : Int) then (if (k' : Int) ≤ (b.size : Int) then (if (b.extract 0 ((k' : Int)).toNat).size + y.size ≤ 9223372036854775807 then (if 0 ≤ (wrap64 ((k' : Int) + 1)) then (if (wrap64 ((k' : Int) + 1)) ≤ (b.size : Int) then (if ((b.extract 0 ((k' : Int)).toNat) ++ y).size + (b.extract ((wrap64 ((k' : Int) + 1)) : Int).toNat b.size).size ≤ 9223372036854775807 then (some (((b.extract 0 ((k' : Int)).toNat) ++ y) ++ (b.extract ((wrap64 ((k' : Int) + 1)) : Int).toNat b.size), s4)) else (none)) else (none)) else (none)) else (none)) else (none)) else (none)) else (some (b, s4)))))) (fun r => At B r.2 ∧ r.1.size ≤ b.size + 1) := by
  have z1 : (b.extract 0 ((k' : Int)).toNat).size = k' := by rw [ByteArray.size_extract]; simp only [Int.toNat_natCast]; omega
  have z2 : (b.extract ((k' : Int)).toNat b.size).size = b.size - k' := by rw [ByteArray.size_extract]; simp only [Int.toNat_natCast]; omega
  have ek : wrap64 ((k' : Int) + 1) = ((k' + 1 : Nat) : Int) := w64 _ (by omega)
  have z3 : (b.extract (((k' + 1 : Nat) : Int)).toNat b.size).size = b.size - (k' + 1) := by rw [ByteArray.size_extract]; simp only [Int.toNat_natCast]; omega
  rw [ek]
  refine Ans.ite (fun c => ?_) (fun c => ?_)
  · refine Ans.pos (by omega) (Ans.pos (by omega) (Ans.pos (by rw [z1, ys]; omega) (Ans.pos (by rw [ByteArray.size_append, z1, z2, ys]; omega) (Ans.pure ⟨h5, ?_⟩))))
    simp only [ByteArray.size_append, z1, z2, ys]; omega
  · refine Ans.ite (fun c1 => ?_) (fun c1 => ?_)
    · refine Ans.ite (fun c2 => ?_) (fun c2 => Ans.pure ⟨h5, by dsimp only; omega⟩)
      refine Ans.pos (by omega) (Ans.pos (by omega) (Ans.pos (by omega) (Ans.pos (by omega) (Ans.pos (by rw [z1, z3]; omega) (Ans.pure ⟨h5, ?_⟩)))))
      simp only [ByteArray.size_append, z1, z3]; omega
    · refine Ans.ite (fun c2 => ?_) (fun c2 => Ans.pure ⟨h5, by dsimp only; omega⟩)
      refine Ans.pos (by omega) (Ans.pos (by omega) (Ans.pos (by rw [z1, ys]; omega) (Ans.pos (by omega) (Ans.pos (by omega) (Ans.pos (by rw [ByteArray.size_append, z1, z3, ys]; omega) (Ans.pure ⟨h5, ?_⟩))))))
      simp only [ByteArray.size_append, z1, z3, ys]; omega
theorem bent_a {l : List Int} (hl : Bys l) {s B : Int} (hs : At B s) (hB : B < 400000) (b : ByteArray) (hb : b.size ≤ 100000) :
    Ans (fun k => spec_l20Bent.f k l s b) (fun r => At (B + 4) r.2 ∧ r.1.size ≤ b.size + 1) := by
  unfold spec_l20Bent.f
  have ew : wrap64 ((b.size : Int) + 1) = (b.size : Int) + 1 := w64 _ (by omega)
  rw [ew]
  refine Ans.bind (pick_a hl hs (by omega) _) ?_
  rintro ⟨k, s1⟩ ⟨h1, p1⟩
  refine Ans.bind (pick_a hl h1 (by omega) 256) ?_
  rintro ⟨v2, s2⟩ ⟨h2, p2⟩
  dsimp only at *
  simp only [Option.bind_some]
  refine Ans.bind (pick_a hl h2 (by omega) 8) ?_
  rintro ⟨v3, s3⟩ ⟨h3, p3⟩
  dsimp only at *
  refine Ans.pos p3.1 (Ans.pos (by simp; omega) ?_)
  refine Ans.bind (pick_a hl h3 (by omega) 3) ?_
  rintro ⟨v4, s4⟩ ⟨h4, p4⟩
  dsimp only at *
  have hk0 : 0 ≤ k ∧ k ≤ (b.size : Int) := by clear p2 p3 p4 h1 h2 h3 h4; omega
  have h5 : At (B + 4) s4 := at_le h4 (by omega)
  clear p1 p2 p3 p4 h1 h2 h3 h4 hs hl ew
  obtain ⟨k', rfl⟩ : ∃ k' : Nat, k = k' := ⟨k.toNat, by omega⟩
  generalize hy : strOfNums [rd [32, 48, 49, 57, 59, 97, 112, v2] v3 % 256] = y
  have ys : y.size = 1 := by rw [← hy, strOfNums_size]; rfl
  clear hy
  exact bent_tail b y ys k' (by omega) hb v4 s4 _ h5
theorem textB_size : ∀ (l : List Int) (w : ByteArray), (∀ n ∈ l, 0 ≤ n ∧ n ≤ 999) → (textB w l).size ≤ w.size + 4 * l.length
  | [], w, _ => by simp [textB]
  | n :: l, w, h => by
    have h1 := h n (by simp)
    have h2 := numB_size h1.1 h1.2
    have h3 := textB_size l (w ++ ((⟨#[32]⟩ : ByteArray) ++ numB n)) (fun x hx => h x (by simp [hx]))
    have h4 : ((⟨#[32]⟩ : ByteArray)).size = 1 := rfl
    have e : textB w (n :: l) = textB (w ++ ((⟨#[32]⟩ : ByteArray) ++ numB n)) l := rfl
    rw [e]
    simp only [ByteArray.size_append, h4, List.length_cons] at h3 ⊢
    omega
theorem rtext_size (f0 : Bool) (f1 f2 f3 f4 f5 f6 : Int) : (rtext f0 f1 f2 f3 f4 f5 f6).size ≤ 100 := by
  unfold rtext
  by_cases hk : ruleOk7 f1 f2 f3 f4 f5 f6 = true
  · rw [if_pos hk]
    have hb := ruleOk7_le hk
    have := textB_size [f1, f2, f3, f4, f5, f6] (allowB f0) (by
      intro n hn
      simp only [List.mem_cons, List.mem_nil_iff, or_false] at hn
      rcases hn with rfl | rfl | rfl | rfl | rfl | rfl <;> omega)
    have ha : (allowB f0).size ≤ 5 := by cases f0 <;> decide
    simp at this
    omega
  · rw [if_neg hk]; exact Nat.zero_le _
theorem at0 : At 0 0 := ⟨by omega, by omega⟩
theorem drawRulText_a {l : List Int} (hl : Bys l) : Ans (fun k => spec_DrawRulText.f k l) (fun _ => True) := by
  unfold spec_DrawRulText.f
  obtain ⟨l', e0, hl'⟩ := open_f l hl
  rw [e0]
  refine Ans.bsome ?_
  refine Ans.bind (rule_a hl' (B := 0) (at0) (by omega) 4) ?_
  rintro ⟨y0, y1, y2, y3, y4, y5, y6, s1⟩ _
  exact Ans.pure trivial
theorem drawRulRead_a {l : List Int} (hl : Bys l) : Ans (fun k => spec_DrawRulRead.f k l) (fun r => r.size ≤ 1048576) := by
  unfold spec_DrawRulRead.f
  obtain ⟨l', e0, hl'⟩ := open_f l hl
  rw [e0]
  refine Ans.bsome ?_
  refine Ans.bind (rule_a hl' (B := 0) (at0) (by omega) 99999) ?_
  rintro ⟨y0, y1, y2, y3, y4, y5, y6, s1⟩ ⟨h1, _⟩
  dsimp only at *
  refine Ans.bind (specRulText_a _ _ _ _ _ _ _) ?_
  rintro t rfl
  have hz := rtext_size y0 y1 y2 y3 y4 y5 y6
  refine Ans.bind (pick_a hl' h1 (by omega) 4) ?_
  rintro ⟨v2, s2⟩ ⟨h2, p2⟩
  dsimp only at *
  refine Ans.ite (fun _ => ?_) (fun _ => Ans.ite (fun _ => ?_) (fun _ => Ans.pure (by omega)))
  · refine Ans.bind (bent_a hl' h2 (by omega) _ (by omega)) ?_
    rintro ⟨u, s3⟩ ⟨_, hu⟩
    exact Ans.pure (by dsimp only at *; omega)
  · simp only [Option.bind_some]
    refine Ans.bind (pick_a hl' h2 (by omega) 6) ?_
    rintro ⟨v3, s3⟩ ⟨h3, p3⟩
    dsimp only at *
    refine Ans.pos p3.1 (Ans.pos (by simp; omega) (Ans.pure ?_))
    obtain ⟨n, rfl⟩ : ∃ n : Nat, v3 = n := ⟨v3.toNat, by omega⟩
    have hn : n = 0 ∨ n = 1 ∨ n = 2 ∨ n = 3 ∨ n = 4 ∨ n = 5 := by omega
    rcases hn with rfl | rfl | rfl | rfl | rfl | rfl <;> decide
theorem read_text {b : Bool} {n1 n2 n3 n4 n5 n6 : Int} (hk : ruleOk7 n1 n2 n3 n4 n5 n6 = true) :
    rulReadW (rtext b n1 n2 n3 n4 n5 n6) (wordsB (rtext b n1 n2 n3 n4 n5 n6)) = (b, n1, n2, n3, n4, n5, n6, true) := by
  have hb := ruleOk7_le hk
  have et : rtext b n1 n2 n3 n4 n5 n6 = joinB (allowB b) [numB n1, numB n2, numB n3, numB n4, numB n5, numB n6] := by
    unfold rtext; rw [if_pos hk, textB_join]; rfl
  have hw := words_join (allowB b) [numB n1, numB n2, numB n3, numB n4, numB n5, numB n6] (allow_noBlank _) (by
    intro x hx
    simp only [List.mem_cons, List.mem_nil_iff, or_false] at hx
    rcases hx with rfl | rfl | rfl | rfl | rfl | rfl <;> exact numI_noBlank (by omega))
  rw [← et] at hw
  have hi : ∀ n : Int, 1 ≤ n → n ≤ 999 → NumIs (numB n) n := by
    intro n h0 h1
    obtain ⟨k, rfl⟩ : ∃ k : Nat, n = k := ⟨n.toNat, by omega⟩
    exact .inl ⟨k, by omega, rfl, rfl⟩
  have key := read_key hw (by cases b; exact .inr rfl; exact .inl rfl) (hi n1 (by omega) (by omega)) (hi n2 (by omega) (by omega)) (hi n3 (by omega) (by omega)) (hi n4 (by omega) (by omega)) (hi n5 (by omega) (by omega)) (hi n6 (by omega) (by omega))
  rw [if_pos hk] at key
  rw [hw, ← key]
  have : decide (allowB b = allowB true) = b := by cases b <;> decide
  rw [this]
theorem read_ok (s : ByteArray) : ∃ (b : Bool) (n1 n2 n3 n4 n5 n6 : Int) (o : Bool), rulReadW s (wordsB s) = (b, n1, n2, n3, n4, n5, n6, o) ∧ (o = true → ruleOk7 n1 n2 n3 n4 n5 n6 = true ∧ rtext b n1 n2 n3 n4 n5 n6 = s) := by
  by_cases h7 : (wordsB s).length = 7
  · obtain ⟨a, b1, b2, b3, b4, b5, b6, hw⟩ := list7 h7
    rw [hw]
    show ∃ _ _ _ _ _ _ _ _, (rulReadO s a b1 b2 b3 b4 b5 b6).getD zeroRR = _ ∧ _
    cases h : rulReadO s a b1 b2 b3 b4 b5 b6 with
    | none => exact ⟨_, _, _, _, _, _, _, _, rfl, fun h => by cases h⟩
    | some r =>
      obtain ⟨n1, n2, n3, n4, n5, n6, hn, ha, e1, e2, e3, e4, e5, e6, er⟩ := read_some hw h
      refine ⟨_, n1, n2, n3, n4, n5, n6, true, er, fun _ => ⟨hn, ?_⟩⟩
      unfold rtext
      rw [if_pos hn, textB_join, ← ha]
      simp only [List.map_cons, List.map_nil]
      rw [← e1, ← e2, ← e3, ← e4, ← e5, ← e6]
      exact join_words s a _ hw
  · rw [rulReadW_ne h7]
    exact ⟨_, _, _, _, _, _, _, _, rfl, fun h => by cases h⟩
theorem ruleText_eq (s : ByteArray) (hs : s.size ≤ 1048576) : impl_RulRead.f s = some (rulReadW s (wordsB s)) := implRulRead_f hs
theorem laws_FnRulText.pure : laws_FnRulText.Pure := by
  intro l0 l1 _ _ hw0 _ _ hw1
  have hb0 : Bys l0 := bys_of hw0
  have hb1 : Bys l1 := bys_of hw1
  have J2 : ∀ (f0 : Bool) (f1 f2 f3 f4 f5 f6 : Int), Ans (fun k => laws_FnRulText.j2 k false f0 f1 f2 f3 f4 f5 f6) (fun r => r = true) := by
    intro f0 f1 f2 f3 f4 f5 f6
    refine Ans.succ ?_
    unfold laws_FnRulText.j2
    refine Ans.neg (by simp) ?_
    rw [specRulOk_f, implRulText_f]
    refine Ans.bsome ?_
    cases hk : ruleOk7 f1 f2 f3 f4 f5 f6 with
    | true =>
      refine Ans.pos rfl (Ans.bsome ?_)
      rw [implRulRead_f (Nat.le_trans (rtext_size _ _ _ _ _ _ _) (by decide)), read_text hk]
      refine Ans.bsome (Ans.pos rfl (Ans.pure ?_))
      simp
    | false =>
      refine Ans.neg (by simp) (Ans.bsome (Ans.pos ?_ ?_))
      · unfold rtext; rw [hk]; rw [if_neg (by simp)]; rw [ByteArray.toList_eq]
      · rw [haOk_f]
        exact Ans.bsome (Ans.pure rfl)
  have J1 : ∀ (s : ByteArray) (o : Bool) (f0 : Bool) (f1 f2 f3 f4 f5 f6 : Int) (g0 : Bool) (g1 g2 g3 g4 g5 g6 : Int), (o = true → ruleOk7 g1 g2 g3 g4 g5 g6 = true ∧ rtext g0 g1 g2 g3 g4 g5 g6 = s) →
      Ans (fun k => laws_FnRulText.j1 k s o false f0 f1 f2 f3 f4 f5 f6 g0 g1 g2 g3 g4 g5 g6) (fun r => r = true) := by
    intro s o f0 f1 f2 f3 f4 f5 f6 g0 g1 g2 g3 g4 g5 g6 ho
    refine Ans.succ ?_
    unfold laws_FnRulText.j1
    refine Ans.neg (by simp) ?_
    cases o with
    | false => exact Ans.neg (by simp) (J2 _ _ _ _ _ _ _)
    | true =>
      obtain ⟨hk, ht⟩ := ho rfl
      refine Ans.pos rfl ?_
      rw [RulOk7_f, hk, implRulText_f, ht]
      refine Ans.bsome (Ans.pos rfl (Ans.bsome ?_))
      have e : (s.toList != s.toList) = false := by simp
      rw [e]
      exact J2 _ _ _ _ _ _ _
  have J0 : ∀ c : Bool, Ans (fun k => laws_FnRulText.j0 k l0 l1 c) (fun r => r = true) := by
    intro c
    refine Ans.succ ?_
    unfold laws_FnRulText.j0
    refine Ans.ite (fun _ => Ans.pure rfl) (fun _ => ?_)
    refine Ans.bind (drawRulText_a hb0) ?_
    rintro ⟨f0, f1, f2, f3, f4, f5, f6⟩ _
    refine Ans.bind (drawRulRead_a hb1) ?_
    intro s hs
    rw [implRulRead_f hs]
    obtain ⟨g0, g1, g2, g3, g4, g5, g6, o, er, ho⟩ := read_ok s
    rw [er]
    refine Ans.bsome ?_
    refine Ans.bind (specRulRead_a s hs) ?_
    rintro v hv
    rw [er] at hv
    subst hv
    simp only
    rw [implRulText_f]
    refine Ans.bsome ?_
    refine Ans.bind (specRulText_a _ _ _ _ _ _ _) ?_
    rintro v rfl
    refine Ans.pos rfl ?_
    refine Ans.neg (by simp) (Ans.neg (by simp) ?_)
    rw [RulOk7_f, specRulOk_f]
    refine Ans.bsome (Ans.bsome ?_)
    rw [bne_self_eq_false]
    exact J1 s o _ _ _ _ _ _ _ _ _ _ _ _ _ _ ho
  have A : Ans (fun k => laws_FnRulText.f k l0 l1) (fun r => r = true) := by
    unfold laws_FnRulText.f
    exact Ans.ite (fun _ => J0 _) (fun _ => J0 _)
  obtain ⟨k, v, rfl, h⟩ := A.got
  exact ⟨k, h⟩
end Go.Proofs.YtiocgkggegahhaaDoor.P

namespace Go.Proofs.YtiocgkggegahhaaDoor.Pure
theorem FnRulText : P.laws_FnRulText.Pure := P.laws_FnRulText.pure
end Go.Proofs.YtiocgkggegahhaaDoor.Pure
