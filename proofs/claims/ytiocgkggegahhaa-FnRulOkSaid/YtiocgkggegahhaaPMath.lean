/- What the reader of drawn bytes answers: one pick, one drawn rule. -/
import Derived.Test.YtiocgkggegahhaaF11
import Derived.Test.YtiocgkggegahhaaP0
namespace Go.Proofs.Ytiocgkggegahhaa.P
open Go.RowKit Go.Proofs.YtiocgkggegahhaaW.PrintWords Go.Proofs.YtiocgkggegahhaaW.PrintLast Go.Proofs.YtiocgkggegahhaaW.PrintMore
set_option linter.unusedVariables false
set_option linter.unusedSimpArgs false
theorem i64_xor_nat (a b : Nat) (ha : a < 2 ^ 62) (hb : b < 2 ^ 62) : Go.bits .xor .i64 (a : Int) (b : Int) = ((a ^^^ b : Nat) : Int) := by
  have hx : a ^^^ b < 2 ^ 62 := Nat.xor_lt_two_pow ha hb
  show IntKind.i64.wrap ((BitVec.ofInt 64 (a : Int) ^^^ BitVec.ofInt 64 (b : Int)).toNat : Int) = _
  have e : ∀ n : Nat, n < 2 ^ 62 → (BitVec.ofInt 64 (n : Int)).toNat = n := by
    intro n hn
    rw [BitVec.ofInt_natCast, BitVec.toNat_ofNat]; exact Nat.mod_eq_of_lt (by omega)
  rw [BitVec.toNat_xor, e a ha, e b hb]
  rw [i64_w]; unfold wrap64; omega
theorem i64_xor_nonneg (a b : Int) (h1 : 0 ≤ a) (h2 : a < 2 ^ 62) (h3 : 0 ≤ b) (h4 : b < 2 ^ 62) : 0 ≤ Go.bits .xor .i64 a b := by
  obtain ⟨A, rfl⟩ := Int.eq_ofNat_of_zero_le h1
  obtain ⟨B, rfl⟩ := Int.eq_ofNat_of_zero_le h3
  rw [i64_xor_nat A B (by omega) (by omega)]
  omega
theorem w64 (n : Int) (h : -9223372036854775808 ≤ n ∧ n ≤ 9223372036854775807) : wrap64 n = n := by unfold wrap64; omega
/-- Every byte of the list. -/
def Bys (l : List Int) : Prop := ∀ x ∈ l, 0 ≤ x ∧ x ≤ 255
theorem rd_bys {l : List Int} (h : Bys l) (i : Int) : 0 ≤ rd l i ∧ rd l i ≤ 255 := by
  unfold rd
  by_cases hi : i.toNat < l.length
  · have e : l.getD i.toNat 0 = l[i.toNat] := by simp [List.getD, hi]
    rw [e]; exact h _ (List.getElem_mem hi)
  · have e : l.getD i.toNat 0 = 0 := by simp [List.getD, Nat.not_lt.mp hi]
    rw [e]; omega
theorem tmod_in {a n : Int} (ha : 0 ≤ a) (hn : 1 ≤ n) : 0 ≤ Int.tmod a n ∧ Int.tmod a n < n := by
  rw [Int.tmod_eq_emod_of_nonneg ha]
  exact ⟨Int.emod_nonneg _ (by omega), Int.emod_lt_of_pos _ (by omega)⟩
theorem tdiv_in {a n : Int} (ha : 0 ≤ a) (hn : 1 ≤ n) : 0 ≤ Int.tdiv a n ∧ Int.tdiv a n ≤ a := by
  rw [Int.tdiv_eq_ediv_of_nonneg ha]
  exact ⟨Int.ediv_nonneg ha (by omega), Int.ediv_le_self _ ha⟩
/-- One pick: it answers, within its bound, and the place moves on by one. -/
theorem pick_f {l : List Int} (hl : Bys l) (s n : Int) (k : Nat) (hs : 0 ≤ s) (hs' : s < 1000000) : ∃ v, spec_l20Rd_pick.f (k + 1) l s n = some (v, s + 1) ∧ 0 ≤ v ∧ (v < n ∨ v = 0) := by
  unfold spec_l20Rd_pick.f spec_l20Rd_pick.j0
  dsimp only
  have e1 : wrap64 (s + 1) = s + 1 := w64 _ (by omega)
  have e2 : wrap64 (s + 1 - 1) = s := by rw [show s + 1 - 1 = s by omega]; exact w64 _ (by omega)
  by_cases c : n < 1
  · exact ⟨0, by simp [c, e1], by omega, .inr rfl⟩
  · rw [if_neg c, e1]
    simp only [e2]
    by_cases c0 : (l.length : Int) = 0
    · exact ⟨0, by simp [c0], by omega, .inr rfl⟩
    · have cb : ¬ (((l.length : Int) == 0) = true) := by simpa using c0
      have cn : ¬ (n = 0) := by omega
      rw [if_neg cb]
      by_cases c1 : s < (l.length : Int)
      · have hb := rd_bys hl s
        have hm := tmod_in hb.1 (show 1 ≤ n by omega)
        refine ⟨_, by rw [if_pos c1, if_pos hs, if_neg cn, w64 (rd l s) (by omega)], hm.1, .inl hm.2⟩
      · have hL : 1 ≤ (l.length : Int) := by omega
        have m1 := tmod_in hs hL
        have f1 : wrap64 (s * 7) = s * 7 := w64 _ (by omega)
        have f2 : wrap64 (s * 7 + 3) = s * 7 + 3 := w64 _ (by omega)
        have m2 := tmod_in (show 0 ≤ s * 7 + 3 by omega) hL
        rw [if_neg c1, if_neg c0, if_pos m1.1, if_pos m1.2]
        simp only [f1, f2]
        rw [if_pos m2.1, if_pos m2.2, if_neg cn]
        have r1 := rd_bys hl (Int.tmod s (l.length : Int))
        have r2 := rd_bys hl (Int.tmod (s * 7 + 3) (l.length : Int))
        have d1 := tdiv_in hs hL
        generalize rd l (Int.tmod s (l.length : Int)) = u1 at *
        generalize rd l (Int.tmod (s * 7 + 3) (l.length : Int)) = u2 at *
        generalize Int.tdiv s (l.length : Int) = u3 at *
        have g1 : wrap64 u1 = u1 := w64 _ (by omega)
        have g2 : wrap64 u2 = u2 := w64 _ (by omega)
        have g3 : wrap64 u3 = u3 := w64 _ (by omega)
        have g4 : wrap64 (u1 * 131) = u1 * 131 := w64 _ (by omega)
        have g5 : wrap64 (u2 * 1117) = u2 * 1117 := w64 _ (by omega)
        have g6 : wrap64 (s * 29) = s * 29 := w64 _ (by omega)
        have g7 : wrap64 (u3 * 53) = u3 * 53 := w64 _ (by omega)
        simp only [g1, g2, g3, g4, g5, g6, g7]
        have g8 : wrap64 (u1 * 131 + u2 * 1117) = u1 * 131 + u2 * 1117 := w64 _ (by omega)
        rw [g8]
        have g9 : wrap64 (u1 * 131 + u2 * 1117 + s * 29) = u1 * 131 + u2 * 1117 + s * 29 := w64 _ (by omega)
        rw [g9]
        have g10 : wrap64 (u1 * 131 + u2 * 1117 + s * 29 + u3 * 53) = u1 * 131 + u2 * 1117 + s * 29 + u3 * 53 := w64 _ (by omega)
        rw [g10]
        have hX0 : 0 ≤ u1 * 131 + u2 * 1117 + s * 29 + u3 * 53 := by omega
        have hX1 : u1 * 131 + u2 * 1117 + s * 29 + u3 * 53 < 1000000000 := by omega
        generalize u1 * 131 + u2 * 1117 + s * 29 + u3 * 53 = X at *
        have d2 := tdiv_in hX0 (show (1:Int) ≤ 64 by omega)
        have g11 : wrap64 (Int.tdiv X 64) = Int.tdiv X 64 := w64 _ (by omega)
        rw [g11]
        have hz := i64_xor_nonneg X (Int.tdiv X 64) hX0 (by omega) d2.1 (by omega)
        have hm := tmod_in hz (show 1 ≤ n by omega)
        exact ⟨_, rfl, hm.1, .inl hm.2⟩
theorem odd_f {l : List Int} (hl : Bys l) (s n : Int) (k : Nat) (hs : 0 ≤ s) (hs' : s < 1000000) : ∃ b s', spec_l20Rd_odd.f (k + 1) l s n = some (b, s') ∧ s ≤ s' ∧ s' ≤ s + 1 := by
  unfold spec_l20Rd_odd.f
  by_cases c : n < 9000
  · obtain ⟨v, h, _⟩ := pick_f hl s n k hs hs'
    exact ⟨_, s + 1, by rw [if_pos c, h]; rfl, by omega, by omega⟩
  · exact ⟨_, _, by rw [if_neg c], by omega, by omega⟩
theorem open_f (l : List Int) (hl : Bys l) : ∃ l', spec_l20Open.f l = some (l', 0) ∧ Bys l' := by
  unfold spec_l20Open.f
  by_cases c : (l.length : Int) > 2000
  · exact ⟨l.take 2000, by rw [if_pos c, if_pos (by omega)], fun x h => hl x (List.mem_of_mem_take h)⟩
  · exact ⟨l, by rw [if_neg c], hl⟩

theorem rd_three (a b c i : Int) (h : 0 ≤ i ∧ (i < 3 ∨ i = 0)) : rd ([a, b, c] : List Int) i = a ∨ rd ([a, b, c] : List Int) i = b ∨ rd ([a, b, c] : List Int) i = c := by
  have : i = 0 ∨ i = 1 ∨ i = 2 := by omega
  rcases this with rfl | rfl | rfl
  · exact .inl rfl
  · exact .inr (.inl rfl)
  · exact .inr (.inr rfl)
theorem rd_two (a b i : Int) (h : 0 ≤ i ∧ (i < 2 ∨ i = 0)) : rd ([a, b] : List Int) i = a ∨ rd ([a, b] : List Int) i = b := by
  have : i = 0 ∨ i = 1 := by omega
  rcases this with rfl | rfl
  · exact .inl rfl
  · exact .inr rfl
/-- Small whole numbers. -/
def Sm (n : Int) : Prop := -10 ≤ n ∧ n ≤ 1200
/-- One drawn rule: it answers, and all numbers are small. -/
theorem rule_f {l : List Int} (hl : Bys l) (s n : Int) (k : Nat) (hs : 0 ≤ s) (hs' : s < 900000) :
    ∃ b x1 x2 x3 x4 x5 x6 s', spec_l20Rule.f (k + 2) l s n = some (b, x1, x2, x3, x4, x5, x6, s') ∧ s ≤ s' ∧ s' ≤ s + 10 ∧ Sm x1 ∧ Sm x2 ∧ Sm x3 ∧ Sm x4 ∧ Sm x5 ∧ Sm x6 := by
  unfold spec_l20Rule.f
  obtain ⟨v0, h0, p0⟩ := pick_f hl s 2 (k + 1) hs (by omega)
  rw [h0, Option.bind_some]
  obtain ⟨v1, h1, p1⟩ := pick_f hl (s + 1) 4 (k + 1) (by omega) (by omega)
  dsimp only
  rw [h1, Option.bind_some]
  obtain ⟨v2, h2, p2⟩ := pick_f hl (s + 1 + 1) 4 (k + 1) (by omega) (by omega)
  dsimp only
  rw [h2, Option.bind_some, Option.bind_some]
  obtain ⟨v3, h3, p3⟩ := pick_f hl (s + 1 + 1 + 1) 3 (k + 1) (by omega) (by omega)
  dsimp only
  rw [h3, Option.bind_some]
  dsimp only
  rw [if_pos p3.1, if_pos (show v3 < (([1, 21, 7] : List Int).length : Int) by simp; omega)]
  obtain ⟨v4, h4, p4⟩ := pick_f hl (s + 1 + 1 + 1 + 1) 3 (k + 1) (by omega) (by omega)
  rw [h4, Option.bind_some]
  obtain ⟨v5, h5, p5⟩ := pick_f hl (s + 1 + 1 + 1 + 1 + 1) 3 (k + 1) (by omega) (by omega)
  dsimp only
  rw [h5, Option.bind_some, Option.bind_some]
  obtain ⟨v6, h6, p6⟩ := pick_f hl (s + 1 + 1 + 1 + 1 + 1 + 1) 3 (k + 1) (by omega) (by omega)
  dsimp only
  rw [h6, Option.bind_some]
  dsimp only
  have q3 := rd_three 1 21 7 v3 p3
  generalize rd ([1, 21, 7] : List Int) v3 = lo at *
  rw [if_pos p6.1, if_pos (show v6 < (([999, 21, lo] : List Int).length : Int) by simp; omega)]
  have q6 := rd_three 999 21 lo v6 p6
  generalize rd ([999, 21, lo] : List Int) v6 = hi at *
  have w1 : wrap64 (1 + v1) = 1 + v1 := w64 _ (by omega)
  have w2 : wrap64 (100 + v2) = 100 + v2 := w64 _ (by omega)
  have w3 : wrap64 (1 + v1 + v4) = 1 + v1 + v4 := w64 _ (by omega)
  have w4 : wrap64 (100 + v2 + v5) = 100 + v2 + v5 := w64 _ (by omega)
  rw [w1, w2, w3, w4]
  have J : ∀ (t : Int) (b : Bool) (x1 x2 x3 x4 x5 x6 : Int), s ≤ t → t ≤ s + 7 → Sm x1 → Sm x2 → Sm x3 → Sm x4 → Sm x5 → Sm x6 →
      ∃ b' x1' x2' x3' x4' x5' x6' s', spec_l20Rule.j0 (k + 2) n l t b x1 x2 x3 x4 x5 x6 = some (b', x1', x2', x3', x4', x5', x6', s') ∧ s ≤ s' ∧ s' ≤ s + 10 ∧ Sm x1' ∧ Sm x2' ∧ Sm x3' ∧ Sm x4' ∧ Sm x5' ∧ Sm x6' := by
    intro t b x1 x2 x3 x4 x5 x6 ht ht' m1 m2 m3 m4 m5 m6
    unfold spec_l20Rule.j0
    obtain ⟨o, t1, g0, u0, u0'⟩ := odd_f hl t n k (by omega) (by omega)
    dsimp only
    rw [g0, Option.bind_some]
    dsimp only
    by_cases c : o = true
    · rw [if_pos c]
      obtain ⟨a1, g1, z1⟩ := pick_f hl t1 4 k (by omega) (by omega)
      rw [g1, Option.bind_some]
      dsimp only
      by_cases c1 : a1 = 0
      · rw [if_pos c1, Option.bind_some]
        obtain ⟨a2, g2, z2⟩ := pick_f hl (t1 + 1) 3 k (by omega) (by omega)
        rw [g2, Option.bind_some]
        dsimp only
        rw [if_pos z2.1, if_pos (show a2 < (([0, 9, -1] : List Int).length : Int) by simp; omega)]
        have := rd_three 0 9 (-1) a2 z2
        refine ⟨_, _, _, _, _, _, _, _, rfl, by omega, by omega, ?_, m2, m3, m4, m5, m6⟩
        unfold Sm; omega
      · rw [if_neg c1]
        by_cases c2 : a1 = 1
        · rw [if_pos c2, Option.bind_some]
          obtain ⟨a2, g2, z2⟩ := pick_f hl (t1 + 1) 2 k (by omega) (by omega)
          rw [g2, Option.bind_some]
          dsimp only
          rw [if_pos z2.1, if_pos (show a2 < (([110, 99] : List Int).length : Int) by simp; omega)]
          have := rd_two 110 99 a2 z2
          refine ⟨_, _, _, _, _, _, _, _, rfl, by omega, by omega, m1, m2, m3, ?_, m5, m6⟩
          unfold Sm; omega
        · rw [if_neg c2]
          by_cases c3 : a1 = 2
          · rw [if_pos c3, Option.bind_some]
            obtain ⟨a2, g2, z2⟩ := pick_f hl (t1 + 1) 2 k (by omega) (by omega)
            rw [g2, Option.bind_some]
            dsimp only
            rw [if_pos z2.1, if_pos (show a2 < (([0, 1000] : List Int).length : Int) by simp; omega)]
            have := rd_two 0 1000 a2 z2
            refine ⟨_, _, _, _, _, _, _, _, rfl, by omega, by omega, m1, m2, m3, m4, m5, ?_⟩
            unfold Sm; omega
          · rw [if_neg c3]
            exact ⟨_, _, _, _, _, _, _, _, rfl, by omega, by omega, m1, by unfold Sm; omega, m3, m4, m5, m6⟩
    · rw [if_neg c]
      exact ⟨_, _, _, _, _, _, _, _, rfl, by omega, by omega, m1, m2, m3, m4, m5, m6⟩
  have n1 : Sm (1 + v1) := by unfold Sm; omega
  have n2 : Sm (1 + v1 + v4) := by unfold Sm; omega
  have n3 : Sm (100 + v2) := by unfold Sm; omega
  have n4 : Sm (100 + v2 + v5) := by unfold Sm; omega
  have n5 : Sm lo := by unfold Sm; omega
  have n6 : Sm hi := by unfold Sm; omega
  by_cases c : hi < lo
  · rw [if_pos c]
    exact J _ _ _ _ _ _ _ _ (by omega) (by omega) n1 n2 n3 n4 n5 n5
  · rw [if_neg c]
    exact J _ _ _ _ _ _ _ _ (by omega) (by omega) n1 n2 n3 n4 n5 n6
end Go.Proofs.Ytiocgkggegahhaa.P
