/- The plain law of FnRulOk: what the printed law computes is true. -/
import Derived.Test.YtiocgkggegahhaaPMath
import Derived.Test.YtiocgkggegahhaaF3
namespace Go.Proofs.Ytiocgkggegahhaa.P
open Go.RowKit Go.Proofs.YtiocgkggegahhaaW.PrintWords Go.Proofs.YtiocgkggegahhaaW.PrintLast Go.Proofs.YtiocgkggegahhaaW.PrintMore
set_option linter.unusedVariables false
set_option linter.unusedSimpArgs false
theorem DrawRulOk_f {l : List Int} (hl : Bys l) (k : Nat) :
    ∃ b x1 x2 x3 x4 x5 x6, spec_DrawRulOk.f (k + 2) l = some (b, x1, x2, x3, x4, x5, x6) ∧ Sm x1 ∧ Sm x2 ∧ Sm x3 ∧ Sm x4 ∧ Sm x5 ∧ Sm x6 := by
  unfold spec_DrawRulOk.f
  obtain ⟨l', h, hl'⟩ := open_f l hl
  rw [h, Option.bind_some]
  obtain ⟨b, x1, x2, x3, x4, x5, x6, s', h1, _, _, m1, m2, m3, m4, m5, m6⟩ := rule_f hl' 0 2 k (by omega) (by omega)
  dsimp only
  rw [h1, Option.bind_some]
  exact ⟨_, _, _, _, _, _, _, rfl, m1, m2, m3, m4, m5, m6⟩
theorem l1In_f (n lo hi : Int) : spec_l1In.f n lo hi = some (inB n lo hi) := by
  unfold spec_l1In.f inB
  by_cases h : lo ≤ n <;> simp [h]
theorem ruleOk_iff (x : S24) : ruleOk x = true ↔ (1 ≤ x.f1 ∧ x.f1 ≤ x.f2 ∧ x.f2 ≤ 9 ∧ 100 ≤ x.f3 ∧ x.f3 ≤ x.f4 ∧ x.f4 ≤ 109 ∧ 1 ≤ x.f5 ∧ x.f5 ≤ x.f6 ∧ x.f6 ≤ 999) := by
  simp only [ruleOk, inB, Bool.and_eq_true, decide_eq_true_eq]
  omega
theorem specRulOk_f (x : S24) : spec_RulOk.f x.f0 x.f1 x.f2 x.f3 x.f4 x.f5 x.f6 = some (ruleOk x) := by
  unfold spec_RulOk.f
  simp only [l1In_f, Option.bind_some]
  have e : ruleOk x = (inB x.f1 1 x.f2 && decide (x.f2 ≤ 9) && inB x.f3 100 x.f4 && decide (x.f4 ≤ 109) && inB x.f5 1 x.f6 && decide (x.f6 ≤ 999)) := by
    rw [Bool.eq_iff_iff, ruleOk_iff]
    simp only [inB, Bool.and_eq_true, decide_eq_true_eq]
    omega
  rw [e]
  cases inB x.f1 1 x.f2 <;> cases inB x.f3 100 x.f4 <;> cases inB x.f5 1 x.f6 <;> by_cases h1 : x.f2 ≤ 9 <;> by_cases h2 : x.f4 ≤ 109 <;> simp [h1, h2]
theorem RulMay_one (x : S24) (a p b q : Int) (hx : ruleOk x = true) (h1 : endIn a p = true) (h2 : endOut b q = true) : impl_RulMay.f [x] a p b q = some (if fits x a b q then x.f0 else true) := by
  unfold impl_RulMay.f impl_rulesOk.f impl_may.f
  simp [hx, h1, h2, mayL]
theorem haOk_f : laws_haOk.f = some true := by
  unfold laws_haOk.f impl_LinOk.f
  rfl
theorem laws_FnRulOk.pure : laws_FnRulOk.Pure := by
  intro l hm _ hw
  refine ⟨2, ?_⟩
  unfold laws_FnRulOk.f
  by_cases c : (l.length : Int) > 1048576
  · rw [if_pos c]
  rw [if_neg c]
  have hl : Bys l := fun x hx => by have := hw x hx; simp [Lit.wf, IntKind.min, IntKind.max, IntKind.signed, IntKind.bits] at this; omega
  obtain ⟨b, x1, x2, x3, x4, x5, x6, h, m1, m2, m3, m4, m5, m6⟩ := DrawRulOk_f hl 0
  rw [h, Option.bind_some]
  dsimp only
  have r := fun (y1 y2 y3 y4 y5 y6 : Int) => RulOk_f ⟨b, y1, y2, y3, y4, y5, y6⟩
  have r' := fun (y1 y2 y3 y4 y5 y6 : Int) => specRulOk_f ⟨b, y1, y2, y3, y4, y5, y6⟩
  dsimp only at r r'
  simp only [r, r', Option.bind_some]
  have n1 : ∀ t : Bool, ((t != t) = true) = False := by intro t; cases t <;> simp
  simp only [n1, if_false]
  by_cases c2 : ruleOk ⟨b, x1, x2, x3, x4, x5, x6⟩ = true
  · rw [if_pos c2]
    have z := (ruleOk_iff _).mp c2
    dsimp only at z
    have e1 : ruleOk ⟨b, x2, x1, x3, x4, x5, x6⟩ = (x1 == x2) := by
      rw [Bool.eq_iff_iff, ruleOk_iff]; simp; omega
    have e2 : ruleOk ⟨b, x1, x2, x3, x4, x6, x5⟩ = (x5 == x6) := by
      rw [Bool.eq_iff_iff, ruleOk_iff]; simp; omega
    have e0 : ∀ t : Bool, (t != t) = false := by intro t; cases t <;> simp
    rw [e1, e2, e0, e0]
    rw [if_neg (by simp)]
    unfold laws_FnRulOk.j0
    dsimp only
    rw [if_neg (by simp), RulMay_one _ _ _ _ _ c2 (by simp [endIn, inB]; omega) (by simp [endOut, inB]; omega), Option.bind_some]
    have f1 : fits ⟨b, x1, x2, x3, x4, x5, x6⟩ x1 x4 x6 = true := by simp [fits, inB]; omega
    rw [f1]
    simp only [if_true, beq_self_eq_true]
    by_cases c3 : x6 = 999
    · rw [if_pos c3]
    · have w6 : wrap64 (x6 + 1) = x6 + 1 := w64 _ (by omega)
      rw [if_neg c3, w6, RulMay_one _ _ _ _ _ c2 (by simp [endIn, inB]; omega) (by simp [endOut, inB]; omega), Option.bind_some]
      have f2 : fits ⟨b, x1, x2, x3, x4, x5, x6⟩ x1 x4 (x6 + 1) = false := by simp [fits, inB]; omega
      rw [f2]
      rfl
  · rw [if_neg c2, haOk_f]
    rfl
end Go.Proofs.Ytiocgkggegahhaa.P
