/- What ends, ports and rules are, in plain words; what the printed functions on them answer. -/
import Derived.Test.YtiocgkggegahhaaP0
import Derived.Test.YtiocgkggegahhaaF12
import Derived.Test.YtiocgkggegahhaaF65
import Derived.Test.YtiocgkggegahhaaF89
namespace Go.Proofs.Ytiocgkggegahhaa.P
open Go.RowKit Go.Proofs.YtiocgkggegahhaaW.PrintWords Go.Proofs.YtiocgkggegahhaaW.PrintLast Go.Proofs.YtiocgkggegahhaaW.PrintMore
set_option linter.unusedVariables false
set_option linter.unusedSimpArgs false

def inB (n lo hi : Int) : Bool := decide (lo ≤ n) && decide (n ≤ hi)
theorem within_f (n lo hi : Int) : impl_within.f n lo hi = some (inB n lo hi) := by
  unfold impl_within.f inB
  by_cases h : lo ≤ n <;> simp [h]
theorem inside_f (n : Int) : impl_inside.f n = some (inB n 1 9) := by unfold impl_inside.f; rw [within_f]; rfl
theorem outside_f (n : Int) : impl_outside.f n = some (inB n 100 109) := by unfold impl_outside.f; rw [within_f]; rfl
theorem portOk_f (n : Int) : impl_portOk.f n = some (inB n 1 999) := by unfold impl_portOk.f; rw [within_f]; rfl
def endIn (a p : Int) : Bool := inB a 1 9 && inB p 1 999
def endOut (a p : Int) : Bool := inB a 100 109 && inB p 1 999
theorem EndInside_f (a p : Int) : impl_EndInside.f a p = some (endIn a p) := by
  unfold impl_EndInside.f endIn
  rw [inside_f, Option.bind_some]
  cases h : inB a 1 9 <;> simp [portOk_f]
theorem EndOutside_f (a p : Int) : impl_EndOutside.f a p = some (endOut a p) := by
  unfold impl_EndOutside.f endOut
  rw [outside_f, Option.bind_some]
  cases h : inB a 100 109 <;> simp [portOk_f]
/-- Is a rule ok? -/
def ruleOk (x : S24) : Bool := inB x.f1 1 9 && inB x.f2 1 9 && decide (x.f1 ≤ x.f2) && inB x.f3 100 109 && inB x.f4 100 109 && decide (x.f3 ≤ x.f4) && inB x.f5 1 999 && inB x.f6 1 999 && decide (x.f5 ≤ x.f6)
theorem RulOk_f (x : S24) : impl_RulOk.f x.f0 x.f1 x.f2 x.f3 x.f4 x.f5 x.f6 = some (ruleOk x) := by
  unfold impl_RulOk.f ruleOk
  simp only [inside_f, outside_f, portOk_f, Option.bind_some]
  cases inB x.f1 1 9 <;> cases inB x.f2 1 9 <;> cases inB x.f3 100 109 <;> cases inB x.f4 100 109 <;> cases inB x.f5 1 999 <;> cases inB x.f6 1 999 <;> by_cases h1 : x.f1 ≤ x.f2 <;> by_cases h2 : x.f3 ≤ x.f4 <;> simp [h1, h2]
/-- Is a rule about two ends? -/
def fits (x : S24) (a b c : Int) : Bool := inB a x.f1 x.f2 && inB b x.f3 x.f4 && inB c x.f5 x.f6
/-- May the two send to each other? -/
def mayL (l : List S24) (a b c : Int) : Bool := match l with
  | [] => true
  | x :: r => if fits x a b c then x.f0 else mayL r a b c
end Go.Proofs.Ytiocgkggegahhaa.P
