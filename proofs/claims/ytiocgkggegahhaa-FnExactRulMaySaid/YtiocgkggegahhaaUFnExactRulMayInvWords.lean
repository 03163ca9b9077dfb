import Derived.Test.YtiocgkggegahhaaUFnExactRulMayInv
import Derived.Test.YtiocgkggegahhaaUFnExactRulMayFootNe
namespace Go.Proofs.YtiocgkggegahhaaUFnExactRulMay.PrintWords
open Go.RowKit
end Go.Proofs.YtiocgkggegahhaaUFnExactRulMay.PrintWords
namespace Go.Proofs.YtiocgkggegahhaaUFnExactRulMay.PrintLast
section
variable {ops : Array Oper} {a : Act} {o og : Oper} {g : Nat} {t : Tmp} {u : Bool}
end
end Go.Proofs.YtiocgkggegahhaaUFnExactRulMay.PrintLast
