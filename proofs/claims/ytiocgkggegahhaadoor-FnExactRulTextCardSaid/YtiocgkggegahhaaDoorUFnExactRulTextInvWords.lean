import Derived.Test.YtiocgkggegahhaaDoorUFnExactRulTextInv
import Derived.Test.YtiocgkggegahhaaDoorUFnExactRulTextFootNe
namespace Go.Proofs.YtiocgkggegahhaaDoorUFnExactRulText.PrintWords
open Go.RowKit
end Go.Proofs.YtiocgkggegahhaaDoorUFnExactRulText.PrintWords
namespace Go.Proofs.YtiocgkggegahhaaDoorUFnExactRulText.PrintLast
section
variable {ops : Array Oper} {a : Act} {o og : Oper} {g : Nat} {t : Tmp} {u : Bool}
end
end Go.Proofs.YtiocgkggegahhaaDoorUFnExactRulText.PrintLast
