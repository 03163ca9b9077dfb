import Derived.Test.YtiocgkggegahhaaDoorUFnRulTextInv
import Derived.Test.YtiocgkggegahhaaDoorUFnRulTextFootNe
namespace Go.Proofs.YtiocgkggegahhaaDoorUFnRulText.PrintWords
open Go.RowKit
end Go.Proofs.YtiocgkggegahhaaDoorUFnRulText.PrintWords
namespace Go.Proofs.YtiocgkggegahhaaDoorUFnRulText.PrintLast
section
variable {ops : Array Oper} {a : Act} {o og : Oper} {g : Nat} {t : Tmp} {u : Bool}
end
end Go.Proofs.YtiocgkggegahhaaDoorUFnRulText.PrintLast
