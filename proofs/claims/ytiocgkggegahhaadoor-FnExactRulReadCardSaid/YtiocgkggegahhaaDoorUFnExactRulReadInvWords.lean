import Derived.Test.YtiocgkggegahhaaDoorUFnExactRulReadInv
import Derived.Test.YtiocgkggegahhaaDoorUFnExactRulReadFootNe
namespace Go.Proofs.YtiocgkggegahhaaDoorUFnExactRulRead.PrintWords
open Go.RowKit
end Go.Proofs.YtiocgkggegahhaaDoorUFnExactRulRead.PrintWords
namespace Go.Proofs.YtiocgkggegahhaaDoorUFnExactRulRead.PrintLast
section
variable {ops : Array Oper} {a : Act} {o og : Oper} {g : Nat} {t : Tmp} {u : Bool}
end
end Go.Proofs.YtiocgkggegahhaaDoorUFnExactRulRead.PrintLast
