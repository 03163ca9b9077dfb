import Derived.Test.YtiocgkggegahhaaUFnExactBoxNewInv
import Derived.Test.YtiocgkggegahhaaUFnExactBoxNewFootNe
namespace Go.Proofs.YtiocgkggegahhaaUFnExactBoxNew.PrintWords
open Go.RowKit
end Go.Proofs.YtiocgkggegahhaaUFnExactBoxNew.PrintWords
namespace Go.Proofs.YtiocgkggegahhaaUFnExactBoxNew.PrintLast
section
variable {ops : Array Oper} {a : Act} {o og : Oper} {g : Nat} {t : Tmp} {u : Bool}
end
end Go.Proofs.YtiocgkggegahhaaUFnExactBoxNew.PrintLast
