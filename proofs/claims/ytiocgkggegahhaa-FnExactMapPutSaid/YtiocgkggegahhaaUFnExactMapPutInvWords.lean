import Derived.Test.YtiocgkggegahhaaUFnExactMapPutInv
import Derived.Test.YtiocgkggegahhaaUFnExactMapPutFootNe
namespace Go.Proofs.YtiocgkggegahhaaUFnExactMapPut.PrintWords
open Go.RowKit
end Go.Proofs.YtiocgkggegahhaaUFnExactMapPut.PrintWords
namespace Go.Proofs.YtiocgkggegahhaaUFnExactMapPut.PrintLast
section
variable {ops : Array Oper} {a : Act} {o og : Oper} {g : Nat} {t : Tmp} {u : Bool}
end
end Go.Proofs.YtiocgkggegahhaaUFnExactMapPut.PrintLast
