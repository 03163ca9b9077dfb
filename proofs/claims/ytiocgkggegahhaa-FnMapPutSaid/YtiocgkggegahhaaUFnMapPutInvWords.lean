import Derived.Test.YtiocgkggegahhaaUFnMapPutInv
import Derived.Test.YtiocgkggegahhaaUFnMapPutFootNe
namespace Go.Proofs.YtiocgkggegahhaaUFnMapPut.PrintWords
open Go.RowKit
end Go.Proofs.YtiocgkggegahhaaUFnMapPut.PrintWords
namespace Go.Proofs.YtiocgkggegahhaaUFnMapPut.PrintLast
section
variable {ops : Array Oper} {a : Act} {o og : Oper} {g : Nat} {t : Tmp} {u : Bool}
end
end Go.Proofs.YtiocgkggegahhaaUFnMapPut.PrintLast
