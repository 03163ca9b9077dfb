import Derived.Test.YtiocgkggegahhaaUInv
import Derived.Test.YtiocgkggegahhaaUFootNe
namespace Go.Proofs.YtiocgkggegahhaaU.PrintWords
open Go.RowKit
end Go.Proofs.YtiocgkggegahhaaU.PrintWords
namespace Go.Proofs.YtiocgkggegahhaaU.PrintLast
section
variable {ops : Array Oper} {a : Act} {o og : Oper} {g : Nat} {t : Tmp} {u : Bool}
end
end Go.Proofs.YtiocgkggegahhaaU.PrintLast
