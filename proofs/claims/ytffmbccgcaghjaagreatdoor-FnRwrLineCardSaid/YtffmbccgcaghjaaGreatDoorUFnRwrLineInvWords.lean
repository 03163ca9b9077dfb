import Derived.Test.YtffmbccgcaghjaaGreatDoorUFnRwrLineInv
import Derived.Test.YtffmbccgcaghjaaGreatDoorUFnRwrLineFootNe
namespace Go.Proofs.YtffmbccgcaghjaaGreatDoorUFnRwrLine.PrintWords
open Go.RowKit
end Go.Proofs.YtffmbccgcaghjaaGreatDoorUFnRwrLine.PrintWords
namespace Go.Proofs.YtffmbccgcaghjaaGreatDoorUFnRwrLine.PrintLast
section
variable {ops : Array Oper} {a : Act} {o og : Oper} {g : Nat} {t : Tmp} {u : Bool}
end
end Go.Proofs.YtffmbccgcaghjaaGreatDoorUFnRwrLine.PrintLast
