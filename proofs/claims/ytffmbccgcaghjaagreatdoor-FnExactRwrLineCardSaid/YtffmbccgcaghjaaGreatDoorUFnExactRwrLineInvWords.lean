import Derived.Test.YtffmbccgcaghjaaGreatDoorUFnExactRwrLineInv
import Derived.Test.YtffmbccgcaghjaaGreatDoorUFnExactRwrLineFootNe
namespace Go.Proofs.YtffmbccgcaghjaaGreatDoorUFnExactRwrLine.PrintWords
open Go.RowKit
end Go.Proofs.YtffmbccgcaghjaaGreatDoorUFnExactRwrLine.PrintWords
namespace Go.Proofs.YtffmbccgcaghjaaGreatDoorUFnExactRwrLine.PrintLast
section
variable {ops : Array Oper} {a : Act} {o og : Oper} {g : Nat} {t : Tmp} {u : Bool}
end
end Go.Proofs.YtffmbccgcaghjaaGreatDoorUFnExactRwrLine.PrintLast
