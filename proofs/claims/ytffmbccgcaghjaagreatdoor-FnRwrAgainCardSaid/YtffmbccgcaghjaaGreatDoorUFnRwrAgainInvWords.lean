import Derived.Test.YtffmbccgcaghjaaGreatDoorUFnRwrAgainInv
import Derived.Test.YtffmbccgcaghjaaGreatDoorUFnRwrAgainFootNe
namespace Go.Proofs.YtffmbccgcaghjaaGreatDoorUFnRwrAgain.PrintWords
open Go.RowKit
end Go.Proofs.YtffmbccgcaghjaaGreatDoorUFnRwrAgain.PrintWords
namespace Go.Proofs.YtffmbccgcaghjaaGreatDoorUFnRwrAgain.PrintLast
section
variable {ops : Array Oper} {a : Act} {o og : Oper} {g : Nat} {t : Tmp} {u : Bool}
end
end Go.Proofs.YtffmbccgcaghjaaGreatDoorUFnRwrAgain.PrintLast
