import Derived.Test.YtffmbccgcaghjaaGreatDoorUFnRwrStaysInv
import Derived.Test.YtffmbccgcaghjaaGreatDoorUFnRwrStaysFootNe
namespace Go.Proofs.YtffmbccgcaghjaaGreatDoorUFnRwrStays.PrintWords
open Go.RowKit
end Go.Proofs.YtffmbccgcaghjaaGreatDoorUFnRwrStays.PrintWords
namespace Go.Proofs.YtffmbccgcaghjaaGreatDoorUFnRwrStays.PrintLast
section
variable {ops : Array Oper} {a : Act} {o og : Oper} {g : Nat} {t : Tmp} {u : Bool}
end
end Go.Proofs.YtffmbccgcaghjaaGreatDoorUFnRwrStays.PrintLast
