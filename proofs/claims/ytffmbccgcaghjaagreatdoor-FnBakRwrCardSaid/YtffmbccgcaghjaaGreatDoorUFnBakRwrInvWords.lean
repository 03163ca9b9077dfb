import Derived.Test.YtffmbccgcaghjaaGreatDoorUFnBakRwrInv
import Derived.Test.YtffmbccgcaghjaaGreatDoorUFnBakRwrFootNe
namespace Go.Proofs.YtffmbccgcaghjaaGreatDoorUFnBakRwr.PrintWords
open Go.RowKit
end Go.Proofs.YtffmbccgcaghjaaGreatDoorUFnBakRwr.PrintWords
namespace Go.Proofs.YtffmbccgcaghjaaGreatDoorUFnBakRwr.PrintLast
section
variable {ops : Array Oper} {a : Act} {o og : Oper} {g : Nat} {t : Tmp} {u : Bool}
end
end Go.Proofs.YtffmbccgcaghjaaGreatDoorUFnBakRwr.PrintLast
