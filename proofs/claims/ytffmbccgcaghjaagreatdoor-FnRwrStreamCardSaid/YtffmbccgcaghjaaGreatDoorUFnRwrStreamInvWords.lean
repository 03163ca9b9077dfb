import Derived.Test.YtffmbccgcaghjaaGreatDoorUFnRwrStreamInv
import Derived.Test.YtffmbccgcaghjaaGreatDoorUFnRwrStreamFootNe
namespace Go.Proofs.YtffmbccgcaghjaaGreatDoorUFnRwrStream.PrintWords
open Go.RowKit
end Go.Proofs.YtffmbccgcaghjaaGreatDoorUFnRwrStream.PrintWords
namespace Go.Proofs.YtffmbccgcaghjaaGreatDoorUFnRwrStream.PrintLast
section
variable {ops : Array Oper} {a : Act} {o og : Oper} {g : Nat} {t : Tmp} {u : Bool}
end
end Go.Proofs.YtffmbccgcaghjaaGreatDoorUFnRwrStream.PrintLast
