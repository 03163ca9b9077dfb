import Derived.Test.YtffmbccgcaghjaaGreatDoorUFnExactRwrStreamInv
import Derived.Test.YtffmbccgcaghjaaGreatDoorUFnExactRwrStreamFootNe
namespace Go.Proofs.YtffmbccgcaghjaaGreatDoorUFnExactRwrStream.PrintWords
open Go.RowKit
end Go.Proofs.YtffmbccgcaghjaaGreatDoorUFnExactRwrStream.PrintWords
namespace Go.Proofs.YtffmbccgcaghjaaGreatDoorUFnExactRwrStream.PrintLast
section
variable {ops : Array Oper} {a : Act} {o og : Oper} {g : Nat} {t : Tmp} {u : Bool}
end
end Go.Proofs.YtffmbccgcaghjaaGreatDoorUFnExactRwrStream.PrintLast
