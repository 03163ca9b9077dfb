import Derived.Test.YtffmbccgcaghjaaGreatDoorUFnRwrJoinInv
import Derived.Test.YtffmbccgcaghjaaGreatDoorUFnRwrJoinFootNe
namespace Go.Proofs.YtffmbccgcaghjaaGreatDoorUFnRwrJoin.PrintWords
open Go.RowKit
end Go.Proofs.YtffmbccgcaghjaaGreatDoorUFnRwrJoin.PrintWords
namespace Go.Proofs.YtffmbccgcaghjaaGreatDoorUFnRwrJoin.PrintLast
section
variable {ops : Array Oper} {a : Act} {o og : Oper} {g : Nat} {t : Tmp} {u : Bool}
end
end Go.Proofs.YtffmbccgcaghjaaGreatDoorUFnRwrJoin.PrintLast
