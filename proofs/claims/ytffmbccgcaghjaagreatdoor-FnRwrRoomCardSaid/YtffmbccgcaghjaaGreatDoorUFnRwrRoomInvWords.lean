import Derived.Test.YtffmbccgcaghjaaGreatDoorUFnRwrRoomInv
import Derived.Test.YtffmbccgcaghjaaGreatDoorUFnRwrRoomFootNe
namespace Go.Proofs.YtffmbccgcaghjaaGreatDoorUFnRwrRoom.PrintWords
open Go.RowKit
end Go.Proofs.YtffmbccgcaghjaaGreatDoorUFnRwrRoom.PrintWords
namespace Go.Proofs.YtffmbccgcaghjaaGreatDoorUFnRwrRoom.PrintLast
section
variable {ops : Array Oper} {a : Act} {o og : Oper} {g : Nat} {t : Tmp} {u : Bool}
end
end Go.Proofs.YtffmbccgcaghjaaGreatDoorUFnRwrRoom.PrintLast
