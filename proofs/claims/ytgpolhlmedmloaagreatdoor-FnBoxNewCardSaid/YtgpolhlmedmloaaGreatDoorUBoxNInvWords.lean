import Derived.Test.YtgpolhlmedmloaaGreatDoorUBoxNInv
import Derived.Test.YtgpolhlmedmloaaGreatDoorUBoxNFootNe
namespace Go.Proofs.YtgpolhlmedmloaaGreatDoorUBoxN.PrintWords
open Go.RowKit
end Go.Proofs.YtgpolhlmedmloaaGreatDoorUBoxN.PrintWords
namespace Go.Proofs.YtgpolhlmedmloaaGreatDoorUBoxN.PrintLast
section
variable {ops : Array Oper} {a : Act} {o og : Oper} {g : Nat} {t : Tmp} {u : Bool}
end
end Go.Proofs.YtgpolhlmedmloaaGreatDoorUBoxN.PrintLast
