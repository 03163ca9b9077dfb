import Derived.Test.YtgpolhlmedmloaaGreatDoorUBoxEInv
import Derived.Test.YtgpolhlmedmloaaGreatDoorUBoxEFootNe
namespace Go.Proofs.YtgpolhlmedmloaaGreatDoorUBoxE.PrintWords
open Go.RowKit
end Go.Proofs.YtgpolhlmedmloaaGreatDoorUBoxE.PrintWords
namespace Go.Proofs.YtgpolhlmedmloaaGreatDoorUBoxE.PrintLast
section
variable {ops : Array Oper} {a : Act} {o og : Oper} {g : Nat} {t : Tmp} {u : Bool}
end
end Go.Proofs.YtgpolhlmedmloaaGreatDoorUBoxE.PrintLast
