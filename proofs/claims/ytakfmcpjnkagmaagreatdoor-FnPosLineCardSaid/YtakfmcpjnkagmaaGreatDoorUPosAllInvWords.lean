import Derived.Test.YtakfmcpjnkagmaaGreatDoorUPosAllInv
import Derived.Test.YtakfmcpjnkagmaaGreatDoorUPosAllFootNe
namespace Go.Proofs.YtakfmcpjnkagmaaGreatDoorUPosAll.PrintWords
open Go.RowKit
end Go.Proofs.YtakfmcpjnkagmaaGreatDoorUPosAll.PrintWords
namespace Go.Proofs.YtakfmcpjnkagmaaGreatDoorUPosAll.PrintLast
section
variable {ops : Array Oper} {a : Act} {o og : Oper} {g : Nat} {t : Tmp} {u : Bool}
end
end Go.Proofs.YtakfmcpjnkagmaaGreatDoorUPosAll.PrintLast
