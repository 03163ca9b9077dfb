import Derived.Test.YtakfmcpjnkagmaaGreatDoorUFnExactPosOutInv
import Derived.Test.YtakfmcpjnkagmaaGreatDoorUFnExactPosOutFootNe
namespace Go.Proofs.YtakfmcpjnkagmaaGreatDoorUFnExactPosOut.PrintWords
open Go.RowKit
end Go.Proofs.YtakfmcpjnkagmaaGreatDoorUFnExactPosOut.PrintWords
namespace Go.Proofs.YtakfmcpjnkagmaaGreatDoorUFnExactPosOut.PrintLast
section
variable {ops : Array Oper} {a : Act} {o og : Oper} {g : Nat} {t : Tmp} {u : Bool}
end
end Go.Proofs.YtakfmcpjnkagmaaGreatDoorUFnExactPosOut.PrintLast
