import Derived.Test.YtakfmcpjnkagmaaGreatDoorUFnExactPosBackInv
import Derived.Test.YtakfmcpjnkagmaaGreatDoorUFnExactPosBackFootNe
namespace Go.Proofs.YtakfmcpjnkagmaaGreatDoorUFnExactPosBack.PrintWords
open Go.RowKit
end Go.Proofs.YtakfmcpjnkagmaaGreatDoorUFnExactPosBack.PrintWords
namespace Go.Proofs.YtakfmcpjnkagmaaGreatDoorUFnExactPosBack.PrintLast
section
variable {ops : Array Oper} {a : Act} {o og : Oper} {g : Nat} {t : Tmp} {u : Bool}
end
end Go.Proofs.YtakfmcpjnkagmaaGreatDoorUFnExactPosBack.PrintLast
