import Derived.Test.YtakfmcpjnkagmaaGreatDoorUPoSpInv
import Derived.Test.YtakfmcpjnkagmaaGreatDoorUPoSpFootNe
namespace Go.Proofs.YtakfmcpjnkagmaaGreatDoorUPoSp.PrintWords
open Go.RowKit
end Go.Proofs.YtakfmcpjnkagmaaGreatDoorUPoSp.PrintWords
namespace Go.Proofs.YtakfmcpjnkagmaaGreatDoorUPoSp.PrintLast
section
variable {ops : Array Oper} {a : Act} {o og : Oper} {g : Nat} {t : Tmp} {u : Bool}
end
end Go.Proofs.YtakfmcpjnkagmaaGreatDoorUPoSp.PrintLast
