import Derived.Test.YtgpolhlmedmloaaGreatDoorUBoxETab
namespace Go.Proofs.YtgpolhlmedmloaaGreatDoorUBoxE.PrintLast
section
variable {P : Program} {ops : Array Oper} {Q : Exit → Act → World → Prop} {md : Region.Mode} {S : World → Prop} {ds : List Nat} {T : Bool × List (List Nat × List Nat)}
end
end Go.Proofs.YtgpolhlmedmloaaGreatDoorUBoxE.PrintLast
