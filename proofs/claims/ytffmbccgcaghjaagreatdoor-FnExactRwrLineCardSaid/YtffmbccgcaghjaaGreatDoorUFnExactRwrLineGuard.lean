import Derived.Test.YtffmbccgcaghjaaGreatDoorUFnExactRwrLineWords
namespace Go.Proofs.YtffmbccgcaghjaaGreatDoorUFnExactRwrLine.PrintWords
open Go.RowKit
section
variable {P : Program} {ops : Array Oper} {rest : List Oper} {o : Oper} {a : Act} {Q : Exit → Act → World → Prop} {W : World}
end
end Go.Proofs.YtffmbccgcaghjaaGreatDoorUFnExactRwrLine.PrintWords
