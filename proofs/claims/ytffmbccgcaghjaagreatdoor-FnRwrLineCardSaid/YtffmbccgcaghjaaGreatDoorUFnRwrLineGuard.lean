import Derived.Test.YtffmbccgcaghjaaGreatDoorUFnRwrLineWords
namespace Go.Proofs.YtffmbccgcaghjaaGreatDoorUFnRwrLine.PrintWords
open Go.RowKit
section
variable {P : Program} {ops : Array Oper} {rest : List Oper} {o : Oper} {a : Act} {Q : Exit → Act → World → Prop} {W : World}
end
end Go.Proofs.YtffmbccgcaghjaaGreatDoorUFnRwrLine.PrintWords
