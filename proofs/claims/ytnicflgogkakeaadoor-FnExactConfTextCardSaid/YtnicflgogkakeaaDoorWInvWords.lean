-- the printer's words, cut by a program to what this claim's texts use
import Derived.Test.YtnicflgogkakeaaDoorWInv
import Derived.Test.YtnicflgogkakeaaDoorWFootNe
namespace Go.Proofs.YtnicflgogkakeaaDoorW.PrintWords
open Go.RowKit
end Go.Proofs.YtnicflgogkakeaaDoorW.PrintWords
namespace Go.Proofs.YtnicflgogkakeaaDoorW.PrintLast
section
variable {ops : Array Oper} {a : Act} {o og : Oper} {g : Nat} {t : Tmp} {u : Bool}
end
end Go.Proofs.YtnicflgogkakeaaDoorW.PrintLast
