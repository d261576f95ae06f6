-- the printer's words, cut by a program to what this claim's texts use
import Derived.Test.YtnicflgogkakeaaDoorWTab
namespace Go.Proofs.YtnicflgogkakeaaDoorW.PrintLast
section
variable {P : Program} {ops : Array Oper} {Q : Exit → Act → World → Prop} {md : Region.Mode} {S : World → Prop} {ds : List Nat} {T : Bool × List (List Nat × List Nat)}
end
end Go.Proofs.YtnicflgogkakeaaDoorW.PrintLast
