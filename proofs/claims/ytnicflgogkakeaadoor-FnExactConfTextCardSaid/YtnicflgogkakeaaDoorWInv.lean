-- the printer's words, cut by a program to what this claim's texts use
import Derived.Test.YtnicflgogkakeaaDoorWTab
namespace Go.Proofs.YtnicflgogkakeaaDoorW.PrintLast
section
variable {P : Program} {ops : Array Oper} {Q : Exit → Act → World → Prop} {md : Region.Mode} {T : Bool × List (List Nat × List Nat)} {B : List Nat} {O : List Nat} {b : Nat → Bool} {i j n : Nat}
end
end Go.Proofs.YtnicflgogkakeaaDoorW.PrintLast
