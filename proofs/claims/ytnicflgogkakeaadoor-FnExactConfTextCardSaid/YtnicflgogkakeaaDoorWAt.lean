-- the printer's words, cut by a program to what this claim's texts use
import Derived.Test.YtnicflgogkakeaaDoorWFootNe
namespace Go.Proofs.YtnicflgogkakeaaDoorW.PrintWords
open Go.RowKit
section
variable {w w' u : World} {m B g : Nat} {o : Obj} {row : Option Nat} {S : Nat → Prop} {a : Addr} {v : Value}
end
namespace Kd
section
variable {α : Type} {d : Kd α} {e base n m : Nat} {ok : Nat → Prop} {w w' : World} {v : Value} {A : Option Addr} {xs : List α}
end
end Kd
end Go.Proofs.YtnicflgogkakeaaDoorW.PrintWords
