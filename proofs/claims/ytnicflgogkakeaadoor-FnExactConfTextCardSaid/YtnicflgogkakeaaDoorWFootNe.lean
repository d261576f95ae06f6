-- the printer's words, cut by a program to what this claim's texts use
import Derived.Test.YtnicflgogkakeaaDoorWN
namespace Go.Proofs.YtnicflgogkakeaaDoorW.PrintWords
open Go.RowKit
namespace Kd
section
variable {α : Type} {d : Kd α} {W : World} {g n : Nat} {S ok : Nat → Prop} {A : Option Addr} {ad : Addr} {xs : List α}
end
end Kd
end Go.Proofs.YtnicflgogkakeaaDoorW.PrintWords
