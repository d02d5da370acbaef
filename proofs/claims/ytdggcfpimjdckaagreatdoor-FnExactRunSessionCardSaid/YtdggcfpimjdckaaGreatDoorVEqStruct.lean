-- Out of a print of the walks' words, the unneeded taken out by a program of this session; Lean checks it.
import Derived.Test.YtdggcfpimjdckaaGreatDoorVWords
import Derived.Laws.StructEq
namespace Go.Proofs.YtdggcfpimjdckaaGreatDoorW.PrintWords
open Go.RowKit
section
variable {P : Program} {d : Nat} {xs ys : Array Value} {f : Field} {fs : List Field} {a b : Value} {r s : Bool} {w : World}
end
end Go.Proofs.YtdggcfpimjdckaaGreatDoorW.PrintWords
