-- Out of a print of the walks' words, the unneeded taken out by a program of this session; Lean checks it.
import Derived.Test.YtdggcfpimjdckaaGreatDoorVTab
namespace Go.Proofs.YtdggcfpimjdckaaGreatDoorW.PrintLast
section
variable {P : Program} {ops : Array Oper} {Q : Exit → Act → World → Prop} {md : Region.Mode} {S : World → Prop} {ds : List Nat} {T : Bool × List (List Nat × List Nat)}
end
end Go.Proofs.YtdggcfpimjdckaaGreatDoorW.PrintLast
