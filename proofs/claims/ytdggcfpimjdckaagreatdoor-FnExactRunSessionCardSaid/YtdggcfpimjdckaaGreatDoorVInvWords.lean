-- Out of a print of the walks' words, the unneeded taken out by a program of this session; Lean checks it.
import Derived.Test.YtdggcfpimjdckaaGreatDoorVInv
import Derived.Test.YtdggcfpimjdckaaGreatDoorVFootNe
namespace Go.Proofs.YtdggcfpimjdckaaGreatDoorW.PrintWords
open Go.RowKit
end Go.Proofs.YtdggcfpimjdckaaGreatDoorW.PrintWords
namespace Go.Proofs.YtdggcfpimjdckaaGreatDoorW.PrintLast
section
variable {ops : Array Oper} {a : Act} {o og : Oper} {g : Nat} {t : Tmp} {u : Bool}
end
end Go.Proofs.YtdggcfpimjdckaaGreatDoorW.PrintLast
