-- Out of a print of the walks' words, the unneeded taken out by a program of this session; Lean checks it.
import Derived.SizedLaws
import Derived.ChangeSlices
namespace Go.Proofs.YtdggcfpimjdckaaGreatDoorW.PrintWords
open Go.ChangeShapes Go.WideShapes
end Go.Proofs.YtdggcfpimjdckaaGreatDoorW.PrintWords
