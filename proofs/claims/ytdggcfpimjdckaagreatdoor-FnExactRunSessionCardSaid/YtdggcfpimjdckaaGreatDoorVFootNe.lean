-- Out of a print of the walks' words, the unneeded taken out by a program of this session; Lean checks it.
import Derived.Test.YtdggcfpimjdckaaGreatDoorVN
namespace Go.Proofs.YtdggcfpimjdckaaGreatDoorW.PrintWords
open Go.RowKit
namespace Kd
section
variable {α : Type} {d : Kd α} {W : World} {g n : Nat} {S ok : Nat → Prop} {A : Option Addr} {ad : Addr} {xs : List α}
end
end Kd
end Go.Proofs.YtdggcfpimjdckaaGreatDoorW.PrintWords
