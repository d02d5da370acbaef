-- Out of a print of the walks' words, the unneeded taken out by a program of this session; Lean checks it.
import Derived.Test.YtdggcfpimjdckaaGreatDoorVWords
import Derived.Test.YtdggcfpimjdckaaGreatDoorVLast
namespace Go.Proofs.YtdggcfpimjdckaaGreatDoorW.PrintWords
open Go.RowKit
namespace Kd
section
variable {α : Type} {d : Kd α} {e base g o n cap : Nat} {ok okp : Nat → Prop} {w W : World} {v : Value} {xs : List α}
end
section
variable {α : Type} {enc : α → Value} {h1 : ∀ x, (enc x).oneCell' = true} {e base g o n cap : Nat} {ok : Nat → Prop} {W : World} {xs : List α}
end
end Kd
end Go.Proofs.YtdggcfpimjdckaaGreatDoorW.PrintWords
