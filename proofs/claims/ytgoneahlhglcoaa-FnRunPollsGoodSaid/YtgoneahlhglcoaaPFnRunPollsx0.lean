-- PRINTED BY print.sh 35421559b90ae4d0a3588c463048766b98c2df88dd9212a6774a882060cdf62d: not written by this session
import Derived.Test.YtgoneahlhglcoaaProg
import Derived.Below
import Derived.Deep.Draws
import Derived.Deep.AppendLies
import Derived.Maps.AppendAt
import Derived.OwnWalk
import Derived.Laws.BytesArg
import Derived.Laws.MakeOwn
import Derived.Laws.OwnMore
import Derived.Deep.OwnRows
import Derived.Tactics
import Derived.Lib.ConvBytes
import Derived.Laws.Slices
import Derived.WalkKit
import Derived.KernelRfl
import Derived.RowKit3
import Derived.Deep.LoopGhost
import Derived.Deep.QuietTactic
import Derived.BigQuiet
import Derived.WideLaws
import Derived.Deep.DeepCutAuto
import Derived.Deep.CutBlock
import Derived.Deep.RegionHeld3
import Derived.Laws.Rows
import Derived.Lib.AppendStr
import Derived.ArgAppend
import Derived.Laws.IdiomCopy
import Derived.OrdersHeld
import Derived.Laws.BitsLemmas
import Derived.RowKit
import Derived.Test.YtgoneahlhglcoaaWWords
import Derived.Test.YtgoneahlhglcoaaWLast
import Derived.Test.YtgoneahlhglcoaaWTab
import Derived.Test.YtgoneahlhglcoaaWFour
import Derived.Test.YtgoneahlhglcoaaWQPut
import Derived.Test.YtgoneahlhglcoaaWApart
import Derived.Test.YtgoneahlhglcoaaWArr
import Derived.Test.YtgoneahlhglcoaaWZeros
import Derived.Test.YtgoneahlhglcoaaWFoot
import Derived.Test.YtgoneahlhglcoaaWKept
import Derived.Test.YtgoneahlhglcoaaWShare
import Derived.Test.YtgoneahlhglcoaaWN
import Derived.Test.YtgoneahlhglcoaaWFootNe
import Derived.Test.YtgoneahlhglcoaaWAt
import Derived.Test.YtgoneahlhglcoaaWEqStruct
import Derived.Test.YtgoneahlhglcoaaWRepsOne
import Derived.Test.YtgoneahlhglcoaaWInv
import Derived.Test.YtgoneahlhglcoaaWInvWords
import Derived.Test.YtgoneahlhglcoaaWGuard
import Derived.Test.YtgoneahlhglcoaaWNEv
import Derived.Test.YtgoneahlhglcoaaWMore
namespace Go.Proofs.Ytgoneahlhglcoaa.PFnRunPolls
open Go.RowKit Go.Proofs.YtgoneahlhglcoaaW.PrintWords Go.Proofs.YtgoneahlhglcoaaW.PrintLast Go.Proofs.YtgoneahlhglcoaaW.PrintMore
attribute [local go_sem] max2_int min2_int max_two min_two max_three min_three max_four min_four   -- for this text's walks alone
set_option linter.unusedVariables false
set_option linter.unusedSimpArgs false



def errW : Option Int → Value
  | none => .nilIface
  | some c => .iface 0 (.int .i64 c)
theorem errW_none : errW none = .nilIface := rfl
theorem errW_some (c : Int) : errW (some c) = .iface 0 (.int .i64 c) := rfl

theorem info3 : (Try.prog.info? 3).map (fun i => (i.zero, i.size, i.bytes)) = some (some (.int .i64 0), 1, 8) := by kernel_rfl
theorem info5 : (Try.prog.info? 5).map (fun i => (i.zero, i.size, i.bytes)) = some (some (.int .u8 0), 1, 1) := by kernel_rfl
-- the values' own types

end Go.Proofs.Ytgoneahlhglcoaa.PFnRunPolls
