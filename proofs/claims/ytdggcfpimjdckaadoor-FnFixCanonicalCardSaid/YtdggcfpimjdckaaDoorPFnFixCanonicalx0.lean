-- Out of a print of the walks, turned by a program of this session; Lean checks it.
import Derived.Test.YtdggcfpimjdckaaDoorProg
import Derived.Below
import Derived.Deep.Draws
import Derived.Deep.AppendLies
import Derived.Maps.AppendAt
import Derived.OwnWalk
import Derived.Laws.BytesArg
import Derived.Laws.MakeOwn
import Derived.Laws.OwnMore
import Derived.Deep.OwnRows
import Derived.Tactics
import Derived.Lib.ConvBytes
import Derived.Laws.Slices
import Derived.WalkKit
import Derived.KernelRfl
import Derived.RowKit3
import Derived.Deep.LoopGhost
import Derived.Deep.QuietTactic
import Derived.BigQuiet
import Derived.WideLaws
import Derived.Deep.DeepCutAuto
import Derived.Deep.CutBlock
import Derived.Deep.RegionHeld3
import Derived.Laws.Rows
import Derived.Lib.AppendStr
import Derived.ArgAppend
import Derived.Laws.IdiomCopy
import Derived.OrdersHeld
import Derived.Laws.BitsLemmas
import Derived.RowKit
import Derived.Test.YtdggcfpimjdckaaDoorVWords
import Derived.Test.YtdggcfpimjdckaaDoorVLast
import Derived.Test.YtdggcfpimjdckaaDoorVTab
import Derived.Test.YtdggcfpimjdckaaDoorVQPut
import Derived.Test.YtdggcfpimjdckaaDoorVApart
import Derived.Test.YtdggcfpimjdckaaDoorVArr
import Derived.Test.YtdggcfpimjdckaaDoorVZeros
import Derived.Test.YtdggcfpimjdckaaDoorVFoot
import Derived.Test.YtdggcfpimjdckaaDoorVKept
import Derived.Test.YtdggcfpimjdckaaDoorVShare
import Derived.Test.YtdggcfpimjdckaaDoorVN
import Derived.Test.YtdggcfpimjdckaaDoorVEqStruct
import Derived.Test.YtdggcfpimjdckaaDoorVRepsOne
import Derived.Test.YtdggcfpimjdckaaDoorVInv
import Derived.Test.YtdggcfpimjdckaaDoorVGuard
import Derived.Test.YtdggcfpimjdckaaDoorVNEv
import Derived.Test.YtdggcfpimjdckaaDoorVMore
import Derived.Test.YtdggcfpimjdckaaDoorTc
namespace Go.Proofs.YtdggcfpimjdckaaDoor.PFnFixCanonical
open Go.RowKit Go.Proofs.YtdggcfpimjdckaaDoorW.PrintWords Go.Proofs.YtdggcfpimjdckaaDoorW.PrintLast Go.Proofs.YtdggcfpimjdckaaDoorW.PrintMore
attribute [local go_sem] max2_int min2_int max_two min_two max_three min_three max_four min_four   -- for this text's walks alone
set_option linter.unusedVariables false
set_option linter.unusedSimpArgs false



def errW : Option Int → Value
  | none => .nilIface
  | some c => .iface 0 (.int .i64 c)
theorem errW_none : errW none = .nilIface := rfl
theorem errW_some (c : Int) : errW (some c) = .iface 0 (.int .i64 c) := rfl

theorem info3 : (Tryd.prog.info? 3).map (fun i => (i.zero, i.size, i.bytes)) = some (some (.int .i64 0), 1, 8) := by kernel_rfl
theorem info5 : (Tryd.prog.info? 5).map (fun i => (i.zero, i.size, i.bytes)) = some (some (.int .u8 0), 1, 1) := by kernel_rfl
theorem info9 : (Tryd.prog.info? 9).map (fun i => (i.zero, i.size, i.bytes)) = some (some (.string ⟨#[]⟩), 1, 16) := by kernel_rfl
-- the values' own types

end Go.Proofs.YtdggcfpimjdckaaDoor.PFnFixCanonical
