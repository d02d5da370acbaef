-- Out of a print of the walks, turned by a program of this session; Lean checks it.
import Derived.Test.YtdggcfpimjdckaaDoorPFnFixFramex0
import Derived.Test.YtdggcfpimjdckaaDoorPFnFixFramex1
import Derived.Test.YtdggcfpimjdckaaDoorPFnFixFramex2
import Derived.Test.YtdggcfpimjdckaaDoorPFnFixFramex3
import Derived.Test.YtdggcfpimjdckaaDoorPFnFixFramex4
import Derived.Test.YtdggcfpimjdckaaDoorPFnFixFramex5
import Derived.Test.YtdggcfpimjdckaaDoorPFnFixFramex6
import Derived.Test.YtdggcfpimjdckaaDoorPFnFixFramex7
namespace Go.Proofs.YtdggcfpimjdckaaDoor.PFnFixFrame
open Go.RowKit Go.Proofs.YtdggcfpimjdckaaDoorW.PrintWords Go.Proofs.YtdggcfpimjdckaaDoorW.PrintLast Go.Proofs.YtdggcfpimjdckaaDoorW.PrintMore
attribute [local go_sem] max2_int min2_int max_two min_two max_three min_three max_four min_four   -- for this text's walks alone
set_option linter.unusedVariables false
set_option linter.unusedSimpArgs false

end Go.Proofs.YtdggcfpimjdckaaDoor.PFnFixFrame
