-- Out of a print of the walks, turned by a program of this session; Lean checks it.
import Derived.Test.YtdggcfpimjdckaaDoorPFnExactFormatFixx0
import Derived.Test.YtdggcfpimjdckaaDoorPFnExactFormatFixx1
import Derived.Test.YtdggcfpimjdckaaDoorPFnExactFormatFixx2
import Derived.Test.YtdggcfpimjdckaaDoorPFnExactFormatFixx3
import Derived.Test.YtdggcfpimjdckaaDoorPFnExactFormatFixx4
import Derived.Test.YtdggcfpimjdckaaDoorPFnExactFormatFixx5
namespace Go.Proofs.YtdggcfpimjdckaaDoor.PFnExactFormatFix
open Go.RowKit Go.Proofs.YtdggcfpimjdckaaDoorW.PrintWords Go.Proofs.YtdggcfpimjdckaaDoorW.PrintLast Go.Proofs.YtdggcfpimjdckaaDoorW.PrintMore
attribute [local go_sem] max2_int min2_int max_two min_two max_three min_three max_four min_four   -- for this text's walks alone
set_option linter.unusedVariables false
set_option linter.unusedSimpArgs false

end Go.Proofs.YtdggcfpimjdckaaDoor.PFnExactFormatFix
