-- Out of a print of the walks, turned by a program of this session; Lean checks it.
import Derived.Test.YtdggcfpimjdckaaDoorPFnExactParseFixx0
import Derived.Test.YtdggcfpimjdckaaDoorPFnExactParseFixx1
import Derived.Test.YtdggcfpimjdckaaDoorPFnExactParseFixx2
import Derived.Test.YtdggcfpimjdckaaDoorPFnExactParseFixx3
import Derived.Test.YtdggcfpimjdckaaDoorPFnExactParseFixx4
import Derived.Test.YtdggcfpimjdckaaDoorPFnExactParseFixx5
import Derived.Test.YtdggcfpimjdckaaDoorPFnExactParseFixx6
import Derived.Test.YtdggcfpimjdckaaDoorPFnExactParseFixx7
import Derived.Test.YtdggcfpimjdckaaDoorPFnExactParseFixx8
namespace Go.Proofs.YtdggcfpimjdckaaDoor.PFnExactParseFix
open Go.RowKit Go.Proofs.YtdggcfpimjdckaaDoorW.PrintWords Go.Proofs.YtdggcfpimjdckaaDoorW.PrintLast Go.Proofs.YtdggcfpimjdckaaDoorW.PrintMore
attribute [local go_sem] max2_int min2_int max_two min_two max_three min_three max_four min_four   -- for this text's walks alone
set_option linter.unusedVariables false
set_option linter.unusedSimpArgs false

end Go.Proofs.YtdggcfpimjdckaaDoor.PFnExactParseFix
