-- Out of a print of the walks, turned by a program of this session; Lean checks it.
import Derived.Test.YtdggcfpimjdckaaDoorPFnFixCanonicalx0
import Derived.Test.YtdggcfpimjdckaaDoorPFnFixCanonicalx1
import Derived.Test.YtdggcfpimjdckaaDoorPFnFixCanonicalx2
import Derived.Test.YtdggcfpimjdckaaDoorPFnFixCanonicalx3
import Derived.Test.YtdggcfpimjdckaaDoorPFnFixCanonicalx4
import Derived.Test.YtdggcfpimjdckaaDoorPFnFixCanonicalx5
import Derived.Test.YtdggcfpimjdckaaDoorPFnFixCanonicalx6
import Derived.Test.YtdggcfpimjdckaaDoorPFnFixCanonicalx7
import Derived.Test.YtdggcfpimjdckaaDoorPFnFixCanonicalx8
import Derived.Test.YtdggcfpimjdckaaDoorPFnFixCanonicalx9
import Derived.Test.YtdggcfpimjdckaaDoorPFnFixCanonicalx10
import Derived.Test.YtdggcfpimjdckaaDoorPFnFixCanonicalx11
namespace Go.Proofs.YtdggcfpimjdckaaDoor.PFnFixCanonical
open Go.RowKit Go.Proofs.YtdggcfpimjdckaaDoorW.PrintWords Go.Proofs.YtdggcfpimjdckaaDoorW.PrintLast Go.Proofs.YtdggcfpimjdckaaDoorW.PrintMore
attribute [local go_sem] max2_int min2_int max_two min_two max_three min_three max_four min_four   -- for this text's walks alone
set_option linter.unusedVariables false
set_option linter.unusedSimpArgs false

end Go.Proofs.YtdggcfpimjdckaaDoor.PFnFixCanonical
