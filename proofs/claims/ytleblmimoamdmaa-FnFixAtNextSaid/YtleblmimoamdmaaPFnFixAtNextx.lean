-- Out of a print of the walks, turned by a program of this session; Lean checks it.
import Derived.Test.YtleblmimoamdmaaPFnFixAtNextx0
import Derived.Test.YtleblmimoamdmaaPFnFixAtNextx1
import Derived.Test.YtleblmimoamdmaaPFnFixAtNextx2
import Derived.Test.YtleblmimoamdmaaPFnFixAtNextx3
namespace Go.Proofs.Ytleblmimoamdmaa.PFnFixAtNext
open Go.RowKit Go.Proofs.YtleblmimoamdmaaW.PrintWords Go.Proofs.YtleblmimoamdmaaW.PrintLast Go.Proofs.YtleblmimoamdmaaW.PrintMore
attribute [local go_sem] max2_int min2_int max_two min_two max_three min_three max_four min_four   -- for this text's walks alone
set_option linter.unusedVariables false
set_option linter.unusedSimpArgs false

end Go.Proofs.Ytleblmimoamdmaa.PFnFixAtNext
