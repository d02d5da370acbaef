-- Out of a print of the walks, turned by a program of this session; Lean checks it.
import Derived.Test.YtjhioifohbpdhaaPFnTakeTokenWaitx0
import Derived.Test.YtjhioifohbpdhaaPFnTakeTokenWaitx1
import Derived.Test.YtjhioifohbpdhaaPFnTakeTokenWaitx2
import Derived.Test.YtjhioifohbpdhaaPFnTakeTokenWaitx3
import Derived.Test.YtjhioifohbpdhaaPFnTakeTokenWaitx4
import Derived.Test.YtjhioifohbpdhaaPFnTakeTokenWaitx5
import Derived.Test.YtjhioifohbpdhaaPFnTakeTokenWaitx6
import Derived.Test.YtjhioifohbpdhaaPFnTakeTokenWaitx7
import Derived.Test.YtjhioifohbpdhaaPFnTakeTokenWaitx8
namespace Go.Proofs.Ytjhioifohbpdhaa.PFnTakeTokenWait
open Go.RowKit Go.Proofs.YtjhioifohbpdhaaW.PrintWords Go.Proofs.YtjhioifohbpdhaaW.PrintLast Go.Proofs.YtjhioifohbpdhaaW.PrintMore
attribute [local go_sem] max2_int min2_int max_two min_two max_three min_three max_four min_four   -- for this text's walks alone
set_option linter.unusedVariables false
set_option linter.unusedSimpArgs false

end Go.Proofs.Ytjhioifohbpdhaa.PFnTakeTokenWait
