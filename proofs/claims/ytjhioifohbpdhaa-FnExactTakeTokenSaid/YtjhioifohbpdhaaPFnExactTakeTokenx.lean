-- Out of a print of the walks, turned by a program of this session; Lean checks it.
import Derived.Test.YtjhioifohbpdhaaPFnExactTakeTokenx0
import Derived.Test.YtjhioifohbpdhaaPFnExactTakeTokenx1
import Derived.Test.YtjhioifohbpdhaaPFnExactTakeTokenx2
import Derived.Test.YtjhioifohbpdhaaPFnExactTakeTokenx3
import Derived.Test.YtjhioifohbpdhaaPFnExactTakeTokenx4
import Derived.Test.YtjhioifohbpdhaaPFnExactTakeTokenx5
import Derived.Test.YtjhioifohbpdhaaPFnExactTakeTokenx6
import Derived.Test.YtjhioifohbpdhaaPFnExactTakeTokenx7
import Derived.Test.YtjhioifohbpdhaaPFnExactTakeTokenx8
namespace Go.Proofs.Ytjhioifohbpdhaa.PFnExactTakeToken
open Go.RowKit Go.Proofs.YtjhioifohbpdhaaW.PrintWords Go.Proofs.YtjhioifohbpdhaaW.PrintLast Go.Proofs.YtjhioifohbpdhaaW.PrintMore
attribute [local go_sem] max2_int min2_int max_two min_two max_three min_three max_four min_four   -- for this text's walks alone
set_option linter.unusedVariables false
set_option linter.unusedSimpArgs false

end Go.Proofs.Ytjhioifohbpdhaa.PFnExactTakeToken
