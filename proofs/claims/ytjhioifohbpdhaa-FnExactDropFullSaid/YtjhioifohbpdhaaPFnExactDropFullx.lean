-- Out of a print of the walks, turned by a program of this session; Lean checks it.
import Derived.Test.YtjhioifohbpdhaaPFnExactDropFullx0
import Derived.Test.YtjhioifohbpdhaaPFnExactDropFullx1
import Derived.Test.YtjhioifohbpdhaaPFnExactDropFullx2
import Derived.Test.YtjhioifohbpdhaaPFnExactDropFullx3
import Derived.Test.YtjhioifohbpdhaaPFnExactDropFullx4
import Derived.Test.YtjhioifohbpdhaaPFnExactDropFullx5
import Derived.Test.YtjhioifohbpdhaaPFnExactDropFullx6
namespace Go.Proofs.Ytjhioifohbpdhaa.PFnExactDropFull
open Go.RowKit Go.Proofs.YtjhioifohbpdhaaW.PrintWords Go.Proofs.YtjhioifohbpdhaaW.PrintLast Go.Proofs.YtjhioifohbpdhaaW.PrintMore
attribute [local go_sem] max2_int min2_int max_two min_two max_three min_three max_four min_four   -- for this text's walks alone
set_option linter.unusedVariables false
set_option linter.unusedSimpArgs false

end Go.Proofs.Ytjhioifohbpdhaa.PFnExactDropFull
