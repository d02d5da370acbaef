-- Out of a print of the walks, turned by a program of this session; Lean checks it.
import Derived.Test.YtjhioifohbpdhaaPFnTakeTokenx0
import Derived.Test.YtjhioifohbpdhaaPFnTakeTokenx1
import Derived.Test.YtjhioifohbpdhaaPFnTakeTokenx2
import Derived.Test.YtjhioifohbpdhaaPFnTakeTokenx3
import Derived.Test.YtjhioifohbpdhaaPFnTakeTokenx4
import Derived.Test.YtjhioifohbpdhaaPFnTakeTokenx5
import Derived.Test.YtjhioifohbpdhaaPFnTakeTokenx6
import Derived.Test.YtjhioifohbpdhaaPFnTakeTokenx7
import Derived.Test.YtjhioifohbpdhaaPFnTakeTokenx8
import Derived.Test.YtjhioifohbpdhaaPFnTakeTokenx9
import Derived.Test.YtjhioifohbpdhaaPFnTakeTokenx10
namespace Go.Proofs.Ytjhioifohbpdhaa.PFnTakeToken
open Go.RowKit Go.Proofs.YtjhioifohbpdhaaW.PrintWords Go.Proofs.YtjhioifohbpdhaaW.PrintLast Go.Proofs.YtjhioifohbpdhaaW.PrintMore
attribute [local go_sem] max2_int min2_int max_two min_two max_three min_three max_four min_four   -- for this text's walks alone
set_option linter.unusedVariables false
set_option linter.unusedSimpArgs false

end Go.Proofs.Ytjhioifohbpdhaa.PFnTakeToken
