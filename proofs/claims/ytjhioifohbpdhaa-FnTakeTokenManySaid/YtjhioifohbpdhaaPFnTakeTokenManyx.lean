-- Out of a print of the walks, turned by a program of this session; Lean checks it.
import Derived.Test.YtjhioifohbpdhaaPFnTakeTokenManyx0
import Derived.Test.YtjhioifohbpdhaaPFnTakeTokenManyx1
import Derived.Test.YtjhioifohbpdhaaPFnTakeTokenManyx2
import Derived.Test.YtjhioifohbpdhaaPFnTakeTokenManyx3
import Derived.Test.YtjhioifohbpdhaaPFnTakeTokenManyx4
import Derived.Test.YtjhioifohbpdhaaPFnTakeTokenManyx5
import Derived.Test.YtjhioifohbpdhaaPFnTakeTokenManyx6
import Derived.Test.YtjhioifohbpdhaaPFnTakeTokenManyx7
import Derived.Test.YtjhioifohbpdhaaPFnTakeTokenManyx8
import Derived.Test.YtjhioifohbpdhaaPFnTakeTokenManyx9
namespace Go.Proofs.Ytjhioifohbpdhaa.PFnTakeTokenMany
open Go.RowKit Go.Proofs.YtjhioifohbpdhaaW.PrintWords Go.Proofs.YtjhioifohbpdhaaW.PrintLast Go.Proofs.YtjhioifohbpdhaaW.PrintMore
attribute [local go_sem] max2_int min2_int max_two min_two max_three min_three max_four min_four   -- for this text's walks alone
set_option linter.unusedVariables false
set_option linter.unusedSimpArgs false

end Go.Proofs.Ytjhioifohbpdhaa.PFnTakeTokenMany
