-- Out of a print of the walks, turned by a program of this session; Lean checks it.
import Derived.Test.YtjhioifohbpdhaaPFnTakeTokenOthersx0
import Derived.Test.YtjhioifohbpdhaaPFnTakeTokenOthersx1
import Derived.Test.YtjhioifohbpdhaaPFnTakeTokenOthersx2
import Derived.Test.YtjhioifohbpdhaaPFnTakeTokenOthersx3
import Derived.Test.YtjhioifohbpdhaaPFnTakeTokenOthersx4
import Derived.Test.YtjhioifohbpdhaaPFnTakeTokenOthersx5
import Derived.Test.YtjhioifohbpdhaaPFnTakeTokenOthersx6
import Derived.Test.YtjhioifohbpdhaaPFnTakeTokenOthersx7
import Derived.Test.YtjhioifohbpdhaaPFnTakeTokenOthersx8
import Derived.Test.YtjhioifohbpdhaaPFnTakeTokenOthersx9
namespace Go.Proofs.Ytjhioifohbpdhaa.PFnTakeTokenOthers
open Go.RowKit Go.Proofs.YtjhioifohbpdhaaW.PrintWords Go.Proofs.YtjhioifohbpdhaaW.PrintLast Go.Proofs.YtjhioifohbpdhaaW.PrintMore
attribute [local go_sem] max2_int min2_int max_two min_two max_three min_three max_four min_four   -- for this text's walks alone
set_option linter.unusedVariables false
set_option linter.unusedSimpArgs false

end Go.Proofs.Ytjhioifohbpdhaa.PFnTakeTokenOthers
