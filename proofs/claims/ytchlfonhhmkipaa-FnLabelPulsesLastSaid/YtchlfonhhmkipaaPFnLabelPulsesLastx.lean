-- Out of a print of the walks, turned by a program of this session; Lean checks it.
import Derived.Test.YtchlfonhhmkipaaPFnLabelPulsesLastx0
import Derived.Test.YtchlfonhhmkipaaPFnLabelPulsesLastx1
import Derived.Test.YtchlfonhhmkipaaPFnLabelPulsesLastx2
import Derived.Test.YtchlfonhhmkipaaPFnLabelPulsesLastx3
import Derived.Test.YtchlfonhhmkipaaPFnLabelPulsesLastx4
import Derived.Test.YtchlfonhhmkipaaPFnLabelPulsesLastx5
import Derived.Test.YtchlfonhhmkipaaPFnLabelPulsesLastx6
namespace Go.Proofs.Ytchlfonhhmkipaa.PFnLabelPulsesLast
open Go.RowKit Go.Proofs.YtchlfonhhmkipaaW.PrintWords Go.Proofs.YtchlfonhhmkipaaW.PrintLast Go.Proofs.YtchlfonhhmkipaaW.PrintMore
attribute [local go_sem] max2_int min2_int max_two min_two max_three min_three max_four min_four   -- for this text's walks alone
set_option linter.unusedVariables false
set_option linter.unusedSimpArgs false

end Go.Proofs.Ytchlfonhhmkipaa.PFnLabelPulsesLast
