-- PRINTED BY print.sh 35421559b90ae4d0a3588c463048766b98c2df88dd9212a6774a882060cdf62d: not written by this session
import Derived.Test.YtchlfonhhmkipaaPFnExactLabelPulsesx0
import Derived.Test.YtchlfonhhmkipaaPFnExactLabelPulsesx1
import Derived.Test.YtchlfonhhmkipaaPFnExactLabelPulsesx2
import Derived.Test.YtchlfonhhmkipaaPFnExactLabelPulsesx3
import Derived.Test.YtchlfonhhmkipaaPFnExactLabelPulsesx4
import Derived.Test.YtchlfonhhmkipaaPFnExactLabelPulsesx5
import Derived.Test.YtchlfonhhmkipaaPFnExactLabelPulsesx6
namespace Go.Proofs.Ytchlfonhhmkipaa.PFnExactLabelPulses
open Go.RowKit Go.Proofs.YtchlfonhhmkipaaW.PrintWords Go.Proofs.YtchlfonhhmkipaaW.PrintLast Go.Proofs.YtchlfonhhmkipaaW.PrintMore
attribute [local go_sem] max2_int min2_int max_two min_two max_three min_three max_four min_four   -- for this text's walks alone
set_option linter.unusedVariables false
set_option linter.unusedSimpArgs false

end Go.Proofs.Ytchlfonhhmkipaa.PFnExactLabelPulses
