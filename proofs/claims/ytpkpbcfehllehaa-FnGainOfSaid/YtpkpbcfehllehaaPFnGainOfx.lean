-- Out of a print of the walks, turned by a program of this session; Lean checks it.
import Derived.Test.YtpkpbcfehllehaaPFnGainOfx0
import Derived.Test.YtpkpbcfehllehaaPFnGainOfx1
import Derived.Test.YtpkpbcfehllehaaPFnGainOfx2
import Derived.Test.YtpkpbcfehllehaaPFnGainOfx3
import Derived.Test.YtpkpbcfehllehaaPFnGainOfx4
import Derived.Test.YtpkpbcfehllehaaPFnGainOfx5
namespace Go.Proofs.Ytpkpbcfehllehaa.PFnGainOf
open Go.RowKit Go.Proofs.YtpkpbcfehllehaaW.PrintWords Go.Proofs.YtpkpbcfehllehaaW.PrintLast Go.Proofs.YtpkpbcfehllehaaW.PrintMore
attribute [local go_sem] max2_int min2_int max_two min_two max_three min_three max_four min_four   -- for this text's walks alone
set_option linter.unusedVariables false
set_option linter.unusedSimpArgs false

end Go.Proofs.Ytpkpbcfehllehaa.PFnGainOf
