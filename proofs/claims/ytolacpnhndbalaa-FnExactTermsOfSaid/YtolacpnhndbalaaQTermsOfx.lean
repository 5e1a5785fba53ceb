-- BY PROGRAM (wip/tools/myprint.py), out of Lean's print of the program.
import Derived.Test.YtolacpnhndbalaaQTermsOfx0
import Derived.Test.YtolacpnhndbalaaQTermsOfx1
import Derived.Test.YtolacpnhndbalaaQTermsOfx2
import Derived.Test.YtolacpnhndbalaaQTermsOfx3
import Derived.Test.YtolacpnhndbalaaQTermsOfx4
import Derived.Test.YtolacpnhndbalaaQTermsOfx5
import Derived.Test.YtolacpnhndbalaaQTermsOfx6
import Derived.Test.YtolacpnhndbalaaQTermsOfx7
import Derived.Test.YtolacpnhndbalaaQTermsOfx8
namespace Go.Proofs.Ytolacpnhndbalaa.QTermsOf
open Go.RowKit Go.Proofs.YtolacpnhndbalaaW.PrintWords Go.Proofs.YtolacpnhndbalaaW.PrintLast Go.Proofs.YtolacpnhndbalaaW.PrintMore
attribute [local go_sem] max2_int min2_int max_two min_two max_three min_three max_four min_four   -- for this text's walks alone
set_option linter.unusedVariables false
set_option linter.unusedSimpArgs false

end Go.Proofs.Ytolacpnhndbalaa.QTermsOf
