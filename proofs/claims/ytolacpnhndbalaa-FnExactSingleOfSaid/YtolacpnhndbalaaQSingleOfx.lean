-- BY PROGRAM (wip/tools/myprint.py), out of Lean's print of the program.
import Derived.Test.YtolacpnhndbalaaQSingleOfx0
import Derived.Test.YtolacpnhndbalaaQSingleOfx1
import Derived.Test.YtolacpnhndbalaaQSingleOfx2
import Derived.Test.YtolacpnhndbalaaQSingleOfx3
import Derived.Test.YtolacpnhndbalaaQSingleOfx4
import Derived.Test.YtolacpnhndbalaaQSingleOfx5
import Derived.Test.YtolacpnhndbalaaQSingleOfx6
import Derived.Test.YtolacpnhndbalaaQSingleOfx7
import Derived.Test.YtolacpnhndbalaaQSingleOfx8
import Derived.Test.YtolacpnhndbalaaQSingleOfx9
namespace Go.Proofs.Ytolacpnhndbalaa.QSingleOf
open Go.RowKit Go.Proofs.YtolacpnhndbalaaW.PrintWords Go.Proofs.YtolacpnhndbalaaW.PrintLast Go.Proofs.YtolacpnhndbalaaW.PrintMore
attribute [local go_sem] max2_int min2_int max_two min_two max_three min_three max_four min_four   -- for this text's walks alone
set_option linter.unusedVariables false
set_option linter.unusedSimpArgs false

end Go.Proofs.Ytolacpnhndbalaa.QSingleOf
