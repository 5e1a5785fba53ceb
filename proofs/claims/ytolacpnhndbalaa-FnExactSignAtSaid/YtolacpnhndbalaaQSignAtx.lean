-- BY PROGRAM (wip/tools/myprint.py), out of Lean's print of the program.
import Derived.Test.YtolacpnhndbalaaQSignAtx0
import Derived.Test.YtolacpnhndbalaaQSignAtx1
import Derived.Test.YtolacpnhndbalaaQSignAtx2
import Derived.Test.YtolacpnhndbalaaQSignAtx3
import Derived.Test.YtolacpnhndbalaaQSignAtx4
import Derived.Test.YtolacpnhndbalaaQSignAtx5
namespace Go.Proofs.Ytolacpnhndbalaa.QSignAt
open Go.RowKit Go.Proofs.YtolacpnhndbalaaW.PrintWords Go.Proofs.YtolacpnhndbalaaW.PrintLast Go.Proofs.YtolacpnhndbalaaW.PrintMore
attribute [local go_sem] max2_int min2_int max_two min_two max_three min_three max_four min_four   -- for this text's walks alone
set_option linter.unusedVariables false
set_option linter.unusedSimpArgs false

end Go.Proofs.Ytolacpnhndbalaa.QSignAt
