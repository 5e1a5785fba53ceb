-- BY PROGRAM (wip/tools/myprint.py), out of Lean's print of the program.
import Derived.Test.YtolacpnhndbalaaQVarx0
import Derived.Test.YtolacpnhndbalaaQVarx1
import Derived.Test.YtolacpnhndbalaaQVarx2
import Derived.Test.YtolacpnhndbalaaQVarx3
import Derived.Test.YtolacpnhndbalaaQVarx4
namespace Go.Proofs.Ytolacpnhndbalaa.QVar
open Go.RowKit Go.Proofs.YtolacpnhndbalaaW.PrintWords Go.Proofs.YtolacpnhndbalaaW.PrintLast Go.Proofs.YtolacpnhndbalaaW.PrintMore
attribute [local go_sem] max2_int min2_int max_two min_two max_three min_three max_four min_four   -- for this text's walks alone
set_option linter.unusedVariables false
set_option linter.unusedSimpArgs false

end Go.Proofs.Ytolacpnhndbalaa.QVar
