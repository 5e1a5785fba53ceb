-- BY PROGRAM (wip/tools/myprint.py), out of Lean's print of the program.
import Derived.Test.YtipnbjamkhhmbaaQVariationsOfx0
import Derived.Test.YtipnbjamkhhmbaaQVariationsOfx1
import Derived.Test.YtipnbjamkhhmbaaQVariationsOfx2
namespace Go.Proofs.Ytipnbjamkhhmbaa.QVariationsOf
open Go.RowKit Go.Proofs.YtipnbjamkhhmbaaW.PrintWords Go.Proofs.YtipnbjamkhhmbaaW.PrintLast Go.Proofs.YtipnbjamkhhmbaaW.PrintMore
attribute [local go_sem] max2_int min2_int max_two min_two max_three min_three max_four min_four   -- for this text's walks alone
set_option linter.unusedVariables false
set_option linter.unusedSimpArgs false

end Go.Proofs.Ytipnbjamkhhmbaa.QVariationsOf
