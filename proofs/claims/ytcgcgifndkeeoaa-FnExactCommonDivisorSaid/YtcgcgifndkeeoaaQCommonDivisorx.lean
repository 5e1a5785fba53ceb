-- BY PROGRAM (wip/tools/myprint.py), out of Lean's print of the program.
import Derived.Test.YtcgcgifndkeeoaaQCommonDivisorx0
import Derived.Test.YtcgcgifndkeeoaaQCommonDivisorx1
import Derived.Test.YtcgcgifndkeeoaaQCommonDivisorx2
import Derived.Test.YtcgcgifndkeeoaaQCommonDivisorx3
import Derived.Test.YtcgcgifndkeeoaaQCommonDivisorx4
import Derived.Test.YtcgcgifndkeeoaaQCommonDivisorx5
import Derived.Test.YtcgcgifndkeeoaaQCommonDivisorx6
import Derived.Test.YtcgcgifndkeeoaaQCommonDivisorx7
namespace Go.Proofs.Ytcgcgifndkeeoaa.QCommonDivisor
open Go.RowKit Go.Proofs.YtcgcgifndkeeoaaW.PrintWords Go.Proofs.YtcgcgifndkeeoaaW.PrintLast Go.Proofs.YtcgcgifndkeeoaaW.PrintMore
attribute [local go_sem] max2_int min2_int max_two min_two max_three min_three max_four min_four   -- for this text's walks alone
set_option linter.unusedVariables false
set_option linter.unusedSimpArgs false

end Go.Proofs.Ytcgcgifndkeeoaa.QCommonDivisor
