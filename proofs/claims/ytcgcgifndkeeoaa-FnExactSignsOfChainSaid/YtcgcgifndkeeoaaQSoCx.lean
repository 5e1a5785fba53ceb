-- BY PROGRAM (wip/tools/myprint.py), out of Lean's print of the program.
import Derived.Test.YtcgcgifndkeeoaaQSoCx0
import Derived.Test.YtcgcgifndkeeoaaQSoCx1
import Derived.Test.YtcgcgifndkeeoaaQSoCx2
import Derived.Test.YtcgcgifndkeeoaaQSoCx3
import Derived.Test.YtcgcgifndkeeoaaQSoCx4
import Derived.Test.YtcgcgifndkeeoaaQSoCx5
import Derived.Test.YtcgcgifndkeeoaaQSoCx6
import Derived.Test.YtcgcgifndkeeoaaQSoCx7
import Derived.Test.YtcgcgifndkeeoaaQSoCx8
namespace Go.Proofs.Ytcgcgifndkeeoaa.QSoC
open Go.RowKit Go.Proofs.YtcgcgifndkeeoaaW.PrintWords Go.Proofs.YtcgcgifndkeeoaaW.PrintLast Go.Proofs.YtcgcgifndkeeoaaW.PrintMore
attribute [local go_sem] max2_int min2_int max_two min_two max_three min_three max_four min_four   -- for this text's walks alone
set_option linter.unusedVariables false
set_option linter.unusedSimpArgs false

end Go.Proofs.Ytcgcgifndkeeoaa.QSoC
