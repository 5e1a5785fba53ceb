-- BY PROGRAM (wip/tools/myprint.py), out of Lean's print of the program.
import Derived.Test.YtcgcgifndkeeoaaQSignAtMarkx0
import Derived.Test.YtcgcgifndkeeoaaQSignAtMarkx1
import Derived.Test.YtcgcgifndkeeoaaQSignAtMarkx2
import Derived.Test.YtcgcgifndkeeoaaQSignAtMarkx3
import Derived.Test.YtcgcgifndkeeoaaQSignAtMarkx4
import Derived.Test.YtcgcgifndkeeoaaQSignAtMarkx5
import Derived.Test.YtcgcgifndkeeoaaQSignAtMarkx6
import Derived.Test.YtcgcgifndkeeoaaQSignAtMarkx7
namespace Go.Proofs.Ytcgcgifndkeeoaa.QSignAtMark
open Go.RowKit Go.Proofs.YtcgcgifndkeeoaaW.PrintWords Go.Proofs.YtcgcgifndkeeoaaW.PrintLast Go.Proofs.YtcgcgifndkeeoaaW.PrintMore
attribute [local go_sem] max2_int min2_int max_two min_two max_three min_three max_four min_four   -- for this text's walks alone
set_option linter.unusedVariables false
set_option linter.unusedSimpArgs false

end Go.Proofs.Ytcgcgifndkeeoaa.QSignAtMark
