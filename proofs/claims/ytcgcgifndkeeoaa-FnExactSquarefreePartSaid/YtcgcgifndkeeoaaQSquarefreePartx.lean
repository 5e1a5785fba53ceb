-- BY PROGRAM (wip/tools/myprint.py), out of Lean's print of the program.
import Derived.Test.YtcgcgifndkeeoaaQSquarefreePartx0
import Derived.Test.YtcgcgifndkeeoaaQSquarefreePartx1
import Derived.Test.YtcgcgifndkeeoaaQSquarefreePartx2
import Derived.Test.YtcgcgifndkeeoaaQSquarefreePartx3
import Derived.Test.YtcgcgifndkeeoaaQSquarefreePartx4
import Derived.Test.YtcgcgifndkeeoaaQSquarefreePartx5
import Derived.Test.YtcgcgifndkeeoaaQSquarefreePartx6
import Derived.Test.YtcgcgifndkeeoaaQSquarefreePartx7
import Derived.Test.YtcgcgifndkeeoaaQSquarefreePartx8
import Derived.Test.YtcgcgifndkeeoaaQSquarefreePartx9
import Derived.Test.YtcgcgifndkeeoaaQSquarefreePartx10
namespace Go.Proofs.Ytcgcgifndkeeoaa.QSquarefreePart
open Go.RowKit Go.Proofs.YtcgcgifndkeeoaaW.PrintWords Go.Proofs.YtcgcgifndkeeoaaW.PrintLast Go.Proofs.YtcgcgifndkeeoaaW.PrintMore
attribute [local go_sem] max2_int min2_int max_two min_two max_three min_three max_four min_four   -- for this text's walks alone
set_option linter.unusedVariables false
set_option linter.unusedSimpArgs false

end Go.Proofs.Ytcgcgifndkeeoaa.QSquarefreePart
