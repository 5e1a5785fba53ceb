-- BY PROGRAM (wip/tools/myprint.py), out of Lean's print of the program.
import Derived.Test.YtalcohajbcijlaaQBpx0
import Derived.Test.YtalcohajbcijlaaQBpx1
import Derived.Test.YtalcohajbcijlaaQBpx2
import Derived.Test.YtalcohajbcijlaaQBpx3
import Derived.Test.YtalcohajbcijlaaQBpx4
import Derived.Test.YtalcohajbcijlaaQBpx5
namespace Go.Proofs.Ytalcohajbcijlaa.QBp
open Go.RowKit Go.Proofs.YtalcohajbcijlaaW.PrintWords Go.Proofs.YtalcohajbcijlaaW.PrintLast Go.Proofs.YtalcohajbcijlaaW.PrintMore
attribute [local go_sem] max2_int min2_int max_two min_two max_three min_three max_four min_four   -- for this text's walks alone
set_option linter.unusedVariables false
set_option linter.unusedSimpArgs false

end Go.Proofs.Ytalcohajbcijlaa.QBp
