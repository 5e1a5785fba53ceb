import Derived.Test.YtalcohajbcijlaaZSidesOverWInv
import Derived.Test.YtalcohajbcijlaaZSidesOverWFootNe
namespace Go.Proofs.YtalcohajbcijlaaW.PrintWords
open Go.RowKit
end Go.Proofs.YtalcohajbcijlaaW.PrintWords
namespace Go.Proofs.YtalcohajbcijlaaW.PrintLast
section
variable {ops : Array Oper} {a : Act} {o og : Oper} {g : Nat} {t : Tmp} {u : Bool}
end
end Go.Proofs.YtalcohajbcijlaaW.PrintLast
