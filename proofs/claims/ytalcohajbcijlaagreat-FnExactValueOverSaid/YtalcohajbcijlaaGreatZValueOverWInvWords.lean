import Derived.Test.YtalcohajbcijlaaGreatZValueOverWInv
import Derived.Test.YtalcohajbcijlaaGreatZValueOverWFootNe
namespace Go.Proofs.YtalcohajbcijlaaGreatW.PrintWords
open Go.RowKit
end Go.Proofs.YtalcohajbcijlaaGreatW.PrintWords
namespace Go.Proofs.YtalcohajbcijlaaGreatW.PrintLast
section
variable {ops : Array Oper} {a : Act} {o og : Oper} {g : Nat} {t : Tmp} {u : Bool}
end
end Go.Proofs.YtalcohajbcijlaaGreatW.PrintLast
