import Derived.Test.YtcgcgifndkeeoaaZSturmChainWInv
import Derived.Test.YtcgcgifndkeeoaaZSturmChainWFootNe
namespace Go.Proofs.YtcgcgifndkeeoaaW.PrintWords
open Go.RowKit
end Go.Proofs.YtcgcgifndkeeoaaW.PrintWords
namespace Go.Proofs.YtcgcgifndkeeoaaW.PrintLast
section
variable {ops : Array Oper} {a : Act} {o og : Oper} {g : Nat} {t : Tmp} {u : Bool}
end
end Go.Proofs.YtcgcgifndkeeoaaW.PrintLast
