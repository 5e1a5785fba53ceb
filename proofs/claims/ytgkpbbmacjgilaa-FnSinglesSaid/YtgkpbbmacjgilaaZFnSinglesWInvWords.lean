import Derived.Test.YtgkpbbmacjgilaaZFnSinglesWInv
import Derived.Test.YtgkpbbmacjgilaaZFnSinglesWFootNe
namespace Go.Proofs.YtgkpbbmacjgilaaW.PrintWords
open Go.RowKit
end Go.Proofs.YtgkpbbmacjgilaaW.PrintWords
namespace Go.Proofs.YtgkpbbmacjgilaaW.PrintLast
section
variable {ops : Array Oper} {a : Act} {o og : Oper} {g : Nat} {t : Tmp} {u : Bool}
end
end Go.Proofs.YtgkpbbmacjgilaaW.PrintLast
