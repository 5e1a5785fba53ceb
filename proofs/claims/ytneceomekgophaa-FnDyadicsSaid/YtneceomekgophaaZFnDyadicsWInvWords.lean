import Derived.Test.YtneceomekgophaaZFnDyadicsWInv
import Derived.Test.YtneceomekgophaaZFnDyadicsWFootNe
namespace Go.Proofs.YtneceomekgophaaW.PrintWords
open Go.RowKit
end Go.Proofs.YtneceomekgophaaW.PrintWords
namespace Go.Proofs.YtneceomekgophaaW.PrintLast
section
variable {ops : Array Oper} {a : Act} {o og : Oper} {g : Nat} {t : Tmp} {u : Bool}
end
end Go.Proofs.YtneceomekgophaaW.PrintLast
