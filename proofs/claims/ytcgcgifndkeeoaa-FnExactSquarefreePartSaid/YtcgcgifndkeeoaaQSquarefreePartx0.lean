-- BY PROGRAM (wip/tools/myprint.py), out of Lean's print of the program.
import Derived.Test.YtcgcgifndkeeoaaProg
import Derived.Below
import Derived.Deep.Draws
import Derived.Deep.AppendLies
import Derived.Maps.AppendAt
import Derived.OwnWalk
import Derived.Laws.BytesArg
import Derived.Laws.MakeOwn
import Derived.Laws.OwnMore
import Derived.Deep.OwnRows
import Derived.Tactics
import Derived.Lib.ConvBytes
import Derived.Laws.Slices
import Derived.WalkKit
import Derived.KernelRfl
import Derived.RowKit3
import Derived.Deep.LoopGhost
import Derived.Deep.QuietTactic
import Derived.BigQuiet
import Derived.WideLaws
import Derived.Deep.DeepCutAuto
import Derived.Deep.CutBlock
import Derived.Deep.RegionHeld3
import Derived.Laws.Rows
import Derived.Lib.AppendStr
import Derived.ArgAppend
import Derived.Laws.IdiomCopy
import Derived.OrdersHeld
import Derived.Laws.BitsLemmas
import Derived.RowKit
import Derived.Lib.SliceRun
import Derived.Test.YtcgcgifndkeeoaaWWords
import Derived.Test.YtcgcgifndkeeoaaWLast
import Derived.Test.YtcgcgifndkeeoaaWTab
import Derived.Test.YtcgcgifndkeeoaaWFour
import Derived.Test.YtcgcgifndkeeoaaWQPut
import Derived.Test.YtcgcgifndkeeoaaWApart
import Derived.Test.YtcgcgifndkeeoaaWArr
import Derived.Test.YtcgcgifndkeeoaaWZeros
import Derived.Test.YtcgcgifndkeeoaaWFoot
import Derived.Test.YtcgcgifndkeeoaaWKept
import Derived.Test.YtcgcgifndkeeoaaWShare
import Derived.Test.YtcgcgifndkeeoaaWN
import Derived.Test.YtcgcgifndkeeoaaWFootNe
import Derived.Test.YtcgcgifndkeeoaaWAt
import Derived.Test.YtcgcgifndkeeoaaWEqStruct
import Derived.Test.YtcgcgifndkeeoaaWRepsOne
import Derived.Test.YtcgcgifndkeeoaaWInv
import Derived.Test.YtcgcgifndkeeoaaWInvWords
import Derived.Test.YtcgcgifndkeeoaaWGuard
import Derived.Test.YtcgcgifndkeeoaaWNEv
import Derived.Test.YtcgcgifndkeeoaaWMore
namespace Go.Proofs.Ytcgcgifndkeeoaa.QSquarefreePart
open Go.RowKit Go.Proofs.YtcgcgifndkeeoaaW.PrintWords Go.Proofs.YtcgcgifndkeeoaaW.PrintLast Go.Proofs.YtcgcgifndkeeoaaW.PrintMore
attribute [local go_sem] max2_int min2_int max_two min_two max_three min_three max_four min_four   -- for this text's walks alone
set_option linter.unusedVariables false
set_option linter.unusedSimpArgs false



def errW : Option Int → Value
  | none => .nilIface
  | some c => .iface 0 (.int .i64 c)
theorem errW_none : errW none = .nilIface := rfl
theorem errW_some (c : Int) : errW (some c) = .iface 0 (.int .i64 c) := rfl

theorem info3 : (Try.prog.info? 3).map (fun i => (i.zero, i.size, i.bytes)) = some (some (.int .i64 0), 1, 8) := by kernel_rfl
-- the values' own types

end Go.Proofs.Ytcgcgifndkeeoaa.QSquarefreePart
