-- BY PROGRAM (wip/tools/myprint.py), out of Lean's print of the program.
import Derived.Test.YtipnbjamkhhmbaaProg
import Derived.Below
import Derived.Deep.Draws
import Derived.Deep.AppendLies
import Derived.Maps.AppendAt
import Derived.OwnWalk
import Derived.Laws.BytesArg
import Derived.Laws.MakeOwn
import Derived.Laws.OwnMore
import Derived.Deep.OwnRows
import Derived.Tactics
import Derived.Lib.ConvBytes
import Derived.Laws.Slices
import Derived.WalkKit
import Derived.KernelRfl
import Derived.RowKit3
import Derived.Deep.LoopGhost
import Derived.Deep.QuietTactic
import Derived.BigQuiet
import Derived.WideLaws
import Derived.Deep.DeepCutAuto
import Derived.Deep.CutBlock
import Derived.Deep.RegionHeld3
import Derived.Laws.Rows
import Derived.Lib.AppendStr
import Derived.ArgAppend
import Derived.Laws.IdiomCopy
import Derived.OrdersHeld
import Derived.Laws.BitsLemmas
import Derived.RowKit
import Derived.Test.YtipnbjamkhhmbaaWWords
import Derived.Test.YtipnbjamkhhmbaaWLast
import Derived.Test.YtipnbjamkhhmbaaWTab
import Derived.Test.YtipnbjamkhhmbaaWFour
import Derived.Test.YtipnbjamkhhmbaaWQPut
import Derived.Test.YtipnbjamkhhmbaaWApart
import Derived.Test.YtipnbjamkhhmbaaWArr
import Derived.Test.YtipnbjamkhhmbaaWZeros
import Derived.Test.YtipnbjamkhhmbaaWFoot
import Derived.Test.YtipnbjamkhhmbaaWKept
import Derived.Test.YtipnbjamkhhmbaaWShare
import Derived.Test.YtipnbjamkhhmbaaWN
import Derived.Test.YtipnbjamkhhmbaaWFootNe
import Derived.Test.YtipnbjamkhhmbaaWAt
import Derived.Test.YtipnbjamkhhmbaaWEqStruct
import Derived.Test.YtipnbjamkhhmbaaWRepsOne
import Derived.Test.YtipnbjamkhhmbaaWInv
import Derived.Test.YtipnbjamkhhmbaaWInvWords
import Derived.Test.YtipnbjamkhhmbaaWGuard
import Derived.Test.YtipnbjamkhhmbaaWNEv
import Derived.Test.YtipnbjamkhhmbaaWMore
namespace Go.Proofs.Ytipnbjamkhhmbaa.QVariationsOf
open Go.RowKit Go.Proofs.YtipnbjamkhhmbaaW.PrintWords Go.Proofs.YtipnbjamkhhmbaaW.PrintLast Go.Proofs.YtipnbjamkhhmbaaW.PrintMore
attribute [local go_sem] max2_int min2_int max_two min_two max_three min_three max_four min_four   -- for this text's walks alone
set_option linter.unusedVariables false
set_option linter.unusedSimpArgs false



def errW : Option Int → Value
  | none => .nilIface
  | some c => .iface 0 (.int .i64 c)
theorem errW_none : errW none = .nilIface := rfl
theorem errW_some (c : Int) : errW (some c) = .iface 0 (.int .i64 c) := rfl

theorem info3 : (Try.prog.info? 3).map (fun i => (i.zero, i.size, i.bytes)) = some (some (.int .i64 0), 1, 8) := by kernel_rfl
-- the values' own types

end Go.Proofs.Ytipnbjamkhhmbaa.QVariationsOf
