import Derived.Test.YtneceomekgophaaProg
import Derived.Test.YtneceomekgophaaZFnDyadicsWWords
import Derived.Test.YtneceomekgophaaZFnDyadicsWLast
import Derived.Test.YtneceomekgophaaZFnDyadicsWTab
import Derived.Test.YtneceomekgophaaZFnDyadicsWFour
import Derived.Test.YtneceomekgophaaZFnDyadicsWQPut
import Derived.Test.YtneceomekgophaaZFnDyadicsWApart
import Derived.Test.YtneceomekgophaaZFnDyadicsWArr
import Derived.Test.YtneceomekgophaaZFnDyadicsWZeros
import Derived.Test.YtneceomekgophaaZFnDyadicsWFoot
import Derived.Test.YtneceomekgophaaZFnDyadicsWKept
import Derived.Test.YtneceomekgophaaZFnDyadicsWShare
import Derived.Test.YtneceomekgophaaZFnDyadicsWN
import Derived.Test.YtneceomekgophaaZFnDyadicsWFootNe
import Derived.Test.YtneceomekgophaaZFnDyadicsWAt
import Derived.Test.YtneceomekgophaaZFnDyadicsWEqStruct
import Derived.Test.YtneceomekgophaaZFnDyadicsWRepsOne
import Derived.Test.YtneceomekgophaaZFnDyadicsWInv
import Derived.Test.YtneceomekgophaaZFnDyadicsWInvWords
import Derived.Test.YtneceomekgophaaZFnDyadicsWGuard
import Derived.Test.YtneceomekgophaaZFnDyadicsWNEv
import Derived.Test.YtneceomekgophaaZFnDyadicsSq
import Derived.Below
import Derived.Deep.Draws
import Derived.Deep.AppendLies
import Derived.Maps.AppendAt
import Derived.OwnWalk
import Derived.Laws.BytesArg
import Derived.Laws.MakeOwn
import Derived.Laws.OwnMore
import Derived.Deep.OwnRows
import Derived.Tactics
import Derived.Lib.ConvBytes
import Derived.Laws.Slices
import Derived.WalkKit
import Derived.KernelRfl
import Derived.RowKit3
import Derived.Deep.LoopGhost
import Derived.Deep.QuietTactic
import Derived.BigQuiet
import Derived.WideLaws
import Derived.Deep.DeepCutAuto
import Derived.Deep.CutBlock
import Derived.Deep.RegionHeld3
import Derived.Laws.Rows
import Derived.Lib.AppendStr
import Derived.ArgAppend
import Derived.Laws.IdiomCopy
import Derived.OrdersHeld
import Derived.Laws.BitsLemmas
import Derived.RowKit
import Derived.Lib.SliceRun
import Derived.Laws.Externs
namespace Go.Proofs.Ytneceomekgophaa.QDys
open Go.RowKit Go.Proofs.YtneceomekgophaaW.PrintWords Go.Proofs.YtneceomekgophaaW.PrintLast Go.Proofs.YtneceomekgophaaW.PrintMore
attribute [local go_sem] max2_int min2_int max_two min_two max_three min_three max_four min_four
set_option linter.unusedVariables false
set_option linter.unusedSimpArgs false
def errW : Option Int → Value
 | none => .nilIface
 | some c => .iface 0 (.int .i64 c)
theorem errW_none : errW none = .nilIface := rfl
theorem errW_some (c : Int) : errW (some c) = .iface 0 (.int .i64 c) := rfl
def add64l (x y c : Int) : Int := ((x.toNat + y.toNat + c.toNat) % 18446744073709551616 : Nat)
def add64c (x y c : Int) : Int := ((x.toNat + y.toNat + c.toNat) / 18446744073709551616 : Nat)
def sub64l (x y c : Int) : Int := ((x.toNat + 18446744073709551616 - y.toNat - c.toNat) % 18446744073709551616 : Nat)
def sub64c (x y c : Int) : Int := ((if x.toNat < y.toNat + c.toNat then 1 else 0) : Nat)
def add64E : Array Value → Sem Value := fun args => do
 let (x, y, c) ← Extern.MathBitsCarry.three "Add64" args
 pure (Extern.MathBitsCarry.pair ((x + y + c) % Extern.MathBitsCarry.m64) ((x + y + c) / Extern.MathBitsCarry.m64))
def sub64E : Array Value → Sem Value := fun args => do
 let (x, y, b) ← Extern.MathBitsCarry.three "Sub64" args
 pure (Extern.MathBitsCarry.pair ((x + Extern.MathBitsCarry.m64 - y - b) % Extern.MathBitsCarry.m64) (if x < y + b then 1 else 0))
theorem run_add64E {P : Program} (x y c : Int) (h0 : 0 ≤ c) (h1 : c < 2) (W : World) : (add64E #[.int .u64 x, .int .u64 y, .int .u64 c]).run P W = .ok (.tuple #[.int .u64 (add64l x y c), .int .u64 (add64c x y c)]) W := by
 obtain rfl | rfl : c = 0 ∨ c = 1 := by omega
 all_goals rfl
theorem run_sub64E {P : Program} (x y c : Int) (h0 : 0 ≤ c) (h1 : c < 2) (W : World) : (sub64E #[.int .u64 x, .int .u64 y, .int .u64 c]).run P W = .ok (.tuple #[.int .u64 (sub64l x y c), .int .u64 (sub64c x y c)]) W := by
 obtain rfl | rfl : c = 0 ∨ c = 1 := by omega
 all_goals rfl
theorem run_add64_103 (x y c : Int) (h0 : 0 ≤ c) (h1 : c < 2) (W : World) : (callFunc 103 #[.int .u64 x, .int .u64 y, .int .u64 c]).run Try.prog W = .ok (.value (.tuple #[.int .u64 (add64l x y c), .int .u64 (add64c x y c)])) W := by
 rw [run_callFunc_extern (fn := Try.f103) (e := add64E) kf kf kf kf kf, run_add64E x y c h0 h1]
 rfl
theorem run_sub64_105 (x y c : Int) (h0 : 0 ≤ c) (h1 : c < 2) (W : World) : (callFunc 105 #[.int .u64 x, .int .u64 y, .int .u64 c]).run Try.prog W = .ok (.value (.tuple #[.int .u64 (sub64l x y c), .int .u64 (sub64c x y c)])) W := by
 rw [run_callFunc_extern (fn := Try.f105) (e := sub64E) kf kf kf kf kf, run_sub64E x y c h0 h1]
 rfl
theorem eqA25 (d : Nat) (w : World) (x0 y0 : Int) (x1 y1 : Int) :
 (Op.equalIn (d + 2) 25 (.agg #[.int .i64 x0, .int .i64 x1]) (.agg #[.int .i64 y0, .int .i64 y1])).run Try.prog w = .ok (x0 == y0 && (x1 == y1)) w := by
 refine eqA_of Try.underlying25 kf ?_
 refine eqf_cons (by rfl) (by go_simp; rfl) (by go_simp; rfl) (by go_simp) ?_
 exact eqf_last (by rfl) (by go_simp; rfl) (by go_simp; rfl) (by go_simp)
end Go.Proofs.Ytneceomekgophaa.QDys
