import Derived.Test.YtcgcgifndkeeoaaZSturmChainQStux0
import Derived.Test.YtcgcgifndkeeoaaZSturmChainQStux7
import Derived.Test.YtcgcgifndkeeoaaZSturmChainQStux8
import Derived.Test.YtcgcgifndkeeoaaZSturmChainQStux9
import Derived.Test.YtcgcgifndkeeoaaZSturmChainQStux10
namespace Go.Proofs.Ytcgcgifndkeeoaa.QStu
open Go.RowKit Go.Proofs.YtcgcgifndkeeoaaW.PrintWords Go.Proofs.YtcgcgifndkeeoaaW.PrintLast Go.Proofs.YtcgcgifndkeeoaaW.PrintMore
attribute [local go_sem] max2_int min2_int max_two min_two max_three min_three max_four min_four   -- for this text's walks alone
set_option linter.unusedVariables false
set_option linter.unusedSimpArgs false
mutual
def impl_sturmChain.j0 : Nat → List (List Int) → Option ((List (List Int)) × Bool)
  | 0, _ => none
  | k + 1, x6 => impl_sturmChain.l0 k x6 (x6.length : Int)
def impl_sturmChain.l0 : Nat → List (List Int) → Int → Option ((List (List Int)) × Bool)
  | 0, _, _ => none
  | k + 1, x6, x7 => if 0 ≤ (wrap64 (x7 - 1)) then (if (wrap64 (x7 - 1)) < (x6.length : Int) then (if ((rd_L1 x6 (wrap64 (x7 - 1))).length : Int) > 1 then (if 0 ≤ (wrap64 (x7 - 2)) then (if (wrap64 (x7 - 2)) < (x6.length : Int) then ((impl_remainder.f k (rd_L1 x6 (wrap64 (x7 - 2))) (rd_L1 x6 (wrap64 (x7 - 1)))).bind fun bt373 => (if bt373.2 = true then ((impl_negated.f k bt373.1).bind fun t377 => (if x6.length < 5864062014805 then (impl_sturmChain.l0 k (x6 ++ [t377]) (wrap64 (x7 + 1))) else (none))) else (some (([] : List (List Int)), false)))) else (none)) else (none)) else (some (x6, true))) else (none)) else (none)
end
def impl_sturmChain.f (k : Nat) (l0 : List Int) : Option ((List (List Int)) × Bool) := (impl_squarefreePart.f k l0).bind fun bt354 => (if bt354.2 = true then ((some (([bt354.1] : List (List Int)) : List (List Int))).bind fun y358 => (if (bt354.1.length : Int) > 1 then ((impl_deriveSingle.f k bt354.1).bind fun t361 => ((impl_divided.f k t361).bind fun t364 => (if y358.length < 5864062014805 then (impl_sturmChain.j0 k (y358 ++ [t364])) else (none)))) else (impl_sturmChain.j0 k y358))) else (some (([] : List (List Int)), false)))
def impl_sturmChain.T10 : Bool × List (List Nat × List Nat) := (true, [([], []), ([], []), ([1], [1]), ([0, 2], [0, 2]), ([3], [3]), ([], []), ([], []), ([6], [6]), ([5, 7], [5, 7]), ([8], [8]), ([4, 9], [4, 9]), ([10], [10]), ([11], [11]), ([11], [11]), ([12, 10, 0, 1, 2, 3, 4, 5, 6, 7, 8, 9, 10, 11, 12], [12]), ([13, 14, 0, 1, 2, 3, 4, 5, 6, 7, 8, 9, 10, 11, 12, 13, 14], [13])])
def impl_sturmChain.B10 : List Nat := [0, 0, 2, 7, 15, 0, 0, 64, 224, 480, 1023, 2047, 4095, 4095, 8191, 32767]
theorem impl_sturmChain.tab10 : rtab .any (opsOf Try.f64 10) = impl_sturmChain.T10 := by kernel_rfl
theorem impl_sturmChain.bits10 : waitsOk impl_sturmChain.T10.2 impl_sturmChain.B10 = true := by kernel_rfl
end Go.Proofs.Ytcgcgifndkeeoaa.QStu
