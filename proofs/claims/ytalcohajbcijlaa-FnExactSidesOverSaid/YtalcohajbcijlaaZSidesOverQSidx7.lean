import Derived.Test.YtalcohajbcijlaaZSidesOverQSidx0
import Derived.Test.YtalcohajbcijlaaZSidesOverQSidx3
import Derived.Test.YtalcohajbcijlaaZSidesOverQSidx4
import Derived.Test.YtalcohajbcijlaaZSidesOverQSidx6
namespace Go.Proofs.Ytalcohajbcijlaa.QSid
open Go.RowKit Go.Proofs.YtalcohajbcijlaaW.PrintWords Go.Proofs.YtalcohajbcijlaaW.PrintLast Go.Proofs.YtalcohajbcijlaaW.PrintMore
attribute [local go_sem] max2_int min2_int max_two min_two max_three min_three max_four min_four   -- for this text's walks alone
set_option linter.unusedVariables false
set_option linter.unusedSimpArgs false
def impl_Box_dyadic.f (k : Nat) (s0_0 : Int) (s0_1 : List Int) (s0_2 : List Int) (a1 : Int) : Option (Int × Int × Int) := (impl_wideOf.f a1).bind fun bt156 => ((impl_wide_fit.f k bt156.1 bt156.2.1 bt156.2.2 s0_0).bind fun bt159 => (some (bt159.1, bt159.2.1, s0_0)))
def impl_Box_dyadic.T1 : Bool × List (List Nat × List Nat) := (true, [([], []), ([0], [0]), ([], []), ([2], [2]), ([3], [3]), ([4], [4]), ([1, 5, 1], [1, 5]), ([6], [6]), ([7], [7]), ([7], [7]), ([], []), ([10, 8, 6, 0, 1, 2, 3, 4, 5, 6, 7, 8, 10], [8, 10]), ([9, 11, 0, 1, 2, 3, 4, 5, 6, 7, 8, 9, 10, 11], [9])])
def impl_Box_dyadic.B1 : List Nat := [0, 1, 0, 4, 12, 28, 63, 127, 255, 255, 0, 1535, 4095]
theorem impl_Box_dyadic.tab1 : rtab .any (opsOf Try.f114 1) = impl_Box_dyadic.T1 := by kernel_rfl
theorem impl_Box_dyadic.bits1 : waitsOk impl_Box_dyadic.T1.2 impl_Box_dyadic.B1 = true := by kernel_rfl
end Go.Proofs.Ytalcohajbcijlaa.QSid
