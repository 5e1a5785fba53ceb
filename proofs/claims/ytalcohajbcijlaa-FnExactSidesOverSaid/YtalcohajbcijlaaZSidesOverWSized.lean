import Derived.SizedLaws
import Derived.ChangeSlices
namespace Go.Proofs.YtalcohajbcijlaaW.PrintWords
open Go.ChangeShapes Go.WideShapes
end Go.Proofs.YtalcohajbcijlaaW.PrintWords
