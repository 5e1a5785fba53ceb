import Derived.SizedLaws
import Derived.ChangeSlices
namespace Go.Proofs.YtalcohajbcijlaaGreatW.PrintWords
open Go.ChangeShapes Go.WideShapes
end Go.Proofs.YtalcohajbcijlaaGreatW.PrintWords
