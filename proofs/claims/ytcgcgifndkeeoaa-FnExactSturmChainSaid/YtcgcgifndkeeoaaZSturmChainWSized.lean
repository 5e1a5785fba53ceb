import Derived.SizedLaws
import Derived.ChangeSlices
namespace Go.Proofs.YtcgcgifndkeeoaaW.PrintWords
open Go.ChangeShapes Go.WideShapes
end Go.Proofs.YtcgcgifndkeeoaaW.PrintWords
