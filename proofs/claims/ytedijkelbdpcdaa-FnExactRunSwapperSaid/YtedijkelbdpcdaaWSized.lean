
import Derived.SizedLaws
import Derived.ChangeSlices
namespace Go.Proofs.YtedijkelbdpcdaaW.PrintWords
open Go.ChangeShapes Go.WideShapes
end Go.Proofs.YtedijkelbdpcdaaW.PrintWords
