
import Derived.SizedLaws
import Derived.ChangeSlices
namespace Go.Proofs.YtaogaigpnmpdcaaW.PrintWords
open Go.ChangeShapes Go.WideShapes
end Go.Proofs.YtaogaigpnmpdcaaW.PrintWords
