
import Derived.SizedLaws
import Derived.ChangeSlices
namespace Go.Proofs.YtmkokfljonbcmaaW.PrintWords
open Go.ChangeShapes Go.WideShapes
end Go.Proofs.YtmkokfljonbcmaaW.PrintWords
