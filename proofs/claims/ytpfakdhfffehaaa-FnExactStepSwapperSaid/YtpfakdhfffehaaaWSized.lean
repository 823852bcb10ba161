
import Derived.SizedLaws
import Derived.ChangeSlices
namespace Go.Proofs.YtpfakdhfffehaaaW.PrintWords
open Go.ChangeShapes Go.WideShapes
end Go.Proofs.YtpfakdhfffehaaaW.PrintWords
