import Derived.Test.YtedijkelbdpcdaaFoc
import Derived.Test.YtedijkelbdpcdaaFocB
import Derived.Test.YtedijkelbdpcdaaFocR
namespace Go.Proofs.Ytedijkelbdpcdaa.FocG
open Go.Proofs.Ytedijkelbdpcdaa.Base Go.Proofs.Ytedijkelbdpcdaa.Foc Go.Proofs.Ytedijkelbdpcdaa.FocB Go.Proofs.Ytedijkelbdpcdaa.FocR
set_option linter.unusedVariables false
set_option linter.unusedSimpArgs false
end Go.Proofs.Ytedijkelbdpcdaa.FocG
