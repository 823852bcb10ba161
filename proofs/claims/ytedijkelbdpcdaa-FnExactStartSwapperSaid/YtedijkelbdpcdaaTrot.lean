import Derived.Test.YtedijkelbdpcdaaBase
namespace Go.Proofs.Ytedijkelbdpcdaa.Trot
open Go.RowKit Go.Proofs.YtedijkelbdpcdaaW.PrintWords Go.Proofs.Ytedijkelbdpcdaa.Base
set_option linter.unusedVariables false
set_option linter.unusedSimpArgs false
def place (n : Nat) (r : Int) : Int := if r / ((n : Int) + 1) % 2 = 0 then n - r % ((n : Int) + 1) else r % ((n : Int) + 1)
end Go.Proofs.Ytedijkelbdpcdaa.Trot
