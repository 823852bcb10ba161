import Derived.Test.YtmkokfljonbcmaaGoes
namespace Go.Proofs.Ytmkokfljonbcmaa.RevX
open Go.Proofs.Ytmkokfljonbcmaa.Base Go.Proofs.Ytmkokfljonbcmaa.Comb Go.Proofs.Ytmkokfljonbcmaa.Goes
set_option linter.unusedVariables false
set_option linter.unusedSimpArgs false
def X (a b : List Int) : Prop := (exchL a b).2.2 = true
end Go.Proofs.Ytmkokfljonbcmaa.RevX
