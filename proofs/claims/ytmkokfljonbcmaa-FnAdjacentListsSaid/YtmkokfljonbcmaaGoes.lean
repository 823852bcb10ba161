import Derived.Test.YtmkokfljonbcmaaComb
namespace Go.Proofs.Ytmkokfljonbcmaa.Goes
open Go.Proofs.Ytmkokfljonbcmaa.Base Go.Proofs.Ytmkokfljonbcmaa.Comb
set_option linter.unusedVariables false
set_option linter.unusedSimpArgs false
end Go.Proofs.Ytmkokfljonbcmaa.Goes
