import Derived.Test.YtedijkelbdpcdaaBase
namespace Go.Proofs.Ytedijkelbdpcdaa.FocB
open Go.Proofs.Ytedijkelbdpcdaa.Base
set_option linter.unusedVariables false
set_option linter.unusedSimpArgs false
theorem rep_snoc (j : Int) (h : 0 ≤ j) : List.replicate j.toNat true ++ [true] = List.replicate (j + 1).toNat true := by
  rw [show (j + 1).toNat = j.toNat + 1 from by omega, List.replicate_succ']
def stF (l : List Int) : List Int × List Int × List Bool × List Int := (l, List.replicate l.length 0, List.replicate l.length true, upTo (l.length + 1))
end Go.Proofs.Ytedijkelbdpcdaa.FocB
