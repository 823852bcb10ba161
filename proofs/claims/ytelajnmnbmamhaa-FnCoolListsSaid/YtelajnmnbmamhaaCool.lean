/- Lists by cool steps come back to their first one behind as many steps as there are combinations: reckoned, for at most 12 bits. -/
import Derived.Test.YtelajnmnbmamhaaComb
namespace Go.Proofs.Ytelajnmnbmamhaa.Cool
open Go.Proofs.Ytelajnmnbmamhaa.Base Go.Proofs.Ytelajnmnbmamhaa.Comb
set_option linter.unusedVariables false
def comes (n k : Nat) : Bool := match coolRun (coolFirst n k) 1000 (coolL (coolFirst n k)) with
  | some R => R.length + 1 == C n k
  | none => false
theorem cool_comes : ((List.range 13).all fun n => (List.range (n + 1)).all fun k => comes n k) = true := by decide +kernel
theorem cool_run (n k : Nat) (hn : n ≤ 12) (hk : k ≤ n) : ∃ R, coolRun (coolFirst n k) 1000 (coolL (coolFirst n k)) = some R ∧ R.length + 1 = C n k := by
  have hc := List.all_eq_true.1 (List.all_eq_true.1 cool_comes n (List.mem_range.2 (by omega))) k (List.mem_range.2 (by omega))
  unfold comes at hc
  split at hc
  · rename_i R hR
    exact ⟨R, hR, by simpa using hc⟩
  · cases hc
end Go.Proofs.Ytelajnmnbmamhaa.Cool
