import Derived.Test.YtllhnnjkonghlaaBase
namespace Go.Proofs.Ytllhnnjkonghlaa.Trot
open Go.RowKit Go.Proofs.YtllhnnjkonghlaaW.PrintWords Go.Proofs.Ytllhnnjkonghlaa.Base
set_option linter.unusedVariables false
set_option linter.unusedSimpArgs false
def fac : Nat → Nat
  | 0 => 1
  | n + 1 => (n + 1) * fac n
theorem fac_pos : ∀ n, 0 < fac n
  | 0 => by simp [fac]
  | n + 1 => by have := fac_pos n; simp [fac]; exact this
theorem fac_succ (n : Nat) : fac (n + 1) = (n + 1) * fac n := rfl
theorem fac_mono {m n : Nat} (h : m ≤ n) : fac m ≤ fac n := by
  induction h with
  | refl => exact Nat.le_refl _
  | step h ih => exact Nat.le_trans ih (by rw [fac_succ]; exact Nat.le_mul_of_pos_left _ (by omega))
end Go.Proofs.Ytllhnnjkonghlaa.Trot
