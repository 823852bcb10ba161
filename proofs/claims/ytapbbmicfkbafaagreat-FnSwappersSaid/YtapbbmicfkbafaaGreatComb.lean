import Derived.Test.YtapbbmicfkbafaaGreatBase
namespace Go.Proofs.YtapbbmicfkbafaaGreat.Comb
open Go.Proofs.YtapbbmicfkbafaaGreat.Base
set_option linter.unusedVariables false
set_option linter.unusedSimpArgs false
def C : Nat → Nat → Nat
  | _, 0 => 1
  | 0, _ + 1 => 0
  | n + 1, k + 1 => C n (k + 1) + C n k
@[simp] theorem C_zero (n : Nat) : C n 0 = 1 := by cases n <;> rfl
@[simp] theorem C_nil (k : Nat) : C 0 (k + 1) = 0 := rfl
theorem C_succ (n k : Nat) : C (n + 1) (k + 1) = C n (k + 1) + C n k := rfl
theorem C_big (n : Nat) : ∀ k, n < k → C n k = 0 := by
  induction n with
  | zero => intro k h; obtain ⟨k, rfl⟩ : ∃ m, k = m + 1 := ⟨k - 1, by omega⟩; rfl
  | succ n ih => intro k h; obtain ⟨k, rfl⟩ : ∃ m, k = m + 1 := ⟨k - 1, by omega⟩; rw [C_succ, ih _ (by omega), ih _ (by omega)]
@[simp] theorem C_self (n : Nat) : C n n = 1 := by
  induction n with
  | zero => rfl
  | succ n ih => rw [C_succ, ih, C_big n _ (by omega)]
theorem C_pos (n : Nat) : ∀ k, k ≤ n → 0 < C n k := by
  induction n with
  | zero => intro k h; obtain rfl : k = 0 := by omega
            simp
  | succ n ih =>
    intro k h
    cases k with
    | zero => simp
    | succ k => rw [C_succ]; have := ih k (by omega); omega
def lexC : Nat → Nat → Int → List (List Int)
  | _, 0, _ => [[]]
  | 0, _ + 1, _ => []
  | m + 1, k + 1, x => (lexC m k (x + 1)).map (x :: ·) ++ lexC m (k + 1) (x + 1)
@[simp] theorem lexC_zero (m : Nat) (x : Int) : lexC m 0 x = [[]] := by cases m <;> rfl
def findI (x : Int) : Int → List Int → Int
  | _, [] => -1
  | j, y :: t => if x = y then j else findI x (j + 1) t
end Go.Proofs.YtapbbmicfkbafaaGreat.Comb
