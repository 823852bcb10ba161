import Derived.Test.YtllhnnjkonghlaaBase
namespace Go.Proofs.Ytllhnnjkonghlaa.Comb
open Go.Proofs.Ytllhnnjkonghlaa.Base
set_option linter.unusedVariables false
set_option linter.unusedSimpArgs false
def C : Nat → Nat → Nat
  | _, 0 => 1
  | 0, _ + 1 => 0
  | n + 1, k + 1 => C n (k + 1) + C n k
@[simp] theorem C_zero (n : Nat) : C n 0 = 1 := by cases n <;> rfl
@[simp] theorem C_nil (k : Nat) : C 0 (k + 1) = 0 := rfl
theorem C_succ (n k : Nat) : C (n + 1) (k + 1) = C n (k + 1) + C n k := rfl
theorem C_big (n : Nat) : ∀ k, n < k → C n k = 0 := by
  induction n with
  | zero => intro k h; obtain ⟨k, rfl⟩ : ∃ m, k = m + 1 := ⟨k - 1, by omega⟩; rfl
  | succ n ih => intro k h; obtain ⟨k, rfl⟩ : ∃ m, k = m + 1 := ⟨k - 1, by omega⟩; rw [C_succ, ih _ (by omega), ih _ (by omega)]
@[simp] theorem C_self (n : Nat) : C n n = 1 := by
  induction n with
  | zero => rfl
  | succ n ih => rw [C_succ, ih, C_big n _ (by omega)]
theorem C_pos (n : Nat) : ∀ k, k ≤ n → 0 < C n k := by
  induction n with
  | zero => intro k h; obtain rfl : k = 0 := by omega
            simp
  | succ n ih =>
    intro k h
    cases k with
    | zero => simp
    | succ k => rw [C_succ]; have := ih k (by omega); omega
def lexC : Nat → Nat → Int → List (List Int)
  | _, 0, _ => [[]]
  | 0, _ + 1, _ => []
  | m + 1, k + 1, x => (lexC m k (x + 1)).map (x :: ·) ++ lexC m (k + 1) (x + 1)
@[simp] theorem lexC_zero (m : Nat) (x : Int) : lexC m 0 x = [[]] := by cases m <;> rfl
def rk : Nat → List Int → Int
  | 0, _ => 0
  | n + 1, l => if l.length = 0 ∨ l.length = n + 1 then 0 else if l.getLast? = some (n : Int) then C (n + 1) l.length - 1 - rk n l.dropLast else rk n l
def placeI (l : List Int) : Int → List (List Int) → Int
  | _, [] => -1
  | j, t :: T => if t = l then j else placeI l (j + 1) T
theorem placeI_mem : ∀ (L : List (List Int)) (l : List Int) (j : Int), 0 ≤ j → (0 ≤ placeI l j L ↔ l ∈ L) := by
  intro L
  induction L with
  | nil => intro l j _; simp [placeI]
  | cons t T ih =>
    intro l j h
    rw [placeI, List.mem_cons]
    by_cases c : t = l
    · simp [c, h]
    · rw [if_neg c, ih l (j + 1) (by omega)]; simp [Ne.symm c]
end Go.Proofs.Ytllhnnjkonghlaa.Comb
