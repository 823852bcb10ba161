import Derived.Test.YtapbbmicfkbafaaGreatBase
namespace Go.Proofs.YtapbbmicfkbafaaGreat.Trot
open Go.RowKit Go.Proofs.YtapbbmicfkbafaaGreatW.PrintWords Go.Proofs.YtapbbmicfkbafaaGreat.Base
set_option linter.unusedVariables false
set_option linter.unusedSimpArgs false
def fac : Nat → Nat
  | 0 => 1
  | n + 1 => (n + 1) * fac n
theorem fac_pos : ∀ n, 0 < fac n
  | 0 => by simp [fac]
  | n + 1 => by have := fac_pos n; simp [fac]; exact this
theorem fac_succ (n : Nat) : fac (n + 1) = (n + 1) * fac n := rfl
theorem fac_mono {m n : Nat} (h : m ≤ n) : fac m ≤ fac n := by
  induction h with
  | refl => exact Nat.le_refl _
  | step h ih => exact Nat.le_trans ih (by rw [fac_succ]; exact Nat.le_mul_of_pos_left _ (by omega))
theorem fac_le12 (n : Nat) (h : n ≤ 12) : fac n ≤ 479001600 := Nat.le_trans (fac_mono h) (by decide)
def place (n : Nat) (r : Int) : Int := if r / ((n : Int) + 1) % 2 = 0 then n - r % ((n : Int) + 1) else r % ((n : Int) + 1)
def trot : Nat → Int → List Int
  | 0, _ => []
  | n + 1, r => (trot n (r / ((n : Int) + 1))).insertIdx (place n r).toNat (n : Int)
theorem place_range (n : Nat) (r : Int) : 0 ≤ place n r ∧ place n r ≤ n := by
  unfold place
  have h1 := Int.emod_nonneg r (show ((n : Int) + 1) ≠ 0 by omega)
  have h2 := Int.emod_lt_of_pos r (show 0 < ((n : Int) + 1) by omega)
  split <;> omega
theorem trot_length : ∀ (n : Nat) (r : Int), (trot n r).length = n
  | 0, _ => rfl
  | n + 1, r => by
    have h := place_range n r
    rw [trot, List.length_insertIdx_of_le_length (by rw [trot_length n]; omega), trot_length n]
theorem insertIdx_take {α : Type} (x : α) : ∀ (l : List α) (i : Nat), i ≤ l.length → l.insertIdx i x = l.take i ++ [x] ++ l.drop i
  | l, 0, _ => by simp
  | [], i + 1, h => by simp at h
  | a :: l, i + 1, h => by
    rw [List.insertIdx_succ_cons, insertIdx_take x l i (by simpa using h)]
    simp
theorem div_range (n : Nat) (r : Int) (h0 : 0 ≤ r) (h : r < (fac (n + 1) : Nat)) : 0 ≤ r / ((n : Int) + 1) ∧ r / ((n : Int) + 1) < (fac n : Nat) := by
  refine ⟨Int.ediv_nonneg h0 (by omega), Int.ediv_lt_of_lt_mul (by omega) ?_⟩
  rw [fac_succ] at h
  rw [Int.mul_comm]
  exact_mod_cast h
end Go.Proofs.YtapbbmicfkbafaaGreat.Trot
