import Derived.Test.YtapbbmicfkbafaaGreatBase
namespace Go.Proofs.YtapbbmicfkbafaaGreat.FocB
open Go.Proofs.YtapbbmicfkbafaaGreat.Base
set_option linter.unusedVariables false
set_option linter.unusedSimpArgs false
def capI : Int → List Int → Int
  | n, [] => n
  | n, b :: t => capI (if n * b ≤ 1000001 then n * b else 1000001) t
def prS : Int → List Int → Int
  | n, [] => n
  | n, b :: t => if n * b > 1000000 then n * b else prS (n * b) t
theorem cap_top : ∀ (t : List Int), (∀ x ∈ t, 2 ≤ x ∧ x ≤ 12) → capI 1000001 t = 1000001
  | [], _ => rfl
  | b :: t, h => by
    have hb := h b (by simp)
    rw [capI, if_neg (by omega)]
    exact cap_top t (fun x hx => h x (by simp [hx]))
theorem pr_cap : ∀ (t : List Int) (n : Int), (∀ x ∈ t, 2 ≤ x ∧ x ≤ 12) → 1 ≤ n → n ≤ 1000000 → ((prS n t ≤ 1000000 ∧ capI n t = prS n t) ∨ (1000000 < prS n t ∧ capI n t = 1000001))
  | [], n, _, _, _ => by left; exact ⟨by rw [prS]; assumption, by rw [capI, prS]⟩
  | b :: t, n, h, h1, h2 => by
    have hb := h b (by simp)
    have q1 : n * b ≤ n * 12 := Int.mul_le_mul_of_nonneg_left hb.2 (by omega)
    have q2 : n * 2 ≤ n * b := Int.mul_le_mul_of_nonneg_left hb.1 (by omega)
    rw [prS, capI]
    generalize n * b = p at q1 q2 ⊢
    by_cases c : p > 1000000
    · right
      rw [if_pos c]
      refine ⟨c, ?_⟩
      rw [show (if p ≤ 1000001 then p else 1000001) = 1000001 from by split <;> omega]
      exact cap_top t (fun x hx => h x (by simp [hx]))
    · rw [if_neg c, if_pos (by omega)]
      exact pr_cap t p (fun x hx => h x (by simp [hx])) (by omega) (by omega)
def fob (xs : List Int) : Bool := decide (xs.length ≤ 12) && ((xs.all fun x => decide (2 ≤ x ∧ x ≤ 12)) && decide (prS 1 xs ≤ 5040))
def stF (l : List Int) : List Int × List Int × List Bool × List Int := (l, List.replicate l.length 0, List.replicate l.length true, upTo (l.length + 1))
end Go.Proofs.YtapbbmicfkbafaaGreat.FocB
