import Derived.Test.YtmkokfljonbcmaaBase
namespace Go.Proofs.Ytmkokfljonbcmaa.Comb
open Go.Proofs.Ytmkokfljonbcmaa.Base
set_option linter.unusedVariables false
set_option linter.unusedSimpArgs false
def C : Nat → Nat → Nat
  | _, 0 => 1
  | 0, _ + 1 => 0
  | n + 1, k + 1 => C n (k + 1) + C n k
@[simp] theorem C_zero (n : Nat) : C n 0 = 1 := by cases n <;> rfl
@[simp] theorem C_nil (k : Nat) : C 0 (k + 1) = 0 := rfl
theorem C_succ (n k : Nat) : C (n + 1) (k + 1) = C n (k + 1) + C n k := rfl
theorem C_big (n : Nat) : ∀ k, n < k → C n k = 0 := by
  induction n with
  | zero => intro k h; obtain ⟨k, rfl⟩ : ∃ m, k = m + 1 := ⟨k - 1, by omega⟩; rfl
  | succ n ih => intro k h; obtain ⟨k, rfl⟩ : ∃ m, k = m + 1 := ⟨k - 1, by omega⟩; rw [C_succ, ih _ (by omega), ih _ (by omega)]
@[simp] theorem C_self (n : Nat) : C n n = 1 := by
  induction n with
  | zero => rfl
  | succ n ih => rw [C_succ, ih, C_big n _ (by omega)]
theorem C_pos (n : Nat) : ∀ k, k ≤ n → 0 < C n k := by
  induction n with
  | zero => intro k h; obtain rfl : k = 0 := by omega
            simp
  | succ n ih =>
    intro k h
    cases k with
    | zero => simp
    | succ k => rw [C_succ]; have := ih k (by omega); omega
theorem C_le (n : Nat) : ∀ k, C n k ≤ 2 ^ n := by
  induction n with
  | zero => intro k; cases k <;> simp
  | succ n ih =>
    intro k
    cases k with
    | zero => simp; exact Nat.one_le_two_pow
    | succ k => rw [C_succ, Nat.pow_succ]; have := ih k; have := ih (k + 1); omega
theorem C_le12 (n k : Nat) (h : n ≤ 12) : C n k ≤ 4096 := Nat.le_trans (C_le n k) (Nat.pow_le_pow_right (n := 2) (by omega) h)
def lexC : Nat → Nat → Int → List (List Int)
  | _, 0, _ => [[]]
  | 0, _ + 1, _ => []
  | m + 1, k + 1, x => (lexC m k (x + 1)).map (x :: ·) ++ lexC m (k + 1) (x + 1)
@[simp] theorem lexC_zero (m : Nat) (x : Int) : lexC m 0 x = [[]] := by cases m <;> rfl
theorem lexC_length (m : Nat) : ∀ (k : Nat) (x : Int), (lexC m k x).length = C m k := by
  induction m with
  | zero => intro k x; cases k <;> rfl
  | succ m ih => intro k x; cases k with
    | zero => simp
    | succ k => simp only [lexC, List.length_append, List.length_map, ih, C_succ]; omega
theorem lexC_mem (m : Nat) : ∀ (k : Nat) (x : Int) (l : List Int), l ∈ lexC m k x → l.length = k ∧ ∀ y ∈ l, x ≤ y ∧ y < x + m := by
  induction m with
  | zero => intro k x l h; cases k with
    | zero => simp [lexC] at h; subst h; simp
    | succ k => simp [lexC] at h
  | succ m ih => intro k x l h; cases k with
    | zero => simp at h; subst h; simp
    | succ k =>
      simp only [lexC, List.mem_append, List.mem_map] at h
      rcases h with ⟨t, ht, rfl⟩ | h
      · obtain ⟨h1, h2⟩ := ih _ _ _ ht
        refine ⟨by simp [h1], fun y hy => ?_⟩
        rcases List.mem_cons.1 hy with rfl | hy
        · omega
        · have := h2 y hy; omega
      · obtain ⟨h1, h2⟩ := ih _ _ _ h
        exact ⟨h1, fun y hy => by have := h2 y hy; omega⟩
def sumI (l : List Int) : Int := l.foldl (· + ·) 0
theorem foldl_sum (l : List Int) : ∀ a : Int, l.foldl (· + ·) a = a + sumI l := by
  unfold sumI
  induction l with
  | nil => intro a; simp
  | cons x t ih => intro a; simp only [List.foldl_cons]; rw [ih (a + x), ih (0 + x)]; omega
theorem sumI_cons (x : Int) (t : List Int) : sumI (x :: t) = x + sumI t := by
  show (x :: t).foldl (· + ·) 0 = _
  rw [List.foldl_cons, foldl_sum]; omega
theorem sumI_bound : ∀ (l : List Int), (∀ y ∈ l, 0 ≤ y ∧ y < 12) → 0 ≤ sumI l ∧ sumI l ≤ 12 * l.length := by
  intro l
  induction l with
  | nil => intro _; simp [sumI]
  | cons x t ih =>
    intro h
    have := h x (by simp)
    have := ih (fun y hy => h y (by simp [hy]))
    rw [sumI_cons]; simp only [List.length_cons]; omega
def odds (ts : List (List Int)) : Nat := (ts.filter fun t => sumI t % 2 != 0).length
theorem odds_cons (t : List Int) (ts : List (List Int)) : odds (t :: ts) = (if sumI t % 2 = 0 then 0 else 1) + odds ts := by
  unfold odds
  by_cases h : sumI t % 2 = 0
  · simp [List.filter_cons, h]
  · simp [List.filter_cons, h]; omega
theorem odds_le (ts : List (List Int)) : odds ts ≤ ts.length := List.length_filter_le _ _
theorem lex_small (n k : Nat) (hn : n ≤ 12) (hk : k ≤ n) : ∀ t ∈ lexC n k 0, t.length ≤ 12 ∧ ∀ y ∈ t, 0 ≤ y ∧ y < 12 := by
  intro t ht
  obtain ⟨h1, h2⟩ := lexC_mem _ _ _ _ ht
  exact ⟨by omega, fun y hy => by have := h2 y hy; omega⟩
end Go.Proofs.Ytmkokfljonbcmaa.Comb
