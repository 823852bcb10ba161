/- Combinations: binomial numbers, the lexicographic and the revolving list. Plain mathematics: nothing here speaks of the program. -/
import Derived.Test.YtllhnnjkonghlaaBase
namespace Go.Proofs.Ytllhnnjkonghlaa.Comb
open Go.Proofs.Ytllhnnjkonghlaa.Base
set_option linter.unusedVariables false
set_option linter.unusedSimpArgs false

/-- Binomial numbers. -/
def C : Nat → Nat → Nat
  | _, 0 => 1
  | 0, _ + 1 => 0
  | n + 1, k + 1 => C n (k + 1) + C n k
@[simp] theorem C_zero (n : Nat) : C n 0 = 1 := by cases n <;> rfl
@[simp] theorem C_nil (k : Nat) : C 0 (k + 1) = 0 := rfl
theorem C_succ (n k : Nat) : C (n + 1) (k + 1) = C n (k + 1) + C n k := rfl
theorem C_big (n : Nat) : ∀ k, n < k → C n k = 0 := by
  induction n with
  | zero => intro k h; obtain ⟨k, rfl⟩ : ∃ m, k = m + 1 := ⟨k - 1, by omega⟩; rfl
  | succ n ih => intro k h; obtain ⟨k, rfl⟩ : ∃ m, k = m + 1 := ⟨k - 1, by omega⟩; rw [C_succ, ih _ (by omega), ih _ (by omega)]
@[simp] theorem C_self (n : Nat) : C n n = 1 := by
  induction n with
  | zero => rfl
  | succ n ih => rw [C_succ, ih, C_big n _ (by omega)]
theorem C_pos (n : Nat) : ∀ k, k ≤ n → 0 < C n k := by
  induction n with
  | zero => intro k h; obtain rfl : k = 0 := by omega
            simp
  | succ n ih =>
    intro k h
    cases k with
    | zero => simp
    | succ k => rw [C_succ]; have := ih k (by omega); omega
theorem C_le (n : Nat) : ∀ k, C n k ≤ 2 ^ n := by
  induction n with
  | zero => intro k; cases k <;> simp
  | succ n ih =>
    intro k
    cases k with
    | zero => simp; exact Nat.one_le_two_pow
    | succ k => rw [C_succ, Nat.pow_succ]; have := ih k; have := ih (k + 1); omega
theorem C_le12 (n k : Nat) (h : n ≤ 12) : C n k ≤ 4096 := Nat.le_trans (C_le n k) (Nat.pow_le_pow_right (n := 2) (by omega) h)

/-- Combinations of the m numbers from x on with k elements, lexicographically. -/
def lexC : Nat → Nat → Int → List (List Int)
  | _, 0, _ => [[]]
  | 0, _ + 1, _ => []
  | m + 1, k + 1, x => (lexC m k (x + 1)).map (x :: ·) ++ lexC m (k + 1) (x + 1)
@[simp] theorem lexC_zero (m : Nat) (x : Int) : lexC m 0 x = [[]] := by cases m <;> rfl
theorem lexC_length (m : Nat) : ∀ (k : Nat) (x : Int), (lexC m k x).length = C m k := by
  induction m with
  | zero => intro k x; cases k <;> rfl
  | succ m ih => intro k x; cases k with
    | zero => simp
    | succ k => simp only [lexC, List.length_append, List.length_map, ih, C_succ]; omega
theorem lexC_mem (m : Nat) : ∀ (k : Nat) (x : Int) (l : List Int), l ∈ lexC m k x → l.length = k ∧ ∀ y ∈ l, x ≤ y ∧ y < x + m := by
  induction m with
  | zero => intro k x l h; cases k with
    | zero => simp [lexC] at h; subst h; simp
    | succ k => simp [lexC] at h
  | succ m ih => intro k x l h; cases k with
    | zero => simp at h; subst h; simp
    | succ k =>
      simp only [lexC, List.mem_append, List.mem_map] at h
      rcases h with ⟨t, ht, rfl⟩ | h
      · obtain ⟨h1, h2⟩ := ih _ _ _ ht
        refine ⟨by simp [h1], fun y hy => ?_⟩
        rcases List.mem_cons.1 hy with rfl | hy
        · omega
        · have := h2 y hy; omega
      · obtain ⟨h1, h2⟩ := ih _ _ _ h
        exact ⟨h1, fun y hy => by have := h2 y hy; omega⟩
/-- Increasing from a bound on. -/
def incrFrom : Int → List Int → Bool
  | _, [] => true
  | b, x :: t => decide (b ≤ x) && incrFrom (x + 1) t
/-- A combination of n: increasing numbers in 0..n - 1. -/
def comb (n : Int) (l : List Int) : Bool := incrFrom 0 l && l.all (fun x => decide (x < n))
theorem incrFrom_mono : ∀ (l : List Int) (b c : Int), c ≤ b → incrFrom b l = true → incrFrom c l = true := by
  intro l
  cases l with
  | nil => intros; rfl
  | cons x t => intro b c h hb; simp only [incrFrom, Bool.and_eq_true, decide_eq_true_eq] at hb ⊢; exact ⟨by omega, hb.2⟩
theorem incrFrom_ge : ∀ (l : List Int) (b : Int), incrFrom b l = true → ∀ x ∈ l, b ≤ x := by
  intro l
  induction l with
  | nil => intro b _ x hx; cases hx
  | cons y t ih =>
    intro b hb x hx
    simp only [incrFrom, Bool.and_eq_true, decide_eq_true_eq] at hb
    rcases List.mem_cons.1 hx with rfl | hx
    · exact hb.1
    · have := ih _ hb.2 x hx; omega
/-- Combinations of the m numbers from x on are those lists. -/
theorem mem_lexC (m : Nat) : ∀ (l : List Int) (x : Int), incrFrom x l = true → (∀ y ∈ l, y < x + m) → l ∈ lexC m l.length x := by
  induction m with
  | zero =>
    intro l x h hb
    cases l with
    | nil => simp
    | cons y t => have := hb y (by simp); have := incrFrom_ge _ _ h y (by simp); omega
  | succ m ih =>
    intro l x h hb
    cases l with
    | nil => simp
    | cons y t =>
      simp only [List.length_cons, lexC, List.mem_append, List.mem_map]
      have h' := h
      simp only [incrFrom, Bool.and_eq_true, decide_eq_true_eq] at h
      by_cases e : y = x
      · subst e
        exact .inl ⟨t, ih t (y + 1) h.2 (fun z hz => by have := hb z (by simp [hz]); omega), rfl⟩
      · refine .inr (ih (y :: t) (x + 1) ?_ (fun z hz => by have := hb z hz; omega))
        simp only [incrFrom, Bool.and_eq_true, decide_eq_true_eq]
        exact ⟨by omega, h.2⟩
theorem comb_mem {n : Nat} {l : List Int} (h : comb n l = true) : l ∈ lexC n l.length 0 := by
  simp only [comb, Bool.and_eq_true, List.all_eq_true, decide_eq_true_eq] at h
  exact mem_lexC n l 0 h.1 (fun y hy => by have := h.2 y hy; omega)
theorem lexC_incr (m : Nat) : ∀ (k : Nat) (x : Int) (l : List Int), l ∈ lexC m k x → incrFrom x l = true := by
  induction m with
  | zero => intro k x l h; cases k with
    | zero => simp [lexC] at h; subst h; rfl
    | succ k => simp [lexC] at h
  | succ m ih => intro k x l h; cases k with
    | zero => simp at h; subst h; rfl
    | succ k =>
      simp only [lexC, List.mem_append, List.mem_map] at h
      rcases h with ⟨t, ht, rfl⟩ | h
      · simp only [incrFrom, Bool.and_eq_true, decide_eq_true_eq]; exact ⟨Int.le_refl _, ih _ _ _ ht⟩
      · exact incrFrom_mono _ _ _ (by omega) (ih _ _ _ h)
theorem comb_of_lex {n k : Nat} {l : List Int} (h : l ∈ lexC n k 0) : comb n l = true ∧ l.length = k := by
  obtain ⟨h1, h2⟩ := lexC_mem _ _ _ _ h
  refine ⟨?_, h1⟩
  simp only [comb, Bool.and_eq_true, List.all_eq_true, decide_eq_true_eq]
  exact ⟨lexC_incr _ _ _ _ h, fun y hy => by have := h2 y hy; omega⟩
theorem incrFrom_length : ∀ (l : List Int) (b n : Int), incrFrom b l = true → (∀ y ∈ l, y < n) → b ≤ n → (l.length : Int) ≤ n - b := by
  intro l
  induction l with
  | nil => intro b n _ _ h; simp; omega
  | cons x t ih =>
    intro b n h hb hn
    simp only [incrFrom, Bool.and_eq_true, decide_eq_true_eq] at h
    have := hb x (by simp)
    have := ih (x + 1) n h.2 (fun y hy => hb y (by simp [hy])) (by omega)
    simp only [List.length_cons]; omega
theorem comb_length {n : Nat} {l : List Int} (h : comb n l = true) : l.length ≤ n := by
  simp only [comb, Bool.and_eq_true, List.all_eq_true, decide_eq_true_eq] at h
  have := incrFrom_length l 0 n h.1 h.2 (by omega)
  omega
theorem incrFrom_append : ∀ (l : List Int) (b a : Int), incrFrom b (l ++ [a]) = true ↔ incrFrom b l = true ∧ b ≤ a ∧ ∀ y ∈ l, y < a := by
  intro l
  induction l with
  | nil => intro b a; simp [incrFrom]
  | cons x t ih =>
    intro b a
    simp only [List.cons_append, incrFrom, Bool.and_eq_true, decide_eq_true_eq, ih, List.mem_cons, forall_eq_or_imp]
    constructor
    · rintro ⟨h1, h2, h3, h4⟩; exact ⟨⟨h1, h2⟩, by omega, by omega, h4⟩
    · rintro ⟨⟨h1, h2⟩, h3, h4, h5⟩; exact ⟨h1, h2, by omega, h5⟩
theorem comb_snoc (n : Int) (l : List Int) (a : Int) : comb n (l ++ [a]) = true ↔ comb a l = true ∧ 0 ≤ a ∧ a < n := by
  simp only [comb, Bool.and_eq_true, List.all_eq_true, decide_eq_true_eq, incrFrom_append, List.mem_append, List.mem_singleton]
  constructor
  · rintro ⟨⟨h1, h2, h3⟩, h4⟩; exact ⟨⟨h1, h3⟩, h2, h4 a (.inr rfl)⟩
  · rintro ⟨⟨h1, h3⟩, h2, h4⟩
    refine ⟨⟨h1, h2, h3⟩, fun x hx => ?_⟩
    rcases hx with hx | rfl
    · have := h3 x hx; omega
    · exact h4
theorem comb_full (n : Nat) : ∀ (l : List Int), comb n l = true → l.length = n → l = upTo n := by
  induction n with
  | zero => intro l _ h; rw [List.length_eq_zero_iff.1 h]; rfl
  | succ n ih =>
    intro l h hl
    rcases List.eq_nil_or_concat l with rfl | ⟨t, a, rfl⟩
    · simp at hl
    · rw [List.concat_eq_append] at h hl ⊢
      rw [comb_snoc] at h
      obtain ⟨h1, h2, h3⟩ := h
      have h4 : t.length = n := by simpa using hl
      have h5 : comb (a.toNat : Nat) t = true := by rw [Int.toNat_of_nonneg h2]; exact h1
      have h6 := comb_length h5
      have h7 : a = n := by omega
      subst h7
      rw [upTo_succ, ih t h1 h4]

/-- The revolving list. -/
def rev : Nat → Nat → List (List Int)
  | n, 0 => [upTo 0]
  | 0, k + 1 => [upTo (k + 1)]
  | n + 1, k + 1 => if k = n then [upTo (k + 1)] else rev n (k + 1) ++ (rev n k).reverse.map (· ++ [(n : Int)])
theorem rev_zero (n : Nat) : rev n 0 = [[]] := by cases n <;> rfl
theorem rev_self (n : Nat) : rev n n = [upTo n] := by
  cases n with
  | zero => rfl
  | succ n => simp [rev]
theorem rev_length (n : Nat) : ∀ k, k ≤ n → (rev n k).length = C n k := by
  induction n with
  | zero => intro k h; obtain rfl : k = 0 := by omega
            rfl
  | succ n ih =>
    intro k h
    cases k with
    | zero => simp [rev]
    | succ k =>
      by_cases e : k = n
      · subst e; simp [rev]
      · simp only [rev, if_neg e, List.length_append, List.length_map, List.length_reverse, ih (k + 1) (by omega), ih k (by omega), C_succ]
theorem comb_upTo (n : Nat) : comb n (upTo n) = true := by
  have hi : ∀ m : Nat, incrFrom 0 (upTo m) = true := by
    intro m
    induction m with
    | zero => rfl
    | succ m ih => rw [upTo_succ, incrFrom_append]; exact ⟨ih, by omega, fun y hy => (mem_upTo.1 hy).2⟩
  simp only [comb, Bool.and_eq_true, List.all_eq_true, decide_eq_true_eq]
  exact ⟨hi n, fun x hx => (mem_upTo.1 hx).2⟩
theorem comb_mono {n m : Int} (h : n ≤ m) {l : List Int} (hc : comb n l = true) : comb m l = true := by
  simp only [comb, Bool.and_eq_true, List.all_eq_true, decide_eq_true_eq] at hc ⊢
  exact ⟨hc.1, fun x hx => by have := hc.2 x hx; omega⟩
theorem rev_mem (n : Nat) : ∀ (k : Nat) (l : List Int), k ≤ n → l ∈ rev n k → comb n l = true ∧ l.length = k := by
  induction n with
  | zero => intro k l h hl; obtain rfl : k = 0 := by omega
            simp [rev, upTo] at hl; subst hl; exact ⟨rfl, rfl⟩
  | succ n ih =>
    intro k l h hl
    cases k with
    | zero => simp [rev, upTo] at hl; subst hl; exact ⟨rfl, rfl⟩
    | succ k =>
      by_cases e : k = n
      · subst e; simp [rev] at hl; subst hl; exact ⟨comb_upTo _, upTo_length _⟩
      · simp only [rev, if_neg e, List.mem_append, List.mem_map, List.mem_reverse] at hl
        rcases hl with hl | ⟨t, ht, rfl⟩
        · obtain ⟨h1, h2⟩ := ih _ _ (by omega) hl
          exact ⟨comb_mono (by omega) h1, h2⟩
        · obtain ⟨h1, h2⟩ := ih _ _ (by omega) ht
          refine ⟨(comb_snoc _ _ _).2 ⟨h1, by omega, by omega⟩, by simp [h2]⟩
theorem mem_rev (n : Nat) : ∀ (l : List Int), comb n l = true → l ∈ rev n l.length := by
  induction n with
  | zero =>
    intro l h
    have := comb_length h
    have h0 : l = [] := List.length_eq_zero_iff.1 (by omega)
    subst h0; simp [rev, upTo]
  | succ n ih =>
    intro l h
    rcases List.eq_nil_or_concat l with rfl | ⟨t, a, rfl⟩
    · simp [rev, upTo]
    · rw [List.concat_eq_append] at h ⊢
      by_cases e : t.length = n
      · have hf := comb_full (n + 1) (t ++ [a]) h (by simp [e])
        rw [hf, upTo_length, rev_self]; simp
      · have hl := comb_length h
        have hlen : (t ++ [a]).length = t.length + 1 := by simp
        rw [hlen]
        simp only [rev, if_neg e, List.mem_append, List.mem_map, List.mem_reverse]
        have h2 := (comb_snoc _ _ _).1 h
        by_cases ea : a = n
        · subst ea
          exact .inr ⟨t, ih t h2.1, rfl⟩
        · left
          have h3 : comb n (t ++ [a]) = true := (comb_snoc _ _ _).2 ⟨h2.1, h2.2.1, by omega⟩
          have := ih _ h3
          rwa [hlen] at this
theorem rev_small (n k : Nat) (hn : n ≤ 12) (hk : k ≤ n) : (rev n k).length ≤ 4096 ∧ ∀ t ∈ rev n k, t.length ≤ 12 := by
  have := rev_length n k hk
  have := C_le12 n k hn
  exact ⟨by omega, fun t ht => by have := (rev_mem n k t hk ht).2; omega⟩
/-- The index of a combination in the revolving list. -/
def rk : Nat → List Int → Int
  | 0, _ => 0
  | n + 1, l => if l.length = 0 ∨ l.length = n + 1 then 0 else if l.getLast? = some (n : Int) then C (n + 1) l.length - 1 - rk n l.dropLast else rk n l
theorem comb_last {n : Nat} {l : List Int} (h : comb n l = true) : l.getLast? ≠ some (n : Int) := by
  intro e
  have hm := List.mem_of_getLast? e
  simp only [comb, Bool.and_eq_true, List.all_eq_true, decide_eq_true_eq] at h
  have := h.2 _ hm
  omega
theorem rk_rev (n : Nat) : ∀ (k i : Nat) (h : i < (rev n k).length), k ≤ n → rk n (rev n k)[i] = i := by
  induction n with
  | zero =>
    intro k i h hk
    obtain rfl : k = 0 := by omega
    simp [rev] at h
    subst h; rfl
  | succ n ih =>
    intro k i h hk
    have hm := rev_mem (n + 1) k _ hk (List.getElem_mem h)
    cases k with
    | zero =>
      have : i = 0 := by simp [rev] at h; exact h
      subst this; simp [rk, hm.2]
    | succ k =>
      by_cases e : k = n
      · subst e
        have : i = 0 := by simp [rev] at h; exact h
        subst this; simp [rk, hm.2]
      · have hr : rev (n + 1) (k + 1) = rev n (k + 1) ++ (rev n k).reverse.map (· ++ [(n : Int)]) := by simp [rev, e]
        have hl1 := rev_length n (k + 1) (by omega)
        have hl2 := rev_length n k (by omega)
        rw [rk, if_neg (by rw [hm.2]; omega)]
        by_cases hi : i < (rev n (k + 1)).length
        · have he : (rev (n + 1) (k + 1))[i] = (rev n (k + 1))[i] := by
            simp only [hr]; exact List.getElem_append_left hi
          rw [he] at hm ⊢
          have hm2 := rev_mem n (k + 1) _ (by omega) (List.getElem_mem hi)
          rw [if_neg (comb_last hm2.1)]
          exact ih _ _ _ (by omega)
        · have hi2 : i - (rev n (k + 1)).length < (rev n k).length := by
            have := h; rw [rev_length _ _ hk, C_succ] at this; omega
          have he : (rev (n + 1) (k + 1))[i] = (rev n k)[(rev n k).length - 1 - (i - (rev n (k + 1)).length)] ++ [(n : Int)] := by
            simp only [hr]
            rw [List.getElem_append_right (by omega)]
            simp
          rw [he] at hm ⊢
          rw [if_pos (by simp), hm.2]
          simp only [List.dropLast_concat]
          rw [ih k _ (by omega) (by omega), C_succ]
          rw [rev_length _ _ hk, C_succ] at h
          omega
/-- The sum of numbers. -/
def sumI (l : List Int) : Int := l.foldl (· + ·) 0
theorem foldl_sum (l : List Int) : ∀ a : Int, l.foldl (· + ·) a = a + sumI l := by
  unfold sumI
  induction l with
  | nil => intro a; simp
  | cons x t ih => intro a; simp only [List.foldl_cons]; rw [ih (a + x), ih (0 + x)]; omega
theorem sumI_cons (x : Int) (t : List Int) : sumI (x :: t) = x + sumI t := by
  show (x :: t).foldl (· + ·) 0 = _
  rw [List.foldl_cons, foldl_sum]; omega
theorem sumI_bound : ∀ (l : List Int), (∀ y ∈ l, 0 ≤ y ∧ y < 12) → 0 ≤ sumI l ∧ sumI l ≤ 12 * l.length := by
  intro l
  induction l with
  | nil => intro _; simp [sumI]
  | cons x t ih =>
    intro h
    have := h x (by simp)
    have := ih (fun y hy => h y (by simp [hy]))
    rw [sumI_cons]; simp only [List.length_cons]; omega
/-- How many lists have an odd sum. -/
def odds (ts : List (List Int)) : Nat := (ts.filter fun t => sumI t % 2 != 0).length
theorem odds_cons (t : List Int) (ts : List (List Int)) : odds (t :: ts) = (if sumI t % 2 = 0 then 0 else 1) + odds ts := by
  unfold odds
  by_cases h : sumI t % 2 = 0
  · simp [List.filter_cons, h]
  · simp [List.filter_cons, h]; omega
theorem odds_le (ts : List (List Int)) : odds ts ≤ ts.length := List.length_filter_le _ _
theorem lex_small (n k : Nat) (hn : n ≤ 12) (hk : k ≤ n) : ∀ t ∈ lexC n k 0, t.length ≤ 12 ∧ ∀ y ∈ t, 0 ≤ y ∧ y < 12 := by
  intro t ht
  obtain ⟨h1, h2⟩ := lexC_mem _ _ _ _ ht
  exact ⟨by omega, fun y hy => by have := h2 y hy; omega⟩
/-- Increasing. -/
def incr : List Int → Bool
  | [] => true
  | x :: t => incrFrom (x + 1) t
theorem comb_all (n : Int) (l : List Int) : ((l.all fun x => decide (0 ≤ x ∧ x ≤ n - 1)) && incr l) = comb n l := by
  cases l with
  | nil => rfl
  | cons x t =>
    rw [Bool.eq_iff_iff]
    simp only [comb, incr, incrFrom, Bool.and_eq_true, List.all_eq_true, decide_eq_true_eq, List.mem_cons, forall_eq_or_imp]
    constructor
    · rintro ⟨⟨h1, h2⟩, h3⟩; exact ⟨⟨by omega, h3⟩, by omega, fun y hy => by have := h2 y hy; omega⟩
    · rintro ⟨⟨h1, h2⟩, h3, h4⟩
      exact ⟨⟨by omega, fun y hy => by have := h4 y hy; have := incrFrom_ge _ _ h2 y hy; omega⟩, h2⟩
/-- A combination of n, n in 0..12. -/
def isComb (n : Int) (l : List Int) : Bool := decide (0 ≤ n ∧ n ≤ 12) && comb n l
theorem isComb_parts {n : Int} {l : List Int} (h : isComb n l = true) : 0 ≤ n ∧ n ≤ 12 ∧ comb n l = true := by
  simp only [isComb, Bool.and_eq_true, decide_eq_true_eq] at h
  exact ⟨h.1.1, h.1.2, h.2⟩
theorem comb_bound {n : Int} {l : List Int} (h : comb n l = true) : ∀ y ∈ l, 0 ≤ y ∧ y < n := by
  simp only [comb, Bool.and_eq_true, List.all_eq_true, decide_eq_true_eq] at h
  exact fun y hy => ⟨incrFrom_ge _ _ h.1 y hy, h.2 y hy⟩
/-- The first place of a number, counted from j on, or -1. -/
def findI (x : Int) : Int → List Int → Int
  | _, [] => -1
  | j, y :: t => if x = y then j else findI x (j + 1) t
theorem findI_mem (x : Int) : ∀ (l : List Int) (j : Int), 0 ≤ j → (0 ≤ findI x j l ↔ x ∈ l) := by
  intro l
  induction l with
  | nil => intro j _; simp [findI]
  | cons y t ih =>
    intro j h
    rw [findI, List.mem_cons]
    by_cases c : x = y
    · simp [c, h]
    · rw [if_neg c, ih (j + 1) (by omega)]; simp [c]
/-- The numbers of a list that are not in another one. -/
def missL (a b : List Int) : List Int := a.filter fun x => decide (x ∉ b)
/-- What is exchanged. -/
def exchL (a b : List Int) : Int × Int × Bool :=
  if ((missL a b).length : Int) = 1 then (if ((missL b a).length : Int) = 1 then (Go.Proofs.YtllhnnjkonghlaaW.PrintWords.rd (missL a b) 0, Go.Proofs.YtllhnnjkonghlaaW.PrintWords.rd (missL b a) 0, true) else (0, 0, false)) else (0, 0, false)
/-- Bits are set. -/
def setBits : List Int → List Int → List Int
  | out, [] => out
  | out, x :: t => setBits (out.set x.toNat 1) t
/-- The bits of a combination. -/
def bitsL (n : Nat) (l : List Int) : List Int := setBits (List.replicate n 0) l
theorem setBits_length : ∀ (l out : List Int), (setBits out l).length = out.length := by
  intro l
  induction l with
  | nil => intro out; rfl
  | cons x t ih => intro out; rw [setBits, ih]; simp
theorem bitsL_length (n : Nat) (l : List Int) : (bitsL n l).length = n := by rw [bitsL, setBits_length]; simp
/-- A list of at most 12 bits. -/
def isBits (l : List Int) : Bool := decide (l.length ≤ 12) && l.all fun x => decide (0 ≤ x ∧ x ≤ 1)
theorem isBits_length {l : List Int} (h : isBits l = true) : l.length ≤ 12 := by
  simp only [isBits, Bool.and_eq_true, decide_eq_true_eq] at h; exact h.1
/-- The end of the shortest beginning that ends with 0, 1 and a bit, looked for from the index i on, over so many places; all, if there is none. -/
def coolEnd (xs : List Int) (i : Nat) : Nat → Nat
  | 0 => xs.length
  | d + 1 => if Go.Proofs.YtllhnnjkonghlaaW.PrintWords.rd xs (i : Int) = 0 ∧ Go.Proofs.YtllhnnjkonghlaaW.PrintWords.rd xs ((i : Int) + 1) = 1 then i + 3 else coolEnd xs (i + 1) d
def coolM (xs : List Int) : Nat := coolEnd xs 0 (xs.length - 2)
theorem coolEnd_bound (xs : List Int) : ∀ (d i : Nat), i + d + 2 ≤ xs.length ∨ d = 0 → coolEnd xs i d ≤ xs.length ∧ (coolEnd xs i d = 0 → xs.length = 0) := by
  intro d
  induction d with
  | zero => intro i _; simp [coolEnd]
  | succ d ih =>
    intro i h
    rw [coolEnd]
    split
    · exact ⟨by omega, by omega⟩
    · exact ih (i + 1) (by omega)
theorem coolM_bound (xs : List Int) : coolM xs ≤ xs.length ∧ (coolM xs = 0 → xs.length = 0) := coolEnd_bound xs _ 0 (by omega)
/-- The bits behind a cool step. -/
def coolL (xs : List Int) : List Int := if coolM xs = 0 then [] else Go.Proofs.YtllhnnjkonghlaaW.PrintWords.rd xs ((coolM xs : Int) - 1) :: (xs.take (coolM xs - 1) ++ xs.drop (coolM xs))
theorem coolL_length (xs : List Int) : (coolL xs).length = xs.length := by
  have h := coolM_bound xs
  unfold coolL
  by_cases c : coolM xs = 0
  · rw [if_pos c]; simp [h.2 c]
  · rw [if_neg c]; simp; omega
/-- The first place of a list in a list of lists, counted from j on, or -1. -/
def placeI (l : List Int) : Int → List (List Int) → Int
  | _, [] => -1
  | j, t :: T => if t = l then j else placeI l (j + 1) T
theorem placeI_get : ∀ (L : List (List Int)) (i : Nat) (h : i < L.length) (j : Int), (∀ (i' : Nat) (h' : i' < L.length), L[i'] = L[i] → i' = i) → placeI L[i] j L = j + i := by
  intro L
  induction L with
  | nil => intro i h; simp at h
  | cons t T ih =>
    intro i h j hf
    rw [placeI]
    cases i with
    | zero => simp
    | succ i =>
      have h0 : ¬ t = (t :: T)[i + 1] := fun e => by have := hf 0 (by simp) e; omega
      rw [if_neg h0]
      simp only [List.getElem_cons_succ]
      rw [ih i (by simpa using h) (j + 1) (fun i' h' e => by have := hf (i' + 1) (by simpa using h') (by simpa using e); omega)]
      omega
theorem placeI_none : ∀ (L : List (List Int)) (l : List Int) (j : Int), l ∉ L → placeI l j L = -1 := by
  intro L
  induction L with
  | nil => intro l j _; rfl
  | cons t T ih =>
    intro l j h
    simp only [List.mem_cons, not_or] at h
    rw [placeI, if_neg (fun e => h.1 e.symm), ih l (j + 1) h.2]
theorem placeI_mem : ∀ (L : List (List Int)) (l : List Int) (j : Int), 0 ≤ j → (0 ≤ placeI l j L ↔ l ∈ L) := by
  intro L
  induction L with
  | nil => intro l j _; simp [placeI]
  | cons t T ih =>
    intro l j h
    rw [placeI, List.mem_cons]
    by_cases c : t = l
    · simp [c, h]
    · rw [if_neg c, ih l (j + 1) (by omega)]; simp [Ne.symm c]
theorem rev_find (n : Nat) (l : List Int) (h : comb n l = true) : ∃ (i : Nat) (hi : i < (rev n l.length).length), (rev n l.length)[i] = l ∧ rk n l = i := by
  obtain ⟨i, hi, e⟩ := List.getElem_of_mem (mem_rev n l h)
  refine ⟨i, hi, e, ?_⟩
  have := rk_rev n l.length i hi (comb_length h)
  rwa [e] at this
theorem rk_bound (n : Nat) (l : List Int) (h : comb n l = true) : 0 ≤ rk n l ∧ rk n l < C n l.length := by
  obtain ⟨i, hi, _, e⟩ := rev_find n l h
  rw [rev_length n _ (comb_length h)] at hi
  omega
theorem placeI_rev (n : Nat) (l : List Int) (h : comb n l = true) : placeI l 0 (rev n l.length) = rk n l := by
  obtain ⟨i, hi, e, er⟩ := rev_find n l h
  have hp := placeI_get (rev n l.length) i hi 0 (fun i' h' e' => by
    have h1 := rk_rev n l.length i hi (comb_length h)
    have h2 := rk_rev n l.length i' h' (comb_length h)
    rw [e'] at h2
    omega)
  rw [e] at hp
  rw [hp, er]; omega
/-- The list by cool steps behind the first one, up to before the first one comes again, if that is within so many steps. -/
def coolRun (f : List Int) : Nat → List Int → Option (List (List Int))
  | 0, _ => none
  | m + 1, l => if l = f then some [] else (coolRun f m (coolL l)).map (l :: ·)
theorem coolRun_small (f : List Int) : ∀ (m : Nat) (l : List Int) (L : List (List Int)), coolRun f m l = some L → L.length ≤ m ∧ ∀ t ∈ L, t.length = l.length := by
  intro m
  induction m with
  | zero => intro l L h; simp [coolRun] at h
  | succ m ih =>
    intro l L h
    rw [coolRun] at h
    by_cases c : l = f
    · rw [if_pos c] at h; injection h with h; subst h; simp
    · rw [if_neg c] at h
      obtain ⟨L1, h1, rfl⟩ := Option.map_eq_some_iff.1 h
      obtain ⟨h2, h3⟩ := ih _ _ h1
      refine ⟨by simp; omega, fun t ht => ?_⟩
      rcases List.mem_cons.1 ht with rfl | ht
      · rfl
      · rw [h3 t ht, coolL_length]
def coolFirst (n k : Nat) : List Int := bitsL n (upTo k)
theorem coolFirst_length (n k : Nat) : (coolFirst n k).length = n := bitsL_length _ _
/-- The places of the ones, counted from j on. -/
def onesI : Int → List Int → List Int
  | _, [] => []
  | j, x :: t => if x = 1 then j :: onesI (j + 1) t else onesI (j + 1) t
theorem onesI_length : ∀ (l : List Int) (j : Int), (∀ x ∈ l, 0 ≤ x ∧ x ≤ 1) → ((onesI j l).length : Int) = sumI l := by
  intro l
  induction l with
  | nil => intro j _; simp [onesI, sumI]
  | cons x t ih =>
    intro j h
    have hx := h x (by simp)
    have ht := ih (j + 1) (fun y hy => h y (by simp [hy]))
    rw [onesI, sumI_cons]
    by_cases c : x = 1
    · rw [if_pos c]; simp only [List.length_cons]; omega
    · rw [if_neg c]; omega
theorem onesI_le : ∀ (l : List Int) (j : Int), (onesI j l).length ≤ l.length := by
  intro l
  induction l with
  | nil => intro j; simp [onesI]
  | cons x t ih =>
    intro j
    have ht := ih (j + 1)
    rw [onesI]
    by_cases c : x = 1
    · rw [if_pos c]; simp only [List.length_cons]; omega
    · rw [if_neg c]; simp only [List.length_cons]; omega
theorem isBits_bits {l : List Int} (h : isBits l = true) : ∀ x ∈ l, 0 ≤ x ∧ x ≤ 1 := by
  simp only [isBits, Bool.and_eq_true, List.all_eq_true, decide_eq_true_eq] at h; exact h.2
/-- The next combination of the revolving list. -/
def nextRev (n : Int) (l : List Int) : List Int × Bool :=
  if isComb n l = true then (if 0 ≤ rk n.toNat l + 1 ∧ rk n.toNat l + 1 < C n.toNat l.length then ((rev n.toNat l.length).getD (rk n.toNat l + 1).toNat [], true) else ([], false)) else ([], false)
theorem nextRev_length (n : Int) (l : List Int) : (nextRev n l).1.length ≤ 1000 := by
  unfold nextRev
  by_cases c : isComb n l = true
  · obtain ⟨h0, h1, hc⟩ := isComb_parts c
    obtain ⟨m, rfl⟩ := Int.eq_ofNat_of_zero_le h0
    have hk := comb_length hc
    rw [if_pos c]
    by_cases c2 : 0 ≤ rk (m : Int).toNat l + 1 ∧ rk (m : Int).toNat l + 1 < C (m : Int).toNat l.length
    · rw [if_pos c2]
      rw [Int.toNat_natCast] at c2 ⊢
      have hs := rev_small m l.length (by omega) hk
      have hm : (rev m l.length).getD (rk m l + 1).toNat [] ∈ rev m l.length := by
        rw [List.getD_eq_getElem?_getD, List.getElem?_eq_getElem (show (rk m l + 1).toNat < (rev m l.length).length by rw [rev_length m _ hk]; omega)]
        exact List.getElem_mem _
      have := hs.2 _ hm
      show ((rev m l.length).getD (rk m l + 1).toNat []).length ≤ 1000
      omega
    · rw [if_neg c2]; simp
  · rw [if_neg c]; simp
end Go.Proofs.Ytllhnnjkonghlaa.Comb
