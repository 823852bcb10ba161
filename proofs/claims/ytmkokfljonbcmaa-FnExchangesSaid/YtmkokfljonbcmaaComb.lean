import Derived.Test.YtmkokfljonbcmaaBase
namespace Go.Proofs.Ytmkokfljonbcmaa.Comb
open Go.Proofs.Ytmkokfljonbcmaa.Base
set_option linter.unusedVariables false
set_option linter.unusedSimpArgs false
def C : Nat → Nat → Nat
  | _, 0 => 1
  | 0, _ + 1 => 0
  | n + 1, k + 1 => C n (k + 1) + C n k
@[simp] theorem C_zero (n : Nat) : C n 0 = 1 := by cases n <;> rfl
@[simp] theorem C_nil (k : Nat) : C 0 (k + 1) = 0 := rfl
theorem C_succ (n k : Nat) : C (n + 1) (k + 1) = C n (k + 1) + C n k := rfl
theorem C_big (n : Nat) : ∀ k, n < k → C n k = 0 := by
  induction n with
  | zero => intro k h; obtain ⟨k, rfl⟩ : ∃ m, k = m + 1 := ⟨k - 1, by omega⟩; rfl
  | succ n ih => intro k h; obtain ⟨k, rfl⟩ : ∃ m, k = m + 1 := ⟨k - 1, by omega⟩; rw [C_succ, ih _ (by omega), ih _ (by omega)]
@[simp] theorem C_self (n : Nat) : C n n = 1 := by
  induction n with
  | zero => rfl
  | succ n ih => rw [C_succ, ih, C_big n _ (by omega)]
theorem C_pos (n : Nat) : ∀ k, k ≤ n → 0 < C n k := by
  induction n with
  | zero => intro k h; obtain rfl : k = 0 := by omega
            simp
  | succ n ih =>
    intro k h
    cases k with
    | zero => simp
    | succ k => rw [C_succ]; have := ih k (by omega); omega
theorem C_le (n : Nat) : ∀ k, C n k ≤ 2 ^ n := by
  induction n with
  | zero => intro k; cases k <;> simp
  | succ n ih =>
    intro k
    cases k with
    | zero => simp; exact Nat.one_le_two_pow
    | succ k => rw [C_succ, Nat.pow_succ]; have := ih k; have := ih (k + 1); omega
theorem C_le12 (n k : Nat) (h : n ≤ 12) : C n k ≤ 4096 := Nat.le_trans (C_le n k) (Nat.pow_le_pow_right (n := 2) (by omega) h)
def lexC : Nat → Nat → Int → List (List Int)
  | _, 0, _ => [[]]
  | 0, _ + 1, _ => []
  | m + 1, k + 1, x => (lexC m k (x + 1)).map (x :: ·) ++ lexC m (k + 1) (x + 1)
@[simp] theorem lexC_zero (m : Nat) (x : Int) : lexC m 0 x = [[]] := by cases m <;> rfl
theorem lexC_length (m : Nat) : ∀ (k : Nat) (x : Int), (lexC m k x).length = C m k := by
  induction m with
  | zero => intro k x; cases k <;> rfl
  | succ m ih => intro k x; cases k with
    | zero => simp
    | succ k => simp only [lexC, List.length_append, List.length_map, ih, C_succ]; omega
theorem lexC_mem (m : Nat) : ∀ (k : Nat) (x : Int) (l : List Int), l ∈ lexC m k x → l.length = k ∧ ∀ y ∈ l, x ≤ y ∧ y < x + m := by
  induction m with
  | zero => intro k x l h; cases k with
    | zero => simp [lexC] at h; subst h; simp
    | succ k => simp [lexC] at h
  | succ m ih => intro k x l h; cases k with
    | zero => simp at h; subst h; simp
    | succ k =>
      simp only [lexC, List.mem_append, List.mem_map] at h
      rcases h with ⟨t, ht, rfl⟩ | h
      · obtain ⟨h1, h2⟩ := ih _ _ _ ht
        refine ⟨by simp [h1], fun y hy => ?_⟩
        rcases List.mem_cons.1 hy with rfl | hy
        · omega
        · have := h2 y hy; omega
      · obtain ⟨h1, h2⟩ := ih _ _ _ h
        exact ⟨h1, fun y hy => by have := h2 y hy; omega⟩
def incrFrom : Int → List Int → Bool
  | _, [] => true
  | b, x :: t => decide (b ≤ x) && incrFrom (x + 1) t
def comb (n : Int) (l : List Int) : Bool := incrFrom 0 l && l.all (fun x => decide (x < n))
theorem incrFrom_mono : ∀ (l : List Int) (b c : Int), c ≤ b → incrFrom b l = true → incrFrom c l = true := by
  intro l
  cases l with
  | nil => intros; rfl
  | cons x t => intro b c h hb; simp only [incrFrom, Bool.and_eq_true, decide_eq_true_eq] at hb ⊢; exact ⟨by omega, hb.2⟩
theorem incrFrom_ge : ∀ (l : List Int) (b : Int), incrFrom b l = true → ∀ x ∈ l, b ≤ x := by
  intro l
  induction l with
  | nil => intro b _ x hx; cases hx
  | cons y t ih =>
    intro b hb x hx
    simp only [incrFrom, Bool.and_eq_true, decide_eq_true_eq] at hb
    rcases List.mem_cons.1 hx with rfl | hx
    · exact hb.1
    · have := ih _ hb.2 x hx; omega
theorem mem_lexC (m : Nat) : ∀ (l : List Int) (x : Int), incrFrom x l = true → (∀ y ∈ l, y < x + m) → l ∈ lexC m l.length x := by
  induction m with
  | zero =>
    intro l x h hb
    cases l with
    | nil => simp
    | cons y t => have := hb y (by simp); have := incrFrom_ge _ _ h y (by simp); omega
  | succ m ih =>
    intro l x h hb
    cases l with
    | nil => simp
    | cons y t =>
      simp only [List.length_cons, lexC, List.mem_append, List.mem_map]
      have h' := h
      simp only [incrFrom, Bool.and_eq_true, decide_eq_true_eq] at h
      by_cases e : y = x
      · subst e
        exact .inl ⟨t, ih t (y + 1) h.2 (fun z hz => by have := hb z (by simp [hz]); omega), rfl⟩
      · refine .inr (ih (y :: t) (x + 1) ?_ (fun z hz => by have := hb z hz; omega))
        simp only [incrFrom, Bool.and_eq_true, decide_eq_true_eq]
        exact ⟨by omega, h.2⟩
theorem comb_mem {n : Nat} {l : List Int} (h : comb n l = true) : l ∈ lexC n l.length 0 := by
  simp only [comb, Bool.and_eq_true, List.all_eq_true, decide_eq_true_eq] at h
  exact mem_lexC n l 0 h.1 (fun y hy => by have := h.2 y hy; omega)
theorem lexC_incr (m : Nat) : ∀ (k : Nat) (x : Int) (l : List Int), l ∈ lexC m k x → incrFrom x l = true := by
  induction m with
  | zero => intro k x l h; cases k with
    | zero => simp [lexC] at h; subst h; rfl
    | succ k => simp [lexC] at h
  | succ m ih => intro k x l h; cases k with
    | zero => simp at h; subst h; rfl
    | succ k =>
      simp only [lexC, List.mem_append, List.mem_map] at h
      rcases h with ⟨t, ht, rfl⟩ | h
      · simp only [incrFrom, Bool.and_eq_true, decide_eq_true_eq]; exact ⟨Int.le_refl _, ih _ _ _ ht⟩
      · exact incrFrom_mono _ _ _ (by omega) (ih _ _ _ h)
theorem comb_of_lex {n k : Nat} {l : List Int} (h : l ∈ lexC n k 0) : comb n l = true ∧ l.length = k := by
  obtain ⟨h1, h2⟩ := lexC_mem _ _ _ _ h
  refine ⟨?_, h1⟩
  simp only [comb, Bool.and_eq_true, List.all_eq_true, decide_eq_true_eq]
  exact ⟨lexC_incr _ _ _ _ h, fun y hy => by have := h2 y hy; omega⟩
theorem incrFrom_length : ∀ (l : List Int) (b n : Int), incrFrom b l = true → (∀ y ∈ l, y < n) → b ≤ n → (l.length : Int) ≤ n - b := by
  intro l
  induction l with
  | nil => intro b n _ _ h; simp; omega
  | cons x t ih =>
    intro b n h hb hn
    simp only [incrFrom, Bool.and_eq_true, decide_eq_true_eq] at h
    have := hb x (by simp)
    have := ih (x + 1) n h.2 (fun y hy => hb y (by simp [hy])) (by omega)
    simp only [List.length_cons]; omega
theorem comb_length {n : Nat} {l : List Int} (h : comb n l = true) : l.length ≤ n := by
  simp only [comb, Bool.and_eq_true, List.all_eq_true, decide_eq_true_eq] at h
  have := incrFrom_length l 0 n h.1 h.2 (by omega)
  omega
theorem incrFrom_append : ∀ (l : List Int) (b a : Int), incrFrom b (l ++ [a]) = true ↔ incrFrom b l = true ∧ b ≤ a ∧ ∀ y ∈ l, y < a := by
  intro l
  induction l with
  | nil => intro b a; simp [incrFrom]
  | cons x t ih =>
    intro b a
    simp only [List.cons_append, incrFrom, Bool.and_eq_true, decide_eq_true_eq, ih, List.mem_cons, forall_eq_or_imp]
    constructor
    · rintro ⟨h1, h2, h3, h4⟩; exact ⟨⟨h1, h2⟩, by omega, by omega, h4⟩
    · rintro ⟨⟨h1, h2⟩, h3, h4, h5⟩; exact ⟨h1, h2, by omega, h5⟩
theorem comb_snoc (n : Int) (l : List Int) (a : Int) : comb n (l ++ [a]) = true ↔ comb a l = true ∧ 0 ≤ a ∧ a < n := by
  simp only [comb, Bool.and_eq_true, List.all_eq_true, decide_eq_true_eq, incrFrom_append, List.mem_append, List.mem_singleton]
  constructor
  · rintro ⟨⟨h1, h2, h3⟩, h4⟩; exact ⟨⟨h1, h3⟩, h2, h4 a (.inr rfl)⟩
  · rintro ⟨⟨h1, h3⟩, h2, h4⟩
    refine ⟨⟨h1, h2, h3⟩, fun x hx => ?_⟩
    rcases hx with hx | rfl
    · have := h3 x hx; omega
    · exact h4
def rev : Nat → Nat → List (List Int)
  | n, 0 => [upTo 0]
  | 0, k + 1 => [upTo (k + 1)]
  | n + 1, k + 1 => if k = n then [upTo (k + 1)] else rev n (k + 1) ++ (rev n k).reverse.map (· ++ [(n : Int)])
theorem rev_length (n : Nat) : ∀ k, k ≤ n → (rev n k).length = C n k := by
  induction n with
  | zero => intro k h; obtain rfl : k = 0 := by omega
            rfl
  | succ n ih =>
    intro k h
    cases k with
    | zero => simp [rev]
    | succ k =>
      by_cases e : k = n
      · subst e; simp [rev]
      · simp only [rev, if_neg e, List.length_append, List.length_map, List.length_reverse, ih (k + 1) (by omega), ih k (by omega), C_succ]
theorem comb_upTo (n : Nat) : comb n (upTo n) = true := by
  have hi : ∀ m : Nat, incrFrom 0 (upTo m) = true := by
    intro m
    induction m with
    | zero => rfl
    | succ m ih => rw [upTo_succ, incrFrom_append]; exact ⟨ih, by omega, fun y hy => (mem_upTo.1 hy).2⟩
  simp only [comb, Bool.and_eq_true, List.all_eq_true, decide_eq_true_eq]
  exact ⟨hi n, fun x hx => (mem_upTo.1 hx).2⟩
theorem comb_mono {n m : Int} (h : n ≤ m) {l : List Int} (hc : comb n l = true) : comb m l = true := by
  simp only [comb, Bool.and_eq_true, List.all_eq_true, decide_eq_true_eq] at hc ⊢
  exact ⟨hc.1, fun x hx => by have := hc.2 x hx; omega⟩
theorem rev_mem (n : Nat) : ∀ (k : Nat) (l : List Int), k ≤ n → l ∈ rev n k → comb n l = true ∧ l.length = k := by
  induction n with
  | zero => intro k l h hl; obtain rfl : k = 0 := by omega
            simp [rev, upTo] at hl; subst hl; exact ⟨rfl, rfl⟩
  | succ n ih =>
    intro k l h hl
    cases k with
    | zero => simp [rev, upTo] at hl; subst hl; exact ⟨rfl, rfl⟩
    | succ k =>
      by_cases e : k = n
      · subst e; simp [rev] at hl; subst hl; exact ⟨comb_upTo _, upTo_length _⟩
      · simp only [rev, if_neg e, List.mem_append, List.mem_map, List.mem_reverse] at hl
        rcases hl with hl | ⟨t, ht, rfl⟩
        · obtain ⟨h1, h2⟩ := ih _ _ (by omega) hl
          exact ⟨comb_mono (by omega) h1, h2⟩
        · obtain ⟨h1, h2⟩ := ih _ _ (by omega) ht
          refine ⟨(comb_snoc _ _ _).2 ⟨h1, by omega, by omega⟩, by simp [h2]⟩
theorem rev_small (n k : Nat) (hn : n ≤ 12) (hk : k ≤ n) : (rev n k).length ≤ 4096 ∧ ∀ t ∈ rev n k, t.length ≤ 12 := by
  have := rev_length n k hk
  have := C_le12 n k hn
  exact ⟨by omega, fun t ht => by have := (rev_mem n k t hk ht).2; omega⟩
theorem lex_small (n k : Nat) (hn : n ≤ 12) (hk : k ≤ n) : ∀ t ∈ lexC n k 0, t.length ≤ 12 ∧ ∀ y ∈ t, 0 ≤ y ∧ y < 12 := by
  intro t ht
  obtain ⟨h1, h2⟩ := lexC_mem _ _ _ _ ht
  exact ⟨by omega, fun y hy => by have := h2 y hy; omega⟩
def incr : List Int → Bool
  | [] => true
  | x :: t => incrFrom (x + 1) t
theorem comb_all (n : Int) (l : List Int) : ((l.all fun x => decide (0 ≤ x ∧ x ≤ n - 1)) && incr l) = comb n l := by
  cases l with
  | nil => rfl
  | cons x t =>
    rw [Bool.eq_iff_iff]
    simp only [comb, incr, incrFrom, Bool.and_eq_true, List.all_eq_true, decide_eq_true_eq, List.mem_cons, forall_eq_or_imp]
    constructor
    · rintro ⟨⟨h1, h2⟩, h3⟩; exact ⟨⟨by omega, h3⟩, by omega, fun y hy => by have := h2 y hy; omega⟩
    · rintro ⟨⟨h1, h2⟩, h3, h4⟩
      exact ⟨⟨by omega, fun y hy => by have := h4 y hy; have := incrFrom_ge _ _ h2 y hy; omega⟩, h2⟩
def isComb (n : Int) (l : List Int) : Bool := decide (0 ≤ n ∧ n ≤ 12) && comb n l
theorem isComb_parts {n : Int} {l : List Int} (h : isComb n l = true) : 0 ≤ n ∧ n ≤ 12 ∧ comb n l = true := by
  simp only [isComb, Bool.and_eq_true, decide_eq_true_eq] at h
  exact ⟨h.1.1, h.1.2, h.2⟩
theorem comb_bound {n : Int} {l : List Int} (h : comb n l = true) : ∀ y ∈ l, 0 ≤ y ∧ y < n := by
  simp only [comb, Bool.and_eq_true, List.all_eq_true, decide_eq_true_eq] at h
  exact fun y hy => ⟨incrFrom_ge _ _ h.1 y hy, h.2 y hy⟩
def findI (x : Int) : Int → List Int → Int
  | _, [] => -1
  | j, y :: t => if x = y then j else findI x (j + 1) t
theorem findI_mem (x : Int) : ∀ (l : List Int) (j : Int), 0 ≤ j → (0 ≤ findI x j l ↔ x ∈ l) := by
  intro l
  induction l with
  | nil => intro j _; simp [findI]
  | cons y t ih =>
    intro j h
    rw [findI, List.mem_cons]
    by_cases c : x = y
    · simp [c, h]
    · rw [if_neg c, ih (j + 1) (by omega)]; simp [c]
def missL (a b : List Int) : List Int := a.filter fun x => decide (x ∉ b)
def exchL (a b : List Int) : Int × Int × Bool :=
  if ((missL a b).length : Int) = 1 then (if ((missL b a).length : Int) = 1 then (Go.Proofs.YtmkokfljonbcmaaW.PrintWords.rd (missL a b) 0, Go.Proofs.YtmkokfljonbcmaaW.PrintWords.rd (missL b a) 0, true) else (0, 0, false)) else (0, 0, false)
def placeI (l : List Int) : Int → List (List Int) → Int
  | _, [] => -1
  | j, t :: T => if t = l then j else placeI l (j + 1) T
theorem placeI_mem : ∀ (L : List (List Int)) (l : List Int) (j : Int), 0 ≤ j → (0 ≤ placeI l j L ↔ l ∈ L) := by
  intro L
  induction L with
  | nil => intro l j _; simp [placeI]
  | cons t T ih =>
    intro l j h
    rw [placeI, List.mem_cons]
    by_cases c : t = l
    · simp [c, h]
    · rw [if_neg c, ih l (j + 1) (by omega)]; simp [Ne.symm c]
end Go.Proofs.Ytmkokfljonbcmaa.Comb
