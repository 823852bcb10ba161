/- The revolving list goes from exchange to exchange, and round. Plain mathematics: nothing here speaks of the program. -/
import Derived.Test.YtelajnmnbmamhaaGoes
namespace Go.Proofs.Ytelajnmnbmamhaa.RevX
open Go.Proofs.Ytelajnmnbmamhaa.Base Go.Proofs.Ytelajnmnbmamhaa.Comb Go.Proofs.Ytelajnmnbmamhaa.Goes
set_option linter.unusedVariables false
set_option linter.unusedSimpArgs false

theorem incr_nodup : ∀ (l : List Int) (b : Int), incrFrom b l = true → l.Nodup
  | [], b, _ => List.nodup_nil
  | x :: t, b, h => by
    simp only [incrFrom, Bool.and_eq_true, decide_eq_true_eq] at h
    rw [List.nodup_cons]
    exact ⟨fun hx => by have := incrFrom_ge _ _ h.2 x hx; omega, incr_nodup t _ h.2⟩
theorem comb_nodup {n : Int} {l : List Int} (h : comb n l = true) : l.Nodup := by
  simp only [comb, Bool.and_eq_true] at h
  exact incr_nodup l 0 h.1
theorem missL_single (b : List Int) (x : Int) (hxb : x ∉ b) : ∀ (a : List Int), a.Nodup → x ∈ a → (∀ z ∈ a, z ≠ x → z ∈ b) → missL a b = [x]
  | [], _, h, _ => by simp at h
  | y :: t, hd, h, hz => by
    rw [List.nodup_cons] at hd
    unfold missL
    by_cases e : y = x
    · subst e
      rw [List.filter_cons_of_pos (by simpa using hxb)]
      have : t.filter (fun x => decide (x ∉ b)) = [] := by
        rw [List.filter_eq_nil_iff]
        intro z hzt
        have := hz z (by simp [hzt]) (fun e => hd.1 (e ▸ hzt))
        simpa using this
      rw [this]
    · have hx : x ∈ t := by
        rcases List.mem_cons.1 h with h | h
        · exact absurd h.symm e
        · exact h
      have := hz y (by simp) e
      rw [List.filter_cons_of_neg (by simpa using this)]
      exact missL_single b x hxb t hd.2 hx (fun z hzt hne => hz z (by simp [hzt]) hne)
/-- One exchange leads from one to the other one. -/
def X (a b : List Int) : Prop := (exchL a b).2.2 = true
theorem X_iff (a b : List Int) : X a b ↔ ((missL a b).length = 1 ∧ (missL b a).length = 1) := by
  unfold X exchL
  by_cases c1 : ((missL a b).length : Int) = 1
  · rw [if_pos c1]
    by_cases c2 : ((missL b a).length : Int) = 1
    · rw [if_pos c2]; simp; omega
    · rw [if_neg c2]; simp; omega
  · rw [if_neg c1]; simp; omega
theorem X_symm {a b : List Int} (h : X a b) : X b a := by
  rw [X_iff] at h ⊢; exact ⟨h.2, h.1⟩
theorem X_of {a b : List Int} (x y : Int) (ha : a.Nodup) (hb : b.Nodup) (hxa : x ∈ a) (hxb : x ∉ b) (hyb : y ∈ b) (hya : y ∉ a) (h1 : ∀ z ∈ a, z ≠ x → z ∈ b) (h2 : ∀ z ∈ b, z ≠ y → z ∈ a) : X a b := by
  rw [X_iff, missL_single b x hxb a ha hxa h1, missL_single a y hya b hb hyb h2]
  exact ⟨rfl, rfl⟩
theorem missL_snoc (a b : List Int) (n : Int) (ha : n ∉ a) : missL (a ++ [n]) (b ++ [n]) = missL a b := by
  unfold missL
  rw [List.filter_append, show [n].filter (fun x => decide (x ∉ b ++ [n])) = [] from by simp, List.append_nil]
  refine List.filter_congr (fun x hx => ?_)
  have : x ≠ n := fun e => ha (e ▸ hx)
  simp [this]
theorem X_snoc {a b : List Int} (n : Int) (ha : n ∉ a) (hb : n ∉ b) (h : X a b) : X (a ++ [n]) (b ++ [n]) := by
  rw [X_iff] at h ⊢
  rw [missL_snoc a b n ha, missL_snoc b a n hb]
  exact h
theorem nearL_of : ∀ (L : List (List Int)), (∀ (i : Nat) (h : i + 1 < L.length), X L[i] L[i + 1]) → nearL (fun _ _ => true) L = true
  | [], _ => rfl
  | [_], _ => rfl
  | a :: b :: T, h => by
    rw [nearL]
    have h0 : (exchL a b).2.2 = true := h 0 (by simp)
    rw [h0, nearL_of (b :: T) (fun i hi => h (i + 1) (by simp at hi ⊢; omega))]
    rfl
theorem rev_first (n : Nat) : ∀ (k : Nat) (hk : k ≤ n) (h : 0 < (rev n k).length), (rev n k)[0] = upTo k := by
  induction n with
  | zero => intro k hk h; obtain rfl : k = 0 := by omega
            rfl
  | succ n ih =>
    intro k hk h
    cases k with
    | zero => rfl
    | succ k =>
      by_cases e : k = n
      · subst e; simp [rev]
      · have hl := rev_length n (k + 1) (by omega)
        have hp := C_pos n (k + 1) (by omega)
        have hr : rev (n + 1) (k + 1) = rev n (k + 1) ++ (rev n k).reverse.map (· ++ [(n : Int)]) := by simp [rev, e]
        simp only [hr]
        rw [List.getElem_append_left (by omega)]
        exact ih (k + 1) (by omega) (by omega)
theorem rev_last (n : Nat) (k : Nat) (hk : k + 1 ≤ n) (h : (rev n (k + 1)).length - 1 < (rev n (k + 1)).length) : (rev n (k + 1))[(rev n (k + 1)).length - 1] = upTo k ++ [(n : Int) - 1] := by
  cases n with
  | zero => omega
  | succ n =>
    by_cases e : k = n
    · subst e
      simp only [rev_self, List.length_singleton, Nat.sub_self, List.getElem_cons_zero, upTo_succ]
      congr 2; push_cast; omega
    · have hl := rev_length n k (by omega)
      have hp := C_pos n k (by omega)
      have hr : rev (n + 1) (k + 1) = rev n (k + 1) ++ (rev n k).reverse.map (· ++ [(n : Int)]) := by simp [rev, e]
      simp only [hr]
      rw [List.getElem_append_right (by simp; omega)]
      simp only [List.length_append, List.length_map, List.length_reverse, List.getElem_map, List.getElem_reverse]
      have hi : (rev n k).length - 1 - ((rev n (k + 1)).length + (rev n k).length - 1 - (rev n (k + 1)).length) = 0 := by omega
      simp only [hi]
      rw [rev_first n k (by omega) (by omega)]
      congr 2; push_cast; omega
theorem nodup_upTo_snoc (k : Nat) (n : Int) (h : (k : Int) ≤ n) : (upTo k ++ [n]).Nodup := by
  have : comb (n + 1) (upTo k ++ [n]) = true := (comb_snoc _ _ _).2 ⟨comb_mono h (comb_upTo k), by omega, by omega⟩
  exact comb_nodup this
theorem rev_X (n : Nat) : ∀ (k : Nat) (hk : k ≤ n) (i : Nat) (h : i + 1 < (rev n k).length), X (rev n k)[i] (rev n k)[i + 1] := by
  induction n with
  | zero => intro k hk i h; obtain rfl : k = 0 := by omega
            simp [rev] at h
  | succ n ih =>
    intro k hk i h
    cases k with
    | zero => simp [rev] at h
    | succ k =>
      by_cases e : k = n
      · subst e; simp [rev] at h
      · have hl1 := rev_length n (k + 1) (by omega)
        have hl2 := rev_length n k (by omega)
        have hp1 := C_pos n (k + 1) (by omega)
        have hp2 := C_pos n k (by omega)
        have hr : rev (n + 1) (k + 1) = rev n (k + 1) ++ (rev n k).reverse.map (· ++ [(n : Int)]) := by simp [rev, e]
        have hlen : (rev (n + 1) (k + 1)).length = (rev n (k + 1)).length + (rev n k).length := by rw [hr]; simp
        have eL : ∀ (j : Nat) (hj : j < (rev n (k + 1)).length) (hj' : j < (rev (n + 1) (k + 1)).length), (rev (n + 1) (k + 1))[j] = (rev n (k + 1))[j] := by
          intro j hj hj'; simp only [hr]; exact List.getElem_append_left hj
        have eR : ∀ (j : Nat) (hj : (rev n (k + 1)).length ≤ j) (hj' : j < (rev (n + 1) (k + 1)).length), (rev (n + 1) (k + 1))[j] = (rev n k)[(rev n k).length - 1 - (j - (rev n (k + 1)).length)]'(by omega) ++ [(n : Int)] := by
          intro j hj hj'
          simp only [hr]
          rw [List.getElem_append_right hj]
          simp
        have hno : ∀ l ∈ rev n k, (n : Int) ∉ l := by
          intro l hl hm
          have := comb_bound (rev_mem n k l (by omega) hl).1 _ hm
          omega
        by_cases c1 : i + 1 < (rev n (k + 1)).length
        · rw [eL i (by omega) (by omega), eL (i + 1) c1 h]
          exact ih (k + 1) (by omega) i c1
        · by_cases c2 : i < (rev n (k + 1)).length
          · rw [eL i c2 (by omega), eR (i + 1) (by omega) h]
            have h1 : i = (rev n (k + 1)).length - 1 := by omega
            subst h1
            rw [rev_last n k (by omega) (by omega)]
            have h2 : (rev n k).length - 1 - ((rev n (k + 1)).length - 1 + 1 - (rev n (k + 1)).length) = (rev n k).length - 1 := by omega
            simp only [h2]
            cases k with
            | zero =>
              simp only [rev_zero, List.length_singleton, Nat.sub_self, List.getElem_cons_zero]
              refine X_of ((n : Int) - 1) (n : Int) ?_ ?_ ?_ ?_ ?_ ?_ ?_ ?_ <;> simp [upTo] <;> omega
            | succ k =>
              rw [rev_last n k (by omega) (by omega)]
              refine X_of (k : Int) (n : Int) (nodup_upTo_snoc _ _ (by omega)) ?_ ?_ ?_ ?_ ?_ ?_ ?_
              · have : comb ((n : Int) + 1) ((upTo k ++ [(n : Int) - 1]) ++ [(n : Int)]) = true := (comb_snoc _ _ _).2 ⟨(comb_snoc _ _ _).2 ⟨comb_mono (by omega) (comb_upTo k), by omega, by omega⟩, by omega, by omega⟩
                exact comb_nodup this
              · simp [mem_upTo]; left; omega
              · simp [mem_upTo]; omega
              · simp
              · simp [mem_upTo]; omega
              · intro z hz hne
                simp [mem_upTo] at hz ⊢
                omega
              · intro z hz hne
                simp [mem_upTo] at hz ⊢
                omega
          · rw [eR i (by omega) (by omega), eR (i + 1) (by omega) h]
            have hj : (rev n k).length - 1 - (i - (rev n (k + 1)).length) = (rev n k).length - 1 - (i + 1 - (rev n (k + 1)).length) + 1 := by omega
            refine X_snoc _ (hno _ (List.getElem_mem _)) (hno _ (List.getElem_mem _)) (X_symm ?_)
            have := ih k (by omega) ((rev n k).length - 1 - (i + 1 - (rev n (k + 1)).length)) (by omega)
            simp only [hj]
            exact this
theorem rev_round (n k : Nat) (hk : k ≤ n) (h1 : (rev n k).length ≠ 1) (h : (rev n k).length - 1 < (rev n k).length) : X (rev n k)[(rev n k).length - 1] ((rev n k)[0]'(by omega)) := by
  cases k with
  | zero => exact absurd (by rw [rev_zero]; rfl) h1
  | succ k =>
    have hn : k + 1 ≠ n := fun e => h1 (by subst e; rw [rev_self]; rfl)
    rw [rev_last n k hk h, rev_first n (k + 1) hk (by omega), upTo_succ]
    refine X_of ((n : Int) - 1) (k : Int) (nodup_upTo_snoc _ _ (by omega)) (nodup_upTo_snoc _ _ (by omega)) ?_ ?_ ?_ ?_ ?_ ?_
    · simp
    · simp [mem_upTo]; omega
    · simp
    · simp [mem_upTo]; omega
    · intro z hz hne
      simp [mem_upTo] at hz ⊢
      omega
    · intro z hz hne
      simp [mem_upTo] at hz ⊢
      omega
theorem rev_near (n k : Nat) (hk : k ≤ n) : nearL (fun _ _ => true) (rev n k) = true := nearL_of _ (rev_X n k hk)
theorem rev_nodup (n k : Nat) (hk : k ≤ n) : (rev n k).Nodup := by
  refine List.pairwise_iff_getElem.2 (fun i j hi hj hij e => ?_)
  have h1 := rk_rev n k i hi hk
  have h2 := rk_rev n k j hj hk
  rw [e, h2] at h1
  omega
theorem rev_all (n k : Nat) (hk : k ≤ n) : allL n k (rev n k) = true := by
  rw [allL_iff n k _ (fun l hl => (rev_mem n k l hk hl).1)]
  exact ⟨fun l hl => (rev_mem n k l hk hl).2, rev_nodup n k hk, rev_length n k hk⟩
end Go.Proofs.Ytelajnmnbmamhaa.RevX
