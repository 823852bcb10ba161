/- Trotter's list: neighbours exchange two neighbours, and the sign tells the index's parity. Plain mathematics: nothing here speaks of the program. -/
import Derived.Test.YtcpdgfmljhfbmaaTrotRank
import Derived.Test.YtcpdgfmljhfbmaaSgn
namespace Go.Proofs.Ytcpdgfmljhfbmaa.TrotX
open Go.Proofs.Ytcpdgfmljhfbmaa.Base Go.Proofs.Ytcpdgfmljhfbmaa.Trot Go.Proofs.Ytcpdgfmljhfbmaa.TrotRank Go.Proofs.Ytcpdgfmljhfbmaa.Moves Go.Proofs.Ytcpdgfmljhfbmaa.Sgn
set_option linter.unusedVariables false
set_option linter.unusedSimpArgs false

theorem trot_ins (n : Nat) (r : Int) : trot (n + 1) r = (trot n (r / ((n : Int) + 1))).take (place n r).toNat ++ (n : Int) :: (trot n (r / ((n : Int) + 1))).drop (place n r).toNat := by
  have hp := place_range n r
  rw [trot, insertIdx_take _ _ _ (by rw [trot_length]; omega)]
  simp
theorem trot_perm : ∀ (n : Nat) (r : Int), (trot n r).Perm (upTo n)
  | 0, r => by simp [trot, upTo]
  | n + 1, r => by
    rw [trot_ins, upTo_succ]
    refine List.perm_middle.trans ?_
    rw [List.take_append_drop]
    refine ((trot_perm n _).cons _).trans ?_
    exact (List.perm_append_singleton _ _).symm
theorem upTo_nodup (n : Nat) : (upTo n).Nodup := by
  unfold upTo
  refine List.Pairwise.map _ (fun a b hab e => hab (by exact_mod_cast e)) (List.nodup_range)
theorem trot_nodup (n : Nat) (r : Int) : (trot n r).Nodup := (trot_perm n r).nodup_iff.2 (upTo_nodup n)
theorem trot_parity : ∀ (n : Nat) (r : Int), 0 ≤ r → inv [] (trot n r) % 2 = (if r < (fac n : Nat) then r.toNat % 2 else inv [] (trot n r) % 2)
  | 0, r, h => by
    by_cases c : r < (fac 0 : Nat)
    · rw [if_pos c]
      have : r = 0 := by simp [fac] at c; omega
      subst this; rfl
    · rw [if_neg c]
  | n + 1, r, h => by
    by_cases c : r < (fac (n + 1) : Nat)
    · rw [if_pos c]
      obtain ⟨d0, d1⟩ := div_range n r h c
      have hp := place_range n r
      have ih := trot_parity n (r / ((n : Int) + 1)) d0
      rw [if_pos d1] at ih
      have hl := trot_length n (r / ((n : Int) + 1))
      have hm := trot_mem n (r / ((n : Int) + 1))
      have hi := trot_ins n r
      have hnd := trot_nodup (n + 1) r
      have hs := move_right (n : Int) ((trot n (r / ((n : Int) + 1))).drop (place n r).toNat) ((trot n (r / ((n : Int) + 1))).take (place n r).toNat) []
      rw [List.append_nil, ← hi, List.take_append_drop] at hs
      have hpar := hs.parity hnd
      rw [inv_append, List.nil_append, inv, inv, cnt_top (n : Int) _ (fun y hy => by have := (hm y hy).2; omega)] at hpar
      have e1 := Int.emod_nonneg r (show ((n : Int) + 1) ≠ 0 by omega)
      have e2 := Int.emod_lt_of_pos r (show 0 < ((n : Int) + 1) by omega)
      have e3 : r = ((n : Int) + 1) * (r / ((n : Int) + 1)) + r % ((n : Int) + 1) := (Int.mul_ediv_add_emod r ((n : Int) + 1)).symm
      have e4 : ((trot n (r / ((n : Int) + 1))).drop (place n r).toNat).length = n - (place n r).toNat := by rw [List.length_drop, hl]
      rw [e4] at hpar
      generalize inv [] (trot (n + 1) r) = I at hpar ⊢
      generalize inv [] (trot n (r / ((n : Int) + 1))) = J at hpar ih
      unfold place at hpar hp
      generalize r / ((n : Int) + 1) = q at d0 hpar ih e3 hp
      generalize r % ((n : Int) + 1) = m at e1 e2 e3 hpar hp
      by_cases cq : q % 2 = 0
      · rw [if_pos cq] at hpar hp
        obtain ⟨t, rfl⟩ : ∃ t, q = 2 * t := ⟨q / 2, by omega⟩
        have e5 : ((n : Int) + 1) * (2 * t) = 2 * (((n : Int) + 1) * t) := by rw [← Int.mul_assoc, Int.mul_comm _ 2, Int.mul_assoc]
        rw [e5] at e3
        omega
      · rw [if_neg cq] at hpar hp
        obtain ⟨t, rfl⟩ : ∃ t, q = 2 * t + 1 := ⟨q / 2, by omega⟩
        have e5 : ((n : Int) + 1) * (2 * t + 1) = 2 * (((n : Int) + 1) * t) + (n + 1) := by rw [Int.mul_add, Int.mul_one, ← Int.mul_assoc, Int.mul_comm _ 2, Int.mul_assoc]
        rw [e5] at e3
        omega
    · rw [if_neg c]
theorem trot_next : ∀ (n : Nat) (r : Int), 0 ≤ r → r + 1 < (fac n : Nat) → ∃ (a : List Int) (x y : Int) (b : List Int), x ≠ y ∧ trot n r = a ++ x :: y :: b ∧ trot n (r + 1) = a ++ y :: x :: b
  | 0, r, h, h1 => by simp [fac] at h1; omega
  | n + 1, r, h, h1 => by
    obtain ⟨d0, d1⟩ := div_range n r h (by omega)
    obtain ⟨d2, d3⟩ := div_range n (r + 1) (by omega) h1
    have e1 := Int.emod_nonneg r (show ((n : Int) + 1) ≠ 0 by omega)
    have e2 := Int.emod_lt_of_pos r (show 0 < ((n : Int) + 1) by omega)
    have e3 : r = ((n : Int) + 1) * (r / ((n : Int) + 1)) + r % ((n : Int) + 1) := (Int.mul_ediv_add_emod r ((n : Int) + 1)).symm
    by_cases c : r % ((n : Int) + 1) < n
    · have q1 : (r + 1) / ((n : Int) + 1) = r / ((n : Int) + 1) ∧ (r + 1) % ((n : Int) + 1) = r % ((n : Int) + 1) + 1 := by
        have e5 : r + 1 = (r % ((n : Int) + 1) + 1) + ((n : Int) + 1) * (r / ((n : Int) + 1)) := by omega
        generalize r / ((n : Int) + 1) = q at e5 ⊢
        generalize r % ((n : Int) + 1) = m at *
        rw [e5]
        refine ⟨?_, ?_⟩
        · rw [Int.add_mul_ediv_left _ _ (by omega), Int.ediv_eq_zero_of_lt (by omega) (by omega)]; omega
        · rw [Int.add_mul_emod_self_left, Int.emod_eq_of_lt (by omega) (by omega)]
      rw [trot_ins n r, trot_ins n (r + 1), q1.1]
      have hl := trot_length n (r / ((n : Int) + 1))
      have hm := trot_mem n (r / ((n : Int) + 1))
      have hp0 : place n r = if r / ((n : Int) + 1) % 2 = 0 then n - r % ((n : Int) + 1) else r % ((n : Int) + 1) := rfl
      have hp1 : place n (r + 1) = if r / ((n : Int) + 1) % 2 = 0 then n - (r % ((n : Int) + 1) + 1) else r % ((n : Int) + 1) + 1 := by unfold place; rw [q1.1, q1.2]
      rw [hp0, hp1]
      generalize trot n (r / ((n : Int) + 1)) = l at hl hm ⊢
      generalize r % ((n : Int) + 1) = m at *
      by_cases cq : r / ((n : Int) + 1) % 2 = 0
      · simp only [if_pos cq]
        have hk : ((n : Int) - (m + 1)).toNat < l.length := by omega
        have hne : l[((n : Int) - (m + 1)).toNat] ≠ (n : Int) := fun e => by have := (hm _ (List.getElem_mem hk)).2; omega
        refine ⟨l.take ((n : Int) - (m + 1)).toNat, l[((n : Int) - (m + 1)).toNat], (n : Int), l.drop ((n : Int) - m).toNat, hne, ?_, ?_⟩
        · rw [show ((n : Int) - m).toNat = ((n : Int) - (m + 1)).toNat + 1 from by omega, List.take_succ_eq_append_getElem hk]; simp only [List.append_assoc, List.cons_append, List.nil_append]
        · rw [List.drop_eq_getElem_cons hk, show ((n : Int) - m).toNat = ((n : Int) - (m + 1)).toNat + 1 from by omega]
      · simp only [if_neg cq]
        have hk : m.toNat < l.length := by omega
        have hne : l[m.toNat] ≠ (n : Int) := fun e => by have := (hm _ (List.getElem_mem hk)).2; omega
        refine ⟨l.take m.toNat, (n : Int), l[m.toNat], l.drop (m + 1).toNat, fun e => hne e.symm, ?_, ?_⟩
        · rw [List.drop_eq_getElem_cons hk, show (m + 1).toNat = m.toNat + 1 from by omega]
        · rw [show (m + 1).toNat = m.toNat + 1 from by omega, List.take_succ_eq_append_getElem hk]; simp only [List.append_assoc, List.cons_append, List.nil_append]
    · have e4 : r % ((n : Int) + 1) = n := by omega
      have q1 : (r + 1) / ((n : Int) + 1) = r / ((n : Int) + 1) + 1 ∧ (r + 1) % ((n : Int) + 1) = 0 := by
        have e5 : r + 1 = 0 + ((n : Int) + 1) * (r / ((n : Int) + 1) + 1) := by rw [Int.mul_add, Int.mul_one]; omega
        generalize r / ((n : Int) + 1) = q at e5 ⊢
        rw [e5]
        refine ⟨?_, ?_⟩
        · rw [Int.add_mul_ediv_left _ _ (by omega)]; simp
        · rw [Int.add_mul_emod_self_left]; simp
      rw [q1.1] at d2 d3
      obtain ⟨a, x, y, b, hxy, h5, h6⟩ := trot_next n (r / ((n : Int) + 1)) d0 d3
      rw [trot_ins n r, trot_ins n (r + 1), q1.1]
      have hl := trot_length n (r / ((n : Int) + 1))
      have hl2 := trot_length n (r / ((n : Int) + 1) + 1)
      have hp0 : place n r = if r / ((n : Int) + 1) % 2 = 0 then 0 else (n : Int) := by unfold place; rw [e4]; split <;> omega
      have hp1 : place n (r + 1) = if r / ((n : Int) + 1) % 2 = 0 then 0 else (n : Int) := by
        unfold place; rw [q1.1, q1.2]
        by_cases cq : r / ((n : Int) + 1) % 2 = 0
        · rw [if_pos cq, if_neg (by omega)]
        · rw [if_neg cq, if_pos (by omega)]; omega
      rw [hp0, hp1]
      by_cases cq : r / ((n : Int) + 1) % 2 = 0
      · simp only [if_pos cq]
        refine ⟨(n : Int) :: a, x, y, b, hxy, ?_, ?_⟩
        · simp [h5]
        · simp [h6]
      · simp only [if_neg cq, Int.toNat_natCast]
        rw [List.take_of_length_le (by omega), List.drop_of_length_le (by omega), List.take_of_length_le (by omega), List.drop_of_length_le (by omega)]
        refine ⟨a, x, y, b ++ [(n : Int)], hxy, ?_, ?_⟩
        · simp [h5]
        · simp [h6]
theorem fdI_split : ∀ (a : List Int) (x y : Int) (s t : List Int) (j : Int), x ≠ y → fdI j (a ++ x :: s) (a ++ y :: t) = j + a.length
  | [], x, y, s, t, j, h => by simp [fdI, h]
  | z :: a, x, y, s, t, j, h => by
    rw [List.cons_append, List.cons_append, fdI, if_pos rfl, fdI_split a x y s t (j + 1) h]
    simp; omega
/-- The next permutation, by its swap. -/
theorem next_swap (n : Nat) (r : Int) (h : 0 ≤ r) (h1 : r + 1 < (fac n : Nat)) : ∃ i : Nat, i + 1 < n ∧ fdI 0 (trot n r) (trot n (r + 1)) = i ∧ mv (trot n r) 0 i ((i : Int) + 1) = trot n (r + 1) := by
  obtain ⟨a, x, y, b, hxy, e1, e2⟩ := trot_next n r h h1
  have hl := trot_length n r
  refine ⟨a.length, ?_, ?_, ?_⟩
  · rw [e1] at hl; simp at hl; omega
  · rw [e1, e2, fdI_split a x y _ _ 0 hxy]; omega
  · rw [e1, e2]
    have q1 : Go.Proofs.YtcpdgfmljhfbmaaW.PrintWords.rd (a ++ x :: y :: b) ((a.length : Int)) = x := by
      rw [rd_get _ _ (by simp)]; simp
    have q2 : Go.Proofs.YtcpdgfmljhfbmaaW.PrintWords.rd (a ++ x :: y :: b) ((a.length : Int) + 1) = y := by
      rw [rd_get _ _ (by simp)]
      simp [List.getElem_append_right]
    unfold mv
    rw [if_pos rfl, q1, q2, Int.toNat_natCast, show ((a.length : Int) + 1).toNat = a.length + 1 from by omega]
    simp [List.set_append_right]
theorem perm_isPm {l : List Int} (h12 : l.length ≤ 12) (h : l.Perm (upTo l.length)) : Perms.isPm l = true := by
  unfold Perms.isPm
  rw [Bool.and_eq_true, decide_eq_true_eq, decide_eq_true_eq, Perms.srt_iff]
  exact ⟨h12, h⟩
theorem isPm_nodup {l : List Int} (h : Perms.isPm l = true) : l.Nodup := (isPm_perm h).2.nodup_iff.2 (upTo_nodup _)
theorem isPm_mvX {l : List Int} (h : Perms.isPm l = true) (a b c : Int) (hg : Mgood l.length a b c) : Perms.isPm (mv l a b c) = true := by
  have h1 := isPm_perm h
  refine perm_isPm (by rw [mv_length]; exact h1.1) ?_
  rw [mv_length]
  exact (mv_perm l a b c hg).trans h1.2
theorem trot_isPm (n : Nat) (hn : n ≤ 12) (r : Int) : Perms.isPm (trot n r) = true := perm_isPm (by rw [trot_length]; exact hn) (by rw [trot_length]; exact trot_perm n r)
end Go.Proofs.Ytcpdgfmljhfbmaa.TrotX
