import Derived.Test.YtapbbmicfkbafaaGreatTrot
import Derived.Test.YtapbbmicfkbafaaGreatPerms
import Derived.Test.YtapbbmicfkbafaaGreatComb
namespace Go.Proofs.YtapbbmicfkbafaaGreat.TrotRank
open Go.RowKit Go.Proofs.YtapbbmicfkbafaaGreatW.PrintWords Go.Proofs.YtapbbmicfkbafaaGreat.Base Go.Proofs.YtapbbmicfkbafaaGreat.Trot Go.Proofs.YtapbbmicfkbafaaGreat.Perms Go.Proofs.YtapbbmicfkbafaaGreat.Comb
set_option linter.unusedVariables false
set_option linter.unusedSimpArgs false
theorem findI_at (x : Int) : ∀ (l : List Int) (j : Int), x ∈ l → ∃ p : Nat, p < l.length ∧ findI x j l = j + p ∧ l[p]? = some x
  | [], j, h => by simp at h
  | y :: t, j, h => by
    rw [findI]
    by_cases c : x = y
    · rw [if_pos c]; exact ⟨0, by simp, by simp, by simp [c]⟩
    · rw [if_neg c]
      obtain ⟨p, h1, h2, h3⟩ := findI_at x t (j + 1) (by rcases List.mem_cons.1 h with h | h; exact absurd h c; exact h)
      exact ⟨p + 1, by simp; omega, by rw [h2]; omega, by simpa using h3⟩
def cutAt (l : List Int) (p : Nat) : List Int := l.take p ++ l.drop (p + 1)
theorem cutAt_length (l : List Int) (p : Nat) (hp : p < l.length) : (cutAt l p).length + 1 = l.length := by
  unfold cutAt
  rw [List.length_append, List.length_take, List.length_drop]; omega
theorem cutAt_ins (l : List Int) (p : Nat) (x : Int) (hx : l[p]? = some x) (hp : p < l.length) : (cutAt l p).insertIdx p x = l := by
  have hl := cutAt_length l p hp
  rw [insertIdx_take _ _ _ (by omega)]
  unfold cutAt
  have ht : (l.take p).length = p := by rw [List.length_take]; omega
  rw [List.take_left' ht, List.drop_left' ht]
  rw [List.getElem?_eq_getElem hp] at hx
  rw [← Option.some.inj hx, List.append_assoc, List.singleton_append, ← List.drop_eq_getElem_cons hp, List.take_append_drop]
theorem cutAt_perm (l : List Int) (n p : Nat) (h : l.Perm (upTo (n + 1))) (hx : l[p]? = some (n : Int)) (hp : p < l.length) : (cutAt l p).Perm (upTo n) := by
  have h1 : ((n : Int) :: cutAt l p).Perm l := by
    have : l = l.take p ++ (n : Int) :: l.drop (p + 1) := by
      rw [List.getElem?_eq_getElem hp] at hx
      rw [← Option.some.inj hx, ← List.drop_eq_getElem_cons hp, List.take_append_drop]
    refine List.Perm.trans ?_ (List.Perm.of_eq this.symm)
    exact List.perm_middle.symm
  have h2 : ((n : Int) :: cutAt l p).Perm ((n : Int) :: upTo n) := by
    refine (h1.trans h).trans ?_
    rw [upTo_succ]
    exact List.perm_append_singleton _ _
  exact h2.cons_inv
def tup (n : Nat) (q : Int) (p : Nat) : Int := q * ((n : Int) + 1) + (if q % 2 = 0 then (n : Int) - p else (p : Int))
theorem tup_step (n p : Nat) (q : Int) (h0 : 0 ≤ q) (hq : q < (fac n : Nat)) (hp : p ≤ n) : 0 ≤ tup n q p ∧ tup n q p < (fac (n + 1) : Nat) ∧ tup n q p / ((n : Int) + 1) = q ∧ place n (tup n q p) = p := by
  have hj : 0 ≤ (if q % 2 = 0 then (n : Int) - p else (p : Int)) ∧ (if q % 2 = 0 then (n : Int) - p else (p : Int)) < (n : Int) + 1 := by split <;> omega
  have hdiv : tup n q p / ((n : Int) + 1) = q := by
    unfold tup
    rw [Int.add_comm, Int.add_mul_ediv_right _ _ (by omega), Int.ediv_eq_zero_of_lt hj.1 hj.2]; omega
  have hmod : tup n q p % ((n : Int) + 1) = (if q % 2 = 0 then (n : Int) - p else (p : Int)) := by
    unfold tup
    rw [Int.add_comm, Int.add_mul_emod_self_right, Int.emod_eq_of_lt hj.1 hj.2]
  have hpos : 0 ≤ q * ((n : Int) + 1) := Int.mul_nonneg h0 (by omega)
  refine ⟨by unfold tup; omega, ?_, hdiv, ?_⟩
  · have h1 : q * ((n : Int) + 1) ≤ ((fac n : Nat) - 1 : Int) * ((n : Int) + 1) := Int.mul_le_mul_of_nonneg_right (by omega) (by omega)
    have h2 : ((fac (n + 1) : Nat) : Int) = (fac n : Nat) * ((n : Int) + 1) := by
      rw [fac_succ]; push_cast; rw [Int.mul_comm]
    rw [h2]
    have h3 : ((fac n : Nat) - 1 : Int) * ((n : Int) + 1) = (fac n : Nat) * ((n : Int) + 1) - ((n : Int) + 1) := by rw [Int.sub_mul]; omega
    unfold tup
    omega
  · unfold place
    rw [hdiv, hmod]
    split <;> omega
theorem trot_up (n p : Nat) (q : Int) (l : List Int) (h0 : 0 ≤ q) (hq : q < (fac n : Nat)) (hp : p < l.length) (hl : l.length = n + 1) (hx : l[p]? = some (n : Int)) (ht : trot n q = cutAt l p) : trot (n + 1) (tup n q p) = l := by
  obtain ⟨_, _, h1, h2⟩ := tup_step n p q h0 hq (by omega)
  rw [trot, h1, h2, ht, Int.toNat_natCast]
  exact cutAt_ins l p _ hx hp
def trk : Nat → List Int → Int
  | 0, _ => 0
  | n + 1, l => tup n (trk n (cutAt l (findI (n : Int) 0 l).toNat)) (findI (n : Int) 0 l).toNat
theorem trk_all : ∀ (n : Nat) (l : List Int), l.Perm (upTo n) → 0 ≤ trk n l ∧ trk n l < (fac n : Nat) ∧ trot n (trk n l) = l
  | 0, l, h => by
    obtain rfl : l = [] := by have := h.length_eq; simpa [upTo] using this
    simp [trk, fac, trot]
  | n + 1, l, h => by
    have hl : l.length = n + 1 := by rw [h.length_eq, upTo_length]
    have hm : (n : Int) ∈ l := h.mem_iff.2 (mem_upTo.2 ⟨by omega, by omega⟩)
    obtain ⟨p, hp, he, hx⟩ := findI_at (n : Int) l 0 hm
    have hpn : (findI (n : Int) 0 l).toNat = p := by omega
    obtain ⟨i1, i2, i3⟩ := trk_all n (cutAt l p) (cutAt_perm l n p h hx hp)
    rw [trk, hpn]
    obtain ⟨u1, u2, _, _⟩ := tup_step n p _ i1 i2 (by omega)
    exact ⟨u1, u2, trot_up n p _ l i1 i2 hp hl hx i3⟩
theorem isPm_perm {l : List Int} (h : isPm l = true) : l.length ≤ 12 ∧ l.Perm (upTo l.length) := by
  unfold isPm at h
  rw [Bool.and_eq_true, decide_eq_true_eq, decide_eq_true_eq, srt_iff] at h
  exact h
theorem findI_split (x : Int) : ∀ (a b : List Int) (j : Int), x ∉ a → findI x j (a ++ x :: b) = j + a.length
  | [], b, j, _ => by simp [findI]
  | y :: a, b, j, h => by
    simp only [List.mem_cons, not_or] at h
    rw [List.cons_append, findI, if_neg h.1, findI_split x a b (j + 1) h.2]
    simp; omega
theorem trot_mem : ∀ (n : Nat) (r : Int) (x : Int), x ∈ trot n r → 0 ≤ x ∧ x < n
  | 0, _, x, h => by simp [trot] at h
  | n + 1, r, x, h => by
    have hp := place_range n r
    rw [trot, List.mem_insertIdx (by rw [trot_length]; omega)] at h
    rcases h with rfl | h
    · omega
    · have := trot_mem n _ x h; omega
theorem trk_trot : ∀ (n : Nat) (r : Int), 0 ≤ r → r < (fac n : Nat) → trk n (trot n r) = r
  | 0, r, h0, h => by simp [fac] at h; simp [trk]; omega
  | n + 1, r, h0, h => by
    have hp := place_range n r
    have hd := div_range n r h0 h
    have hl := trot_length n (r / ((n : Int) + 1))
    have hm1 := Int.emod_nonneg r (show ((n : Int) + 1) ≠ 0 by omega)
    have hm2 := Int.emod_lt_of_pos r (show 0 < ((n : Int) + 1) by omega)
    have hm3 := Int.emod_add_mul_ediv r ((n : Int) + 1)
    have e : trot (n + 1) r = (trot n (r / ((n : Int) + 1))).take (place n r).toNat ++ (n : Int) :: (trot n (r / ((n : Int) + 1))).drop (place n r).toNat := by
      rw [trot, insertIdx_take _ _ _ (by omega)]; simp
    have ht : ((trot n (r / ((n : Int) + 1))).take (place n r).toNat).length = (place n r).toNat := by rw [List.length_take]; omega
    have hf : findI (n : Int) 0 (trot (n + 1) r) = place n r := by
      rw [e, findI_split _ _ _ _ (fun hm => by have := trot_mem n _ _ (List.mem_of_mem_take hm); omega), ht]
      omega
    have hc : cutAt (trot (n + 1) r) (place n r).toNat = trot n (r / ((n : Int) + 1)) := by
      unfold cutAt
      rw [e, List.take_left' ht]
      have : ((trot n (r / ((n : Int) + 1))).take (place n r).toNat ++ (n : Int) :: (trot n (r / ((n : Int) + 1))).drop (place n r).toNat).drop ((place n r).toNat + 1) = (trot n (r / ((n : Int) + 1))).drop (place n r).toNat := by
        rw [← List.drop_drop, List.drop_left' ht]; rfl
      rw [this, List.take_append_drop]
    rw [trk, hf, hc, trk_trot n _ hd.1 hd.2]
    unfold tup place
    rw [Int.mul_comm] at hm3
    split <;> omega
def fdI : Int → List Int → List Int → Int
  | j, x :: a, y :: b => if x = y then fdI (j + 1) a b else j
  | _, _, _ => -1
def ntrot (l : List Int) : List Int × Int × Bool := if isPm l = true ∧ trk l.length l + 1 < (fac l.length : Nat) then (trot l.length (trk l.length l + 1), fdI 0 l (trot l.length (trk l.length l + 1)), true) else ([], 0, false)
theorem ntrot_ne (l : List Int) (h : isPm l = true) (h2 : trk l.length l + 1 < (fac l.length : Nat)) : l ≠ trot l.length (trk l.length l + 1) := by
  intro e
  obtain ⟨h3, h4, h5⟩ := trk_all l.length l (isPm_perm h).2
  have h6 := trk_trot l.length (trk l.length l + 1) (by omega) h2
  rw [← e] at h6
  omega
end Go.Proofs.YtapbbmicfkbafaaGreat.TrotRank
