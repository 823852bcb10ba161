import Derived.Test.YtllhnnjkonghlaaMoves
import Derived.Test.YtllhnnjkonghlaaPerms
import Derived.Test.YtllhnnjkonghlaaTrot
namespace Go.Proofs.Ytllhnnjkonghlaa.Perm5
open Go.RowKit Go.Proofs.YtllhnnjkonghlaaW.PrintWords Go.Proofs.Ytllhnnjkonghlaa.Base Go.Proofs.Ytllhnnjkonghlaa.Moves Go.Proofs.Ytllhnnjkonghlaa.Perms Go.Proofs.Ytllhnnjkonghlaa.Trot
set_option linter.unusedVariables false
set_option linter.unusedSimpArgs false
theorem facN_eq : ∀ n, facN n = fac n
  | 0 => rfl
  | n + 1 => by rw [facN, fac, facN_eq n]
theorem facN_pos (n : Nat) : 0 < facN n := by rw [facN_eq]; exact fac_pos n
theorem pa_surj : ∀ (n : Nat) (left l : List Int), l.Perm left → left.length = n → ∃ r, r < facN n ∧ pa n left r = l
  | 0, left, l, hp, hl => by
    have : l = [] := List.length_eq_zero_iff.1 (by rw [hp.length_eq, hl])
    subst this
    exact ⟨0, by simp [facN], rfl⟩
  | n + 1, left, l, hp, hl => by
    cases l with
    | nil => have := hp.length_eq; simp at this; omega
    | cons x t =>
      have hx : x ∈ left := hp.mem_iff.1 (List.mem_cons_self ..)
      obtain ⟨j, hj, e⟩ := List.getElem_of_mem hx
      have hpe : (x :: t).Perm (x :: left.eraseIdx j) := by
        refine hp.trans ?_
        have h1 : left = left.take j ++ x :: left.drop (j + 1) := by
          rw [← e, ← List.drop_eq_getElem_cons hj, List.take_append_drop]
        rw [List.eraseIdx_eq_take_drop_succ]
        exact (List.Perm.of_eq h1).trans List.perm_middle
      obtain ⟨r', hr', er⟩ := pa_surj n (left.eraseIdx j) t hpe.cons_inv (by rw [List.length_eraseIdx_of_lt hj]; omega)
      have hf := facN_pos n
      have hd : (j * facN n + r') / facN n = j := by rw [Nat.add_comm, Nat.add_mul_div_right _ _ hf, Nat.div_eq_of_lt hr']; omega
      have hm : (j * facN n + r') % facN n = r' := by rw [Nat.add_comm, Nat.add_mul_mod_self_right, Nat.mod_eq_of_lt hr']
      refine ⟨j * facN n + r', ?_, ?_⟩
      · rw [facN]
        have : (j + 1) * facN n ≤ (n + 1) * facN n := Nat.mul_le_mul_right _ (by omega)
        rw [Nat.add_mul, Nat.one_mul] at this
        omega
      · rw [pa, hd, hm, er, List.getD_eq_getElem?_getD, List.getElem?_eq_getElem hj, e]
        rfl
theorem PA_of {n : Nat} {l : List Int} (hn : n ≤ 5) (h : isPm l = true) (hl : l.length = n) : rk l < facN n ∧ PA n (rk l) = l := by
  unfold isPm at h
  rw [Bool.and_eq_true, decide_eq_true_eq, decide_eq_true_eq, srt_iff, hl] at h
  obtain ⟨r, hr, e⟩ := pa_surj n (upTo n) l h.2 (upTo_length n)
  have h2 := (PA_rk n r hn hr).2
  have e' : PA n r = l := e
  rw [e'] at h2
  rw [h2]
  exact ⟨hr, e'⟩
theorem rk_inj {n : Nat} {l l' : List Int} (hn : n ≤ 5) (h : isPm l = true) (hl : l.length = n) (h' : isPm l' = true) (hl' : l'.length = n) (e : rk l = rk l') : l = l' := by
  rw [← (PA_of hn h hl).2, ← (PA_of hn h' hl').2, e]
theorem nodup_takeG {α : Type} (l : List α) : l.Nodup ↔ ∀ j (h : j < l.length), l[j] ∉ l.take j := by
  constructor
  · intro h j hj hm
    obtain ⟨i, hi, e⟩ := List.mem_iff_getElem.1 hm
    rw [List.length_take] at hi
    rw [List.getElem_take] at e
    exact (List.pairwise_iff_getElem.1 h) i j (by omega) hj (by omega) e
  · intro h
    refine List.pairwise_iff_getElem.2 (fun i j hi hj hij e => h j hj ?_)
    rw [← e]
    exact List.mem_iff_getElem.2 ⟨i, by rw [List.length_take]; omega, by rw [List.getElem_take]⟩
def metF : List Int → List (List Int) → List Int
  | acc, [] => acc
  | acc, l :: T => metF (if (rk l : Int) ∈ acc then acc else (rk l : Int) :: acc) T
theorem metF_le : ∀ (T : List (List Int)) (acc : List Int), (metF acc T).length ≤ acc.length + T.length
  | [], acc => by simp [metF]
  | l :: T, acc => by
    rw [metF]
    have := metF_le T (if (rk l : Int) ∈ acc then acc else (rk l : Int) :: acc)
    split at this <;> simp_all <;> omega
theorem metF_iff : ∀ (T : List (List Int)) (acc : List Int), (metF acc T).length = acc.length + T.length ↔ ((T.map rk).Nodup ∧ ∀ l ∈ T, (rk l : Int) ∉ acc)
  | [], acc => by simp [metF]
  | l :: T, acc => by
    rw [metF]
    by_cases c : (rk l : Int) ∈ acc
    · rw [if_pos c]
      have := metF_le T acc
      constructor
      · intro h; simp at h; omega
      · intro h; exact absurd c (h.2 l (List.mem_cons_self ..))
    · rw [if_neg c]
      have ih := metF_iff T ((rk l : Int) :: acc)
      simp only [List.length_cons] at ih ⊢
      rw [show acc.length + (T.length + 1) = acc.length + 1 + T.length from by omega, ih]
      simp only [List.map_cons, List.nodup_cons, List.mem_cons, not_or, List.mem_map, not_exists, not_and, forall_eq_or_imp]
      constructor
      · rintro ⟨h1, h2⟩
        exact ⟨⟨fun l' hl' e => (h2 l' hl').1 (by rw [e]), h1⟩, c, fun l' hl' => (h2 l' hl').2⟩
      · rintro ⟨⟨h1, h2⟩, h3, h4⟩
        exact ⟨h2, fun l' hl' => ⟨fun e => h1 l' hl' (by exact_mod_cast e), h4 l' hl'⟩⟩
theorem map_nodup {n : Nat} (hn : n ≤ 5) (L : List (List Int)) (h : ∀ l ∈ L, isPm l = true ∧ l.length = n) : (L.map rk).Nodup ↔ L.Nodup := by
  constructor
  · intro hd
    exact List.Pairwise.of_map rk (fun a b hab e => hab (by rw [e])) hd
  · intro hd
    unfold List.Nodup
    rw [List.pairwise_map]
    exact List.Pairwise.imp_of_mem (fun {a b} ha hb hab e => hab (rk_inj hn (h a ha).1 (h a ha).2 (h b hb).1 (h b hb).2 e)) hd
theorem nodup_le {α : Type} [DecidableEq α] : ∀ (a b : List α), a.Nodup → (∀ x ∈ a, x ∈ b) → a.length ≤ b.length
  | [], b, _, _ => by simp
  | x :: a, b, hd, hs => by
    have hx : x ∈ b := hs x (by simp)
    rw [List.nodup_cons] at hd
    have h2 := nodup_le a (b.erase x) hd.2 (fun y hy => by
      have hne : y ≠ x := fun e => hd.1 (e ▸ hy)
      exact (List.mem_erase_of_ne hne).2 (hs y (by simp [hy])))
    rw [List.length_erase_of_mem hx] at h2
    have := List.length_pos_of_mem hx
    simp; omega
theorem perms_le {n : Nat} (hn : n ≤ 5) (X : List (List Int)) (h : ∀ l ∈ X, isPm l = true ∧ l.length = n) (hd : X.Nodup) : X.length ≤ facN n := by
  have h1 := nodup_le (X.map rk) (List.range (facN n)) ((map_nodup hn X h).2 hd) (fun r hr => by
    obtain ⟨l, hl, rfl⟩ := List.mem_map.1 hr
    exact List.mem_range.2 (PA_of hn (h l hl).1 (h l hl).2).1)
  simpa using h1
theorem pa_perm : ∀ (n : Nat) (left : List Int) (r : Nat), left.length = n → r < facN n → (pa n left r).Perm left
  | 0, left, r, hl, _ => by rw [List.length_eq_zero_iff.1 hl]; exact List.Perm.refl _
  | n + 1, left, r, hl, hr => by
    have hf := facN_pos n
    have hj : r / facN n < left.length := by rw [hl]; exact Nat.div_lt_of_lt_mul (by rw [facN, Nat.mul_comm] at hr; exact hr)
    have ih := pa_perm n (left.eraseIdx (r / facN n)) (r % facN n) (by rw [List.length_eraseIdx_of_lt hj]; omega) (Nat.mod_lt _ hf)
    rw [pa, List.getD_eq_getElem?_getD, List.getElem?_eq_getElem hj]
    refine (ih.cons _).trans ?_
    have h1 : left = left.take (r / facN n) ++ left[r / facN n] :: left.drop (r / facN n + 1) := by
      rw [← List.drop_eq_getElem_cons hj, List.take_append_drop]
    rw [List.eraseIdx_eq_take_drop_succ]
    exact (List.perm_middle.symm).trans (List.Perm.of_eq h1.symm)
theorem isPm_PA {n r : Nat} (hn : n ≤ 5) (hr : r < facN n) : isPm (PA n r) = true ∧ (PA n r).length = n := by
  have hl := (PA_rk n r hn hr).1
  have hp : (PA n r).Perm (upTo n) := pa_perm n (upTo n) r (upTo_length n) hr
  refine ⟨?_, hl⟩
  unfold isPm
  rw [Bool.and_eq_true, decide_eq_true_eq, decide_eq_true_eq, srt_iff, hl]
  exact ⟨by omega, hp⟩
theorem isPm_mv {n : Nat} {l : List Int} (hn : n ≤ 5) (h : isPm l = true) (hl : l.length = n) (a b c : Int) (hg : Mgood n a b c) : isPm (mv l a b c) = true ∧ (mv l a b c).length = n := by
  obtain ⟨h1, h2⟩ := PA_of hn h hl
  obtain ⟨h3, h4⟩ := PA_mv n (rk l) hn h1 a b c hg
  rw [h2] at h3 h4
  have := isPm_PA hn h3
  rwa [h4] at this
theorem isPm_upTo {n : Nat} (hn : n ≤ 12) : isPm (upTo n) = true := by
  unfold isPm
  rw [Bool.and_eq_true, decide_eq_true_eq, decide_eq_true_eq, srt_iff, upTo_length]
  exact ⟨hn, List.Perm.refl _⟩
theorem rk_upTo {n : Nat} (hn : n ≤ 5) : rk (upTo n) = 0 := by
  have : ((List.range 6).all fun n => rk (upTo n) == 0) = true := by decide +kernel
  exact beq_iff_eq.1 (List.all_eq_true.1 this n (List.mem_range.2 (by omega)))
def lastL (X : List (List Int)) : List Int := X.getD (X.length - 1) []
theorem lastL_mem {X : List (List Int)} (h : 0 < X.length) : lastL X ∈ X := by
  unfold lastL
  rw [List.getD_eq_getElem?_getD, List.getElem?_eq_getElem (by omega)]
  exact List.getElem_mem _
end Go.Proofs.Ytllhnnjkonghlaa.Perm5
