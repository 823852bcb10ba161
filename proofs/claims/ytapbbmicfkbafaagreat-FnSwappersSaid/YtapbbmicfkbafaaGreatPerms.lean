import Derived.Test.YtapbbmicfkbafaaGreatBase
namespace Go.Proofs.YtapbbmicfkbafaaGreat.Perms
open Go.RowKit Go.Proofs.YtapbbmicfkbafaaGreatW.PrintWords Go.Proofs.YtapbbmicfkbafaaGreat.Base
set_option linter.unusedVariables false
set_option linter.unusedSimpArgs false
def srt (l : List Int) : List Int := l.mergeSort (fun x y => decide (x ≤ y))
def isPm (l : List Int) : Bool := decide (l.length ≤ 12) && decide (srt l = upTo l.length)
theorem srt_perm (l : List Int) : (srt l).Perm l := List.mergeSort_perm l _
theorem srt_sorted (l : List Int) : (srt l).Pairwise (fun x y => x ≤ y) := by
  have h := List.pairwise_mergeSort (le := fun (x y : Int) => decide (x ≤ y)) (fun a b c h1 h2 => by simp at *; omega) (fun a b => by simp; omega) l
  exact h.imp (fun h => by simpa using h)
theorem upTo_sorted : ∀ n, (upTo n).Pairwise (fun x y => x < y)
  | 0 => by simp [upTo]
  | n + 1 => by
    rw [upTo_succ]
    refine List.pairwise_append.2 ⟨upTo_sorted n, by simp, fun a ha b hb => ?_⟩
    have := mem_upTo.1 ha
    rw [List.mem_singleton.1 hb]; omega
theorem sorted_eq : ∀ (a b : List Int), a.Perm b → a.Pairwise (fun x y => x ≤ y) → b.Pairwise (fun x y => x ≤ y) → a = b := by
  intro a b h ha hb
  exact h.eq_of_pairwise (fun x y _ _ h1 h2 => by omega) ha hb
theorem srt_iff (l : List Int) (n : Nat) : srt l = upTo n ↔ l.Perm (upTo n) := by
  constructor
  · intro h; rw [← h]; exact (srt_perm l).symm
  · intro h
    exact sorted_eq _ _ ((srt_perm l).trans h) (srt_sorted l) ((upTo_sorted n).imp (fun h => by omega))
theorem nodup_range : ∀ (n : Nat) (l : List Int), l.Nodup → (∀ x ∈ l, 0 ≤ x ∧ x < n) → l.length ≤ n ∧ (l.length = n → l.Perm (upTo n))
  | 0, l, hd, hr => by
    cases l with
    | nil => exact ⟨Nat.le_refl _, fun _ => by simp [upTo]⟩
    | cons x t => have := hr x (List.mem_cons_self ..); omega
  | n + 1, l, hd, hr => by
    by_cases c : (n : Int) ∈ l
    · have hp := List.perm_cons_erase c
      have hd2 : (l.erase (n : Int)).Nodup := hd.erase _
      have hr2 : ∀ x ∈ l.erase (n : Int), 0 ≤ x ∧ x < n := by
        intro x hx
        have h1 := hr x (List.mem_of_mem_erase hx)
        have h2 : x ≠ (n : Int) := fun e => by rw [e] at hx; exact (List.Nodup.not_mem_erase hd) hx
        omega
      obtain ⟨h1, h2⟩ := nodup_range n _ hd2 hr2
      have hl := List.length_erase_of_mem c
      have hpos : 0 < l.length := List.length_pos_of_mem c
      refine ⟨by omega, fun e => ?_⟩
      refine hp.trans (((h2 (by omega)).cons _).trans ?_)
      rw [upTo_succ]
      exact (List.perm_append_singleton _ _).symm
    · have hr2 : ∀ x ∈ l, 0 ≤ x ∧ x < n := by
        intro x hx
        have h1 := hr x hx
        have h2 : x ≠ (n : Int) := fun e => c (e ▸ hx)
        omega
      obtain ⟨h1, h2⟩ := nodup_range n l hd hr2
      exact ⟨by omega, fun e => by omega⟩
theorem perm_iff (l : List Int) : l.Perm (upTo l.length) ↔ l.Nodup ∧ ∀ x ∈ l, 0 ≤ x ∧ x < l.length := by
  constructor
  · intro h
    refine ⟨h.nodup_iff.2 ((upTo_sorted _).imp (fun h => by omega)), fun x hx => mem_upTo.1 (h.mem_iff.1 hx)⟩
  · intro ⟨h1, h2⟩
    exact (nodup_range l.length l h1 h2).2 rfl
theorem nodup_take (l : List Int) : l.Nodup ↔ ∀ j (h : j < l.length), l[j] ∉ l.take j := by
  constructor
  · intro h j hj hm
    obtain ⟨i, hi, e⟩ := List.mem_iff_getElem.1 hm
    rw [List.length_take] at hi
    rw [List.getElem_take] at e
    have := (List.pairwise_iff_getElem.1 h) i j (by omega) hj (by omega)
    exact this e
  · intro h
    refine List.pairwise_iff_getElem.2 (fun i j hi hj hij e => h j hj ?_)
    rw [← e]
    exact List.mem_iff_getElem.2 ⟨i, by rw [List.length_take]; omega, by rw [List.getElem_take]⟩
theorem isPm_iff (l : List Int) : isPm l = true ↔ ∀ j (h : j < l.length), j < 12 ∧ (0 ≤ l[j] ∧ l[j] ≤ (l.length : Int) - 1) ∧ l[j] ∉ l.take j := by
  unfold isPm
  rw [Bool.and_eq_true, decide_eq_true_eq, decide_eq_true_eq, srt_iff, perm_iff, nodup_take]
  constructor
  · intro ⟨h1, h2, h3⟩ j hj
    have := h3 _ (List.getElem_mem hj)
    exact ⟨by omega, by omega, h2 j hj⟩
  · intro h
    refine ⟨?_, fun j hj => (h j hj).2.2, fun x hx => ?_⟩
    · rcases Nat.lt_or_ge 12 l.length with h' | h'
      · have := (h 12 h').1; omega
      · exact h'
    · obtain ⟨j, hj, rfl⟩ := List.mem_iff_getElem.1 hx
      have := (h j hj).2.1
      omega
end Go.Proofs.YtapbbmicfkbafaaGreat.Perms
