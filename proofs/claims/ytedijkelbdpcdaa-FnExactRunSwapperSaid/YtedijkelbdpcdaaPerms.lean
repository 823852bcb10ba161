import Derived.Test.YtedijkelbdpcdaaBase
namespace Go.Proofs.Ytedijkelbdpcdaa.Perms
open Go.RowKit Go.Proofs.YtedijkelbdpcdaaW.PrintWords Go.Proofs.Ytedijkelbdpcdaa.Base
set_option linter.unusedVariables false
set_option linter.unusedSimpArgs false
theorem nodup_range : ∀ (n : Nat) (l : List Int), l.Nodup → (∀ x ∈ l, 0 ≤ x ∧ x < n) → l.length ≤ n ∧ (l.length = n → l.Perm (upTo n))
  | 0, l, hd, hr => by
    cases l with
    | nil => exact ⟨Nat.le_refl _, fun _ => by simp [upTo]⟩
    | cons x t => have := hr x (List.mem_cons_self ..); omega
  | n + 1, l, hd, hr => by
    by_cases c : (n : Int) ∈ l
    · have hp := List.perm_cons_erase c
      have hd2 : (l.erase (n : Int)).Nodup := hd.erase _
      have hr2 : ∀ x ∈ l.erase (n : Int), 0 ≤ x ∧ x < n := by
        intro x hx
        have h1 := hr x (List.mem_of_mem_erase hx)
        have h2 : x ≠ (n : Int) := fun e => by rw [e] at hx; exact (List.Nodup.not_mem_erase hd) hx
        omega
      obtain ⟨h1, h2⟩ := nodup_range n _ hd2 hr2
      have hl := List.length_erase_of_mem c
      have hpos : 0 < l.length := List.length_pos_of_mem c
      refine ⟨by omega, fun e => ?_⟩
      refine hp.trans (((h2 (by omega)).cons _).trans ?_)
      rw [upTo_succ]
      exact (List.perm_append_singleton _ _).symm
    · have hr2 : ∀ x ∈ l, 0 ≤ x ∧ x < n := by
        intro x hx
        have h1 := hr x hx
        have h2 : x ≠ (n : Int) := fun e => c (e ▸ hx)
        omega
      obtain ⟨h1, h2⟩ := nodup_range n l hd hr2
      exact ⟨by omega, fun e => by omega⟩
end Go.Proofs.Ytedijkelbdpcdaa.Perms
