import Derived.Test.YtllhnnjkonghlaaPerms
import Derived.Test.YtllhnnjkonghlaaSgn
namespace Go.Proofs.Ytllhnnjkonghlaa.PmX
open Go.Proofs.Ytllhnnjkonghlaa.Base Go.Proofs.Ytllhnnjkonghlaa.Perms Go.Proofs.Ytllhnnjkonghlaa.Moves Go.Proofs.Ytllhnnjkonghlaa.Sgn
set_option linter.unusedVariables false
set_option linter.unusedSimpArgs false
theorem isPm_perm {l : List Int} (h : isPm l = true) : l.length ≤ 12 ∧ l.Perm (upTo l.length) := by
  unfold isPm at h
  rw [Bool.and_eq_true, decide_eq_true_eq, decide_eq_true_eq, srt_iff] at h
  exact h
theorem perm_isPm {l : List Int} (h12 : l.length ≤ 12) (h : l.Perm (upTo l.length)) : isPm l = true := by
  unfold isPm
  rw [Bool.and_eq_true, decide_eq_true_eq, decide_eq_true_eq, srt_iff]
  exact ⟨h12, h⟩
theorem isPm_mvX {l : List Int} (h : isPm l = true) (a b c : Int) (hg : Mgood l.length a b c) : isPm (mv l a b c) = true := by
  have h1 := isPm_perm h
  refine perm_isPm (by rw [mv_length]; exact h1.1) ?_
  rw [mv_length]
  exact (mv_perm l a b c hg).trans h1.2
end Go.Proofs.Ytllhnnjkonghlaa.PmX
