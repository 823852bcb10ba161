import Derived.Test.YtapbbmicfkbafaaGreatSwpS
import Derived.Test.YtapbbmicfkbafaaGreatPerms
namespace Go.Proofs.YtapbbmicfkbafaaGreat.SwpG
open Go.Proofs.YtapbbmicfkbafaaGreat.Base Go.Proofs.YtapbbmicfkbafaaGreat.Foc Go.Proofs.YtapbbmicfkbafaaGreat.FocB Go.Proofs.YtapbbmicfkbafaaGreat.FocR Go.Proofs.YtapbbmicfkbafaaGreat.FocG Go.Proofs.YtapbbmicfkbafaaGreat.Trot Go.Proofs.YtapbbmicfkbafaaGreat.Perms Go.Proofs.YtapbbmicfkbafaaGreat.Swp Go.Proofs.YtapbbmicfkbafaaGreat.SwpS Go.Proofs.YtapbbmicfkbafaaGreatW.PrintWords
set_option linter.unusedVariables false
set_option linter.unusedSimpArgs false
def gS (b d : List Int) (u : List Bool) (p l v : List Int) : Bool := decide (1 ≤ l.length ∧ l.length ≤ 7) && (gF b d u p && decide (b = bs (cn l.length) ∧ l = it l.length (mr b d).toNat ∧ v = wh l.length (mr b d).toNat))
theorem isPm_it (n r : Nat) (hn : n ≤ 12) : isPm (it n r) = true := by
  unfold isPm
  rw [Bool.and_eq_true, decide_eq_true_eq, decide_eq_true_eq, srt_iff, it_length]
  exact ⟨hn, by unfold it; exact trot_perm n _⟩
theorem gF_rank {b d : List Int} {u : List Bool} {p : List Int} (h : gF b d u p = true) : (b.length ≤ 12 ∧ (∀ x ∈ b, 2 ≤ x ∧ x ≤ 12) ∧ prodI b ≤ 5040 ∧ all2 b d = true) ∧ 0 ≤ mr b d ∧ mr b d < prodI b ∧ mr b d < 5040 := by
  simp only [gF, Bool.and_eq_true] at h
  obtain ⟨h1, h2, h3⟩ := h
  obtain ⟨q1, q2, q3⟩ := fob_of h1
  obtain ⟨m1, m2⟩ := mr_range b d (all2_len b d h2) (all2_at b d h2)
  exact ⟨⟨q1, q2, q3, h2⟩, m1, m2, by omega⟩
theorem gF_cn {b d : List Int} {u : List Bool} {p : List Int} {n : Nat} (hn : n ≤ 7) (h : gF b d u p = true) (e : b = bs (cn n)) : (mr b d).toNat < fac n ∧ (d, u, p) = ((st (cn n) (mr b d).toNat).d, (st (cn n) (mr b d).toNat).u, (st (cn n) (mr b d).toNat).p) := by
  obtain ⟨-, m1, m2, m3⟩ := gF_rank h
  simp only [gF, Bool.and_eq_true, decide_eq_true_eq] at h
  obtain ⟨h1, h2, h3⟩ := h
  have hc : csOf b = cn n := by rw [e, csOf_bs]
  have hp : prodI b = fac n := by rw [e, prodI_bs, cn_prod]
  refine ⟨by omega, ?_⟩
  rw [hc] at h3
  exact h3
end Go.Proofs.YtapbbmicfkbafaaGreat.SwpG
