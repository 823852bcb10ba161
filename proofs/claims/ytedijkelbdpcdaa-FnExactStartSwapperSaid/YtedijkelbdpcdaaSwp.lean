import Derived.Test.YtedijkelbdpcdaaFocG
import Derived.Test.YtedijkelbdpcdaaTrot
import Derived.Test.YtedijkelbdpcdaaPerms
namespace Go.Proofs.Ytedijkelbdpcdaa.Swp
open Go.Proofs.Ytedijkelbdpcdaa.Base Go.Proofs.Ytedijkelbdpcdaa.Foc Go.Proofs.Ytedijkelbdpcdaa.FocB Go.Proofs.Ytedijkelbdpcdaa.FocR Go.Proofs.Ytedijkelbdpcdaa.FocG Go.Proofs.Ytedijkelbdpcdaa.FoW Go.Proofs.Ytedijkelbdpcdaa.Trot Go.Proofs.YtedijkelbdpcdaaW.PrintWords
set_option linter.unusedVariables false
set_option linter.unusedSimpArgs false
def cn : Nat → List Nat
  | 0 => []
  | 1 => []
  | n + 2 => (n + 2) :: cn (n + 1)
theorem cn_length : ∀ n, (cn n).length = n - 1
  | 0 => rfl
  | 1 => rfl
  | n + 2 => by rw [cn, List.length_cons, cn_length (n + 1)]; omega
theorem cn_mem : ∀ n, ∀ c ∈ cn n, 2 ≤ c ∧ c ≤ n
  | 0, c, h => by simp [cn] at h
  | 1, c, h => by simp [cn] at h
  | n + 2, c, h => by
    rw [cn, List.mem_cons] at h
    rcases h with rfl | h
    · omega
    · have := cn_mem (n + 1) c h; omega
theorem cn_ok (n : Nat) (h : n ≤ 7) : Ok (cn n) := ⟨fun c hc => (cn_mem n c hc).1, fun c hc => by have := (cn_mem n c hc).2; omega, by rw [cn_length]; omega⟩
theorem bs_cn (j : Nat) (h : 1 ≤ j) : bs (cn j) ++ [(j : Int) + 1] = bs (cn (j + 1)) := by
  obtain ⟨m, rfl⟩ : ∃ m, j = m + 1 := ⟨j - 1, by omega⟩
  have e : cn (m + 1 + 1) = (m + 2) :: cn (m + 1) := rfl
  rw [e]
  unfold bs
  rw [List.map_cons, List.reverse_cons]
  congr 2
end Go.Proofs.Ytedijkelbdpcdaa.Swp
