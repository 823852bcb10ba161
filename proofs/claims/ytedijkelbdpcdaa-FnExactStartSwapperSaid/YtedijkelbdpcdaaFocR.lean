import Derived.Test.YtedijkelbdpcdaaFoc
import Derived.Test.YtedijkelbdpcdaaFocB
import Derived.Test.YtedijkelbdpcdaaFoW
namespace Go.Proofs.Ytedijkelbdpcdaa.FocR
open Go.Proofs.Ytedijkelbdpcdaa.Base Go.Proofs.Ytedijkelbdpcdaa.Foc Go.Proofs.Ytedijkelbdpcdaa.FocB Go.Proofs.Ytedijkelbdpcdaa.FoW Go.Proofs.YtedijkelbdpcdaaW.PrintWords
set_option linter.unusedVariables false
set_option linter.unusedSimpArgs false
structure Ok (cs : List Nat) : Prop where mk ::
  rad : Rad cs
  le : ∀ c ∈ cs, c ≤ 12
  len : cs.length ≤ 12
theorem st_lens (cs : List Nat) (r : Nat) : (st cs r).d.length = cs.length ∧ (st cs r).u.length = cs.length ∧ (st cs r).p.length = cs.length + 1 := by
  unfold st
  simp [gd_length, gu_length, gp_length]
def run (cs : List Nat) : Nat → Nat → List Int
  | _, 0 => []
  | r, m + 1 => if fa cs r < cs.length then ((cs.length : Int) - 1 - ((fa cs r : Nat) : Int)) :: run cs (r + 1) m else []
theorem stF_st (cs : List Nat) (h : Ok cs) : stF (bs cs) = (bs cs, (st cs 0).d, (st cs 0).u, (st cs 0).p) := by
  unfold stF st
  rw [gd_zero cs h.rad, gu_zero cs h.rad, gp_zero cs 0 true h.rad, bs_length]
  simp only [List.reverse_replicate]
  congr 3
  unfold upTo
  rw [List.range_eq_range']
end Go.Proofs.Ytedijkelbdpcdaa.FocR
