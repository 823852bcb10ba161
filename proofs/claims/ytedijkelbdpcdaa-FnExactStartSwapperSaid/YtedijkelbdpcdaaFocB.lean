import Derived.Test.YtedijkelbdpcdaaBase
namespace Go.Proofs.Ytedijkelbdpcdaa.FocB
open Go.Proofs.Ytedijkelbdpcdaa.Base
set_option linter.unusedVariables false
set_option linter.unusedSimpArgs false
theorem rep_snoc (j : Int) (h : 0 ≤ j) : List.replicate j.toNat true ++ [true] = List.replicate (j + 1).toNat true := by
  rw [show (j + 1).toNat = j.toNat + 1 from by omega, List.replicate_succ']
def stF (l : List Int) : List Int × List Int × List Bool × List Int := (l, List.replicate l.length 0, List.replicate l.length true, upTo (l.length + 1))
def bM (m : Int) : Nat → List Bool
  | 0 => []
  | n + 1 => (Int.tmod m 3 == 0) :: bM (m + 1) n
theorem bM_length (n : Nat) : ∀ m, (bM m n).length = n := by
  induction n with
  | zero => intro m; rfl
  | succ n ih => intro m; simp [bM, ih]
theorem set_takeB (xs : List Bool) (j : Int) (v : Bool) (h0 : 0 ≤ j) (h : j < xs.length) : (xs.set j.toNat v).take (j + 1).toNat = xs.take j.toNat ++ [v] := by
  have hl : j.toNat < xs.length := by omega
  rw [show (j + 1).toNat = j.toNat + 1 from by omega, List.take_succ_eq_append_getElem (by simpa using hl)]
  simp [List.take_set_of_le]
end Go.Proofs.Ytedijkelbdpcdaa.FocB
