import Derived.Test.YtapbbmicfkbafaaGreatBase
namespace Go.Proofs.YtapbbmicfkbafaaGreat.Moves
open Go.RowKit Go.Proofs.YtapbbmicfkbafaaGreatW.PrintWords Go.Proofs.YtapbbmicfkbafaaGreat.Base
set_option linter.unusedVariables false
set_option linter.unusedSimpArgs false
def mv (l : List Int) (a b c : Int) : List Int :=
  if a = 0 then (l.set b.toNat (rd l c)).set c.toNat (rd l b)
  else if a = 1 then (l.take b.toNat).reverse ++ l.drop b.toNat
  else (l.take b.toNat).drop 1 ++ (l.take b.toNat).take 1 ++ l.drop b.toNat
def Mgood (n a b c : Int) : Prop := (a = 0 ∧ 0 ≤ b ∧ b < c ∧ c < n) ∨ (a = 1 ∧ 2 ≤ b ∧ b ≤ n ∧ c = 0) ∨ (a = 2 ∧ 2 ≤ b ∧ b ≤ n ∧ c = 0)
instance (n a b c : Int) : Decidable (Mgood n a b c) := by unfold Mgood; infer_instance
end Go.Proofs.YtapbbmicfkbafaaGreat.Moves
