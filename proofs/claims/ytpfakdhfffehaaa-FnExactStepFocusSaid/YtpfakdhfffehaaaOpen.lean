import Derived.Test.YtpfakdhfffehaaaWWords
import Derived.Deep.Slices
import Derived.Deep.Fields
import Derived.ChangeSame
import Derived.OpenShut
import Derived.Lib.SmallJoins
namespace Go.Proofs.Ytpfakdhfffehaaa.Open
open Go.ChangeShapes Go.WideShapes Go.Deep Go.RowKit Go.Proofs.YtpfakdhfffehaaaW.PrintWords
set_option linter.unusedVariables false
theorem listOf {α : Type} (Q : Nat → α → Prop) : ∀ (n : Nat), (∀ i, i < n → ∃ x, Q i x) → ∃ l : List α, l.length = n ∧ ∀ i x, l[i]? = some x → Q i x
  | 0, _ => ⟨[], rfl, fun i x h => by simp at h⟩
  | n + 1, h => by
    obtain ⟨l, hl, hq⟩ := listOf Q n (fun i hi => h i (by omega))
    obtain ⟨y, hy⟩ := h n (by omega)
    refine ⟨l ++ [y], by simp [hl], fun i x hx => ?_⟩
    rcases Nat.lt_or_ge i l.length with hi | hi
    · rw [List.getElem?_append_left hi] at hx; exact hq i x hx
    · rw [List.getElem?_append_right hi] at hx
      have hi2 : i - l.length < 1 := by
        rcases Nat.lt_or_ge (i - l.length) 1 with h' | h'
        · exact h'
        · rw [List.getElem?_eq_none (by simpa using h')] at hx; cases hx
      have : i = n := by omega
      subst this
      rw [show i - l.length = 0 by omega] at hx
      simp at hx
      subst hx
      exact hy
section
variable {H : Type} {enc : TypeId × Value → H} {P : Program} {W : World} {base : Nat} {spare : Nat → Bool} {held : Bool}
theorem rowC {α : Type} {d : Kd α} {good : α → Prop} {t e : TypeId} (ht : P.underlying t = some (.slice e)) (hC : P.cellsOf e = d.sz)
    (he : ∀ n cs x, DataW.trod enc P W base spare held n e cs = some x → ∃ a, d.K W a cs ∧ good a) {fuel : Nat} {cs : List Value} {x : DataW H × List MemPlace} (h : DataW.trod enc P W base spare held fuel t cs = some x) :
    ∃ (A : Option Addr) (l : List α) (cap : Nat), cs = [.slice A l.length cap] ∧ l.length ≤ cap ∧ l.length ≤ maxLen ∧ d.C W A l.length l ∧ ∀ x ∈ l, good x := by
  rcases open_slice ht h with ⟨rfl, _⟩ | ⟨a, len, cap, m, n, D, Pl, hcs, hb, hl, hm, hmm, hx, hi⟩
  · exact ⟨none, [], 0, rfl, Nat.le_refl _, Nat.zero_le _, ⟨rfl, by simp, fun h => absurd h (by simp)⟩, fun x hx => by simp at hx⟩
  · have hlm : len ≤ m := by rw [hmm]; split <;> omega
    obtain ⟨l, hll, hq⟩ := listOf (fun i (x : α) => good x ∧ ∃ c : List Value, c.length = d.sz ∧ d.K W x c ∧ ∀ j u, c[j]? = some u → W.cell? (a.add (i * d.sz + j)) = some u) len (fun i hil => by
      obtain ⟨cs', hc, htr⟩ := hi i (by omega)
      obtain ⟨y, hK, hg⟩ := he _ _ _ htr
      obtain ⟨_, hlen, hat⟩ := World.cells?_some hc
      rw [hC] at hlen hat
      refine ⟨y, hg, cs', hlen, hK, fun j u hj => ?_⟩
      have hjl : j < d.sz := by
        rcases Nat.lt_or_ge j cs'.length with h' | h'
        · omega
        · rw [List.getElem?_eq_none h'] at hj; cases hj
      rw [← Go.Deep.add_add, hat j hjl]
      exact hj)
    subst hll
    refine ⟨some a, l, cap, hcs, hl, Nat.le_trans hl hm, ⟨rfl, Nat.le_trans hl hm, fun _ => ⟨a, rfl, fun j p hp => ?_⟩⟩, fun x hx => ?_⟩
    · exact (hq j p hp).2
    · obtain ⟨j, hj⟩ := List.getElem?_of_mem hx
      exact (hq j x hj).1
theorem elI {e : TypeId} {k : IntKind} (he : P.underlying e = some (.int k)) : ∀ n cs x, DataW.trod enc P W base spare held n e cs = some x → ∃ a : Int, (Kd.int k).K W a cs ∧ (Lit.int k a).wf = true := by
  intro n cs x h
  obtain ⟨a, rfl, _, hw⟩ := DataW.trod_int he h
  exact ⟨a, rfl, hw⟩
theorem elB {e : TypeId} (he : P.underlying e = some .bool) : ∀ n cs x, DataW.trod enc P W base spare held n e cs = some x → ∃ a : Bool, Kd.bool.K W a cs ∧ True := by
  intro n cs x h
  obtain ⟨a, rfl, _⟩ := DataW.trod_bool he h
  exact ⟨a, rfl, trivial⟩
end
end Go.Proofs.Ytpfakdhfffehaaa.Open
