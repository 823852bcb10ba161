/- Arguments opened: a slice whose elements are known to read becomes a row that is read, at whatever kind of element. -/
import Derived.Test.YtpfakdhfffehaaaWWords
import Derived.Deep.Slices
import Derived.Deep.Fields
import Derived.ChangeSame
import Derived.OpenShut
namespace Go.Proofs.Ytpfakdhfffehaaa.Open
open Go.ChangeShapes Go.WideShapes Go.Deep Go.RowKit Go.Proofs.YtpfakdhfffehaaaW.PrintWords
set_option linter.unusedVariables false

theorem listOf {α : Type} (Q : Nat → α → Prop) : ∀ (n : Nat), (∀ i, i < n → ∃ x, Q i x) → ∃ l : List α, l.length = n ∧ ∀ i x, l[i]? = some x → Q i x
  | 0, _ => ⟨[], rfl, fun i x h => by simp at h⟩
  | n + 1, h => by
    obtain ⟨l, hl, hq⟩ := listOf Q n (fun i hi => h i (by omega))
    obtain ⟨y, hy⟩ := h n (by omega)
    refine ⟨l ++ [y], by simp [hl], fun i x hx => ?_⟩
    rcases Nat.lt_or_ge i l.length with hi | hi
    · rw [List.getElem?_append_left hi] at hx; exact hq i x hx
    · rw [List.getElem?_append_right hi] at hx
      have hi2 : i - l.length < 1 := by
        rcases Nat.lt_or_ge (i - l.length) 1 with h' | h'
        · exact h'
        · rw [List.getElem?_eq_none (by simpa using h')] at hx; cases hx
      have : i = n := by omega
      subst this
      rw [show i - l.length = 0 by omega] at hx
      simp at hx
      subst hx
      exact hy
section
variable {H : Type} {enc : TypeId × Value → H} {P : Program} {W : World} {base : Nat} {spare : Nat → Bool} {held : Bool}
theorem rowC {α : Type} {d : Kd α} {good : α → Prop} {t e : TypeId} (ht : P.underlying t = some (.slice e)) (hC : P.cellsOf e = d.sz)
    (he : ∀ n cs x, DataW.trod enc P W base spare held n e cs = some x → ∃ a, d.K W a cs ∧ good a) {fuel : Nat} {cs : List Value} {x : DataW H × List MemPlace} (h : DataW.trod enc P W base spare held fuel t cs = some x) :
    ∃ (A : Option Addr) (l : List α) (cap : Nat), cs = [.slice A l.length cap] ∧ l.length ≤ cap ∧ l.length ≤ maxLen ∧ d.C W A l.length l ∧ ∀ x ∈ l, good x := by
  rcases open_slice ht h with ⟨rfl, _⟩ | ⟨a, len, cap, m, n, D, Pl, hcs, hb, hl, hm, hmm, hx, hi⟩
  · exact ⟨none, [], 0, rfl, Nat.le_refl _, Nat.zero_le _, ⟨rfl, by simp, fun h => absurd h (by simp)⟩, fun x hx => by simp at hx⟩
  · have hlm : len ≤ m := by rw [hmm]; split <;> omega
    obtain ⟨l, hll, hq⟩ := listOf (fun i (x : α) => good x ∧ ∃ c : List Value, c.length = d.sz ∧ d.K W x c ∧ ∀ j u, c[j]? = some u → W.cell? (a.add (i * d.sz + j)) = some u) len (fun i hil => by
      obtain ⟨cs', hc, htr⟩ := hi i (by omega)
      obtain ⟨y, hK, hg⟩ := he _ _ _ htr
      obtain ⟨_, hlen, hat⟩ := World.cells?_some hc
      rw [hC] at hlen hat
      refine ⟨y, hg, cs', hlen, hK, fun j u hj => ?_⟩
      have hjl : j < d.sz := by
        rcases Nat.lt_or_ge j cs'.length with h' | h'
        · omega
        · rw [List.getElem?_eq_none h'] at hj; cases hj
      rw [← Go.Deep.add_add, hat j hjl]
      exact hj)
    subst hll
    refine ⟨some a, l, cap, hcs, hl, Nat.le_trans hl hm, ⟨rfl, Nat.le_trans hl hm, fun _ => ⟨a, rfl, fun j p hp => ?_⟩⟩, fun x hx => ?_⟩
    · exact (hq j p hp).2
    · obtain ⟨j, hj⟩ := List.getElem?_of_mem hx
      exact (hq j x hj).1
/-- An element that is a whole number. -/
theorem elI {e : TypeId} {k : IntKind} (he : P.underlying e = some (.int k)) : ∀ n cs x, DataW.trod enc P W base spare held n e cs = some x → ∃ a : Int, (Kd.int k).K W a cs ∧ (Lit.int k a).wf = true := by
  intro n cs x h
  obtain ⟨a, rfl, _, hw⟩ := DataW.trod_int he h
  exact ⟨a, rfl, hw⟩
/-- An element that is a bool. -/
theorem elB {e : TypeId} (he : P.underlying e = some .bool) : ∀ n cs x, DataW.trod enc P W base spare held n e cs = some x → ∃ a : Bool, Kd.bool.K W a cs ∧ True := by
  intro n cs x h
  obtain ⟨a, rfl, _⟩ := DataW.trod_bool he h
  exact ⟨a, rfl, trivial⟩
/-- An element that is a row of whole numbers. -/
theorem elIS {t e : TypeId} {k : IntKind} (ht : P.underlying t = some (.slice e)) (he : P.underlying e = some (.int k)) (hC : P.cellsOf e = 1) : ∀ n cs x, DataW.trod enc P W base spare held n t cs = some x →
    ∃ l : List Int, (Kd.slice e (Kd.int k)).K W l cs ∧ (l.length ≤ maxLen ∧ ∀ x ∈ l, (Lit.int k x).wf = true) := by
  intro n cs x h
  obtain ⟨A, l, cap, rfl, h1, h2, h3, h4⟩ := rowC (d := Kd.int k) ht hC (elI he) h
  exact ⟨l, ⟨A, cap, rfl, h1, h3⟩, h2, h4⟩
/-- An element that is a struct of three whole numbers. -/
theorem el3 {e tI : TypeId} {k : IntKind} {f0 f1 f2 : Field} (hs : P.underlying e = some (.struct #[f0, f1, f2])) (hC : P.cellsOf e = 3) (h1 : P.cellsOf tI = 1) (hI : P.underlying tI = some (.int k))
    (t0 : f0.type = tI) (t1 : f1.type = tI) (t2 : f2.type = tI) (o0 : f0.offset = 0) (o1 : f1.offset = 1) (o2 : f2.offset = 2) :
    ∀ n cs x, DataW.trod enc P W base spare held n e cs = some x → ∃ a b c : Int, cs = [.int k a, .int k b, .int k c] ∧ (Lit.int k a).wf = true ∧ (Lit.int k b).wf = true ∧ (Lit.int k c).wf = true := by
  intro n cs x h
  obtain ⟨ys, m, _, hx, hlen, hyl, hf⟩ := DataW.trod_struct hs h
  rw [hC] at hlen
  match cs, hlen with
  | [u, v, z], _ =>
    have g0 := hf 0 f0 rfl
    have g1 := hf 1 f1 rfl
    have g2 := hf 2 f2 rfl
    rw [t0, o0, h1] at g0
    rw [t1, o1, h1] at g1
    rw [t2, o2, h1] at g2
    have hy : ys.length = 3 := hyl
    rw [List.getElem?_eq_getElem (by omega)] at g0 g1 g2
    obtain ⟨a, e0, _, w0⟩ := DataW.trod_int hI g0
    obtain ⟨b, e1, _, w1⟩ := DataW.trod_int hI g1
    obtain ⟨c, e2, _, w2⟩ := DataW.trod_int hI g2
    simp at e0 e1 e2
    subst e0; subst e1; subst e2
    exact ⟨a, b, c, rfl, w0, w1, w2⟩
end
end Go.Proofs.Ytpfakdhfffehaaa.Open
