import Derived.Test.YtpfakdhfffehaaaWWords
import Derived.Deep.Slices
import Derived.Deep.Fields
import Derived.ChangeSame
import Derived.OpenShut
import Derived.Lib.SmallJoins
namespace Go.Proofs.Ytpfakdhfffehaaa.Open
open Go.ChangeShapes Go.WideShapes Go.Deep Go.RowKit Go.Proofs.YtpfakdhfffehaaaW.PrintWords
set_option linter.unusedVariables false
theorem listOf {α : Type} (Q : Nat → α → Prop) : ∀ (n : Nat), (∀ i, i < n → ∃ x, Q i x) → ∃ l : List α, l.length = n ∧ ∀ i x, l[i]? = some x → Q i x
  | 0, _ => ⟨[], rfl, fun i x h => by simp at h⟩
  | n + 1, h => by
    obtain ⟨l, hl, hq⟩ := listOf Q n (fun i hi => h i (by omega))
    obtain ⟨y, hy⟩ := h n (by omega)
    refine ⟨l ++ [y], by simp [hl], fun i x hx => ?_⟩
    rcases Nat.lt_or_ge i l.length with hi | hi
    · rw [List.getElem?_append_left hi] at hx; exact hq i x hx
    · rw [List.getElem?_append_right hi] at hx
      have hi2 : i - l.length < 1 := by
        rcases Nat.lt_or_ge (i - l.length) 1 with h' | h'
        · exact h'
        · rw [List.getElem?_eq_none (by simpa using h')] at hx; cases hx
      have : i = n := by omega
      subst this
      rw [show i - l.length = 0 by omega] at hx
      simp at hx
      subst hx
      exact hy
section
variable {H : Type} {enc : TypeId × Value → H} {P : Program} {W : World} {base : Nat} {spare : Nat → Bool} {held : Bool}
theorem rowC {α : Type} {d : Kd α} {good : α → Prop} {t e : TypeId} (ht : P.underlying t = some (.slice e)) (hC : P.cellsOf e = d.sz)
    (he : ∀ n cs x, DataW.trod enc P W base spare held n e cs = some x → ∃ a, d.K W a cs ∧ good a) {fuel : Nat} {cs : List Value} {x : DataW H × List MemPlace} (h : DataW.trod enc P W base spare held fuel t cs = some x) :
    ∃ (A : Option Addr) (l : List α) (cap : Nat), cs = [.slice A l.length cap] ∧ l.length ≤ cap ∧ l.length ≤ maxLen ∧ d.C W A l.length l ∧ ∀ x ∈ l, good x := by
  rcases open_slice ht h with ⟨rfl, _⟩ | ⟨a, len, cap, m, n, D, Pl, hcs, hb, hl, hm, hmm, hx, hi⟩
  · exact ⟨none, [], 0, rfl, Nat.le_refl _, Nat.zero_le _, ⟨rfl, by simp, fun h => absurd h (by simp)⟩, fun x hx => by simp at hx⟩
  · have hlm : len ≤ m := by rw [hmm]; split <;> omega
    obtain ⟨l, hll, hq⟩ := listOf (fun i (x : α) => good x ∧ ∃ c : List Value, c.length = d.sz ∧ d.K W x c ∧ ∀ j u, c[j]? = some u → W.cell? (a.add (i * d.sz + j)) = some u) len (fun i hil => by
      obtain ⟨cs', hc, htr⟩ := hi i (by omega)
      obtain ⟨y, hK, hg⟩ := he _ _ _ htr
      obtain ⟨_, hlen, hat⟩ := World.cells?_some hc
      rw [hC] at hlen hat
      refine ⟨y, hg, cs', hlen, hK, fun j u hj => ?_⟩
      have hjl : j < d.sz := by
        rcases Nat.lt_or_ge j cs'.length with h' | h'
        · omega
        · rw [List.getElem?_eq_none h'] at hj; cases hj
      rw [← Go.Deep.add_add, hat j hjl]
      exact hj)
    subst hll
    refine ⟨some a, l, cap, hcs, hl, Nat.le_trans hl hm, ⟨rfl, Nat.le_trans hl hm, fun _ => ⟨a, rfl, fun j p hp => ?_⟩⟩, fun x hx => ?_⟩
    · exact (hq j p hp).2
    · obtain ⟨j, hj⟩ := List.getElem?_of_mem hx
      exact (hq j x hj).1
theorem elI {e : TypeId} {k : IntKind} (he : P.underlying e = some (.int k)) : ∀ n cs x, DataW.trod enc P W base spare held n e cs = some x → ∃ a : Int, (Kd.int k).K W a cs ∧ (Lit.int k a).wf = true := by
  intro n cs x h
  obtain ⟨a, rfl, _, hw⟩ := DataW.trod_int he h
  exact ⟨a, rfl, hw⟩
theorem elB {e : TypeId} (he : P.underlying e = some .bool) : ∀ n cs x, DataW.trod enc P W base spare held n e cs = some x → ∃ a : Bool, Kd.bool.K W a cs ∧ True := by
  intro n cs x h
  obtain ⟨a, rfl, _⟩ := DataW.trod_bool he h
  exact ⟨a, rfl, trivial⟩
theorem array6 {α : Type} {cs : Array α} (h : cs.size = 6) : ∃ c0 c1 c2 c3 c4 c5, cs = #[c0, c1, c2, c3, c4, c5] := by
  obtain ⟨l⟩ := cs
  match l, h with
  | [c0, c1, c2, c3, c4, c5], _ => exact ⟨c0, c1, c2, c3, c4, c5, rfl⟩
theorem open_sw {r : Reach} {b0 : Nat} {t : TypeId} {f0 f1 f2 g0 g1 g2 g3 : Field} {v : Value} {d : DataW H} {p : List MemPlace} (hs : P.underlying t = some (.struct #[f0, f1, f2])) (hs4 : P.underlying f0.type = some (.struct #[g0, g1, g2, g3]))
    (hok : decide (f0.offset = 0 ∧ f1.offset = 4 ∧ f2.offset = 5 ∧ g0.offset = 0 ∧ g1.offset = 1 ∧ g2.offset = 2 ∧ g3.offset = 3 ∧ P.cellsOf t = 6 ∧ P.cellsOf f0.type = 4 ∧ P.cellsOf f1.type = 1 ∧ P.cellsOf f2.type = 1 ∧ P.cellsOf g0.type = 1 ∧ P.cellsOf g1.type = 1 ∧ P.cellsOf g2.type = 1 ∧ P.cellsOf g3.type = 1) = true)
    (hv : Value.okWide P W r b0 t v) (h : DataW.Trod enc P W base spare held t v d p) :
    ∃ (v0 v1 v2 v3 v4 v5 : Value) (y0 y1 y2 y3 y4 y5 : DataW H × List MemPlace) (n m : Nat), v = .agg #[v0, v1, v2, v3, v4, v5] ∧ DataW.trod enc P W base spare held n g0.type [v0] = some y0 ∧ DataW.trod enc P W base spare held n g1.type [v1] = some y1 ∧ DataW.trod enc P W base spare held n g2.type [v2] = some y2 ∧ DataW.trod enc P W base spare held n g3.type [v3] = some y3 ∧
      DataW.trod enc P W base spare held m f1.type [v4] = some y4 ∧ DataW.trod enc P W base spare held m f2.type [v5] = some y5 := by
  rw [decide_eq_true_eq] at hok
  obtain ⟨o0, o4, o5, q0, q1, q2, q3, C, C0, C1, C2, D0, D1, D2, D3⟩ := hok
  obtain ⟨cs, rfl, hsz⟩ := okWide_struct hs hv
  obtain ⟨c0, c1, c2, c3, c4, c5, rfl⟩ := array6 (hsz.trans C)
  obtain ⟨fuel, hf⟩ := h
  obtain ⟨y0, y1, y2, m, hx, _, h0, h1, h2⟩ := trod_struct3 hs hf
  obtain ⟨z0, z1, z2, z3, n, hx2, _, k0, k1, k2, k3⟩ := Go.Joins.trod_struct4 hs4 h0
  exact ⟨c0, c1, c2, c3, c4, c5, z0, z1, z2, z3, y1, y2, n, m, rfl, by simpa [Value.cells, o0, C0, q0, D0] using k0, by simpa [Value.cells, o0, C0, q1, D1] using k1, by simpa [Value.cells, o0, C0, q2, D2] using k2, by simpa [Value.cells, o0, C0, q3, D3] using k3, by simpa [Value.cells, o4, C1] using h1, by simpa [Value.cells, o5, C2] using h2⟩
end
end Go.Proofs.Ytpfakdhfffehaaa.Open
