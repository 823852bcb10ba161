import Derived.WalkKit
import Derived.Maps.OwnSet
import Derived.DeepKeys4
import Derived.Test.YtmkokfljonbcmaaWWords
import Derived.Test.YtmkokfljonbcmaaMapSet
namespace Go.Proofs.Ytmkokfljonbcmaa.PrS
open Go Go.Maps Go.ChangeMaps Go.RowKit Go.Proofs.Ytmkokfljonbcmaa.MapSet
set_option linter.unusedVariables false
set_option linter.unusedSimpArgs false
def kl (x y : Int) : Lit := .string (keyBytes [.int .i64 x, .int .i64 y])
abbrev pv (x y : Int) : Value := .agg #[.int .i64 x, .int .i64 y]
abbrev Ok (p : Int × Int) : Prop := (Lit.int .i64 p.1).wf = true ∧ (Lit.int .i64 p.2).wf = true
structure Two (P : Program) (k : TypeId) : Prop where mk ::
  law : Keyed P k
  key : ∀ x y, Ok (x, y) → keyOf P k (pv x y) = some (kl x y)
theorem Two.of {P : Program} {k ti : TypeId} {m : Nat} {f0 f1 : Field} (law : Keyed P k) (hu : P.underlying k = some (.struct #[f0, f1])) (hk : P.keyType k = true) (hs : P.types.size = m + 1) (hi : P.underlying ti = some (.int .i64)) (hc : P.cellsOf k = 2) (hci : P.cellsOf ti = 1) (h0 : f0.offset = 0 ∧ f0.type = ti ∧ (f0.name != "_") = true) (h1 : f1.offset = 1 ∧ f1.type = ti ∧ (f1.name != "_") = true) (hm : 1 ≤ m) : Two P k := by
  refine ⟨law, fun x y hok => ?_⟩
  obtain ⟨m', rfl⟩ : ∃ m', m = m' + 1 := ⟨m - 1, by omega⟩
  unfold keyOf kl
  simp only [hu]
  rw [if_pos (by simp [hk, Value.formed, hu, hc, pv]), hs]
  unfold Program.keyLits
  simp only [hu, Value.cells, pv]
  rw [if_pos (by rw [hc]; simp [h0.2.2, h1.2.2])]
  simp [h0.1, h0.2.1, h1.1, h1.2.1, hci, Program.keyLits, hi, hok.1, hok.2]
theorem Two.inj {P : Program} {k : TypeId} (T : Two P k) {x y x' y' : Int} (h : Ok (x, y)) (h' : Ok (x', y')) (e : kl x y = kl x' y') : (x, y) = (x', y') := by
  have h1 := T.key x y h
  rw [e] at h1
  have := T.law.inj h1 (T.key x' y' h')
  unfold pv at this
  simp at this
  rw [this.1, this.2]
structure PSet (P : Program) (k e : TypeId) (w : World) (b : Nat) (L : List (Int × Int)) : Prop where mk ::
  out : ∃ D : DataW Unit, w.ownsMap P k (plainElem P e) b L.length D ∧ Tidy D ∧ (∀ p : Int × Int, Ok p → D.atKey (kl p.1 p.2) (.lit (.bool false)) = .lit (.bool (decide (p ∈ L)))) ∧ (∀ p : Int × Int, Ok p → Maps.has D (kl p.1 p.2) = decide (p ∈ L)) ∧ Maps.size D = L.length
variable {P : Program} {k e t b : Nat} {w w1 : World} {L : List (Int × Int)}
theorem PSet.made (w : World) (P : Program) (k e : TypeId) : PSet P k e (w.alloc (.map #[] 0)) w.heap.size [] :=
  ⟨.map [], World.ownsMap_made w P k _, tidy_empty, fun x _ => rfl, fun x _ => rfl, rfl⟩
theorem PSet.lt (h : PSet P k e w b L) : b < w.heap.size := by obtain ⟨D, h1, _⟩ := h.out; exact h1.lt
theorem PSet.kept {row : Option Nat} (h : PSet P k e w b L) (hg : w.grownBy w1 row) (hne : some b ≠ row) : PSet P k e w1 b L := by
  obtain ⟨D, h1, h2⟩ := h.out
  exact ⟨D, h1.kept hg hne, h2⟩
theorem PSet.below (h : PSet P k e w b L) (hb : Below w.heap.size w w1) : PSet P k e w1 b L := by
  obtain ⟨D, h1, h2⟩ := h.out
  obtain ⟨es, clock, hh, r⟩ := h1
  exact ⟨D, ⟨es, clock, (hb.block b (Array.getElem?_eq_some_iff.1 hh).1).trans hh, r⟩, h2⟩
theorem PSet.block (h : PSet P k e w b L) {cs : Array Value} {q : Nat} {ty : TypeId} (hq : w.heap[q]? = some (.cells cs ty (0, 0))) : b ≠ q := by
  obtain ⟨D, ⟨es, clock, hh, r⟩, h2⟩ := h.out
  intro e
  subst e
  rw [hh] at hq
  cases hq
theorem PSet.setCell (h : PSet P k e w b L) {a : Addr} (ha : b ≠ a.block) (u : Value) : PSet P k e (w.setCell a u) b L := by
  obtain ⟨D, h1, h2⟩ := h.out
  exact ⟨D, h1.setCell ha u, h2⟩
theorem PSet.drew (h : PSet P k e w b L) : PSet P k e w.drew b L := by
  obtain ⟨D, h1, h2⟩ := h.out
  exact ⟨D, h1.drew, h2⟩
theorem PSet.lookup (h : PSet P k e w b L) (T : Two P k) (ht : P.underlying t = some (.map k e)) (he : P.underlying e = some .bool) (hz : (zeroValue e).run P w = .ok (.bool false) w) {x y : Int} (hx : Ok (x, y)) :
    (Instr.lookup t (.map (some b)) (pv x y) false).run P w = .ok (.bool (decide ((x, y) ∈ L))) w := by
  obtain ⟨D, h1, _, h3, _⟩ := h.out
  obtain ⟨v, ps, hrun, hv⟩ := h1.lookup T.law ht hz (plainElem_bool he false) (T.key x y hx)
  rw [h3 (x, y) hx] at hv
  have hve : v = .bool (decide ((x, y) ∈ L)) := by
    unfold plainElem at hv
    rw [he] at hv
    cases v <;> simp at hv
    obtain ⟨hv, _⟩ := hv
    rw [hv]
  rw [hrun, hve]
theorem PSet.store (h : PSet P k e w b L) (T : Two P k) (ht : P.underlying t = some (.map k e)) (he : P.underlying e = some .bool) {x y : Int} (hx : Ok (x, y)) (hn : L.length < maxLen) :
    ∃ w', (Instr.mapUpdate t (.map (some b)) (pv x y) (.bool true)).run P w = .ok () w' ∧ PSet P k e w' b (if (x, y) ∈ L then L else (x, y) :: L) ∧ w.grownBy w' (some b) := by
  obtain ⟨D, h1, h2, h3, h4, h5⟩ := h.out
  obtain ⟨w', hrun, hown, hg⟩ := h1.update T.law ht hn (T.key x y hx) (plainElem_bool (H := Unit) he true)
  have isK : WideAt.IsKeyLit (kl x y) := T.law.key (T.key x y hx)
  refine ⟨w', hrun, ⟨D.put (kl x y) (.lit (.bool true)), ?_, h2.put isK _, ?_, ?_, ?_⟩, hg⟩
  · have ht2 := Go.Proofs.Ytmkokfljonbcmaa.MapSet.tight hown
    rw [size_put h2, h4 (x, y) hx] at ht2
    by_cases c : (x, y) ∈ L
    · simpa [c, h5] using ht2
    · simpa [c, h5] using ht2
  · intro p hp
    by_cases ep : p = (x, y)
    · subst ep
      rw [atKey_put_same h2.isMap isK]
      by_cases c : (x, y) ∈ L <;> simp [c]
    · rw [atKey_put_other (fun h_ => ep (T.inj hp hx h_)), h3 p hp]
      by_cases c : (x, y) ∈ L <;> simp [c, ep]
  · intro p hp
    by_cases ep : p = (x, y)
    · subst ep
      rw [has_put_same h2.isMap isK]
      by_cases c : (x, y) ∈ L <;> simp [c]
    · rw [has_put_other (fun h_ => ep (T.inj hp hx h_)), h4 p hp]
      by_cases c : (x, y) ∈ L <;> simp [c, ep]
  · rw [size_put h2, h4 (x, y) hx]
    by_cases c : (x, y) ∈ L <;> simp [c, h5]
section
variable {ops : Array Oper} {rest : List Oper} {o : Oper} {a : Act} {Q : Exit → Act → World → Prop}
theorem wpList_plook (hg : o.guard = none) (m x : Operand) (hop : o.op = Op.lookup t m x false) (T : Two P k) (ht : P.underlying t = some (.map k e)) (he : P.underlying e = some .bool) (hz : (zeroValue e).run P w = .ok (.bool false) w)
    (hm : a.eval m = .map (some b)) (h : PSet P k e w b L) (y z : Int) (hy : Ok (y, z)) (hx : a.eval x = pv y z) (hK : wpList P ops Q rest (a.put o.dst (.bool (decide ((y, z) ∈ L)))) w) : wpList P ops Q (o :: rest) a w := by
  refine wpList_plain hg fun K' hK' => ?_
  have hrun := h.lookup T ht he hz hy
  unfold Oper.wp
  simp [execOp, hop, hm, hx, hrun, Result.andThen]
  exact hK' _ _ hK
theorem wpList_pstore (hg : o.guard = none) (m x v : Operand) (hop : o.op = Op.mapUpdate t m x v) (T : Two P k) (ht : P.underlying t = some (.map k e)) (he : P.underlying e = some .bool)
    (hm : a.eval m = .map (some b)) (h : PSet P k e w b L) (hn : L.length < maxLen) (y z : Int) (hy : Ok (y, z)) (hx : a.eval x = pv y z) (hv : a.eval v = .bool true)
    (hK : ∀ w', PSet P k e w' b (if (y, z) ∈ L then L else (y, z) :: L) → w.grownBy w' (some b) → wpList P ops Q rest (a.put o.dst undef) w') : wpList P ops Q (o :: rest) a w := by
  refine wpList_plain hg fun K' hK' => ?_
  obtain ⟨w', hrun, r1, r2⟩ := h.store T ht he hy hn
  unfold Oper.wp
  simp [execOp, hop, hm, hx, hv, hrun, Result.andThen]
  exact hK' _ _ (hK w' r1 r2)
end
end Go.Proofs.Ytmkokfljonbcmaa.PrS
