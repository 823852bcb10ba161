import Derived.WalkKit
import Derived.Maps.OwnSet
import Derived.Test.YtllhnnjkonghlaaWWords
namespace Go.Proofs.Ytllhnnjkonghlaa.MapSet
open Go Go.Maps Go.ChangeMaps Go.RowKit
set_option linter.unusedVariables false
set_option linter.unusedSimpArgs false
structure MSet (P : Program) (k e : TypeId) (w : World) (b : Nat) (L : List Int) : Prop where mk ::
  out : ∃ D : DataW Unit, w.ownsMap P k (plainElem P e) b L.length D ∧ Tidy D ∧ (∀ x : Int, (Lit.int .i64 x).wf = true → D.atKey (.int .i64 x) (.lit (.bool false)) = .lit (.bool (decide (x ∈ L)))) ∧ (∀ x : Int, (Lit.int .i64 x).wf = true → Maps.has D (.int .i64 x) = decide (x ∈ L)) ∧ Maps.size D = L.length
variable {P : Program} {k e t b : Nat} {w w1 : World} {L : List Int}
theorem tight {H : Type} {R : Value → Option (DataW H × List MemPlace)} {n : Nat} {D : DataW H} (h : w.ownsMap P k R b n D) : w.ownsMap P k R b (Maps.size D) D := by
  obtain ⟨es, clock, hb, F, hs, rfl⟩ := h
  exact ⟨es, clock, hb, F, by simp [Maps.size, length_sorted], rfl⟩
theorem MSet.made (w : World) (P : Program) (k e : TypeId) : MSet P k e (w.alloc (.map #[] 0)) w.heap.size [] :=
  ⟨.map [], World.ownsMap_made w P k _, tidy_empty, fun x _ => rfl, fun x _ => rfl, rfl⟩
theorem MSet.lt (h : MSet P k e w b L) : b < w.heap.size := by obtain ⟨D, h1, _⟩ := h.out; exact h1.lt
theorem MSet.kept {row : Option Nat} (h : MSet P k e w b L) (hg : w.grownBy w1 row) (hne : some b ≠ row) : MSet P k e w1 b L := by
  obtain ⟨D, h1, h2⟩ := h.out
  exact ⟨D, h1.kept hg hne, h2⟩
theorem MSet.below (h : MSet P k e w b L) (hb : Below w.heap.size w w1) : MSet P k e w1 b L := by
  obtain ⟨D, h1, h2⟩ := h.out
  obtain ⟨es, clock, hh, r⟩ := h1
  exact ⟨D, ⟨es, clock, (hb.block b (Array.getElem?_eq_some_iff.1 hh).1).trans hh, r⟩, h2⟩
theorem MSet.block (h : MSet P k e w b L) {cs : Array Value} {q : Nat} {ty : TypeId} (hq : w.heap[q]? = some (.cells cs ty (0, 0))) : b ≠ q := by
  obtain ⟨D, ⟨es, clock, hh, r⟩, h2⟩ := h.out
  intro e
  subst e
  rw [hh] at hq
  cases hq
theorem MSet.setCell (h : MSet P k e w b L) {a : Addr} (ha : b ≠ a.block) (u : Value) : MSet P k e (w.setCell a u) b L := by
  obtain ⟨D, h1, h2⟩ := h.out
  exact ⟨D, h1.setCell ha u, h2⟩
theorem MSet.drew (h : MSet P k e w b L) : MSet P k e w.drew b L := by
  obtain ⟨D, h1, h2⟩ := h.out
  exact ⟨D, h1.drew, h2⟩
theorem MSet.lookup (h : MSet P k e w b L) (ht : P.underlying t = some (.map k e)) (hk : P.underlying k = some (.int .i64)) (he : P.underlying e = some .bool) (hz : (zeroValue e).run P w = .ok (.bool false) w) {x : Int} (hx : (Lit.int .i64 x).wf = true) :
    (Instr.lookup t (.map (some b)) (.int .i64 x) false).run P w = .ok (.bool (decide (x ∈ L))) w := by
  obtain ⟨D, h1, _, h3, _⟩ := h.out
  obtain ⟨v, ps, hrun, hv⟩ := h1.lookup (int_keyed hk) ht hz (plainElem_bool he false) (keyOf_int_mk hk hx)
  rw [h3 x hx] at hv
  have hve : v = .bool (decide (x ∈ L)) := by
    unfold plainElem at hv
    rw [he] at hv
    cases v <;> simp at hv
    obtain ⟨hv, _⟩ := hv
    rw [hv]
  rw [hrun, hve]
theorem isKey (x : Int) : WideAt.IsKeyLit (.int .i64 x) := by simp [WideAt.IsKeyLit]
theorem MSet.store (h : MSet P k e w b L) (ht : P.underlying t = some (.map k e)) (hk : P.underlying k = some (.int .i64)) (he : P.underlying e = some .bool) {x : Int} (hx : (Lit.int .i64 x).wf = true) (hn : L.length < maxLen) :
    ∃ w', (Instr.mapUpdate t (.map (some b)) (.int .i64 x) (.bool true)).run P w = .ok () w' ∧ MSet P k e w' b (if x ∈ L then L else x :: L) ∧ w.grownBy w' (some b) := by
  obtain ⟨D, h1, h2, h3, h4, h5⟩ := h.out
  obtain ⟨w', hrun, hown, hg⟩ := h1.update (int_keyed hk) ht hn (keyOf_int_mk hk hx) (plainElem_bool (H := Unit) he true)
  refine ⟨w', hrun, ⟨D.put (.int .i64 x) (.lit (.bool true)), ?_, h2.put (isKey x) _, ?_, ?_, ?_⟩, hg⟩
  · have ht2 := tight hown
    rw [size_put h2, h4 x hx] at ht2
    by_cases c : x ∈ L
    · simpa [c, h5] using ht2
    · simpa [c, h5] using ht2
  · intro y hy
    by_cases ey : y = x
    · subst ey
      rw [atKey_put_same h2.isMap (isKey y)]
      by_cases c : y ∈ L <;> simp [c]
    · rw [atKey_put_other (by intro h_; injection h_ with _ h_; exact ey h_), h3 y hy]
      by_cases c : x ∈ L <;> simp [c, ey]
  · intro y hy
    by_cases ey : y = x
    · subst ey
      rw [has_put_same h2.isMap (isKey y)]
      by_cases c : y ∈ L <;> simp [c]
    · rw [has_put_other (by intro h_; injection h_ with _ h_; exact ey h_), h4 y hy]
      by_cases c : x ∈ L <;> simp [c, ey]
  · rw [size_put h2, h4 x hx]
    by_cases c : x ∈ L <;> simp [c, h5]
theorem MSet.drop (h : MSet P k e w b L) (hd : L.Nodup) (ht : P.underlying t = some (.map k e)) (hk : P.underlying k = some (.int .i64)) {x : Int} (hx : (Lit.int .i64 x).wf = true) (ty : TypeId) :
    ∃ w', (Builtin.delete_ #[t, k] ty #[.map (some b), .int .i64 x]).run P w = .ok (.tuple #[]) w' ∧ MSet P k e w' b (L.erase x) ∧ w.grownBy w' (some b) := by
  obtain ⟨D, h1, h2, h3, h4, h5⟩ := h.out
  obtain ⟨w', hrun, hown, hg⟩ := h1.drop (int_keyed hk) ht (keyOf_int_mk hk hx) ty
  have hsz : Maps.size (D.del (.int .i64 x)) = (L.erase x).length := by
    have := size_del h2 (k := .int .i64 x)
    rw [h4 x hx, h5] at this
    by_cases c : x ∈ L
    · rw [List.length_erase_of_mem c]; simp [c] at this; omega
    · rw [List.erase_of_not_mem c]; simpa [c] using this
  have mem : ∀ y, y ∈ L.erase x ↔ y ∈ L ∧ y ≠ x := fun y => by rw [hd.mem_erase_iff]; exact And.comm
  refine ⟨w', hrun, ⟨D.del (.int .i64 x), ?_, h2.del _, ?_, ?_, hsz⟩, hg.grown⟩
  · have := tight hown
    rwa [hsz] at this
  · intro y hy
    by_cases ey : y = x
    · subst ey
      rw [atKey_del_same]
      simp [mem]
    · rw [atKey_del_other (by intro h_; injection h_ with _ h_; exact ey h_), h3 y hy]
      simp [mem, ey]
  · intro y hy
    by_cases ey : y = x
    · subst ey
      rw [has_del_same]
      simp [mem]
    · rw [has_del_other (by intro h_; injection h_ with _ h_; exact ey h_), h4 y hy]
      simp [mem, ey]
theorem MSet.len (h : MSet P k e w b L) (ht : P.underlying t = some (.map k e)) (ty : TypeId) : (Builtin.len_ #[t] ty #[.map (some b)]).run P w = .ok (.int .i64 L.length) w := by
  obtain ⟨D, h1, _, _, _, h5⟩ := h.out
  rw [h1.len ht ty, h5]
section
variable {ops : Array Oper} {rest : List Oper} {o : Oper} {a : Act} {Q : Exit → Act → World → Prop}
theorem wpList_store (hg : o.guard = none) (m x v : Operand) (hop : o.op = Op.mapUpdate t m x v) (ht : P.underlying t = some (.map k e)) (hk : P.underlying k = some (.int .i64)) (he : P.underlying e = some .bool)
    (hm : a.eval m = .map (some b)) (h : MSet P k e w b L) (hn : L.length < maxLen) (y : Int) (hy : (Lit.int .i64 y).wf = true) (hx : a.eval x = .int .i64 y) (hv : a.eval v = .bool true)
    (hK : ∀ w', MSet P k e w' b (if y ∈ L then L else y :: L) → w.grownBy w' (some b) → wpList P ops Q rest (a.put o.dst undef) w') : wpList P ops Q (o :: rest) a w := by
  refine wpList_plain hg fun K' hK' => ?_
  obtain ⟨w', hrun, r1, r2⟩ := h.store ht hk he hy hn
  unfold Oper.wp
  simp [execOp, hop, hm, hx, hv, hrun, Result.andThen]
  exact hK' _ _ (hK w' r1 r2)
theorem wpList_insert (hg : o.guard = none) (m x v : Operand) (hop : o.op = Op.insert t m x v) (ht : P.underlying t = some (.map k e)) (hk : P.underlying k = some (.int .i64)) (he : P.underlying e = some .bool)
    (hm : a.eval m = .map (some b)) (h : MSet P k e w b L) (hn : L.length < maxLen) (y : Int) (hy : (Lit.int .i64 y).wf = true) (hx : a.eval x = .int .i64 y) (hv : a.eval v = .bool true)
    (hK : ∀ w', MSet P k e w' b (if y ∈ L then L else y :: L) → w.grownBy w' (some b) → wpList P ops Q rest (a.put o.dst undef) w') : wpList P ops Q (o :: rest) a w := by
  refine wpList_plain hg fun K' hK' => ?_
  obtain ⟨w', hrun, r1, r2⟩ := h.store ht hk he hy hn
  unfold Oper.wp
  simp [execOp, hop, hm, hx, hv, hrun, Result.andThen]
  exact hK' _ _ (hK w' r1 r2)
theorem wpList_len (hg : o.guard = none) (m : Operand) (hop : o.op = Op.call { callee := Callee.builtin Builtin.len, args := #[m], argTypes := #[t] }) (ht : P.underlying t = some (.map k e)) (hm : a.eval m = .map (some b)) (h : MSet P k e w b L)
    (hK : wpList P ops Q rest (a.put o.dst (.int .i64 L.length)) w) : wpList P ops Q (o :: rest) a w := by
  refine wpList_plain hg fun K' hK' => ?_
  unfold Oper.wp
  simp [execOp, hop, resolve, invoke, builtin, hm, h.len ht o.type, Result.andThen]
  exact hK' _ _ hK
end
end Go.Proofs.Ytllhnnjkonghlaa.MapSet
