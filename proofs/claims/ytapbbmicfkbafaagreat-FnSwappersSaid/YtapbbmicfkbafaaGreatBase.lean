import Derived.Test.YtapbbmicfkbafaaGreatWWords
import Derived.Test.YtapbbmicfkbafaaGreatWSized
namespace Go.Proofs.YtapbbmicfkbafaaGreat.Base
open Go.RowKit Go.Proofs.YtapbbmicfkbafaaGreatW.PrintWords
set_option linter.unusedVariables false
set_option linter.unusedSimpArgs false
theorem evPos {α : Type} {c : Prop} [Decidable c] {g f : Nat → Option α} {r : α} (h : c) (k : Ev g r) : Ev (fun n => if c then g n else f n) r := Ev.congr (fun _ => if_pos h) k
theorem evNeg {α : Type} {c : Prop} [Decidable c] {g f : Nat → Option α} {r : α} (h : ¬ c) (k : Ev f r) : Ev (fun n => if c then g n else f n) r := Ev.congr (fun _ => if_neg h) k
theorem evEq {α : Type} {x r : α} (h : x = r) : Ev (fun _ => some x) r := h ▸ Ev.now x
theorem evSome {α β : Type} {a : α} {f : Nat → α → Option β} {r : β} (k : Ev (fun n => f n a) r) : Ev (fun n => (some a).bind (f n)) r := Ev.congr (fun _ => rfl) k
theorem evTo {α : Type} {g : Nat → Option α} {r s : α} (h : Ev g r) (e : r = s) : Ev g s := e ▸ h
theorem evTab {α : Type} {g : Nat → Option α} {r : α} (hg : ∀ k, LeO (g k) (g (k + 1))) (k : Nat) (h : g k = some r) : Ev g r := Ev.of hg h
theorem wr {x : Int} (h1 : -9223372036854775808 ≤ x) (h2 : x ≤ 9223372036854775807) : wrap64 x = x := by unfold wrap64; omega
theorem rd_get (xs : List Int) (j : Int) (h : j.toNat < xs.length) : rd xs j = xs[j.toNat] := by
  unfold rd
  rw [List.getD_eq_getElem?_getD, List.getElem?_eq_getElem h]
  rfl
theorem drop_rd (xs : List Int) (j : Int) (h0 : 0 ≤ j) (h : j < xs.length) : xs.drop j.toNat = rd xs j :: xs.drop (j + 1).toNat := by
  have hl : j.toNat < xs.length := by omega
  rw [rd_get xs j hl, show (j + 1).toNat = j.toNat + 1 from by omega]
  exact List.drop_eq_getElem_cons hl
theorem drop_end {α : Type} (xs : List α) (j : Int) (h : (xs.length : Int) ≤ j) : xs.drop j.toNat = [] := List.drop_of_length_le (by omega)
theorem dropD {α : Type} (z : α) (xs : List α) (j : Int) (h0 : 0 ≤ j) (h : j < xs.length) : xs.drop j.toNat = xs.getD j.toNat z :: xs.drop (j + 1).toNat := by
  have hl : j.toNat < xs.length := by omega
  rw [List.getD_eq_getElem?_getD, List.getElem?_eq_getElem hl, show (j + 1).toNat = j.toNat + 1 from by omega]
  exact List.drop_eq_getElem_cons hl
def upTo (n : Nat) : List Int := (List.range n).map (fun i : Nat => (i : Int))
theorem upTo_length (n : Nat) : (upTo n).length = n := by simp [upTo]
theorem upTo_succ (n : Nat) : upTo (n + 1) = upTo n ++ [(n : Int)] := by simp [upTo, List.range_succ]
theorem mem_upTo {n : Nat} {x : Int} : x ∈ upTo n ↔ 0 ≤ x ∧ x < n := by
  simp only [upTo, List.mem_map, List.mem_range]
  constructor
  · rintro ⟨a, ha, rfl⟩; omega
  · intro h; exact ⟨x.toNat, by omega, by omega⟩
theorem set_takeI (xs : List Int) (j : Int) (v : Int) (h0 : 0 ≤ j) (h : j < xs.length) : (xs.set j.toNat v).take (j + 1).toNat = xs.take j.toNat ++ [v] := by
  have hl : j.toNat < xs.length := by omega
  rw [show (j + 1).toNat = j.toNat + 1 from by omega, List.take_succ_eq_append_getElem (by simpa using hl)]
  simp [List.take_set_of_le]
end Go.Proofs.YtapbbmicfkbafaaGreat.Base
namespace Go.Proofs.YtapbbmicfkbafaaGreat.PrintWords
open Go.ChangeShapes Go.WideShapes
theorem sized_ints {H : Type} {enc : TypeId × Value → H} {P : Program} {W : World} {base : Nat} {spare : Nat → Bool} {held : Bool} {t e : TypeId} {k : IntKind} {a : Option Addr} {len cap : Nat} {d : DataW H} {ps : List MemPlace} {ts : List TypeId} {ds : List (DataW H)} {j : Nat}
    (hsz : (DataW.weightsEach P ts ds).all (· ≤ reachBytes) = true) (ht : ts[j]? = some t) (hd : ds[j]? = some d) (hu : P.underlying t = some (.slice e)) (he : P.underlying e = some (.int k)) (hc : P.cellsOf e = 1) {B : Nat} (hB : P.bytesOf e = B)
    (h : DataW.Trod enc P W base spare held t (.slice a len cap) d ps) : len * B ≤ 140737488351232 :=
  Go.Proofs.YtapbbmicfkbafaaGreatW.PrintWords.sized_ints hsz ht hd hu he hc hB h
end Go.Proofs.YtapbbmicfkbafaaGreat.PrintWords
