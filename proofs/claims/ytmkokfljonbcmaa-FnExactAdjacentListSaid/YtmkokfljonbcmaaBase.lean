import Derived.Test.YtmkokfljonbcmaaWWords
import Derived.Test.YtmkokfljonbcmaaWSized
namespace Go.Proofs.Ytmkokfljonbcmaa.Base
open Go.RowKit Go.Proofs.YtmkokfljonbcmaaW.PrintWords
set_option linter.unusedVariables false
set_option linter.unusedSimpArgs false
theorem evPos {α : Type} {c : Prop} [Decidable c] {g f : Nat → Option α} {r : α} (h : c) (k : Ev g r) : Ev (fun n => if c then g n else f n) r := Ev.congr (fun _ => if_pos h) k
theorem evNeg {α : Type} {c : Prop} [Decidable c] {g f : Nat → Option α} {r : α} (h : ¬ c) (k : Ev f r) : Ev (fun n => if c then g n else f n) r := Ev.congr (fun _ => if_neg h) k
theorem evEq {α : Type} {x r : α} (h : x = r) : Ev (fun _ => some x) r := h ▸ Ev.now x
theorem evTo {α : Type} {g : Nat → Option α} {r s : α} (h : Ev g r) (e : r = s) : Ev g s := e ▸ h
theorem evTab {α : Type} {g : Nat → Option α} {r : α} (hg : ∀ k, LeO (g k) (g (k + 1))) (k : Nat) (h : g k = some r) : Ev g r := Ev.of hg h
theorem wr {x : Int} (h1 : -9223372036854775808 ≤ x) (h2 : x ≤ 9223372036854775807) : wrap64 x = x := by unfold wrap64; omega
theorem rd_get (xs : List Int) (j : Int) (h : j.toNat < xs.length) : rd xs j = xs[j.toNat] := by
  unfold rd
  rw [List.getD_eq_getElem?_getD, List.getElem?_eq_getElem h]
  rfl
theorem drop_rd (xs : List Int) (j : Int) (h0 : 0 ≤ j) (h : j < xs.length) : xs.drop j.toNat = rd xs j :: xs.drop (j + 1).toNat := by
  have hl : j.toNat < xs.length := by omega
  rw [rd_get xs j hl, show (j + 1).toNat = j.toNat + 1 from by omega]
  exact List.drop_eq_getElem_cons hl
theorem drop_end {α : Type} (xs : List α) (j : Int) (h : (xs.length : Int) ≤ j) : xs.drop j.toNat = [] := List.drop_of_length_le (by omega)
theorem take_end {α : Type} (xs : List α) (j : Int) (h : (xs.length : Int) ≤ j) : xs.take j.toNat = xs := List.take_of_length_le (by omega)
theorem dropD {α : Type} (z : α) (xs : List α) (j : Int) (h0 : 0 ≤ j) (h : j < xs.length) : xs.drop j.toNat = xs.getD j.toNat z :: xs.drop (j + 1).toNat := by
  have hl : j.toNat < xs.length := by omega
  rw [List.getD_eq_getElem?_getD, List.getElem?_eq_getElem hl, show (j + 1).toNat = j.toNat + 1 from by omega]
  exact List.drop_eq_getElem_cons hl
theorem takeD {α : Type} (z : α) (xs : List α) (j : Int) (h0 : 0 ≤ j) (h : j < xs.length) : xs.take (j + 1).toNat = xs.take j.toNat ++ [xs.getD j.toNat z] := by
  have hl : j.toNat < xs.length := by omega
  rw [List.getD_eq_getElem?_getD, List.getElem?_eq_getElem hl, show (j + 1).toNat = j.toNat + 1 from by omega]
  exact List.take_succ_eq_append_getElem hl
theorem set_takeI (xs : List Int) (j : Int) (v : Int) (h0 : 0 ≤ j) (h : j < xs.length) : (xs.set j.toNat v).take (j + 1).toNat = xs.take j.toNat ++ [v] := by
  have hl : j.toNat < xs.length := by omega
  rw [show (j + 1).toNat = j.toNat + 1 from by omega, List.take_succ_eq_append_getElem (by simpa using hl)]
  simp [List.take_set_of_le]
def iotaI (m : Int) : Nat → List Int
  | 0 => []
  | n + 1 => m :: iotaI (m + 1) n
theorem iotaI_length (m : Int) (n : Nat) : (iotaI m n).length = n := by induction n generalizing m <;> simp [iotaI, *]
theorem iotaI_rd (n : Nat) : ∀ (m j : Int), 0 ≤ j → j < n → rd (iotaI m n) j = m + j := by
  induction n with
  | zero => intro m j h0 h; omega
  | succ n ih =>
    intro m j h0 h
    by_cases e : j = 0
    · subst e; simp [iotaI, rd]
    · have h1 := ih (m + 1) (j - 1) (by omega) (by omega)
      unfold rd at h1 ⊢
      rw [show j.toNat = (j - 1).toNat + 1 from by omega]
      simp only [iotaI, List.getD_cons_succ]
      rw [h1]; omega
def sumLen : List (List Int) → Int
  | [] => 0
  | t :: T => t.length + sumLen T
theorem sumLen_nonneg : ∀ L, 0 ≤ sumLen L
  | [] => by simp [sumLen]
  | t :: T => by have := sumLen_nonneg T; simp only [sumLen]; omega
def iotaSS (m : Int) : List (List Int) → List (List Int)
  | [] => []
  | t :: T => iotaI m t.length :: iotaSS (m + t.length) T
theorem iotaSS_length (m : Int) (L : List (List Int)) : (iotaSS m L).length = L.length := by
  induction L generalizing m with
  | nil => rfl
  | cons t T ih => simp [iotaSS, ih]
end Go.Proofs.Ytmkokfljonbcmaa.Base
namespace Go.Proofs.Ytmkokfljonbcmaa.PrintWords
open Go.ChangeShapes Go.WideShapes
end Go.Proofs.Ytmkokfljonbcmaa.PrintWords
