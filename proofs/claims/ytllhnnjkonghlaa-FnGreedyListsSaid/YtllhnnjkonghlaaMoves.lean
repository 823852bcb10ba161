import Derived.Test.YtllhnnjkonghlaaBase
namespace Go.Proofs.Ytllhnnjkonghlaa.Moves
open Go.RowKit Go.Proofs.YtllhnnjkonghlaaW.PrintWords Go.Proofs.Ytllhnnjkonghlaa.Base
set_option linter.unusedVariables false
set_option linter.unusedSimpArgs false
def mv (l : List Int) (a b c : Int) : List Int :=
  if a = 0 then (l.set b.toNat (rd l c)).set c.toNat (rd l b)
  else if a = 1 then (l.take b.toNat).reverse ++ l.drop b.toNat
  else (l.take b.toNat).drop 1 ++ (l.take b.toNat).take 1 ++ l.drop b.toNat
def Mgood (n a b c : Int) : Prop := (a = 0 ∧ 0 ≤ b ∧ b < c ∧ c < n) ∨ (a = 1 ∧ 2 ≤ b ∧ b ≤ n ∧ c = 0) ∨ (a = 2 ∧ 2 ≤ b ∧ b ≤ n ∧ c = 0)
def isMv (n c i j : Int) : Bool := decide ((c = 0 ∧ 0 ≤ i ∧ i < j ∧ j < n) ∨ ((c = 1 ∨ c = 2) ∧ 2 ≤ i ∧ i ≤ n ∧ j = 0))
instance (n a b c : Int) : Decidable (Mgood n a b c) := by unfold Mgood; infer_instance
theorem mv_length (l : List Int) (a b c : Int) : (mv l a b c).length = l.length := by
  unfold mv
  split
  · simp
  · split <;> simp <;> omega
theorem set_takeG {α : Type} (xs : List α) (j : Int) (v : α) (h0 : 0 ≤ j) (h : j < xs.length) : (xs.set j.toNat v).take (j + 1).toNat = xs.take j.toNat ++ [v] := by
  obtain ⟨n, rfl⟩ := Int.eq_ofNat_of_zero_le h0
  rw [show ((n : Int) + 1).toNat = n + 1 by omega, Int.toNat_natCast, List.take_set, List.take_add_one, List.getElem?_eq_getElem (show n < xs.length by omega)]
  simp only [Option.toList_some]
  rw [List.set_append_right _ _ (by rw [List.length_take]; omega), List.length_take, show n - min n xs.length = 0 by omega]
  rfl
def facN : Nat → Nat
  | 0 => 1
  | n + 1 => (n + 1) * facN n
def rk : List Int → Nat
  | [] => 0
  | x :: t => (t.countP (fun y => decide (y < x))) * facN t.length + rk t
def pa : Nat → List Int → Nat → List Int
  | 0, _, _ => []
  | n + 1, left, r => left.getD (r / facN n) 0 :: pa n (left.eraseIdx (r / facN n)) (r % facN n)
def PA (n r : Nat) : List Int := pa n (upTo n) r
def goods (n : Nat) : List (Int × Int × Int) :=
  ((List.range n).flatMap fun (i : Nat) => ((List.range n).filter (fun (j : Nat) => decide (i < j))).map fun (j : Nat) => ((0 : Int), (i : Int), (j : Int))) ++
  ((List.range n).filter (fun i => decide (0 < i))).map (fun i => ((1 : Int), ((i + 1 : Nat) : Int), (0 : Int))) ++ ((List.range n).filter (fun i => decide (0 < i))).map (fun i => ((2 : Int), ((i + 1 : Nat) : Int), (0 : Int)))
theorem good_mem (n : Nat) (a b c : Int) (h : Mgood n a b c) : (a, b, c) ∈ goods n := by
  unfold goods
  rcases h with ⟨rfl, h1, h2, h3⟩ | ⟨rfl, h1, h2, rfl⟩ | ⟨rfl, h1, h2, rfl⟩
  · refine List.mem_append_left _ (List.mem_append_left _ (List.mem_flatMap.2 ⟨b.toNat, List.mem_range.2 (by omega), List.mem_map.2 ⟨c.toNat, List.mem_filter.2 ⟨List.mem_range.2 (by omega), decide_eq_true (by omega)⟩, ?_⟩⟩))
    rw [Int.toNat_of_nonneg h1, Int.toNat_of_nonneg (by omega)]
  · refine List.mem_append_left _ (List.mem_append_right _ (List.mem_map.2 ⟨b.toNat - 1, List.mem_filter.2 ⟨List.mem_range.2 (by omega), decide_eq_true (by omega)⟩, ?_⟩))
    rw [show b.toNat - 1 + 1 = b.toNat by omega, Int.toNat_of_nonneg (by omega)]
  · refine List.mem_append_right _ (List.mem_map.2 ⟨b.toNat - 1, List.mem_filter.2 ⟨List.mem_range.2 (by omega), decide_eq_true (by omega)⟩, ?_⟩)
    rw [show b.toNat - 1 + 1 = b.toNat by omega, Int.toNat_of_nonneg (by omega)]
set_option maxRecDepth 100000 in
theorem step_tab : ((List.range 6).all fun n => (List.range (facN n)).all fun r => (PA n r).length == n && rk (PA n r) == r && (goods n).all fun m => let l := mv (PA n r) m.1 m.2.1 m.2.2; let q := rk l; decide (q < facN n) && PA n q == l) = true := by decide +kernel
theorem PA_rk (n r : Nat) (hn : n ≤ 5) (hr : r < facN n) : (PA n r).length = n ∧ rk (PA n r) = r := by
  have h := List.all_eq_true.1 (List.all_eq_true.1 step_tab n (List.mem_range.2 (by omega))) r (List.mem_range.2 hr)
  simp only [Bool.and_eq_true, beq_iff_eq] at h
  exact h.1
theorem PA_mv (n r : Nat) (hn : n ≤ 5) (hr : r < facN n) (a b c : Int) (hg : Mgood n a b c) : rk (mv (PA n r) a b c) < facN n ∧ PA n (rk (mv (PA n r) a b c)) = mv (PA n r) a b c := by
  have h := List.all_eq_true.1 (List.all_eq_true.1 step_tab n (List.mem_range.2 (by omega))) r (List.mem_range.2 hr)
  simp only [Bool.and_eq_true, beq_iff_eq] at h
  have h2 := List.all_eq_true.1 h.2 _ (good_mem n a b c hg)
  simp only [Bool.and_eq_true, beq_iff_eq, decide_eq_true_eq] at h2
  exact h2
def pIdx {α : Type} (p : α → Bool) : Int → List α → Int
  | _, [] => -1
  | j, x :: t => if p x = true then j else pIdx p (j + 1) t
theorem pIdx_any {α : Type} (p : α → Bool) : ∀ (l : List α) (j : Int), 0 ≤ j → (0 ≤ pIdx p j l ↔ l.any p = true)
  | [], j, _ => by simp [pIdx]
  | x :: t, j, h => by
    rw [pIdx]
    by_cases c : p x = true
    · simp [c, h]
    · rw [if_neg c, pIdx_any p t (j + 1) (by omega)]
      simp only [Bool.not_eq_true] at c
      simp [c]
theorem pIdx_at {α : Type} (p : α → Bool) : ∀ (l : List α) (j : Int), pIdx p j l = -1 ∨ ∃ i : Nat, ∃ h : i < l.length, pIdx p j l = j + i ∧ p l[i] = true
  | [], j => .inl rfl
  | x :: t, j => by
    rw [pIdx]
    by_cases c : p x = true
    · rw [if_pos c]; exact .inr ⟨0, by simp, by simp, by simpa using c⟩
    · rw [if_neg c]
      rcases pIdx_at p t (j + 1) with h | ⟨i, h, e, hp⟩
      · exact .inl h
      · exact .inr ⟨i + 1, by simpa using h, by rw [e]; omega, by simpa using hp⟩
end Go.Proofs.Ytllhnnjkonghlaa.Moves
