import Derived.Test.YtapbbmicfkbafaaGreatFoc
import Derived.Test.YtapbbmicfkbafaaGreatFocB
import Derived.Test.YtapbbmicfkbafaaGreatFocR
namespace Go.Proofs.YtapbbmicfkbafaaGreat.FocG
open Go.Proofs.YtapbbmicfkbafaaGreat.Base Go.Proofs.YtapbbmicfkbafaaGreat.Foc Go.Proofs.YtapbbmicfkbafaaGreat.FocB Go.Proofs.YtapbbmicfkbafaaGreat.FocR
set_option linter.unusedVariables false
set_option linter.unusedSimpArgs false
def all2 : List Int → List Int → Bool
  | [], [] => true
  | b :: B, d :: D => decide (0 ≤ d ∧ d ≤ b - 1) && all2 B D
  | _, _ => false
theorem all2_len : ∀ (B D : List Int), all2 B D = true → D.length = B.length
  | [], [], _ => rfl
  | [], _ :: _, h => by simp [all2] at h
  | _ :: _, [], h => by simp [all2] at h
  | b :: B, d :: D, h => by
    rw [all2, Bool.and_eq_true] at h
    simp [all2_len B D h.2]
theorem all2_at : ∀ (B D : List Int), all2 B D = true → ∀ i (h : i < B.length) (h' : i < D.length), 0 ≤ D[i] ∧ D[i] ≤ B[i] - 1
  | [], _, _, i, h, _ => by simp at h
  | _ :: _, [], h, i, _, h' => by simp at h'
  | b :: B, d :: D, h, 0, _, _ => by
    rw [all2, Bool.and_eq_true, decide_eq_true_eq] at h
    exact h.1
  | b :: B, d :: D, h, i + 1, h1, h2 => by
    rw [all2, Bool.and_eq_true] at h
    simpa using all2_at B D h.2 i (by simpa using h1) (by simpa using h2)
def csOf (l : List Int) : List Nat := (l.map Int.toNat).reverse
theorem csOf_bs (cs : List Nat) : csOf (bs cs) = cs := by
  unfold csOf bs
  rw [List.map_reverse, List.map_map, ← List.map_reverse, List.map_reverse, List.reverse_reverse]
  exact (List.map_congr_left (fun x _ => rfl)).trans (List.map_id cs)
theorem csOf_ok {l : List Int} (h : fob l = true) : Ok (csOf l) ∧ bs (csOf l) = l := by
  obtain ⟨cs, hk, rfl⟩ := ok_of h
  rw [csOf_bs]
  exact ⟨hk, rfl⟩
theorem prodI_pos : ∀ (B : List Int), (∀ x ∈ B, 2 ≤ x ∧ x ≤ 12) → 1 ≤ prodI B
  | [], _ => by simp [prodI]
  | b :: B, h => by
    have hb := h b (by simp)
    have ih := prodI_pos B (fun x hx => h x (by simp [hx]))
    have q : b * 1 ≤ b * prodI B := Int.mul_le_mul_of_nonneg_left ih (by omega)
    rw [prodI]; omega
theorem prS_of : ∀ (t : List Int) (n : Int), (∀ x ∈ t, 2 ≤ x ∧ x ≤ 12) → 0 ≤ n → n * prodI t ≤ 1000000 → prS n t = n * prodI t
  | [], n, _, _, _ => by simp [prS, prodI]
  | b :: t, n, h, h0, hp => by
    have hb := h b (by simp)
    have ht : ∀ x ∈ t, 2 ≤ x ∧ x ≤ 12 := fun x hx => h x (by simp [hx])
    have ih := prodI_pos t ht
    rw [prodI, ← Int.mul_assoc] at hp
    have hnb : 0 ≤ n * b := Int.mul_nonneg h0 (by omega)
    have q : n * b * 1 ≤ n * b * prodI t := Int.mul_le_mul_of_nonneg_left ih hnb
    rw [prS, if_neg (by omega), prS_of t (n * b) ht hnb hp, prodI, Int.mul_assoc]
theorem prS_prodI : ∀ (t : List Int) (n : Int), prS n t ≤ 1000000 → prS n t = n * prodI t
  | [], n, _ => by simp [prS, prodI]
  | b :: t, n, h => by
    rw [prS] at h ⊢
    by_cases c : n * b > 1000000
    · rw [if_pos c] at h; omega
    · rw [if_neg c] at h ⊢
      rw [prS_prodI t _ h, prodI, Int.mul_assoc]
theorem capI_of (t : List Int) (h : ∀ x ∈ t, 2 ≤ x ∧ x ≤ 12) (hp : prodI t ≤ 1000000) : capI 1 t = prodI t := by
  have e := prS_of t 1 h (by omega) (by omega)
  rcases pr_cap t 1 h (by omega) (by omega) with q | q
  · omega
  · omega
theorem fob_of {l : List Int} (h : fob l = true) : l.length ≤ 12 ∧ (∀ x ∈ l, 2 ≤ x ∧ x ≤ 12) ∧ prodI l ≤ 5040 := by
  simp only [fob, Bool.and_eq_true, decide_eq_true_eq, List.all_eq_true] at h
  obtain ⟨h1, h2, h3⟩ := h
  have := prS_prodI l 1 (by omega)
  exact ⟨h1, h2, by omega⟩
theorem dig_le {b d P : Int} (h0 : 0 ≤ d) (h : d ≤ b - 1) (hP : 1 ≤ P) : 0 ≤ d * P ∧ d * P ≤ b * P - P := by
  have h3 : d * P ≤ (b - 1) * P := Int.mul_le_mul_of_nonneg_right h (by omega)
  rw [Int.sub_mul, Int.one_mul] at h3
  exact ⟨Int.mul_nonneg h0 (by omega), h3⟩
theorem tail_le {b P : Int} (hb : 2 ≤ b) (hP : 1 ≤ P) : P ≤ b * P := by
  have : 1 * P ≤ b * P := Int.mul_le_mul_of_nonneg_right (by omega) (by omega)
  omega
def gF (b d : List Int) (u : List Bool) (p : List Int) : Bool := fob b && (all2 b d && decide ((d, u, p) = ((st (csOf b) (mr b d).toNat).d, (st (csOf b) (mr b d).toNat).u, (st (csOf b) (mr b d).toNat).p)))
end Go.Proofs.YtapbbmicfkbafaaGreat.FocG
