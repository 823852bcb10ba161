import Derived.Test.YtllhnnjkonghlaaPerm5
import Derived.Test.YtllhnnjkonghlaaPmX
namespace Go.Proofs.Ytllhnnjkonghlaa.Lag
open Go.RowKit Go.Proofs.YtllhnnjkonghlaaW.PrintWords Go.Proofs.Ytllhnnjkonghlaa.Base Go.Proofs.Ytllhnnjkonghlaa.Moves Go.Proofs.Ytllhnnjkonghlaa.Perms Go.Proofs.Ytllhnnjkonghlaa.Perm5 Go.Proofs.Ytllhnnjkonghlaa.Sgn Go.Proofs.Ytllhnnjkonghlaa.PmX
set_option linter.unusedVariables false
set_option linter.unusedSimpArgs false
inductive Rch (G : Int → Int → Int → Prop) : List Int → List Int → Prop
  | refl (l : List Int) : Rch G l l
  | step {l l' : List Int} (a b c : Int) (g : G a b c) (h : Rch G l l') : Rch G l (mv l' a b c)
theorem Rch.trans {G : Int → Int → Int → Prop} {l m n : List Int} (h : Rch G l m) (h2 : Rch G m n) : Rch G l n := by
  induction h2 with
  | refl => exact h
  | step a b c g _ ih => exact .step a b c g ih
theorem Rch.length {G : Int → Int → Int → Prop} {l m : List Int} (h : Rch G l m) : m.length = l.length := by
  induction h with
  | refl => rfl
  | step a b c g _ ih => rw [mv_length]; exact ih
theorem mvN_rch {G : Int → Int → Int → Prop} (a b c : Int) (g : G a b c) : ∀ (k : Nat) (l m : List Int), Rch G l m → Rch G l (mvN a b c k m)
  | 0, l, m, h => h
  | k + 1, l, m, h => mvN_rch a b c g k l _ (.step a b c g h)
theorem Rch.symm {G : Int → Int → Int → Prop} {n : Nat} (hG : ∀ a b c, G a b c → Mgood n a b c) {l m : List Int} (h : Rch G l m) (hl : l.length = n) : Rch G m l := by
  induction h with
  | refl => exact .refl _
  | @step m a b c g h ih =>
    have hm : m.length = n := by rw [h.length]; exact hl
    have hg := hG a b c g
    have h1 := mvN_ord m a b c (by rw [hm]; exact hg)
    have h2 : ∃ k, ord a b = k + 1 := ⟨ord a b - 1, by
      have : 0 < ord a b := by unfold ord; unfold Mgood at hg; split <;> omega
      omega⟩
    obtain ⟨k, hk⟩ := h2
    rw [hk, mvN] at h1
    have h3 := mvN_rch (G := G) a b c g k (mv m a b c) (mv m a b c) (.refl _)
    rw [h1] at h3
    exact h3.trans ih
theorem mv_map (f : Int → Int) (l : List Int) (a b c : Int) (hg : Mgood l.length a b c) : mv (l.map f) a b c = (mv l a b c).map f := by
  unfold mv
  by_cases h0 : a = 0
  · rw [if_pos h0, if_pos h0]
    have hb : b.toNat < l.length ∧ c.toNat < l.length := by unfold Mgood at hg; omega
    rw [List.map_set, List.map_set, rd_get _ _ (show c.toNat < (l.map f).length by simpa using hb.2), rd_get _ _ (show b.toNat < (l.map f).length by simpa using hb.1), rd_get _ _ hb.1, rd_get _ _ hb.2]
    simp
  · rw [if_neg h0, if_neg h0]
    by_cases h1 : a = 1
    · rw [if_pos h1, if_pos h1]; simp
    · rw [if_neg h1, if_neg h1]; simp
theorem Rch.map {G : Int → Int → Int → Prop} {n : Nat} (hG : ∀ a b c, G a b c → Mgood n a b c) (f : Int → Int) {l m : List Int} (h : Rch G l m) (hl : l.length = n) : Rch G (l.map f) (m.map f) := by
  induction h with
  | refl => exact .refl _
  | @step m a b c g h ih =>
    rw [← mv_map f m a b c (by rw [h.length, hl]; exact hG a b c g)]
    exact .step a b c g ih
theorem Rch.pm {G : Int → Int → Int → Prop} {n : Nat} (hG : ∀ a b c, G a b c → Mgood n a b c) {l m : List Int} (h : Rch G l m) (hl : isPm l = true ∧ l.length = n) : isPm m = true ∧ m.length = n := by
  induction h with
  | refl => exact hl
  | @step m a b c g h ih => exact ⟨isPm_mvX ih.1 a b c (by rw [ih.2]; exact hG a b c g), by rw [mv_length]; exact ih.2⟩
end Go.Proofs.Ytllhnnjkonghlaa.Lag
