import Derived.Test.YtllhnnjkonghlaaMoves
namespace Go.Proofs.Ytllhnnjkonghlaa.Sgn
open Go.Proofs.Ytllhnnjkonghlaa.Base Go.Proofs.Ytllhnnjkonghlaa.Moves
set_option linter.unusedVariables false
set_option linter.unusedSimpArgs false
def cnt (x : Int) : List Int → Nat
  | [] => 0
  | y :: t => (if y > x then 1 else 0) + cnt x t
def inv : List Int → List Int → Nat
  | _, [] => 0
  | p, x :: t => cnt x p + inv (p ++ [x]) t
inductive Sw : Nat → List Int → List Int → Prop
  | refl (l : List Int) : Sw 0 l l
  | step {k : Nat} {l : List Int} (a : List Int) (x y : Int) (b : List Int) (h : Sw k l (a ++ x :: y :: b)) : Sw (k + 1) l (a ++ y :: x :: b)
theorem Sw.trans {j k : Nat} {l m n : List Int} (h : Sw j l m) (h2 : Sw k m n) : Sw (j + k) l n := by
  induction h2 with
  | refl => exact h
  | step a x y b _ ih => exact .step a x y b (ih h)
theorem Sw.perm {k : Nat} {l m : List Int} (h : Sw k l m) : m.Perm l := by
  induction h with
  | refl => exact List.Perm.refl _
  | step a x y b _ ih => exact (List.Perm.append_left a (List.Perm.swap x y b)).trans ih
theorem move_right (x : Int) : ∀ (t p r : List Int), Sw t.length (p ++ x :: (t ++ r)) (p ++ t ++ x :: r)
  | [], p, r => by simpa using Sw.refl (p ++ x :: r)
  | y :: t, p, r => by
    have h1 : Sw 1 (p ++ x :: (y :: t ++ r)) (p ++ y :: x :: (t ++ r)) := .step p x y (t ++ r) (.refl _)
    have h2 := move_right x t (p ++ [y]) r
    simp only [List.append_assoc, List.cons_append, List.nil_append] at h1 h2 ⊢
    have := h1.trans h2
    rwa [show 1 + t.length = (y :: t).length from by simp; omega] at this
theorem move_left (y : Int) : ∀ (t p r : List Int), Sw t.length (p ++ t ++ y :: r) (p ++ y :: (t ++ r))
  | [], p, r => by simpa using Sw.refl (p ++ y :: r)
  | x :: t, p, r => by
    have h2 := move_left y t (p ++ [x]) r
    have h3 : Sw (t.length + 1) (p ++ [x] ++ t ++ y :: r) (p ++ y :: x :: (t ++ r)) := .step p x y (t ++ r) (by simpa using h2)
    simpa using h3
def tri : Nat → Nat
  | 0 => 0
  | n + 1 => tri n + n
theorem turn_sw : ∀ (m p s : List Int), Sw (tri m.length) (p ++ m ++ s) (p ++ m.reverse ++ s)
  | [], p, s => by
    show Sw 0 (p ++ [] ++ s) (p ++ [] ++ s)
    exact Sw.refl _
  | x :: t, p, s => by
    have h1 := turn_sw t (p ++ [x]) s
    have h2 := move_right x t.reverse p s
    simp only [List.length_reverse, List.append_assoc, List.cons_append, List.nil_append, List.reverse_cons, List.length_cons, tri] at h1 h2 ⊢
    exact h1.trans h2
theorem swap_sw (p m s : List Int) (x y : Int) : Sw (2 * m.length + 1) (p ++ x :: (m ++ y :: s)) (p ++ y :: (m ++ x :: s)) := by
  have h1 := move_right x (m ++ [y]) p s
  have h2 := move_left y m p (x :: s)
  simp only [List.length_append, List.length_singleton, List.append_assoc, List.cons_append, List.nil_append] at h1 h2
  have := h1.trans h2
  rwa [show m.length + 1 + m.length = 2 * m.length + 1 from by omega] at this
def tn (a b c : Int) : Nat := if a = 0 then 2 * (c - b - 1).toNat + 1 else if a = 1 then tri b.toNat else b.toNat - 1
theorem split_at (l : List Int) (i : Nat) (h : i < l.length) : l = l.take i ++ l[i] :: l.drop (i + 1) := by
  rw [← List.drop_eq_getElem_cons h, List.take_append_drop]
theorem mv_sw (l : List Int) (a b c : Int) (h : Mgood l.length a b c) : Sw (tn a b c) l (mv l a b c) := by
  rcases h with ⟨rfl, h0, h1, h2⟩ | ⟨rfl, h0, h1, rfl⟩ | ⟨rfl, h0, h1, rfl⟩
  · obtain ⟨i, rfl⟩ := Int.eq_ofNat_of_zero_le h0
    obtain ⟨j, rfl⟩ := Int.eq_ofNat_of_zero_le (show 0 ≤ c by omega)
    have hi : i < l.length := by omega
    have hj : j < l.length := by omega
    have hij : i < j := by omega
    have e1 : Go.Proofs.YtllhnnjkonghlaaW.PrintWords.rd l (i : Int) = l[i] := rd_get l _ (by simpa using hi)
    have e2 : Go.Proofs.YtllhnnjkonghlaaW.PrintWords.rd l (j : Int) = l[j] := rd_get l _ (by simpa using hj)
    have hm : l = l.take i ++ l[i] :: ((l.take j).drop (i + 1) ++ l[j] :: l.drop (j + 1)) := by
      have h3 := split_at (l.take j) i (by simp; omega)
      have h4 := split_at l j hj
      rw [List.take_take, Nat.min_eq_left (by omega)] at h3
      rw [List.getElem_take] at h3
      calc l = l.take j ++ l[j] :: l.drop (j + 1) := h4
        _ = (l.take i ++ l[i] :: (l.take j).drop (i + 1)) ++ l[j] :: l.drop (j + 1) := by rw [← h3]
        _ = _ := by simp
    have hr : mv l 0 i j = l.take i ++ l[j] :: ((l.take j).drop (i + 1) ++ l[i] :: l.drop (j + 1)) := by
      have e3 : (l.set i l[j]).set j l[i] = l.take i ++ l[j] :: ((l.take j).drop (i + 1) ++ l[i] :: l.drop (j + 1)) := by
        refine List.ext_getElem (by simp; omega) (fun q q1 q2 => ?_)
        rw [List.getElem_set, List.getElem_set]
        by_cases c1 : q < i
        · rw [if_neg (by omega), if_neg (by omega), List.getElem_append_left (by simp; omega)]
          simp
        · rw [List.getElem_append_right (by simp; omega)]
          by_cases c2 : q = i
          · subst c2
            rw [if_neg (by omega), if_pos rfl]
            simp [Nat.min_eq_left (Nat.le_of_lt hi)]
          · rw [if_neg (show ¬ i = q from fun e => c2 e.symm)]
            have e4 : q - (l.take i).length = (q - i - 1) + 1 := by simp; omega
            simp only [e4, List.getElem_cons_succ]
            by_cases c3 : q < j
            · rw [if_neg (by omega), List.getElem_append_left (by simp; omega)]
              simp
              congr 1; omega
            · rw [List.getElem_append_right (by simp; omega)]
              by_cases c4 : j = q
              · subst c4
                rw [if_pos rfl]
                have e5 : j - i - 1 - ((l.take j).drop (i + 1)).length = 0 := by simp; omega
                simp only [e5, List.getElem_cons_zero]
              · rw [if_neg c4]
                have e5 : q - i - 1 - ((l.take j).drop (i + 1)).length = (q - j - 1) + 1 := by simp; omega
                simp only [e5, List.getElem_cons_succ]
                simp
                congr 1; omega
      unfold mv
      rw [if_pos rfl, e1, e2]
      simpa using e3
    have hs := swap_sw (l.take i) ((l.take j).drop (i + 1)) (l.drop (j + 1)) l[i] l[j]
    rw [← hm, ← hr] at hs
    have hl : 2 * ((l.take j).drop (i + 1)).length + 1 = tn 0 i j := by unfold tn; rw [if_pos rfl]; simp; omega
    rwa [hl] at hs
  · obtain ⟨i, rfl⟩ := Int.eq_ofNat_of_zero_le (show 0 ≤ b by omega)
    have hs := turn_sw (l.take i) [] (l.drop i)
    simp only [List.nil_append, List.take_append_drop, List.length_take, Nat.min_eq_left (show i ≤ l.length by omega)] at hs
    unfold tn mv
    simpa using hs
  · obtain ⟨i, rfl⟩ := Int.eq_ofNat_of_zero_le (show 0 ≤ b by omega)
    obtain ⟨x, t, e⟩ : ∃ x t, l.take i = x :: t := by
      cases h5 : l.take i with
      | nil => have := congrArg List.length h5; rw [List.length_take, List.length_nil] at this; omega
      | cons x t => exact ⟨x, t, rfl⟩
    have hs := move_right x t [] (l.drop i)
    have ht : t.length = i - 1 := by have := congrArg List.length e; simp at this; omega
    have hl : [] ++ x :: (t ++ l.drop i) = l := by
      rw [List.nil_append, ← List.cons_append, ← e, List.take_append_drop]
    rw [hl, ht] at hs
    unfold tn mv
    simp only [if_neg (show ¬ (2 : Int) = 0 by decide), if_neg (show ¬ (2 : Int) = 1 by decide), Int.toNat_natCast, e]
    simpa using hs
theorem mv_perm (l : List Int) (a b c : Int) (h : Mgood l.length a b c) : (mv l a b c).Perm l := (mv_sw l a b c h).perm
def mvN (a b c : Int) : Nat → List Int → List Int
  | 0, l => l
  | k + 1, l => mvN a b c k (mv l a b c)
def ord (a b : Int) : Nat := if a = 2 then b.toNat else 2
theorem rot_steps (i : Nat) (hi : 1 ≤ i) : ∀ (d k : Nat) (m s : List Int), m.length = i → k + d = i → mvN 2 i 0 d (m.drop k ++ m.take k ++ s) = m ++ s
  | 0, k, m, s, hm, hk => by
    rw [mvN, List.drop_of_length_le (by omega), List.take_of_length_le (by omega)]; simp
  | d + 1, k, m, s, hm, hk => by
    have hkl : k < m.length := by omega
    rw [mvN]
    have hl : (m.drop k ++ m.take k).length = i := by simp; omega
    have e1 : mv (m.drop k ++ m.take k ++ s) 2 i 0 = m.drop (k + 1) ++ m.take (k + 1) ++ s := by
      unfold mv
      simp only [if_neg (show ¬ (2 : Int) = 0 by decide), if_neg (show ¬ (2 : Int) = 1 by decide), Int.toNat_natCast]
      rw [List.take_left' hl, List.drop_left' hl, List.drop_eq_getElem_cons hkl, List.cons_append]
      simp only [List.drop_succ_cons, List.drop_zero, List.take_succ_cons, List.take_zero, List.append_assoc]
      have e := List.take_succ_eq_append_getElem hkl
      rw [e]
      simp only [List.append_assoc, List.cons_append, List.nil_append]
    rw [e1]
    exact rot_steps i hi d (k + 1) m s hm (by omega)
theorem mvN_ord (l : List Int) (a b c : Int) (h : Mgood l.length a b c) : mvN a b c (ord a b) l = l := by
  rcases h with ⟨rfl, h0, h1, h2⟩ | ⟨rfl, h0, h1, rfl⟩ | ⟨rfl, h0, h1, rfl⟩
  · obtain ⟨i, rfl⟩ := Int.eq_ofNat_of_zero_le h0
    obtain ⟨j, rfl⟩ := Int.eq_ofNat_of_zero_le (show 0 ≤ c by omega)
    have hi : i < l.length := by omega
    have hj : j < l.length := by omega
    have hij : i < j := by omega
    show mv (mv l 0 i j) 0 i j = l
    have e1 : Go.Proofs.YtllhnnjkonghlaaW.PrintWords.rd l (i : Int) = l[i] := rd_get l _ (by simpa using hi)
    have e2 : Go.Proofs.YtllhnnjkonghlaaW.PrintWords.rd l (j : Int) = l[j] := rd_get l _ (by simpa using hj)
    have e3 : mv l 0 i j = (l.set i l[j]).set j l[i] := by
      unfold mv
      rw [if_pos rfl, e1, e2]
      simp
    rw [e3]
    have e4 : Go.Proofs.YtllhnnjkonghlaaW.PrintWords.rd ((l.set i l[j]).set j l[i]) (i : Int) = l[j] := by
      rw [rd_get _ _ (by simpa using hi)]
      simp [List.getElem_set, show ¬ j = i by omega]
    have e5 : Go.Proofs.YtllhnnjkonghlaaW.PrintWords.rd ((l.set i l[j]).set j l[i]) (j : Int) = l[i] := by
      rw [rd_get _ _ (by simpa using hj)]
      simp [List.getElem_set]
    unfold mv
    rw [if_pos rfl, e4, e5, Int.toNat_natCast, Int.toNat_natCast]
    refine List.ext_getElem (by simp) (fun q q1 q2 => ?_)
    simp only [List.getElem_set]
    by_cases c1 : j = q
    · subst c1; simp
    · rw [if_neg c1]
      by_cases c2 : i = q
      · subst c2; simp
      · rw [if_neg c2, if_neg c1, if_neg c2]
  · obtain ⟨i, rfl⟩ := Int.eq_ofNat_of_zero_le (show 0 ≤ b by omega)
    show mv (mv l 1 i 0) 1 i 0 = l
    have hl : ((l.take i).reverse).length = i := by simp; omega
    have e1 : mv l 1 i 0 = (l.take i).reverse ++ l.drop i := by unfold mv; simp
    rw [e1]
    unfold mv
    simp only [if_neg (show ¬ (1 : Int) = 0 by decide), if_pos, Int.toNat_natCast]
    rw [List.take_left' hl, List.drop_left' hl]
    simp
  · obtain ⟨i, rfl⟩ := Int.eq_ofNat_of_zero_le (show 0 ≤ b by omega)
    have h3 := rot_steps i (by omega) i 0 (l.take i) (l.drop i) (by simp; omega) (by omega)
    simp only [List.drop_zero, List.take_zero, List.append_nil, List.take_append_drop] at h3
    unfold ord
    rw [if_pos rfl, Int.toNat_natCast]
    exact h3
end Go.Proofs.Ytllhnnjkonghlaa.Sgn
