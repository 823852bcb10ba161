/- The pure statement of FnExactBitsOf: for all arguments that fit, the printed law answers true after enough rounds. -/
import Derived.Test.YtcohdpmdgplgfaaPFnExactBitsOfx3
import Derived.Test.YtcohdpmdgplgfaaBase
import Derived.Test.YtcohdpmdgplgfaaComb
namespace Go.Proofs.Ytcohdpmdgplgfaa.Pure
open Go.RowKit Go.Proofs.Ytcohdpmdgplgfaa.PFnExactBitsOf Go.Proofs.YtcohdpmdgplgfaaW.PrintWords Go.Proofs.YtcohdpmdgplgfaaW.PrintLast Go.Proofs.Ytcohdpmdgplgfaa.Base Go.Proofs.Ytcohdpmdgplgfaa.Comb
set_option linter.unusedVariables false
set_option linter.unusedSimpArgs false

/-! spec_l1In -/
theorem l1In_eq (x a b : Int) : spec_l1In.f x a b = some (decide (a ≤ x ∧ x ≤ b)) := by
  unfold spec_l1In.f
  by_cases h : x ≥ a
  · rw [if_pos h]; have h' : a ≤ x := h; simp [h']
  · rw [if_neg h]; have h' : ¬ a ≤ x := h; simp [h']
/-! spec_raItems -/
theorem raItems_eq (x : Int) : spec_raItems.f x = some (decide (0 ≤ x ∧ x ≤ 12)) := by
  unfold spec_raItems.f; rw [l1In_eq]; rfl
/-! spec_l1Rising -/
theorem l1Rising_l0 (xs : List Int) (a b : Int) (hn : xs.length ≤ 35184372088832) : ∀ (d : Nat) (j : Int), 1 ≤ j → j.toNat + d = xs.length →
    Ev (fun k => spec_l1Rising.l0 k xs a b xs (xs.length : Int) j) (((xs.drop j.toNat).all fun x => decide (a ≤ x ∧ x ≤ b)) && incrFrom (rd xs (j - 1) + 1) (xs.drop j.toNat)) := by
  intro d
  induction d with
  | zero =>
    intro j h0 hd
    refine Ev.step (fun k => by rw [spec_l1Rising.l0]) ?_
    refine evNeg (by omega) (evEq ?_)
    rw [drop_end _ _ (by omega)]; rfl
  | succ d ih =>
    intro j h0 hd
    refine Ev.step (fun k => by rw [spec_l1Rising.l0]) ?_
    rw [wr (x := j - 1) (by omega) (by omega), wr (x := j + 1) (by omega) (by omega), drop_rd xs j (by omega) (by omega)]
    simp only [l1In_eq, Option.bind_some, List.all_cons, incrFrom]
    refine evPos (by omega) (evPos (by omega) (evPos (by omega) ?_))
    by_cases c1 : a ≤ rd xs j ∧ rd xs j ≤ b
    · refine evPos (by simpa using c1) (evPos (by omega) (evPos (by omega) (evPos (by omega) ?_)))
      rw [decide_eq_true c1, Bool.true_and]
      by_cases c : rd xs (j - 1) ≥ rd xs j
      · refine evPos c (evEq ?_)
        rw [decide_eq_false (show ¬ (rd xs (j - 1) + 1 ≤ rd xs j) by omega)]; simp
      · refine evNeg c (evTo (ih (j + 1) (by omega) (by omega)) ?_)
        rw [decide_eq_true (show rd xs (j - 1) + 1 ≤ rd xs j by omega), Bool.true_and, show j + 1 - 1 = j from by omega]
    · refine evNeg (by simpa using c1) (evEq ?_)
      rw [decide_eq_false c1]; rfl
theorem l1Rising_ev (xs : List Int) (a b : Int) (hn : xs.length ≤ 35184372088832) : Ev (fun k => spec_l1Rising.f k xs a b) ((xs.all fun x => decide (a ≤ x ∧ x ≤ b)) && incr xs) := by
  unfold spec_l1Rising.f
  cases xs with
  | nil =>
    refine Ev.step (fun k => by rw [spec_l1Rising.l0]) ?_
    exact evNeg (by simp) (Ev.now _)
  | cons x t =>
    refine Ev.step (fun k => by rw [spec_l1Rising.l0]) ?_
    simp only [l1In_eq, Option.bind_some]
    refine evPos (by simp) (evPos (by omega) (evPos (by simp) ?_))
    have hx : rd (x :: t) 0 = x := rfl
    rw [hx]
    by_cases c1 : a ≤ x ∧ x ≤ b
    · refine evPos (by simpa using c1) (evNeg (by omega) ?_)
      rw [wr (by omega) (by omega)]
      refine evTo (l1Rising_l0 (x :: t) a b hn t.length 1 (by omega) (by simp; omega)) ?_
      rw [List.all_cons, decide_eq_true c1, Bool.true_and]
      simp [incr, rd]
    · refine evNeg (by simpa using c1) (evEq ?_)
      rw [List.all_cons, decide_eq_false c1]; rfl
/-! spec_raCombination -/
theorem raCombination_ev (n : Int) (l : List Int) (hn : l.length ≤ 35184372088832) : Ev (fun k => spec_raCombination.f k n l) (isComb n l) := by
  unfold spec_raCombination.f
  simp only [raItems_eq, Option.bind_some]
  by_cases h : 0 ≤ n ∧ n ≤ 12
  · refine evPos (by simpa using h) ?_
    rw [wr (by omega) (by omega), isComb, decide_eq_true h, Bool.true_and]
    by_cases c : (l.length : Int) ≤ n
    · refine evPos c (Ev.bind (l1Rising_ev l 0 (n - 1) hn) (evEq ?_))
      rw [comb_all]
    · refine evNeg c (evEq ?_)
      symm
      rw [Bool.eq_false_iff]
      intro hc
      obtain ⟨m, rfl⟩ := Int.eq_ofNat_of_zero_le h.1
      have := comb_length hc
      omega
  · refine evNeg (by simpa using h) (evEq ?_)
    rw [isComb, decide_eq_false h, Bool.false_and]
/-! spec_chBits -/
theorem chBits_l0 (n : Nat) (xs : List Int) (hn : xs.length ≤ 35184372088832) (hb : ∀ y ∈ xs, 0 ≤ y ∧ y < n) : ∀ (d : Nat) (out : List Int) (j : Int), 0 ≤ j → j.toNat + d = xs.length → out.length = n →
    Ev (fun k => spec_chBits.l0 k out xs (xs.length : Int) j) (setBits out (xs.drop j.toNat)) := by
  intro d
  induction d with
  | zero =>
    intro out j h0 hd ho
    refine Ev.step (fun k => by rw [spec_chBits.l0]) ?_
    refine evNeg (by omega) (evEq ?_)
    rw [drop_end _ _ (by omega)]; rfl
  | succ d ih =>
    intro out j h0 hd ho
    refine Ev.step (fun k => by rw [spec_chBits.l0]) ?_
    have hm : rd xs j ∈ xs := by rw [rd_get xs j (by omega)]; exact List.getElem_mem _
    have := hb _ hm
    refine evPos (by omega) (evPos (by omega) (evPos (by omega) (evPos (by omega) (evPos (by omega) ?_))))
    rw [wr (by omega) (by omega), drop_rd xs j h0 (by omega), setBits]
    exact ih _ _ (by omega) (by omega) (by simpa using ho)
theorem chBits_ev (n : Nat) (xs : List Int) (hn : xs.length ≤ 35184372088832) (hN : n ≤ 1000000) (hb : ∀ y ∈ xs, 0 ≤ y ∧ y < n) : Ev (fun k => spec_chBits.f k (n : Int) xs) (bitsL n xs) := by
  unfold spec_chBits.f
  refine evPos (by omega) (evPos (by simp; omega) ?_)
  exact evTo (chBits_l0 n xs hn hb xs.length _ 0 (by omega) (by simp) (by simp)) (by simp [bitsL])
/-! spec_BitsOf -/
theorem spec_BitsOf_ev (n : Int) (a : List Int) (ha : a.length ≤ 35184372088) :
    Ev (fun k => spec_BitsOf.f k n a) (if isComb n a = true then (bitsL n.toNat a, true) else ([], false)) := by
  unfold spec_BitsOf.f
  refine Ev.bind (raCombination_ev n a (by omega)) ?_
  by_cases c1 : isComb n a = true
  · rw [if_pos c1]
    obtain ⟨h0, h1, hc⟩ := isComb_parts c1
    obtain ⟨m, rfl⟩ := Int.eq_ofNat_of_zero_le h0
    exact evPos c1 (Ev.bind (chBits_ev m a (by omega) (by omega) (comb_bound hc)) (Ev.now _))
  · rw [if_neg c1]; exact evNeg c1 (Ev.now _)
/-! laws_toIntS -/
theorem set_takeI (xs : List Int) (j : Int) (v : Int) (h0 : 0 ≤ j) (h : j < xs.length) : (xs.set j.toNat v).take (j + 1).toNat = xs.take j.toNat ++ [v] := by
  have hl : j.toNat < xs.length := by omega
  rw [show (j + 1).toNat = j.toNat + 1 from by omega, List.take_succ_eq_append_getElem (by simpa using hl)]
  simp [List.take_set_of_le]
theorem toIntS_l0 (x0 : List Int) (hn : x0.length ≤ 35184372088832) : ∀ (d : Nat) (x3 : List Int) (j : Int), 0 ≤ j → j.toNat + d = x0.length → x3.length = x0.length → x3.take j.toNat = x0.take j.toNat →
    Ev (fun k => laws_toIntS.l0 k x0 x3 j) x0 := by
  intro d
  induction d with
  | zero =>
    intro x3 j h0 hd hl ht
    refine Ev.step (fun k => by rw [laws_toIntS.l0]) ?_
    refine evNeg (by omega) ?_
    rw [take_end x0 j (by omega), take_end x3 j (by omega)] at ht
    exact evEq ht
  | succ d ih =>
    intro x3 j h0 hd hl ht
    refine Ev.step (fun k => by rw [laws_toIntS.l0]) ?_
    refine evPos (by omega) (evPos (by omega) (evPos (by omega) ?_))
    rw [wr (by omega) (by omega)]
    refine ih _ _ (by omega) (by omega) (by simpa using hl) ?_
    rw [set_takeI x3 j _ h0 (by omega), take_rd x0 j h0 (by omega), ht]
theorem toIntS_ev (l : List Int) (hn : l.length ≤ 35184372088832) : Ev (fun k => laws_toIntS.f k l) l := by
  unfold laws_toIntS.f
  refine evPos (by omega) (evPos (by simpa using hn) ?_)
  exact toIntS_l0 l hn l.length _ 0 (by omega) (by simp) (by simp) (by simp)
/-! impl_within -/
theorem within_eq (x a b : Int) : impl_within.f x a b = some (decide (a ≤ x ∧ x ≤ b)) := by
  unfold impl_within.f
  by_cases h : x ≥ a
  · rw [if_pos h]; have h' : a ≤ x := h; simp [h']
  · rw [if_neg h]; have h' : ¬ a ≤ x := h; simp [h']
/-! impl_allWithin -/
theorem allWithin_l0 (a b : Int) (xs : List Int) (hn : xs.length ≤ 35184372088832) : ∀ (d : Nat) (j : Int), 0 ≤ j → j.toNat + d = xs.length →
    Ev (fun k => impl_allWithin.l0 k a b xs (xs.length : Int) j) ((xs.drop j.toNat).all fun x => decide (a ≤ x ∧ x ≤ b)) := by
  intro d
  induction d with
  | zero =>
    intro j h0 hd
    refine Ev.step (fun k => by rw [impl_allWithin.l0]) ?_
    refine evNeg (by omega) (evEq ?_)
    rw [drop_end _ _ (by omega)]; rfl
  | succ d ih =>
    intro j h0 hd
    refine Ev.step (fun k => by rw [impl_allWithin.l0]) ?_
    refine evPos (by omega) (evPos (by omega) (evPos (by omega) ?_))
    simp only [within_eq, Option.bind_some]
    rw [wr (by omega) (by omega), drop_rd xs j h0 (by omega), List.all_cons]
    by_cases c : a ≤ rd xs j ∧ rd xs j ≤ b
    · exact evPos (by simpa using c) (evTo (ih _ (by omega) (by omega)) (by simp [c]))
    · exact evNeg (by simpa using c) (evEq (by rw [decide_eq_false c]; rfl))
theorem allWithin_ev (xs : List Int) (a b : Int) (hn : xs.length ≤ 35184372088832) : Ev (fun k => impl_allWithin.f k xs a b) (xs.all fun x => decide (a ≤ x ∧ x ≤ b)) := by
  unfold impl_allWithin.f
  exact evTo (allWithin_l0 a b xs hn xs.length 0 (by omega) (by simp)) (by simp)
/-! impl_increasing -/
theorem increasing_l0 (xs : List Int) (hn : xs.length ≤ 35184372088832) : ∀ (d : Nat) (j : Int), 1 ≤ j → j.toNat + d = xs.length →
    Ev (fun k => impl_increasing.l0 k xs j) (incrFrom (rd xs (j - 1) + 1) (xs.drop j.toNat)) := by
  intro d
  induction d with
  | zero =>
    intro j h0 hd
    refine Ev.step (fun k => by rw [impl_increasing.l0]) ?_
    refine evNeg (by omega) (evEq ?_)
    rw [drop_end _ _ (by omega)]; rfl
  | succ d ih =>
    intro j h0 hd
    refine Ev.step (fun k => by rw [impl_increasing.l0]) ?_
    rw [wr (x := j - 1) (by omega) (by omega), wr (x := j + 1) (by omega) (by omega), drop_rd xs j (by omega) (by omega)]
    refine evPos (by omega) (evPos (by omega) (evPos (by omega) (evPos (by omega) ?_)))
    by_cases c : rd xs (j - 1) ≥ rd xs j
    · refine evPos c (evEq ?_)
      simp only [incrFrom]
      rw [decide_eq_false (by omega)]; rfl
    · refine evNeg c (evTo (ih (j + 1) (by omega) (by omega)) ?_)
      simp only [incrFrom]
      rw [decide_eq_true (by omega), Bool.true_and, show j + 1 - 1 = j from by omega]
theorem increasing_ev (xs : List Int) (hn : xs.length ≤ 35184372088832) : Ev (fun k => impl_increasing.f k xs) (incr xs) := by
  unfold impl_increasing.f
  cases xs with
  | nil =>
    refine Ev.step (fun k => by rw [impl_increasing.l0]) ?_
    exact evNeg (by simp) (Ev.now _)
  | cons x t =>
    refine evTo (increasing_l0 (x :: t) hn t.length 1 (by omega) (by simp; omega)) ?_
    simp [incr, rd]
/-! impl_IsCombination -/
theorem IsCombination_ev (n : Int) (l : List Int) (hn : l.length ≤ 35184372088832) : Ev (fun k => impl_IsCombination.f k n l) (isComb n l) := by
  unfold impl_IsCombination.f
  simp only [within_eq, Option.bind_some]
  by_cases h : 0 ≤ n ∧ n ≤ 12
  · refine evPos (by simpa using h) ?_
    rw [wr (by omega) (by omega)]
    refine Ev.bind (allWithin_ev l 0 (n - 1) hn) ?_
    rw [isComb, decide_eq_true h, Bool.true_and, ← comb_all]
    by_cases c : (l.all fun x => decide (0 ≤ x ∧ x ≤ n - 1)) = true
    · refine evPos c (Ev.bind (increasing_ev l hn) (evEq ?_))
      rw [c, Bool.true_and]
    · refine evNeg c (evEq ?_)
      rw [Bool.eq_false_iff.2 c, Bool.false_and]
  · refine evNeg (by simpa using h) (evEq ?_)
    rw [isComb, decide_eq_false h, Bool.false_and]
/-! impl_bitsOf -/
theorem bitsOf_l0 (n : Nat) (xs : List Int) (hn : xs.length ≤ 35184372088832) (hb : ∀ y ∈ xs, 0 ≤ y ∧ y < n) : ∀ (d : Nat) (out : List Int) (j : Int), 0 ≤ j → j.toNat + d = xs.length → out.length = n →
    Ev (fun k => impl_bitsOf.l0 k out xs (xs.length : Int) j) (setBits out (xs.drop j.toNat)) := by
  intro d
  induction d with
  | zero =>
    intro out j h0 hd ho
    refine Ev.step (fun k => by rw [impl_bitsOf.l0]) ?_
    refine evNeg (by omega) (evEq ?_)
    rw [drop_end _ _ (by omega)]; rfl
  | succ d ih =>
    intro out j h0 hd ho
    refine Ev.step (fun k => by rw [impl_bitsOf.l0]) ?_
    have hm : rd xs j ∈ xs := by rw [rd_get xs j (by omega)]; exact List.getElem_mem _
    have := hb _ hm
    refine evPos (by omega) (evPos (by omega) (evPos (by omega) (evPos (by omega) (evPos (by omega) ?_))))
    rw [wr (by omega) (by omega), drop_rd xs j h0 (by omega), setBits]
    exact ih _ _ (by omega) (by omega) (by simpa using ho)
theorem bitsOf_ev (n : Nat) (xs : List Int) (hn : xs.length ≤ 35184372088832) (hN : n ≤ 1000000) (hb : ∀ y ∈ xs, 0 ≤ y ∧ y < n) : Ev (fun k => impl_bitsOf.f k (n : Int) xs) (bitsL n xs) := by
  unfold impl_bitsOf.f
  refine evPos (by omega) (evPos (by simp; omega) ?_)
  exact evTo (bitsOf_l0 n xs hn hb xs.length _ 0 (by omega) (by simp) (by simp)) (by simp [bitsL])
/-! impl_BitsOf -/
theorem BitsOf_ev (n : Int) (a : List Int) (ha : a.length ≤ 35184372088) :
    Ev (fun k => impl_BitsOf.f k n a) (if isComb n a = true then (bitsL n.toNat a, true) else ([], false)) := by
  unfold impl_BitsOf.f
  refine Ev.bind (IsCombination_ev n a (by omega)) ?_
  by_cases c1 : isComb n a = true
  · rw [if_pos c1]
    obtain ⟨h0, h1, hc⟩ := isComb_parts c1
    obtain ⟨m, rfl⟩ := Int.eq_ofNat_of_zero_le h0
    exact evPos c1 (Ev.bind (bitsOf_ev m a (by omega) (by omega) (comb_bound hc)) (Ev.now _))
  · rw [if_neg c1]; exact evNeg c1 (Ev.now _)
/-! laws_eqIntS -/
theorem eqIntS_l0 (a b : List Int) (hn : a.length ≤ 35184372088832) (hb : a.length = b.length) : ∀ (d : Nat) (j : Int), 0 ≤ j → j.toNat + d = a.length →
    Ev (fun k => laws_eqIntS.l0 k a b j) (decide (a.drop j.toNat = b.drop j.toNat)) := by
  intro d
  induction d with
  | zero =>
    intro j h0 hd
    refine Ev.step (fun k => by rw [laws_eqIntS.l0]) ?_
    refine evNeg (by omega) ?_
    rw [drop_end a j (by omega), drop_end b j (by omega)]
    exact evEq rfl
  | succ d ih =>
    intro j h0 hd
    refine Ev.step (fun k => by rw [laws_eqIntS.l0]) ?_
    refine evPos (by omega) (evPos (by omega) (evPos (by omega) ?_))
    rw [wr (by omega) (by omega), drop_rd a j h0 (by omega), drop_rd b j h0 (by omega)]
    by_cases c : rd a j = rd b j
    · refine evPos c (evTo (ih _ (by omega) (by omega)) ?_)
      simp [c]
    · refine evNeg c (evEq ?_)
      simp [c]
theorem eqIntS_ev (a b : List Int) (hn : a.length ≤ 35184372088832) : Ev (fun k => laws_eqIntS.f k a b) (decide (a = b)) := by
  unfold laws_eqIntS.f
  by_cases hb : a.length = b.length
  · exact evPos (by omega) (eqIntS_l0 a b hn hb a.length 0 (by omega) (by simp))
  · refine evNeg (by omega) (evEq ?_)
    exact (decide_eq_false (fun e => hb (by rw [e]))).symm
theorem eqIntS_self (a : List Int) (hn : a.length ≤ 35184372088832) : Ev (fun k => laws_eqIntS.f k a a) true := evTo (eqIntS_ev a a hn) (by simp)
/-! laws_markIntS -/
theorem markIntS_l0 : ∀ (d : Nat) (xs : List Int) (m j : Int), 0 ≤ j → j.toNat + d = xs.length → xs.length ≤ 35184372088832 → 0 ≤ m → m + d ≤ 70368744177664 →
    Ev (fun k => laws_markIntS.l0 k xs m j) (m + d, xs.take j.toNat ++ iotaI m d) := by
  intro d
  induction d with
  | zero =>
    intro xs m j h0 hd hn hm hk
    refine Ev.step (fun k => by rw [laws_markIntS.l0]) ?_
    refine evNeg (by omega) (evEq ?_)
    rw [take_end xs j (by omega)]
    simp [iotaI]
  | succ d ih =>
    intro xs m j h0 hd hn hm hk
    refine Ev.step (fun k => by rw [laws_markIntS.l0]) ?_
    refine evPos (by omega) (evPos (by omega) ?_)
    rw [wr (by omega) (by omega), wr (by omega) (by omega)]
    refine evTo (ih (xs.set j.toNat m) (m + 1) (j + 1) (by omega) (by simp; omega) (by simpa using hn) (by omega) (by omega)) ?_
    rw [set_takeI xs j m h0 (by omega)]
    simp [iotaI]
    omega
theorem markIntS_ev (xs : List Int) (m : Int) (hn : xs.length ≤ 35184372088832) (hm : 0 ≤ m) (hk : m + xs.length ≤ 70368744177664) :
    Ev (fun k => laws_markIntS.f k xs m) (m + xs.length, iotaI m xs.length) := by
  unfold laws_markIntS.f
  refine evTo (markIntS_l0 xs.length xs m 0 (by omega) (by simp) hn hm hk) (by simp)
/-! laws_heldIntS -/
theorem heldIntS_l0 (xs : List Int) (hn : xs.length ≤ 35184372088832) : ∀ (d : Nat) (m j : Int), 0 ≤ j → j.toNat + d = xs.length → 0 ≤ m → m + d ≤ 70368744177664 → (∀ i : Int, j ≤ i → i < xs.length → rd xs i = m + (i - j)) →
    Ev (fun k => laws_heldIntS.l0 k xs m j) (m + d) := by
  intro d
  induction d with
  | zero =>
    intro m j h0 hd hm hk h
    refine Ev.step (fun k => by rw [laws_heldIntS.l0]) ?_
    exact evNeg (by omega) (evEq (by simp))
  | succ d ih =>
    intro m j h0 hd hm hk h
    refine Ev.step (fun k => by rw [laws_heldIntS.l0]) ?_
    have hr := h j (by omega) (by omega)
    refine evPos (by omega) (evPos (by omega) (evPos (by omega) ?_))
    rw [wr (by omega) (by omega), wr (by omega) (by omega)]
    refine evTo (ih (m + 1) (j + 1) (by omega) (by omega) (by omega) (by omega) (fun i h1 h2 => ?_)) (by omega)
    rw [h i (by omega) h2]; omega
theorem heldIntS_ev (n : Nat) (m : Int) (hn : n ≤ 35184372088832) (hm : 0 ≤ m) (hk : m + n ≤ 70368744177664) :
    Ev (fun k => laws_heldIntS.f k (iotaI m n) m) (m + n) := by
  unfold laws_heldIntS.f
  have hl := iotaI_length m n
  refine heldIntS_l0 (iotaI m n) (by omega) n m 0 (by omega) (by omega) hm hk (fun i h1 h2 => ?_)
  rw [iotaI_rd n m i h1 (by omega)]; omega
theorem FnExactBitsOf : laws_FnExactBitsOf.Pure := by
  intro n l wn _ hl8 _
  refine Ev.rounds (g := fun q => laws_FnExactBitsOf.f q n l) ?_
  have hl : l.length ≤ 17592186044416 := by omega
  unfold laws_FnExactBitsOf.f
  by_cases hbig : (l.length : Int) > 1048576
  · exact evPos hbig (Ev.now _)
  refine evNeg hbig ?_
  have hg : ∃ g b, (if isComb n l = true then (bitsL n.toNat l, true) else ([], false)) = (g, b) ∧ g.length ≤ 1000 := by
    by_cases c : isComb n l = true
    · rw [if_pos c]; have := isComb_parts c; exact ⟨_, _, rfl, by rw [bitsL_length]; omega⟩
    · rw [if_neg c]; exact ⟨_, _, rfl, by simp⟩
  obtain ⟨g, b, he, hgl⟩ := hg
  have hs : Ev (fun k => spec_BitsOf.f k n l) (g, b) := he ▸ spec_BitsOf_ev n l (by omega)
  have hi : Ev (fun k => impl_BitsOf.f k n l) (g, b) := he ▸ BitsOf_ev n l (by omega)
  repeat (first
    | (with_reducible exact Ev.now _)
    | (with_reducible refine Ev.bind hs ?_)
    | (with_reducible refine Ev.bind hi ?_)
    | (with_reducible refine Ev.bind (toIntS_ev _ (by omega)) ?_)
    | (with_reducible refine Ev.bind (eqIntS_self _ (by omega)) ?_)
    | (with_reducible refine Ev.bind (markIntS_ev _ 1 (by omega) (by omega) (by omega)) ?_)
    | (with_reducible refine Ev.bind (heldIntS_ev _ 1 (by omega) (by omega) (by omega)) ?_)
    | (with_reducible refine evPos rfl ?_)
    | (with_reducible refine evNeg (by omega) ?_)
    | (rw [bne_self_eq_false])
    | (simp only [bne_self_eq_false])
    | (refine evNeg (by decide) ?_)
    | (refine Ev.step (fun k => by rw [laws_FnExactBitsOf.j0]) ?_)
    | (refine Ev.step (fun k => by rw [laws_FnExactBitsOf.j1]) ?_)
    | (refine Ev.step (fun k => by rw [laws_FnExactBitsOf.j2]) ?_))

end Go.Proofs.Ytcohdpmdgplgfaa.Pure
