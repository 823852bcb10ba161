/- The pure statement of FnExactExchangeOf: for all arguments that fit, the printed law answers true after enough rounds. -/
import Derived.Test.YtcohdpmdgplgfaaPFnExactExchangeOfx3
import Derived.Test.YtcohdpmdgplgfaaBase
import Derived.Test.YtcohdpmdgplgfaaComb
namespace Go.Proofs.Ytcohdpmdgplgfaa.Pure
open Go.RowKit Go.Proofs.Ytcohdpmdgplgfaa.PFnExactExchangeOf Go.Proofs.YtcohdpmdgplgfaaW.PrintWords Go.Proofs.YtcohdpmdgplgfaaW.PrintLast Go.Proofs.Ytcohdpmdgplgfaa.Base Go.Proofs.Ytcohdpmdgplgfaa.Comb
set_option linter.unusedVariables false
set_option linter.unusedSimpArgs false

/-! laws_toIntS -/
theorem set_takeI (xs : List Int) (j : Int) (v : Int) (h0 : 0 ≤ j) (h : j < xs.length) : (xs.set j.toNat v).take (j + 1).toNat = xs.take j.toNat ++ [v] := by
  have hl : j.toNat < xs.length := by omega
  rw [show (j + 1).toNat = j.toNat + 1 from by omega, List.take_succ_eq_append_getElem (by simpa using hl)]
  simp [List.take_set_of_le]
theorem toIntS_l0 (x0 : List Int) (hn : x0.length ≤ 35184372088832) : ∀ (d : Nat) (x3 : List Int) (j : Int), 0 ≤ j → j.toNat + d = x0.length → x3.length = x0.length → x3.take j.toNat = x0.take j.toNat →
    Ev (fun k => laws_toIntS.l0 k x0 x3 j) x0 := by
  intro d
  induction d with
  | zero =>
    intro x3 j h0 hd hl ht
    refine Ev.step (fun k => by rw [laws_toIntS.l0]) ?_
    refine evNeg (by omega) ?_
    rw [take_end x0 j (by omega), take_end x3 j (by omega)] at ht
    exact evEq ht
  | succ d ih =>
    intro x3 j h0 hd hl ht
    refine Ev.step (fun k => by rw [laws_toIntS.l0]) ?_
    refine evPos (by omega) (evPos (by omega) (evPos (by omega) ?_))
    rw [wr (by omega) (by omega)]
    refine ih _ _ (by omega) (by omega) (by simpa using hl) ?_
    rw [set_takeI x3 j _ h0 (by omega), take_rd x0 j h0 (by omega), ht]
theorem toIntS_ev (l : List Int) (hn : l.length ≤ 35184372088832) : Ev (fun k => laws_toIntS.f k l) l := by
  unfold laws_toIntS.f
  refine evPos (by omega) (evPos (by simpa using hn) ?_)
  exact toIntS_l0 l hn l.length _ 0 (by omega) (by simp) (by simp) (by simp)
/-! laws_eqIntS -/
theorem eqIntS_l0 (a b : List Int) (hn : a.length ≤ 35184372088832) (hb : a.length = b.length) : ∀ (d : Nat) (j : Int), 0 ≤ j → j.toNat + d = a.length →
    Ev (fun k => laws_eqIntS.l0 k a b j) (decide (a.drop j.toNat = b.drop j.toNat)) := by
  intro d
  induction d with
  | zero =>
    intro j h0 hd
    refine Ev.step (fun k => by rw [laws_eqIntS.l0]) ?_
    refine evNeg (by omega) ?_
    rw [drop_end a j (by omega), drop_end b j (by omega)]
    exact evEq rfl
  | succ d ih =>
    intro j h0 hd
    refine Ev.step (fun k => by rw [laws_eqIntS.l0]) ?_
    refine evPos (by omega) (evPos (by omega) (evPos (by omega) ?_))
    rw [wr (by omega) (by omega), drop_rd a j h0 (by omega), drop_rd b j h0 (by omega)]
    by_cases c : rd a j = rd b j
    · refine evPos c (evTo (ih _ (by omega) (by omega)) ?_)
      simp [c]
    · refine evNeg c (evEq ?_)
      simp [c]
theorem eqIntS_ev (a b : List Int) (hn : a.length ≤ 35184372088832) : Ev (fun k => laws_eqIntS.f k a b) (decide (a = b)) := by
  unfold laws_eqIntS.f
  by_cases hb : a.length = b.length
  · exact evPos (by omega) (eqIntS_l0 a b hn hb a.length 0 (by omega) (by simp))
  · refine evNeg (by omega) (evEq ?_)
    exact (decide_eq_false (fun e => hb (by rw [e]))).symm
theorem eqIntS_self (a : List Int) (hn : a.length ≤ 35184372088832) : Ev (fun k => laws_eqIntS.f k a a) true := evTo (eqIntS_ev a a hn) (by simp)
/-! spec_l1In -/
theorem l1In_eq (x a b : Int) : spec_l1In.f x a b = some (decide (a ≤ x ∧ x ≤ b)) := by
  unfold spec_l1In.f
  by_cases h : x ≥ a
  · rw [if_pos h]; have h' : a ≤ x := h; simp [h']
  · rw [if_neg h]; have h' : ¬ a ≤ x := h; simp [h']
/-! spec_raItems -/
theorem raItems_eq (x : Int) : spec_raItems.f x = some (decide (0 ≤ x ∧ x ≤ 12)) := by
  unfold spec_raItems.f; rw [l1In_eq]; rfl
/-! spec_l1Rising -/
theorem l1Rising_l0 (xs : List Int) (a b : Int) (hn : xs.length ≤ 35184372088832) : ∀ (d : Nat) (j : Int), 1 ≤ j → j.toNat + d = xs.length →
    Ev (fun k => spec_l1Rising.l0 k xs a b xs (xs.length : Int) j) (((xs.drop j.toNat).all fun x => decide (a ≤ x ∧ x ≤ b)) && incrFrom (rd xs (j - 1) + 1) (xs.drop j.toNat)) := by
  intro d
  induction d with
  | zero =>
    intro j h0 hd
    refine Ev.step (fun k => by rw [spec_l1Rising.l0]) ?_
    refine evNeg (by omega) (evEq ?_)
    rw [drop_end _ _ (by omega)]; rfl
  | succ d ih =>
    intro j h0 hd
    refine Ev.step (fun k => by rw [spec_l1Rising.l0]) ?_
    rw [wr (x := j - 1) (by omega) (by omega), wr (x := j + 1) (by omega) (by omega), drop_rd xs j (by omega) (by omega)]
    simp only [l1In_eq, Option.bind_some, List.all_cons, incrFrom]
    refine evPos (by omega) (evPos (by omega) (evPos (by omega) ?_))
    by_cases c1 : a ≤ rd xs j ∧ rd xs j ≤ b
    · refine evPos (by simpa using c1) (evPos (by omega) (evPos (by omega) (evPos (by omega) ?_)))
      rw [decide_eq_true c1, Bool.true_and]
      by_cases c : rd xs (j - 1) ≥ rd xs j
      · refine evPos c (evEq ?_)
        rw [decide_eq_false (show ¬ (rd xs (j - 1) + 1 ≤ rd xs j) by omega)]; simp
      · refine evNeg c (evTo (ih (j + 1) (by omega) (by omega)) ?_)
        rw [decide_eq_true (show rd xs (j - 1) + 1 ≤ rd xs j by omega), Bool.true_and, show j + 1 - 1 = j from by omega]
    · refine evNeg (by simpa using c1) (evEq ?_)
      rw [decide_eq_false c1]; rfl
theorem l1Rising_ev (xs : List Int) (a b : Int) (hn : xs.length ≤ 35184372088832) : Ev (fun k => spec_l1Rising.f k xs a b) ((xs.all fun x => decide (a ≤ x ∧ x ≤ b)) && incr xs) := by
  unfold spec_l1Rising.f
  cases xs with
  | nil =>
    refine Ev.step (fun k => by rw [spec_l1Rising.l0]) ?_
    exact evNeg (by simp) (Ev.now _)
  | cons x t =>
    refine Ev.step (fun k => by rw [spec_l1Rising.l0]) ?_
    simp only [l1In_eq, Option.bind_some]
    refine evPos (by simp) (evPos (by omega) (evPos (by simp) ?_))
    have hx : rd (x :: t) 0 = x := rfl
    rw [hx]
    by_cases c1 : a ≤ x ∧ x ≤ b
    · refine evPos (by simpa using c1) (evNeg (by omega) ?_)
      rw [wr (by omega) (by omega)]
      refine evTo (l1Rising_l0 (x :: t) a b hn t.length 1 (by omega) (by simp; omega)) ?_
      rw [List.all_cons, decide_eq_true c1, Bool.true_and]
      simp [incr, rd]
    · refine evNeg (by simpa using c1) (evEq ?_)
      rw [List.all_cons, decide_eq_false c1]; rfl
/-! spec_raCombination -/
theorem raCombination_ev (n : Int) (l : List Int) (hn : l.length ≤ 35184372088832) : Ev (fun k => spec_raCombination.f k n l) (isComb n l) := by
  unfold spec_raCombination.f
  simp only [raItems_eq, Option.bind_some]
  by_cases h : 0 ≤ n ∧ n ≤ 12
  · refine evPos (by simpa using h) ?_
    rw [wr (by omega) (by omega), isComb, decide_eq_true h, Bool.true_and]
    by_cases c : (l.length : Int) ≤ n
    · refine evPos c (Ev.bind (l1Rising_ev l 0 (n - 1) hn) (evEq ?_))
      rw [comb_all]
    · refine evNeg c (evEq ?_)
      symm
      rw [Bool.eq_false_iff]
      intro hc
      obtain ⟨m, rfl⟩ := Int.eq_ofNat_of_zero_le h.1
      have := comb_length hc
      omega
  · refine evNeg (by simpa using h) (evEq ?_)
    rw [isComb, decide_eq_false h, Bool.false_and]
/-! spec_l1Has -/
theorem l1Has_l0 (x : Int) (xs : List Int) (hn : xs.length ≤ 35184372088832) : ∀ (d : Nat) (j : Int), 0 ≤ j → j.toNat + d = xs.length →
    Ev (fun k => spec_l1Has.l0 k x xs (xs.length : Int) j) (decide (x ∈ xs.drop j.toNat)) := by
  intro d
  induction d with
  | zero =>
    intro j h0 hd
    refine Ev.step (fun k => by rw [spec_l1Has.l0]) ?_
    refine evNeg (by omega) (evEq ?_)
    rw [drop_end _ _ (by omega)]; simp
  | succ d ih =>
    intro j h0 hd
    refine Ev.step (fun k => by rw [spec_l1Has.l0]) ?_
    refine evPos (by omega) (evPos (by omega) (evPos (by omega) ?_))
    rw [wr (by omega) (by omega), drop_rd xs j h0 (by omega)]
    by_cases c : rd xs j = x
    · exact evPos c (evEq (by simp [c]))
    · exact evNeg c (evTo (ih _ (by omega) (by omega)) (by simp [List.mem_cons, Ne.symm c]))
theorem l1Has_ev (xs : List Int) (x : Int) (hn : xs.length ≤ 35184372088832) : Ev (fun k => spec_l1Has.f k xs x) (decide (x ∈ xs)) := by
  unfold spec_l1Has.f
  exact evTo (l1Has_l0 x xs hn xs.length 0 (by omega) (by simp)) (by simp)
/-! spec_chMissing -/
theorem chMissing_l0 (b xs : List Int) (hn : xs.length ≤ 35184372088) (hb : b.length ≤ 35184372088832) : ∀ (d : Nat) (out : List Int) (j : Int), 0 ≤ j → j.toNat + d = xs.length → out.length ≤ j →
    Ev (fun k => spec_chMissing.l0 k b out xs (xs.length : Int) j) (out ++ (xs.drop j.toNat).filter (fun x => decide (x ∉ b))) := by
  intro d
  induction d with
  | zero =>
    intro out j h0 hd ho
    refine Ev.step (fun k => by rw [spec_chMissing.l0]) ?_
    refine evNeg (by omega) (evEq ?_)
    rw [drop_end _ _ (by omega)]; simp
  | succ d ih =>
    intro out j h0 hd ho
    refine Ev.step (fun k => by rw [spec_chMissing.l0]) ?_
    refine evPos (by omega) (evPos (by omega) (evPos (by omega) (Ev.bind (l1Has_ev b _ hb) ?_)))
    rw [wr (by omega) (by omega), drop_rd xs j h0 (by omega)]
    by_cases c : rd xs j ∈ b
    · exact evPos (by simpa using c) (evTo (ih _ _ (by omega) (by omega) (by omega)) (by simp [List.filter_cons, c]))
    · exact evNeg (by simpa using c) (evPos (by omega) (evTo (ih _ _ (by omega) (by omega) (by simp; omega)) (by simp [List.filter_cons, c])))
theorem chMissing_ev (xs b : List Int) (hn : xs.length ≤ 35184372088) (hb : b.length ≤ 35184372088832) : Ev (fun k => spec_chMissing.f k xs b) (missL xs b) := by
  unfold spec_chMissing.f
  exact evTo (chMissing_l0 b xs hn hb xs.length [] 0 (by omega) (by simp) (by simp)) (by simp [missL])
/-! spec_chExchange -/
theorem chExchange_ev (a b : List Int) (ha : a.length ≤ 35184372088) (hb : b.length ≤ 35184372088) : Ev (fun k => spec_chExchange.f k a b) (exchL a b) := by
  unfold spec_chExchange.f
  refine Ev.bind (chMissing_ev a b ha (by omega)) (Ev.bind (chMissing_ev b a hb (by omega)) ?_)
  by_cases c1 : ((missL a b).length : Int) = 1
  · refine evPos c1 ?_
    by_cases c2 : ((missL b a).length : Int) = 1
    · exact evPos c2 (evPos (by omega) (evPos (by omega) (evEq (by unfold exchL; rw [if_pos c1, if_pos c2]))))
    · exact evNeg c2 (evEq (by unfold exchL; rw [if_pos c1, if_neg c2]))
  · exact evNeg c1 (evEq (by unfold exchL; rw [if_neg c1]))
/-! spec_ExchangeOf -/
theorem spec_ExchangeOf_ev (n : Int) (a b : List Int) (ha : a.length ≤ 35184372088) (hb : b.length ≤ 35184372088) :
    Ev (fun k => spec_ExchangeOf.f k n a b) (if isComb n a = true ∧ isComb n b = true ∧ a.length = b.length then exchL a b else (0, 0, false)) := by
  unfold spec_ExchangeOf.f
  refine Ev.bind (raCombination_ev n a (by omega)) ?_
  by_cases c1 : isComb n a = true
  · refine evPos c1 (Ev.bind (raCombination_ev n b (by omega)) ?_)
    by_cases c2 : isComb n b = true
    · refine evPos c2 ?_
      by_cases c3 : a.length = b.length
      · rw [if_pos ⟨c1, c2, c3⟩]; exact evPos (by omega) (Ev.bind (chExchange_ev a b ha hb) (Ev.now _))
      · rw [if_neg (fun h => c3 h.2.2)]; exact evNeg (by omega) (Ev.now _)
    · rw [if_neg (fun h => c2 h.2.1)]; exact evNeg c2 (Ev.now _)
  · rw [if_neg (fun h => c1 h.1)]; exact evNeg c1 (Ev.now _)
/-! impl_within -/
theorem within_eq (x a b : Int) : impl_within.f x a b = some (decide (a ≤ x ∧ x ≤ b)) := by
  unfold impl_within.f
  by_cases h : x ≥ a
  · rw [if_pos h]; have h' : a ≤ x := h; simp [h']
  · rw [if_neg h]; have h' : ¬ a ≤ x := h; simp [h']
/-! impl_allWithin -/
theorem allWithin_l0 (a b : Int) (xs : List Int) (hn : xs.length ≤ 35184372088832) : ∀ (d : Nat) (j : Int), 0 ≤ j → j.toNat + d = xs.length →
    Ev (fun k => impl_allWithin.l0 k a b xs (xs.length : Int) j) ((xs.drop j.toNat).all fun x => decide (a ≤ x ∧ x ≤ b)) := by
  intro d
  induction d with
  | zero =>
    intro j h0 hd
    refine Ev.step (fun k => by rw [impl_allWithin.l0]) ?_
    refine evNeg (by omega) (evEq ?_)
    rw [drop_end _ _ (by omega)]; rfl
  | succ d ih =>
    intro j h0 hd
    refine Ev.step (fun k => by rw [impl_allWithin.l0]) ?_
    refine evPos (by omega) (evPos (by omega) (evPos (by omega) ?_))
    simp only [within_eq, Option.bind_some]
    rw [wr (by omega) (by omega), drop_rd xs j h0 (by omega), List.all_cons]
    by_cases c : a ≤ rd xs j ∧ rd xs j ≤ b
    · exact evPos (by simpa using c) (evTo (ih _ (by omega) (by omega)) (by simp [c]))
    · exact evNeg (by simpa using c) (evEq (by rw [decide_eq_false c]; rfl))
theorem allWithin_ev (xs : List Int) (a b : Int) (hn : xs.length ≤ 35184372088832) : Ev (fun k => impl_allWithin.f k xs a b) (xs.all fun x => decide (a ≤ x ∧ x ≤ b)) := by
  unfold impl_allWithin.f
  exact evTo (allWithin_l0 a b xs hn xs.length 0 (by omega) (by simp)) (by simp)
/-! impl_increasing -/
theorem increasing_l0 (xs : List Int) (hn : xs.length ≤ 35184372088832) : ∀ (d : Nat) (j : Int), 1 ≤ j → j.toNat + d = xs.length →
    Ev (fun k => impl_increasing.l0 k xs j) (incrFrom (rd xs (j - 1) + 1) (xs.drop j.toNat)) := by
  intro d
  induction d with
  | zero =>
    intro j h0 hd
    refine Ev.step (fun k => by rw [impl_increasing.l0]) ?_
    refine evNeg (by omega) (evEq ?_)
    rw [drop_end _ _ (by omega)]; rfl
  | succ d ih =>
    intro j h0 hd
    refine Ev.step (fun k => by rw [impl_increasing.l0]) ?_
    rw [wr (x := j - 1) (by omega) (by omega), wr (x := j + 1) (by omega) (by omega), drop_rd xs j (by omega) (by omega)]
    refine evPos (by omega) (evPos (by omega) (evPos (by omega) (evPos (by omega) ?_)))
    by_cases c : rd xs (j - 1) ≥ rd xs j
    · refine evPos c (evEq ?_)
      simp only [incrFrom]
      rw [decide_eq_false (by omega)]; rfl
    · refine evNeg c (evTo (ih (j + 1) (by omega) (by omega)) ?_)
      simp only [incrFrom]
      rw [decide_eq_true (by omega), Bool.true_and, show j + 1 - 1 = j from by omega]
theorem increasing_ev (xs : List Int) (hn : xs.length ≤ 35184372088832) : Ev (fun k => impl_increasing.f k xs) (incr xs) := by
  unfold impl_increasing.f
  cases xs with
  | nil =>
    refine Ev.step (fun k => by rw [impl_increasing.l0]) ?_
    exact evNeg (by simp) (Ev.now _)
  | cons x t =>
    refine evTo (increasing_l0 (x :: t) hn t.length 1 (by omega) (by simp; omega)) ?_
    simp [incr, rd]
/-! impl_IsCombination -/
theorem IsCombination_ev (n : Int) (l : List Int) (hn : l.length ≤ 35184372088832) : Ev (fun k => impl_IsCombination.f k n l) (isComb n l) := by
  unfold impl_IsCombination.f
  simp only [within_eq, Option.bind_some]
  by_cases h : 0 ≤ n ∧ n ≤ 12
  · refine evPos (by simpa using h) ?_
    rw [wr (by omega) (by omega)]
    refine Ev.bind (allWithin_ev l 0 (n - 1) hn) ?_
    rw [isComb, decide_eq_true h, Bool.true_and, ← comb_all]
    by_cases c : (l.all fun x => decide (0 ≤ x ∧ x ≤ n - 1)) = true
    · refine evPos c (Ev.bind (increasing_ev l hn) (evEq ?_))
      rw [c, Bool.true_and]
    · refine evNeg c (evEq ?_)
      rw [Bool.eq_false_iff.2 c, Bool.false_and]
  · refine evNeg (by simpa using h) (evEq ?_)
    rw [isComb, decide_eq_false h, Bool.false_and]
/-! slices_Index_int_int -/
theorem Index_l0 (x : Int) (xs : List Int) (hn : xs.length ≤ 35184372088832) : ∀ (d : Nat) (j : Int), 0 ≤ j → j.toNat + d = xs.length →
    Ev (fun k => slices_Index_int_int.l0 k xs x (xs.length : Int) j) (findI x j (xs.drop j.toNat)) := by
  intro d
  induction d with
  | zero =>
    intro j h0 hd
    refine Ev.step (fun k => by rw [slices_Index_int_int.l0]) ?_
    refine evNeg (by omega) (evEq ?_)
    rw [drop_end _ _ (by omega)]; rfl
  | succ d ih =>
    intro j h0 hd
    refine Ev.step (fun k => by rw [slices_Index_int_int.l0]) ?_
    refine evPos (by omega) (evPos (by omega) (evPos (by omega) ?_))
    rw [wr (by omega) (by omega), drop_rd xs j h0 (by omega), findI]
    by_cases c : x = rd xs j
    · rw [if_pos c]; exact evPos c (Ev.now _)
    · rw [if_neg c]; exact evNeg c (ih _ (by omega) (by omega))
theorem Index_ev (xs : List Int) (x : Int) (hn : xs.length ≤ 35184372088832) : Ev (fun k => slices_Index_int_int.f k xs x) (findI x 0 xs) := by
  unfold slices_Index_int_int.f
  exact evTo (Index_l0 x xs hn xs.length 0 (by omega) (by simp)) (by simp)
/-! slices_Contains_int_int -/
theorem Contains_ev (xs : List Int) (x : Int) (hn : xs.length ≤ 35184372088832) : Ev (fun k => slices_Contains_int_int.f k xs x) (decide (x ∈ xs)) := by
  unfold slices_Contains_int_int.f
  refine Ev.bind (Index_ev xs x hn) (evEq ?_)
  have := findI_mem x xs 0 (by omega)
  by_cases c : x ∈ xs
  · rw [decide_eq_true c]; exact decide_eq_true (this.2 c)
  · rw [decide_eq_false c]; exact decide_eq_false (fun h => c (this.1 h))
/-! impl_missing -/
theorem missing_l0 (b xs : List Int) (hn : xs.length ≤ 35184372088) (hb : b.length ≤ 35184372088832) : ∀ (d : Nat) (out : List Int) (j : Int), 0 ≤ j → j.toNat + d = xs.length → out.length ≤ j →
    Ev (fun k => impl_missing.l0 k b out xs (xs.length : Int) j) (out ++ (xs.drop j.toNat).filter (fun x => decide (x ∉ b))) := by
  intro d
  induction d with
  | zero =>
    intro out j h0 hd ho
    refine Ev.step (fun k => by rw [impl_missing.l0]) ?_
    refine evNeg (by omega) (evEq ?_)
    rw [drop_end _ _ (by omega)]; simp
  | succ d ih =>
    intro out j h0 hd ho
    refine Ev.step (fun k => by rw [impl_missing.l0]) ?_
    refine evPos (by omega) (evPos (by omega) (evPos (by omega) (Ev.bind (Contains_ev b _ hb) ?_)))
    rw [wr (by omega) (by omega), drop_rd xs j h0 (by omega)]
    by_cases c : rd xs j ∈ b
    · exact evPos (by simpa using c) (evTo (ih _ _ (by omega) (by omega) (by omega)) (by simp [List.filter_cons, c]))
    · exact evNeg (by simpa using c) (evPos (by omega) (evTo (ih _ _ (by omega) (by omega) (by simp; omega)) (by simp [List.filter_cons, c])))
theorem missing_ev (xs b : List Int) (hn : xs.length ≤ 35184372088) (hb : b.length ≤ 35184372088832) : Ev (fun k => impl_missing.f k xs b) (missL xs b) := by
  unfold impl_missing.f
  exact evTo (missing_l0 b xs hn hb xs.length [] 0 (by omega) (by simp) (by simp)) (by simp [missL])
/-! impl_exchange -/
theorem exchange_ev (a b : List Int) (ha : a.length ≤ 35184372088) (hb : b.length ≤ 35184372088) : Ev (fun k => impl_exchange.f k a b) (exchL a b) := by
  unfold impl_exchange.f
  refine Ev.bind (missing_ev a b ha (by omega)) (Ev.bind (missing_ev b a hb (by omega)) ?_)
  by_cases c1 : ((missL a b).length : Int) = 1
  · refine evPos c1 ?_
    by_cases c2 : ((missL b a).length : Int) = 1
    · exact evPos c2 (evPos (by omega) (evPos (by omega) (evEq (by unfold exchL; rw [if_pos c1, if_pos c2]))))
    · exact evNeg c2 (evEq (by unfold exchL; rw [if_pos c1, if_neg c2]))
  · exact evNeg c1 (evEq (by unfold exchL; rw [if_neg c1]))
/-! impl_ExchangeOf -/
theorem ExchangeOf_ev (n : Int) (a b : List Int) (ha : a.length ≤ 35184372088) (hb : b.length ≤ 35184372088) :
    Ev (fun k => impl_ExchangeOf.f k n a b) (if isComb n a = true ∧ isComb n b = true ∧ a.length = b.length then exchL a b else (0, 0, false)) := by
  unfold impl_ExchangeOf.f
  refine Ev.bind (IsCombination_ev n a (by omega)) ?_
  by_cases c1 : isComb n a = true
  · refine evPos c1 (Ev.bind (IsCombination_ev n b (by omega)) ?_)
    by_cases c2 : isComb n b = true
    · refine evPos c2 ?_
      by_cases c3 : a.length = b.length
      · rw [if_pos ⟨c1, c2, c3⟩]; exact evPos (by omega) (Ev.bind (exchange_ev a b ha hb) (Ev.now _))
      · rw [if_neg (fun h => c3 h.2.2)]; exact evNeg (by omega) (Ev.now _)
    · rw [if_neg (fun h => c2 h.2.1)]; exact evNeg c2 (Ev.now _)
  · rw [if_neg (fun h => c1 h.1)]; exact evNeg c1 (Ev.now _)
theorem FnExactExchangeOf : laws_FnExactExchangeOf.Pure := by
  intro n a b wn _ ha8 _ _ hb8 _
  refine Ev.rounds (g := fun q => laws_FnExactExchangeOf.f q n a b) ?_
  unfold laws_FnExactExchangeOf.f
  by_cases hbig : (a.length : Int) > 1048576
  · exact evPos hbig (Ev.now _)
  refine evNeg hbig ?_
  by_cases hbig2 : (b.length : Int) > 1048576
  · exact evPos hbig2 (Ev.now _)
  refine evNeg hbig2 ?_
  have hs := spec_ExchangeOf_ev n a b (by omega) (by omega)
  have hi := ExchangeOf_ev n a b (by omega) (by omega)
  generalize (if isComb n a = true ∧ isComb n b = true ∧ a.length = b.length then exchL a b else (0, 0, false)) = r at hs hi
  obtain ⟨r1, r2, r3⟩ := r
  repeat (first
    | (with_reducible exact Ev.now _)
    | (with_reducible refine Ev.bind hs ?_)
    | (with_reducible refine Ev.bind hi ?_)
    | (with_reducible refine Ev.bind (toIntS_ev _ (by omega)) ?_)
    | (with_reducible refine Ev.bind (eqIntS_self _ (by omega)) ?_)
    | (with_reducible refine Ev.bind (markIntS_ev _ 1 (by omega) (by omega) (by omega)) ?_)
    | (with_reducible refine Ev.bind (heldIntS_ev _ 1 (by omega) (by omega) (by omega)) ?_)
    | (with_reducible refine evPos rfl ?_)
    | (with_reducible refine evNeg (by omega) ?_)
    | (rw [bne_self_eq_false])
    | (simp only [bne_self_eq_false])
    | (refine evNeg (by decide) ?_)
    | (refine Ev.step (fun k => by rw [laws_FnExactExchangeOf.j0]) ?_)
    | (refine Ev.step (fun k => by rw [laws_FnExactExchangeOf.j1]) ?_)
    | (refine Ev.step (fun k => by rw [laws_FnExactExchangeOf.j2]) ?_))

end Go.Proofs.Ytcohdpmdgplgfaa.Pure
