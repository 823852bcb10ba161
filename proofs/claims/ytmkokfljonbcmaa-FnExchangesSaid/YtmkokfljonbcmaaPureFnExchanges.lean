import Derived.Test.YtmkokfljonbcmaaMFnExchangesx1
import Derived.Test.YtmkokfljonbcmaaMFnExchangesx2
import Derived.Test.YtmkokfljonbcmaaMFnExchangesx3
import Derived.Test.YtmkokfljonbcmaaMFnExchangesx4
import Derived.Test.YtmkokfljonbcmaaMFnExchangesx5
import Derived.Test.YtmkokfljonbcmaaMFnExchangesx6
import Derived.Test.YtmkokfljonbcmaaMFnExchangesx7
import Derived.Test.YtmkokfljonbcmaaMFnExchangesx8
import Derived.Test.YtmkokfljonbcmaaMFnExchangesx9
import Derived.Test.YtmkokfljonbcmaaMFnExchangesx10
import Derived.Test.YtmkokfljonbcmaaMFnExchangesx11
import Derived.Test.YtmkokfljonbcmaaMFnExchangesx12
import Derived.Test.YtmkokfljonbcmaaMFnExchangesx13
import Derived.Test.YtmkokfljonbcmaaMFnExchangesx14
import Derived.Test.YtmkokfljonbcmaaBase
import Derived.Test.YtmkokfljonbcmaaComb
import Derived.Test.YtmkokfljonbcmaaGoes
import Derived.Test.YtmkokfljonbcmaaRevX
namespace Go.Proofs.Ytmkokfljonbcmaa.Pure
open Go.RowKit Go.Proofs.Ytmkokfljonbcmaa.MFnExchanges Go.Proofs.YtmkokfljonbcmaaW.PrintWords Go.Proofs.YtmkokfljonbcmaaW.PrintLast Go.Proofs.Ytmkokfljonbcmaa.Base Go.Proofs.Ytmkokfljonbcmaa.Comb Go.Proofs.Ytmkokfljonbcmaa.Goes Go.Proofs.Ytmkokfljonbcmaa.RevX
set_option linter.unusedVariables false
set_option linter.unusedSimpArgs false
theorem big_eq (a b : List Int) : ∃ t, laws_big.f a b = some t ∧ (t = false → a.length ≤ 1048576 ∧ b.length ≤ 1048576) := by
  unfold laws_big.f
  by_cases c : (a.length : Int) > 1048576
  · exact ⟨true, by rw [if_pos c], fun h => by cases h⟩
  · rw [if_neg c, wr (by omega) (by omega)]
    exact ⟨_, rfl, fun h => by have := of_decide_eq_false h; omega⟩
theorem uSame_l0 (a : List Int) (hn : a.length ≤ 35184372088832) : ∀ (d : Nat) (j : Int), 0 ≤ j → j.toNat + d = a.length → Ev (fun k => laws_uSame.l0 k a a (a.length : Int) j) true := by
  intro d
  induction d with
  | zero =>
    intro j h0 hd
    refine Ev.step (fun k => by rw [laws_uSame.l0]) ?_
    exact evNeg (by omega) (Ev.now _)
  | succ d ih =>
    intro j h0 hd
    refine Ev.step (fun k => by rw [laws_uSame.l0]) ?_
    refine evPos (by omega) (evPos (by omega) (evPos (by omega) (evPos (by omega) (evPos rfl ?_))))
    rw [wr (by omega) (by omega)]
    exact ih _ (by omega) (by omega)
theorem uSame_self (a : List Int) (hn : a.length ≤ 35184372088832) : Ev (fun k => laws_uSame.f k a a) true := by
  unfold laws_uSame.f
  exact evPos rfl (uSame_l0 a hn a.length 0 (by omega) (by simp))
theorem uLists_self (L : List (List Int)) (hn : L.length ≤ 1000000000) (hl : ∀ t ∈ L, t.length ≤ 35184372088832) : Ev (fun k => laws_uLists.f k L L) true := by
  have key : ∀ (d : Nat) (j : Int), 0 ≤ j → j.toNat + d = L.length → Ev (fun k => laws_uLists.l0 k L L (L.length : Int) j) true := by
    intro d
    induction d with
    | zero =>
      intro j h0 hd
      refine Ev.step (fun k => by rw [laws_uLists.l0]) ?_
      exact evNeg (by omega) (Ev.now _)
    | succ d ih =>
      intro j h0 hd
      refine Ev.step (fun k => by rw [laws_uLists.l0]) ?_
      have hm : rd_L2 L j ∈ L := by
        unfold rd_L2
        rw [List.getD_eq_getElem?_getD, List.getElem?_eq_getElem (show j.toNat < L.length by omega)]
        exact List.getElem_mem _
      refine evPos (by omega) (evPos (by omega) (evPos (by omega) (evPos (by omega) (Ev.bind (uSame_self _ (hl _ hm)) (evPos rfl ?_)))))
      rw [wr (by omega) (by omega)]
      exact ih _ (by omega) (by omega)
  unfold laws_uLists.f
  exact evPos rfl (key L.length 0 (by omega) (by simp))
theorem within_eq (x a b : Int) : impl_within.f x a b = some (decide (a ≤ x ∧ x ≤ b)) := by
  unfold impl_within.f
  by_cases h : x ≥ a
  · rw [if_pos h]; have h' : a ≤ x := h; simp [h']
  · rw [if_neg h]; have h' : ¬ a ≤ x := h; simp [h']
theorem isChoice_eq (n k : Int) : impl_isChoice.f n k = some (decide (0 ≤ n ∧ n ≤ 12 ∧ 0 ≤ k ∧ k ≤ n)) := by
  unfold impl_isChoice.f
  simp only [within_eq, Option.bind_some]
  by_cases h : 0 ≤ n ∧ n ≤ 12
  · rw [if_pos (by simpa using h)]; simp [h]
  · rw [if_neg (by simpa using h)]; congr 1; exact (decide_eq_false (by omega)).symm
theorem allWithin_l0 (a b : Int) (xs : List Int) (hn : xs.length ≤ 35184372088832) : ∀ (d : Nat) (j : Int), 0 ≤ j → j.toNat + d = xs.length →
    Ev (fun k => impl_allWithin.l0 k a b xs (xs.length : Int) j) ((xs.drop j.toNat).all fun x => decide (a ≤ x ∧ x ≤ b)) := by
  intro d
  induction d with
  | zero =>
    intro j h0 hd
    refine Ev.step (fun k => by rw [impl_allWithin.l0]) ?_
    refine evNeg (by omega) (evEq ?_)
    rw [drop_end _ _ (by omega)]; rfl
  | succ d ih =>
    intro j h0 hd
    refine Ev.step (fun k => by rw [impl_allWithin.l0]) ?_
    refine evPos (by omega) (evPos (by omega) (evPos (by omega) ?_))
    simp only [within_eq, Option.bind_some]
    rw [wr (by omega) (by omega), drop_rd xs j h0 (by omega), List.all_cons]
    by_cases c : a ≤ rd xs j ∧ rd xs j ≤ b
    · exact evPos (by simpa using c) (evTo (ih _ (by omega) (by omega)) (by simp [c]))
    · exact evNeg (by simpa using c) (evEq (by rw [decide_eq_false c]; rfl))
theorem allWithin_ev (xs : List Int) (a b : Int) (hn : xs.length ≤ 35184372088832) : Ev (fun k => impl_allWithin.f k xs a b) (xs.all fun x => decide (a ≤ x ∧ x ≤ b)) := by
  unfold impl_allWithin.f
  exact evTo (allWithin_l0 a b xs hn xs.length 0 (by omega) (by simp)) (by simp)
theorem increasing_l0 (xs : List Int) (hn : xs.length ≤ 35184372088832) : ∀ (d : Nat) (j : Int), 1 ≤ j → j.toNat + d = xs.length →
    Ev (fun k => impl_increasing.l0 k xs j) (incrFrom (rd xs (j - 1) + 1) (xs.drop j.toNat)) := by
  intro d
  induction d with
  | zero =>
    intro j h0 hd
    refine Ev.step (fun k => by rw [impl_increasing.l0]) ?_
    refine evNeg (by omega) (evEq ?_)
    rw [drop_end _ _ (by omega)]; rfl
  | succ d ih =>
    intro j h0 hd
    refine Ev.step (fun k => by rw [impl_increasing.l0]) ?_
    rw [wr (x := j - 1) (by omega) (by omega), wr (x := j + 1) (by omega) (by omega), drop_rd xs j (by omega) (by omega)]
    refine evPos (by omega) (evPos (by omega) (evPos (by omega) (evPos (by omega) ?_)))
    by_cases c : rd xs (j - 1) ≥ rd xs j
    · refine evPos c (evEq ?_)
      simp only [incrFrom]
      rw [decide_eq_false (by omega)]; rfl
    · refine evNeg c (evTo (ih (j + 1) (by omega) (by omega)) ?_)
      simp only [incrFrom]
      rw [decide_eq_true (by omega), Bool.true_and, show j + 1 - 1 = j from by omega]
theorem increasing_ev (xs : List Int) (hn : xs.length ≤ 35184372088832) : Ev (fun k => impl_increasing.f k xs) (incr xs) := by
  unfold impl_increasing.f
  cases xs with
  | nil =>
    refine Ev.step (fun k => by rw [impl_increasing.l0]) ?_
    exact evNeg (by simp) (Ev.now _)
  | cons x t =>
    refine evTo (increasing_l0 (x :: t) hn t.length 1 (by omega) (by simp; omega)) ?_
    simp [incr, rd]
theorem IsCombination_ev (n : Int) (l : List Int) (hn : l.length ≤ 35184372088832) : Ev (fun k => impl_IsCombination.f k n l) (isComb n l) := by
  unfold impl_IsCombination.f
  simp only [within_eq, Option.bind_some]
  by_cases h : 0 ≤ n ∧ n ≤ 12
  · refine evPos (by simpa using h) ?_
    rw [wr (by omega) (by omega)]
    refine Ev.bind (allWithin_ev l 0 (n - 1) hn) ?_
    rw [isComb, decide_eq_true h, Bool.true_and, ← comb_all]
    by_cases c : (l.all fun x => decide (0 ≤ x ∧ x ≤ n - 1)) = true
    · refine evPos c (Ev.bind (increasing_ev l hn) (evEq ?_))
      rw [c, Bool.true_and]
    · refine evNeg c (evEq ?_)
      rw [Bool.eq_false_iff.2 c, Bool.false_and]
  · refine evNeg (by simpa using h) (evEq ?_)
    rw [isComb, decide_eq_false h, Bool.false_and]
theorem areCombinations_l0 (n : Int) (L : List (List Int)) (hL : L.length ≤ 1048576) (hl : ∀ t ∈ L, t.length ≤ 1048576) : ∀ (d : Nat) (j : Int), 0 ≤ j → j.toNat + d = L.length →
    Ev (fun k => impl_areCombinations.l0 k n L L (L.length : Int) j) (((L.drop j.toNat).all fun l => isComb n l) && (decide (0 ≤ n ∧ n ≤ 12) && decide ((L.length : Int) ≤ 1100))) := by
  intro d
  induction d with
  | zero =>
    intro j h0 hd
    refine Ev.step (fun k => by rw [impl_areCombinations.l0]) ?_
    refine evNeg (by omega) ?_
    rw [drop_end L j (by omega), within_eq, Option.bind_some, List.all_nil, Bool.true_and]
    by_cases c : 0 ≤ n ∧ n ≤ 12
    · rw [decide_eq_true c]; exact evPos rfl (evEq (by simp))
    · rw [decide_eq_false c]; exact evNeg (by simp) (evEq (by simp))
  | succ d ih =>
    intro j h0 hd
    have hj : j.toNat < L.length := by omega
    have e : rd_L2 L j = L[j.toNat] := by unfold rd_L2; rw [List.getD_eq_getElem?_getD, List.getElem?_eq_getElem hj]; rfl
    have ed : L.drop j.toNat = L[j.toNat] :: L.drop (j + 1).toNat := by
      rw [show (j + 1).toNat = j.toNat + 1 from by omega]; exact List.drop_eq_getElem_cons hj
    refine Ev.step (fun k => by rw [impl_areCombinations.l0]) ?_
    refine evPos (by omega) (evPos h0 (evPos (by omega) ?_))
    rw [e, wr (by omega) (by omega), ed, List.all_cons]
    refine Ev.bind (IsCombination_ev n _ (by have := hl _ (List.getElem_mem hj); omega)) ?_
    by_cases c2 : isComb n L[j.toNat] = true
    · refine evPos c2 (evTo (ih (j + 1) (by omega) (by omega)) ?_)
      rw [c2]; simp
    · refine evNeg c2 (evEq ?_)
      simp only [Bool.not_eq_true] at c2
      rw [c2]; simp
theorem areCombinations_ev (n : Int) (L : List (List Int)) (hL : L.length ≤ 1048576) (hl : ∀ t ∈ L, t.length ≤ 1048576) : Ev (fun k => impl_areCombinations.f k n L) (okCombs n L) := by
  unfold impl_areCombinations.f
  exact evTo (areCombinations_l0 n L hL hl L.length 0 (by omega) (by simp)) (by simp [okCombs])
theorem Index_l0 (x : Int) (xs : List Int) (hn : xs.length ≤ 35184372088832) : ∀ (d : Nat) (j : Int), 0 ≤ j → j.toNat + d = xs.length →
    Ev (fun k => slices_Index_int_int.l0 k xs x (xs.length : Int) j) (findI x j (xs.drop j.toNat)) := by
  intro d
  induction d with
  | zero =>
    intro j h0 hd
    refine Ev.step (fun k => by rw [slices_Index_int_int.l0]) ?_
    refine evNeg (by omega) (evEq ?_)
    rw [drop_end _ _ (by omega)]; rfl
  | succ d ih =>
    intro j h0 hd
    refine Ev.step (fun k => by rw [slices_Index_int_int.l0]) ?_
    refine evPos (by omega) (evPos (by omega) (evPos (by omega) ?_))
    rw [wr (by omega) (by omega), drop_rd xs j h0 (by omega), findI]
    by_cases c : x = rd xs j
    · rw [if_pos c]; exact evPos c (Ev.now _)
    · rw [if_neg c]; exact evNeg c (ih _ (by omega) (by omega))
theorem Index_ev (xs : List Int) (x : Int) (hn : xs.length ≤ 35184372088832) : Ev (fun k => slices_Index_int_int.f k xs x) (findI x 0 xs) := by
  unfold slices_Index_int_int.f
  exact evTo (Index_l0 x xs hn xs.length 0 (by omega) (by simp)) (by simp)
theorem Contains_ev (xs : List Int) (x : Int) (hn : xs.length ≤ 35184372088832) : Ev (fun k => slices_Contains_int_int.f k xs x) (decide (x ∈ xs)) := by
  unfold slices_Contains_int_int.f
  refine Ev.bind (Index_ev xs x hn) (evEq ?_)
  have := findI_mem x xs 0 (by omega)
  by_cases c : x ∈ xs
  · rw [decide_eq_true c]; exact decide_eq_true (this.2 c)
  · rw [decide_eq_false c]; exact decide_eq_false (fun h => c (this.1 h))
theorem missing_l0 (b xs : List Int) (hn : xs.length ≤ 35184372088) (hb : b.length ≤ 35184372088832) : ∀ (d : Nat) (out : List Int) (j : Int), 0 ≤ j → j.toNat + d = xs.length → out.length ≤ j →
    Ev (fun k => impl_missing.l0 k b out xs (xs.length : Int) j) (out ++ (xs.drop j.toNat).filter (fun x => decide (x ∉ b))) := by
  intro d
  induction d with
  | zero =>
    intro out j h0 hd ho
    refine Ev.step (fun k => by rw [impl_missing.l0]) ?_
    refine evNeg (by omega) (evEq ?_)
    rw [drop_end _ _ (by omega)]; simp
  | succ d ih =>
    intro out j h0 hd ho
    refine Ev.step (fun k => by rw [impl_missing.l0]) ?_
    refine evPos (by omega) (evPos (by omega) (evPos (by omega) (Ev.bind (Contains_ev b _ hb) ?_)))
    rw [wr (by omega) (by omega), drop_rd xs j h0 (by omega)]
    by_cases c : rd xs j ∈ b
    · exact evPos (by simpa using c) (evTo (ih _ _ (by omega) (by omega) (by omega)) (by simp [List.filter_cons, c]))
    · exact evNeg (by simpa using c) (evPos (by omega) (evTo (ih _ _ (by omega) (by omega) (by simp; omega)) (by simp [List.filter_cons, c])))
theorem missing_ev (xs b : List Int) (hn : xs.length ≤ 35184372088) (hb : b.length ≤ 35184372088832) : Ev (fun k => impl_missing.f k xs b) (missL xs b) := by
  unfold impl_missing.f
  exact evTo (missing_l0 b xs hn hb xs.length [] 0 (by omega) (by simp) (by simp)) (by simp [missL])
theorem exchange_ev (a b : List Int) (ha : a.length ≤ 35184372088) (hb : b.length ≤ 35184372088) : Ev (fun k => impl_exchange.f k a b) (exchL a b) := by
  unfold impl_exchange.f
  refine Ev.bind (missing_ev a b ha (by omega)) (Ev.bind (missing_ev b a hb (by omega)) ?_)
  by_cases c1 : ((missL a b).length : Int) = 1
  · refine evPos c1 ?_
    by_cases c2 : ((missL b a).length : Int) = 1
    · exact evPos c2 (evPos (by omega) (evPos (by omega) (evEq (by unfold exchL; rw [if_pos c1, if_pos c2]))))
    · exact evNeg c2 (evEq (by unfold exchL; rw [if_pos c1, if_neg c2]))
  · exact evNeg c1 (evEq (by unfold exchL; rw [if_neg c1]))
theorem binomial_tab : ((List.range 13).all fun n => (List.range 13).all fun k => impl_binomial.f 20 (n : Int) (k : Int) == some (C n k : Int)) = true := by decide +kernel
theorem binomial_ev (n k : Nat) (hn : n ≤ 12) (hk : k ≤ 12) : Ev (fun r => impl_binomial.f r (n : Int) (k : Int)) (C n k : Int) := by
  refine evTab (g := fun r => impl_binomial.f r (n : Int) (k : Int)) (impl_binomial.mono _ _) 20 ?_
  have h := List.all_eq_true.1 (List.all_eq_true.1 binomial_tab n (List.mem_range.2 (by omega))) k (List.mem_range.2 (by omega))
  exact beq_iff_eq.1 h
theorem combinationRank_l1 (n : Nat) (hn : n ≤ 12) (l : List Int) (hl : l.length ≤ 12) : ∀ (m : Nat) (rank fr : Int) (j : Nat) (hj : j < l.length), 0 ≤ fr → fr + m = n → incrFrom fr (l.drop j) = true → (∀ y ∈ l.drop j, y < (n : Int)) → 0 ≤ rank → rank + 4096 * m ≤ 100000 →
    Ev (fun q => impl_combinationRank.l1 q (n : Int) l rank fr (j : Int) (rd l (j : Int)) l (l.length : Int) (j : Int)) (rank + (lexI m fr (l.drop j) : Nat)) := by
  intro m
  induction m with
  | zero =>
    intro rank fr j hj h0 hm hi hb _ _
    rw [List.drop_eq_getElem_cons hj] at hi hb
    have h1 := incrFrom_ge _ _ hi _ (List.mem_cons_self ..)
    have h2 := hb _ (List.mem_cons_self ..)
    omega
  | succ m ih =>
    intro rank fr j hj h0 hm hi hb hr1 hr2
    have hd := List.drop_eq_getElem_cons hj
    have e : rd l (j : Int) = l[j] := rd_get l (j : Int) (by simpa using hj)
    have hC := C_le12 m (l.length - j - 1) (by omega)
    rw [hd] at hi hb
    have hge := incrFrom_ge _ _ hi _ (List.mem_cons_self ..)
    have hi2 := hi
    simp only [incrFrom, Bool.and_eq_true, decide_eq_true_eq] at hi2
    refine Ev.step (fun q => by rw [impl_combinationRank.l1]) ?_
    rw [e, hd, lexI]
    by_cases c : fr < l[j]
    · rw [if_neg (by omega)]
      refine evPos c ?_
      have hbin := binomial_ev m (l.length - j - 1) (by omega) (by omega)
      rw [wr (x := (n : Int) - fr) (by omega) (by omega), wr (by omega) (by omega), wr (x := (l.length : Int) - (j : Int)) (by omega) (by omega), wr (x := (l.length : Int) - (j : Int) - 1) (by omega) (by omega), show (n : Int) - fr - 1 = (m : Int) from by omega, show (l.length : Int) - (j : Int) - 1 = ((l.length - j - 1 : Nat) : Int) from by omega]
      refine Ev.bind hbin ?_
      rw [wr (by omega) (by omega), wr (by omega) (by omega)]
      have h := ih (rank + (C m (l.length - j - 1) : Nat)) (fr + 1) j hj (by omega) (by omega) (by rw [hd]; simp only [incrFrom, Bool.and_eq_true, decide_eq_true_eq]; exact ⟨by omega, hi2.2⟩) (by rw [hd]; exact hb) (by omega) (by omega)
      rw [e, hd] at h
      refine evTo h ?_
      rw [show (l.drop (j + 1)).length = l.length - j - 1 from by rw [List.length_drop]; omega]
      omega
    · have ef : l[j] = fr := by omega
      rw [if_pos ef]
      refine evNeg c (Ev.step (fun q => by rw [impl_combinationRank.l0]) ?_)
      rw [wr (by omega) (by omega), wr (by omega) (by omega)]
      by_cases c2 : j + 1 < l.length
      · refine evPos (by omega) (evPos (by omega) (evPos (by omega) ?_))
        have h := ih rank (fr + 1) (j + 1) c2 (by omega) (by omega) (by rw [← ef]; exact hi2.2) (fun y hy => hb y (List.mem_cons_of_mem _ hy)) hr1 (by omega)
        rw [show ((j + 1 : Nat) : Int) = (j : Int) + 1 from by omega] at h
        exact h
      · refine evNeg (by omega) (evEq ?_)
        rw [List.drop_of_length_le (by omega)]
        cases m <;> simp [lexI]
theorem combinationRank_ev (n : Nat) (hn : n ≤ 12) (l : List Int) (h : comb n l = true) : Ev (fun q => impl_combinationRank.f q (n : Int) l) ((lexI n 0 l : Nat) : Int) := by
  have hl := comb_length h
  have hb := comb_bound h
  simp only [comb, Bool.and_eq_true] at h
  unfold impl_combinationRank.f
  refine Ev.step (fun q => by rw [impl_combinationRank.l0]) ?_
  by_cases c : 0 < l.length
  · refine evPos (by omega) (evPos (by omega) (evPos (by omega) ?_))
    have := combinationRank_l1 n hn l (by omega) n 0 0 0 c (by omega) (by omega) (by simpa using h.1) (fun y hy => (hb y (by simpa using hy)).2) (by omega) (by omega)
    refine evTo this (by simp)
  · refine evNeg (by omega) (evEq ?_)
    rw [List.length_eq_zero_iff.1 (by omega : l.length = 0)]
    cases n <;> simp [lexI]
theorem IsAdjacent_g0 (n kk : Nat) (hn : n ≤ 12) (hk : kk ≤ n) (may : Int → Int → Bool) (hmay : ∀ x y, 0 ≤ x → x < 12 → 0 ≤ y → y < 12 → impl_adjacent.f x y = some (may x y)) (L : List (List Int)) (hL : L.length ≤ 1100) (hl : ∀ t ∈ L, comb n t = true) : ∀ (d : Nat) (i : Nat) (met : List Int), i + d = L.length → met.length ≤ i →
    Ev (fun q => impl_IsAdjacentList.g0 q (n : Int) (kk : Int) L (i : Int) met) (gR n kk may (if i = 0 then none else some (L.getD (i - 1) [])) met (L.drop i) && decide (L.length = C n kk)) := by
  intro d
  induction d with
  | zero =>
    intro i met hd hm
    refine Ev.step (fun k => by rw [impl_IsAdjacentList.g0]) ?_
    refine evNeg (by omega) (Ev.bind (binomial_ev n kk hn (by omega)) (evEq ?_))
    rw [List.drop_of_length_le (by omega), gR_nil, Bool.true_and, Bool.eq_iff_iff]
    simp
    omega
  | succ d ih =>
    intro i met hd hm
    have hi : i < L.length := by omega
    have e1 : rd_L2 L (i : Int) = L[i] := by unfold rd_L2; rw [Int.toNat_natCast, List.getD_eq_getElem?_getD, List.getElem?_eq_getElem hi]; rfl
    have hc := hl _ (List.getElem_mem hi)
    have hb := comb_bound hc
    have hlen := comb_length hc
    have hlt := lexI_lt hc
    have hC := C_le12 n L[i].length hn
    refine Ev.step (fun k => by rw [impl_IsAdjacentList.g0]) ?_
    rw [e1, List.drop_eq_getElem_cons hi, gR_cons]
    refine evPos (by omega) (evPos (by omega) (evPos (by omega) ?_))
    by_cases c1 : L[i].length = kk
    rotate_left
    · refine evNeg (by omega) (evEq ?_)
      rw [decide_eq_false c1]; rfl
    refine evPos (by omega) (Ev.bind (combinationRank_ev n hn L[i] hc) (evPos ?_ ?_))
    · simp [Lit.wf, IntKind.min, IntKind.max, IntKind.signed, IntKind.bits]; omega
    rw [decide_eq_true c1, Bool.true_and]
    by_cases c2 : ((lexI n 0 L[i] : Nat) : Int) ∈ met
    · refine evPos c2 (evEq ?_)
      rw [decide_eq_false (fun h => h c2)]; rfl
    refine evNeg c2 (evPos (by omega) ?_)
    rw [decide_eq_true c2, Bool.true_and]
    have hnext := ih (i + 1) (((lexI n 0 L[i] : Nat) : Int) :: met) (by omega) (by simp; omega)
    rw [if_neg (by omega), show i + 1 - 1 = i from by omega, show L.getD i [] = L[i] from by rw [List.getD_eq_getElem?_getD, List.getElem?_eq_getElem hi]; rfl] at hnext
    by_cases c3 : i = 0
    · refine evPos (by omega) ?_
      rw [wr (by omega) (by omega), show (i : Int) + 1 = ((i + 1 : Nat) : Int) from by omega, if_pos c3]
      exact evTo hnext (by simp)
    have hp : i - 1 < L.length := by omega
    have e2 : rd_L2 L ((i : Int) - 1) = L[i - 1] := by unfold rd_L2; rw [show ((i : Int) - 1).toNat = i - 1 from by omega, List.getD_eq_getElem?_getD, List.getElem?_eq_getElem hp]; rfl
    have hcp := hl _ (List.getElem_mem hp)
    have hbp := comb_bound hcp
    have hlp := comb_length hcp
    refine evNeg (by omega) ?_
    rw [e2, if_neg c3, show L.getD (i - 1) [] = L[i - 1] from by rw [List.getD_eq_getElem?_getD, List.getElem?_eq_getElem hp]; rfl]
    refine Ev.bind (exchange_ev _ _ (by omega) (by omega)) ?_
    by_cases c4 : (exchL L[i - 1] L[i]).2.2 = true
    rotate_left
    · refine evNeg c4 (evEq ?_)
      simp only [Bool.not_eq_true] at c4
      simp [c4]
    obtain ⟨⟨m1, _⟩, m2, _⟩ := exchL_mem _ _ c4
    have r1 := hbp _ m1
    have r2 := hb _ m2
    refine evPos c4 ?_
    rw [hmay _ _ (by omega) (by omega) (by omega) (by omega)]
    refine evSome ?_
    by_cases c5 : may (exchL L[i - 1] L[i]).1 (exchL L[i - 1] L[i]).2.1 = true
    · refine evPos c5 ?_
      rw [wr (by omega) (by omega), show (i : Int) + 1 = ((i + 1 : Nat) : Int) from by omega]
      exact evTo hnext (by simp [c4, c5])
    · refine evNeg c5 (evEq ?_)
      simp only [Bool.not_eq_true] at c5
      simp [c4, c5]
theorem raUpTo_l0 (n : Nat) (hn : n ≤ 1000000000) : ∀ (d : Nat) (j : Int), 0 ≤ j → j.toNat + d = n → Ev (fun k => spec_raUpTo.l0 k (n : Int) (upTo j.toNat) j) (upTo n) := by
  intro d
  induction d with
  | zero =>
    intro j h0 hd
    refine Ev.step (fun k => by rw [spec_raUpTo.l0]) ?_
    exact evNeg (by omega) (evEq (by rw [show j.toNat = n from by omega]))
  | succ d ih =>
    intro j h0 hd
    refine Ev.step (fun k => by rw [spec_raUpTo.l0]) ?_
    refine evPos (by omega) (evPos (by rw [upTo_length]; omega) ?_)
    have h := ih (j + 1) (by omega) (by omega)
    rw [show (j + 1).toNat = j.toNat + 1 from by omega, upTo_succ, Int.toNat_of_nonneg h0] at h
    rw [wr (by omega) (by omega)]
    exact h
theorem raUpTo_ev (n : Nat) (hn : n ≤ 1000000000) : Ev (fun k => spec_raUpTo.f k (n : Int)) (upTo n) := by
  unfold spec_raUpTo.f
  exact raUpTo_l0 n hn n 0 (by omega) (by simp)
theorem raAll_l1 (n K x : Int) (B : Nat) (hB : B ≤ 1000000000) (ts : List (List Int)) (hts : ts.length ≤ 4096) (htl : ∀ t ∈ ts, t.length ≤ 12) (R : List (List Int))
    (H : ∀ out : List (List Int), out.length ≤ B → Ev (fun q => spec_raAll.l0 q n K out (x + 1)) (out ++ R)) (hx0 : 0 ≤ x) (hx : x < 12) :
    ∀ (d : Nat) (out : List (List Int)) (j : Int), 0 ≤ j → j.toNat + d = ts.length → out.length + d ≤ B →
      Ev (fun q => spec_raAll.l1 q n K out x ts (ts.length : Int) j) (out ++ (ts.drop j.toNat).map (x :: ·) ++ R) := by
  intro d
  induction d with
  | zero =>
    intro out j h0 hd ho
    refine Ev.step (fun q => by rw [spec_raAll.l1]) ?_
    refine evNeg (by omega) ?_
    rw [wr (by omega) (by omega), drop_end _ _ (by omega)]
    simpa using H out (by omega)
  | succ d ih =>
    intro out j h0 hd ho
    refine Ev.step (fun q => by rw [spec_raAll.l1]) ?_
    refine evPos (by omega) (evPos (by omega) (evPos (by omega) (evSome ?_)))
    have hm : rd_L2 ts j ∈ ts := by
      unfold rd_L2
      rw [List.getD_eq_getElem?_getD, List.getElem?_eq_getElem (show j.toNat < ts.length by omega)]
      exact List.getElem_mem _
    have := htl _ hm
    refine evPos (by simp; omega) (evPos (by omega) ?_)
    rw [wr (by omega) (by omega)]
    refine evTo (ih (out ++ [[x] ++ rd_L2 ts j]) (j + 1) (by omega) (by omega) (by simp; omega)) ?_
    rw [dropD [] ts j h0 (by omega)]
    simp [rd_L2]
theorem raAll_ev (n : Int) (hn0 : 0 ≤ n) (hn : n ≤ 12) : ∀ (kk : Nat) (m : Nat) (x : Int), kk ≤ 12 → 0 ≤ x → x + m = n →
    Ev (fun q => spec_raAll.f q n (kk : Int) x) (lexC m kk x) := by
  intro kk
  induction kk with
  | zero =>
    intro m x _ h0 hx
    refine Ev.step (fun q => by rw [spec_raAll.f]) ?_
    exact evPos (by simp) (evEq (by simp))
  | succ kk ihk =>
    intro m x hk h0 hx
    refine Ev.step (fun q => by rw [spec_raAll.f]) ?_
    refine evNeg (by omega) ?_
    have key : ∀ (m : Nat) (x : Int) (out : List (List Int)), 0 ≤ x → x + m = n → out.length ≤ 4096 * (20 - m) →
        Ev (fun q => spec_raAll.l0 q n ((kk + 1 : Nat) : Int) out x) (out ++ lexC m (kk + 1) x) := by
      intro m
      induction m with
      | zero =>
        intro x out h0 hx ho
        refine Ev.step (fun q => by rw [spec_raAll.l0]) ?_
        exact evNeg (by omega) (evEq (by simp [lexC]))
      | succ m ihm =>
        intro x out h0 hx ho
        refine Ev.step (fun q => by rw [spec_raAll.l0]) ?_
        refine evPos (by omega) ?_
        rw [wr (by omega) (by omega), wr (by omega) (by omega)]
        have h1 := ihk m (x + 1) (by omega) (by omega) (by omega)
        rw [show ((kk : Nat) : Int) = ((kk + 1 : Nat) : Int) - 1 from by omega] at h1
        refine Ev.bind h1 ?_
        have hl := lexC_length m kk (x + 1)
        have hc := C_le12 m kk (by omega)
        refine evTo (raAll_l1 n ((kk + 1 : Nat) : Int) x (4096 * (20 - m)) (by omega) (lexC m kk (x + 1)) (by omega) (fun t ht => by have := (lexC_mem _ _ _ _ ht).1; omega) (lexC m (kk + 1) (x + 1))
          (fun out' ho' => ihm (x + 1) out' (by omega) (by omega) ho') h0 (by omega) (lexC m kk (x + 1)).length out 0 (by omega) (by simp) (by omega)) ?_
        simp [lexC]
    simpa using key m x [] h0 hx (by simp)
theorem u64_lt (x : Int) : 0 ≤ IntKind.u64.wrap x ∧ IntKind.u64.wrap x < 18446744073709551616 := by rw [IntKind.wrap_u64]; omega
theorem low8 (x : Int) : 0 ≤ wrap64 (Go.bits .and .u64 (IntKind.u64.wrap x / 1099511627776) 255) ∧ wrap64 (Go.bits .and .u64 (IntKind.u64.wrap x / 1099511627776) 255) ≤ 255 := by
  have hu := u64_lt x
  generalize IntKind.u64.wrap x = y at hu ⊢
  have h := Go.bits_mask .u64 63 (by decide) (fun n h0 h1 => by rw [IntKind.wrap_u64]; omega) 8 (by decide) (y / 1099511627776) (by omega) (by omega)
  have e : ((2 : Int) ^ 8 - 1) = 255 := by decide
  have e2 : ((2 : Int) ^ 8) = 256 := by decide
  rw [e, e2] at h
  rw [h, wr (by omega) (by omega)]
  omega
def Byt (l : List Int) : Prop := l.length ≤ 2000000 ∧ ∀ x ∈ l, 0 ≤ x ∧ x ≤ 255
theorem byt_of {l : List Int} (h1 : l.length ≤ 1048576) (h2 : ∀ x ∈ l, (Lit.int .u8 x).wf = true) : Byt l := by
  refine ⟨by omega, fun x hx => ?_⟩
  have := h2 x hx
  simp [Lit.wf, IntKind.min, IntKind.max, IntKind.signed, IntKind.bits] at this
  omega
theorem cur_next (l : List Int) (hl : Byt l) (a s : Int) (h0 : 0 ≤ a) (h1 : a ≤ 1000000000000) : ∃ v s', spec_l1Cur_next.f l a s = some (v, a + 1, s') ∧ 0 ≤ v ∧ v ≤ 255 := by
  obtain ⟨hn, hb⟩ := hl
  unfold spec_l1Cur_next.f
  rw [wr (x := a + 1) (by omega) (by omega)]
  by_cases c : a < l.length
  · have hr := hb (rd l a) (by rw [rd_get l a (by omega)]; exact List.getElem_mem _)
    rw [if_pos c, if_pos h0, if_pos (by omega)]
    refine ⟨_, _, rfl, ?_⟩
    rw [wr (by omega) (by omega)]
    exact hr
  · rw [if_neg c, if_neg (by omega)]
    exact ⟨_, _, rfl, low8 _⟩
theorem cur_pick (l : List Int) (hl : Byt l) (a s n : Int) (h0 : 0 ≤ a) (h1 : a ≤ 900000000000) : ∃ v a' s', spec_l1Cur_pick.f l a s n = some (v, a', s') ∧ a ≤ a' ∧ a' ≤ a + 2 ∧ 0 ≤ v ∧ (v = 0 ∨ v < n) := by
  unfold spec_l1Cur_pick.f
  by_cases c : n ≤ 1
  · rw [if_pos c]; exact ⟨_, _, _, rfl, by omega, by omega, by omega, .inl rfl⟩
  rw [if_neg c]
  obtain ⟨v, s', e, h2, h3⟩ := cur_next l hl a s h0 (by omega)
  rw [e]
  simp only [Option.bind_some]
  by_cases c2 : n > 200
  · rw [if_pos c2]
    obtain ⟨v2, s2, e2, h4, h5⟩ := cur_next l hl (a + 1) s' (by omega) (by omega)
    rw [e2]
    simp only [Option.bind_some]
    rw [if_neg (by omega), wr (x := v * 256) (by omega) (by omega), wr (by omega) (by omega)]
    exact ⟨_, _, _, rfl, by omega, by omega, Int.tmod_nonneg _ (by omega), .inr (Int.tmod_lt_of_pos _ (by omega))⟩
  · rw [if_neg c2, if_neg (by omega)]
    exact ⟨_, _, _, rfl, by omega, by omega, Int.tmod_nonneg _ (by omega), .inr (Int.tmod_lt_of_pos _ (by omega))⟩
theorem cur_among (l : List Int) (hl : Byt l) (a s : Int) (xs : List Int) (hx : 0 < xs.length) (h0 : 0 ≤ a) (h1 : a ≤ 900000000000) : ∃ v a' s', spec_l1Cur_among.f l a s xs = some (v, a', s') ∧ a ≤ a' ∧ a' ≤ a + 2 ∧ v ∈ xs := by
  unfold spec_l1Cur_among.f
  obtain ⟨v, a', s', e, h2, h3, h4, h5⟩ := cur_pick l hl a s (xs.length : Int) h0 h1
  rw [e]
  simp only [Option.bind_some]
  rw [if_pos h4, if_pos (by omega)]
  refine ⟨_, _, _, rfl, h2, h3, ?_⟩
  rw [rd_get xs v (by omega)]
  exact List.getElem_mem _
theorem cur_size3 (l : List Int) (hl : Byt l) (a s m : Int) (h0 : 0 ≤ a) (h1 : a ≤ 800000000000) (hm : 0 ≤ m) (hm' : m ≤ 1000) : ∃ n k a' s', spec_l1Cur_size3.f l a s m = some (n, k, a', s') ∧ a ≤ a' ∧ a' ≤ a + 8 := by
  unfold spec_l1Cur_size3.f
  rw [wr (x := m + 1) (by omega) (by omega)]
  obtain ⟨v, a1, s1, e, h2, h3, h4, h5⟩ := cur_pick l hl a s (m + 1) h0 (by omega)
  rw [e]
  simp only [Option.bind_some]
  rw [wr (x := v + 1) (by omega) (by omega)]
  obtain ⟨v2, a2, s2, e2, h6, h7, h8, h9⟩ := cur_pick l hl a1 s1 (v + 1) (by omega) (by omega)
  rw [e2]
  simp only [Option.bind_some]
  obtain ⟨v3, a3, s3, e3, g1, g2, g3, g4⟩ := cur_pick l hl a2 s2 16 (by omega) (by omega)
  rw [e3]
  simp only [Option.bind_some]
  by_cases c : v3 = 0
  · rw [if_pos c]
    obtain ⟨v4, a4, s4, e4, g5, g6, _⟩ := cur_among l hl a3 s3 [-1, v, v + 1, 0] (by simp) (by omega) (by omega)
    rw [e4]
    simp only [Option.bind_some]
    exact ⟨_, _, _, _, rfl, by omega, by omega⟩
  · rw [if_neg c]
    by_cases c2 : v3 = 1
    · rw [if_pos c2]
      obtain ⟨v4, a4, s4, e4, g5, g6, _⟩ := cur_among l hl a3 s3 [-1, 0, 12, 13] (by simp) (by omega) (by omega)
      rw [e4]
      simp only [Option.bind_some]
      exact ⟨_, _, _, _, rfl, by omega, by omega⟩
    · rw [if_neg c2]
      exact ⟨_, _, _, _, rfl, by omega, by omega⟩
theorem l1In_eq (x a b : Int) : spec_l1In.f x a b = some (decide (a ≤ x ∧ x ≤ b)) := by
  unfold spec_l1In.f
  by_cases h : x ≥ a
  · rw [if_pos h]; have h' : a ≤ x := h; simp [h']
  · rw [if_neg h]; have h' : ¬ a ≤ x := h; simp [h']
theorem raItems_eq (x : Int) : spec_raItems.f x = some (decide (0 ≤ x ∧ x ≤ 12)) := by
  unfold spec_raItems.f; rw [l1In_eq]; rfl
theorem chSize_eq (n k : Int) : spec_chSize.f n k = some (decide (0 ≤ n ∧ n ≤ 12 ∧ 0 ≤ k ∧ k ≤ n)) := by
  unfold spec_chSize.f
  simp only [raItems_eq, l1In_eq, Option.bind_some]
  by_cases h : 0 ≤ n ∧ n ≤ 12
  · rw [if_pos (by simpa using h)]; simp [h]
  · rw [if_neg (by simpa using h)]; congr 1; exact (decide_eq_false (by omega)).symm
theorem cur_one (l : List Int) (hl : Byt l) (a s n : Int) (h0 : 0 ≤ a) (h1 : a ≤ 900000000000) : ∃ b a' s', spec_l1Cur_one.f l a s n = some (b, a', s') ∧ a ≤ a' ∧ a' ≤ a + 2 := by
  unfold spec_l1Cur_one.f
  obtain ⟨v, a', s', e, h2, h3, h4, h5⟩ := cur_pick l hl a s n h0 h1
  rw [e]
  simp only [Option.bind_some]
  exact ⟨_, _, _, rfl, h2, h3⟩
theorem least_eq (a b : Int) : spec_l1Least.f a b = some (if a < b then a else b) := by
  unfold spec_l1Least.f
  split <;> rfl
theorem combination_l0 (l : List Int) (hl : Byt l) (n : Int) : ∀ (d : Nat) (out : List Int) (j a s : Int), 0 ≤ j → (20 - j).toNat ≤ d → (out.length : Int) ≤ j → j ≤ 20 → 0 ≤ a → a + 2 * d + 10 ≤ 800000000000 →
    ∃ r a' s', r.length ≤ 21 ∧ a ≤ a' ∧ a' ≤ a + 2 * d + 10 ∧ Ev (fun k => spec_l1Cur_combination.l0 k n out j l a s) (r, a', s') := by
  have hend : ∀ (d : Nat) (out : List Int) (j a s : Int), (out.length : Int) ≤ j → j ≤ 20 → 0 ≤ a → a + 2 * d + 10 ≤ 800000000000 → ¬ j < (if n < 20 then n else 20) → ∃ r a' s', r.length ≤ 21 ∧ a ≤ a' ∧ a' ≤ a + 2 * d + 10 ∧ Ev (fun k => spec_l1Cur_combination.l0 k n out j l a s) (r, a', s') := by
    intro d out j a s ho hj h1 h2 hc
    obtain ⟨b, a1, s1, e, g1, g2⟩ := cur_one l hl a s 20 h1 (by omega)
    by_cases c : b = true
    · obtain ⟨v4, a4, s4, e4, g5, g6, g7⟩ := cur_among l hl a1 s1 [-1, 0, n, 4611686018427387904] (by simp) (by omega) (by omega)
      refine ⟨out ++ [v4], a4, s4, by simp; omega, by omega, by omega, Ev.step (fun k => by rw [spec_l1Cur_combination.l0]) ?_⟩
      rw [least_eq]
      refine evSome (evNeg hc ?_)
      rw [e]
      refine evSome (evPos c ?_)
      rw [e4]
      exact evSome (evPos (by omega) (Ev.now _))
    · refine ⟨out, a1, s1, by omega, by omega, by omega, Ev.step (fun k => by rw [spec_l1Cur_combination.l0]) ?_⟩
      rw [least_eq]
      refine evSome (evNeg hc ?_)
      rw [e]
      exact evSome (evNeg c (Ev.now _))
  intro d
  induction d with
  | zero =>
    intro out j a s h0 hd ho hj h1 h2
    exact hend 0 out j a s ho hj h1 h2 (by split <;> omega)
  | succ d ih =>
    intro out j a s h0 hd ho hj h1 h2
    by_cases hc : j < (if n < 20 then n else 20)
    · have hj20 : j < 20 := by split at hc <;> omega
      obtain ⟨b, a1, s1, e, g1, g2⟩ := cur_one l hl a s 2 h1 (by omega)
      by_cases c : b = true
      · obtain ⟨r, a', s', r1, r2, r3, hr⟩ := ih (out ++ [j]) (j + 1) a1 s1 (by omega) (by omega) (by simp; omega) (by omega) (by omega) (by omega)
        refine ⟨r, a', s', r1, by omega, by omega, Ev.step (fun k => by rw [spec_l1Cur_combination.l0]) ?_⟩
        rw [least_eq]
        refine evSome (evPos hc ?_)
        rw [e]
        refine evSome (evPos c (evPos (by omega) ?_))
        rw [wr (by omega) (by omega)]
        exact hr
      · obtain ⟨r, a', s', r1, r2, r3, hr⟩ := ih out (j + 1) a1 s1 (by omega) (by omega) (by omega) (by omega) (by omega) (by omega)
        refine ⟨r, a', s', r1, by omega, by omega, Ev.step (fun k => by rw [spec_l1Cur_combination.l0]) ?_⟩
        rw [least_eq]
        refine evSome (evPos hc ?_)
        rw [e]
        refine evSome (evNeg c ?_)
        rw [wr (by omega) (by omega)]
        exact hr
    · exact hend (d + 1) out j a s ho hj h1 h2 hc
theorem cur_combination (l : List Int) (hl : Byt l) (a s n : Int) (h0 : 0 ≤ a) (h1 : a ≤ 700000000000) : ∃ r a' s', r.length ≤ 21 ∧ a ≤ a' ∧ a' ≤ a + 50 ∧ Ev (fun k => spec_l1Cur_combination.f k l a s n) (r, a', s') := by
  unfold spec_l1Cur_combination.f
  obtain ⟨r, a', s', r1, r2, r3, hr⟩ := combination_l0 l hl n 20 [] 0 a s (by omega) (by omega) (by simp) (by omega) h0 (by omega)
  exact ⟨r, a', s', r1, r2, by omega, hr⟩
theorem l1Has_l0 (x : Int) (xs : List Int) (hn : xs.length ≤ 35184372088832) : ∀ (d : Nat) (j : Int), 0 ≤ j → j.toNat + d = xs.length →
    Ev (fun k => spec_l1Has.l0 k x xs (xs.length : Int) j) (decide (x ∈ xs.drop j.toNat)) := by
  intro d
  induction d with
  | zero =>
    intro j h0 hd
    refine Ev.step (fun k => by rw [spec_l1Has.l0]) ?_
    refine evNeg (by omega) (evEq ?_)
    rw [drop_end _ _ (by omega)]; simp
  | succ d ih =>
    intro j h0 hd
    refine Ev.step (fun k => by rw [spec_l1Has.l0]) ?_
    refine evPos (by omega) (evPos (by omega) (evPos (by omega) ?_))
    rw [wr (by omega) (by omega), drop_rd xs j h0 (by omega)]
    by_cases c : rd xs j = x
    · exact evPos c (evEq (by simp [c]))
    · exact evNeg c (evTo (ih _ (by omega) (by omega)) (by simp [List.mem_cons, Ne.symm c]))
theorem l1Has_ev (xs : List Int) (x : Int) (hn : xs.length ≤ 35184372088832) : Ev (fun k => spec_l1Has.f k xs x) (decide (x ∈ xs)) := by
  unfold spec_l1Has.f
  exact evTo (l1Has_l0 x xs hn xs.length 0 (by omega) (by simp)) (by simp)
theorem chMissing_l0 (b xs : List Int) (hn : xs.length ≤ 35184372088) (hb : b.length ≤ 35184372088832) : ∀ (d : Nat) (out : List Int) (j : Int), 0 ≤ j → j.toNat + d = xs.length → out.length ≤ j →
    Ev (fun k => spec_chMissing.l0 k b out xs (xs.length : Int) j) (out ++ (xs.drop j.toNat).filter (fun x => decide (x ∉ b))) := by
  intro d
  induction d with
  | zero =>
    intro out j h0 hd ho
    refine Ev.step (fun k => by rw [spec_chMissing.l0]) ?_
    refine evNeg (by omega) (evEq ?_)
    rw [drop_end _ _ (by omega)]; simp
  | succ d ih =>
    intro out j h0 hd ho
    refine Ev.step (fun k => by rw [spec_chMissing.l0]) ?_
    refine evPos (by omega) (evPos (by omega) (evPos (by omega) (Ev.bind (l1Has_ev b _ hb) ?_)))
    rw [wr (by omega) (by omega), drop_rd xs j h0 (by omega)]
    by_cases c : rd xs j ∈ b
    · exact evPos (by simpa using c) (evTo (ih _ _ (by omega) (by omega) (by omega)) (by simp [List.filter_cons, c]))
    · exact evNeg (by simpa using c) (evPos (by omega) (evTo (ih _ _ (by omega) (by omega) (by simp; omega)) (by simp [List.filter_cons, c])))
theorem chMissing_ev (xs b : List Int) (hn : xs.length ≤ 35184372088) (hb : b.length ≤ 35184372088832) : Ev (fun k => spec_chMissing.f k xs b) (missL xs b) := by
  unfold spec_chMissing.f
  exact evTo (chMissing_l0 b xs hn hb xs.length [] 0 (by omega) (by simp) (by simp)) (by simp [missL])
theorem l1Put_l0 (l : List Int) (hl : l.length ≤ 1000) (x : Int) : ∀ (d : Nat) (j : Int), 0 ≤ j → j.toNat + d = l.length → ∃ r, Ev (fun q => spec_l1Put.l0 q l x j) r ∧ r.length ≤ l.length + 1 := by
  intro d
  induction d with
  | zero =>
    intro j h0 hd
    refine ⟨l.take j.toNat ++ (x :: l.drop j.toNat), Ev.step (fun k => by rw [spec_l1Put.l0]) ?_, by simp; omega⟩
    simp only [Option.bind_some]
    exact evNeg (by omega) (evPos h0 (evPos (by omega) (evPos (by simp; omega) (evPos (by simp; omega) (evPos (by simp; omega) (evEq (by simp)))))))
  | succ d ih =>
    intro j h0 hd
    by_cases c : rd l j < x
    · obtain ⟨r, h1, h2⟩ := ih (j + 1) (by omega) (by omega)
      refine ⟨r, Ev.step (fun k => by rw [spec_l1Put.l0]) ?_, h2⟩
      refine evPos (by omega) (evPos h0 (evPos c ?_))
      rw [wr (by omega) (by omega)]
      exact h1
    · by_cases c2 : rd l j = x
      · exact ⟨l, Ev.step (fun k => by rw [spec_l1Put.l0]) (evPos (by omega) (evPos h0 (evNeg c (evPos c2 (Ev.now _))))), by omega⟩
      · refine ⟨l.take j.toNat ++ (x :: l.drop j.toNat), Ev.step (fun k => by rw [spec_l1Put.l0]) ?_, by simp; omega⟩
        simp only [Option.bind_some]
        exact evPos (by omega) (evPos h0 (evNeg c (evNeg c2 (evPos (by omega) (evPos (by simp; omega) (evPos (by simp; omega) (evPos (by simp; omega) (evEq (by simp)))))))))
theorem l1Put_ev (l : List Int) (hl : l.length ≤ 1000) (x : Int) : ∃ r, Ev (fun q => spec_l1Put.f q l x) r ∧ r.length ≤ l.length + 1 := l1Put_l0 l hl x l.length 0 (by omega) (by simp)
theorem l1Own_eq (l : List Int) (hn : l.length ≤ 10000000000000) : spec_l1Own.f l = some l := by
  unfold spec_l1Own.f
  simp only [Option.bind_some, List.nil_append, List.length_nil, Nat.zero_add]
  rw [if_pos (by omega)]
theorem raWithout_eq (l : List Int) (hl : l.length ≤ 1000000) (p : Int) (h0 : 0 ≤ p) (h1 : p < l.length) : spec_raWithout.f l p = some (l.take p.toNat ++ l.drop (p + 1).toNat) := by
  unfold spec_raWithout.f
  rw [if_pos h0, if_pos (by omega), l1Own_eq _ (by rw [List.length_take]; omega), wr (by omega) (by omega)]
  simp only [Option.bind_some]
  rw [if_pos (by omega), if_pos (by omega), if_pos (by rw [List.length_take, List.length_drop]; omega)]
theorem comb_filter (n : Nat) : ∀ (l : List Int), comb n l = true → (upTo n).filter (fun x => decide (x ∈ l)) = l := by
  induction n with
  | zero =>
    intro l h
    have := comb_length h
    have h0 : l = [] := List.length_eq_zero_iff.1 (by omega)
    subst h0; rfl
  | succ n ih =>
    intro l h
    rcases List.eq_nil_or_concat l with rfl | ⟨t, a, rfl⟩
    · simp
    · rw [List.concat_eq_append] at h ⊢
      obtain ⟨h1, h2, h3⟩ := (comb_snoc _ _ _).1 h
      rw [upTo_succ, List.filter_append]
      by_cases ea : a = n
      · subst ea
        have h4 := ih t h1
        have e1 : (upTo n).filter (fun x => decide (x ∈ t ++ [(n : Int)])) = (upTo n).filter (fun x => decide (x ∈ t)) := by
          apply List.filter_congr
          intro x hx
          have := (mem_upTo.1 hx).2
          apply decide_eq_decide.2
          rw [List.mem_append, List.mem_singleton]
          exact ⟨fun h => h.elim id (fun e => by omega), Or.inl⟩
        rw [e1, h4]
        congr 1
        simp
      · have hc : comb n (t ++ [a]) = true := (comb_snoc _ _ _).2 ⟨h1, h2, by omega⟩
        have hn : (n : Int) ∉ t ++ [a] := fun hm => by have := (comb_bound hc _ hm).2; omega
        rw [ih _ hc]
        simp only [List.filter_cons, List.filter_nil, hn, decide_false, Bool.false_eq_true, if_false, List.append_nil]
theorem comp_length (n : Nat) (l : List Int) (h : comb n l = true) : (missL (upTo n) l).length + l.length = n := by
  have h1 := List.length_eq_countP_add_countP (fun x => decide (x ∈ l)) (l := upTo n)
  rw [upTo_length, List.countP_eq_length_filter, List.countP_eq_length_filter, comb_filter n l h] at h1
  have h2 : missL (upTo n) l = (upTo n).filter (fun a => decide ¬(decide (a ∈ l)) = true) := by
    unfold missL
    apply List.filter_congr
    intro x _
    simp
  rw [h2]
  omega
theorem drawEx_two (l : List Int) (hl : Byt l) (n s1 s2 : Int) (h0 : 0 ≤ s1) (h1 : s1 ≤ 600000000000) : ∃ a b, Ev (fun q => spec_DrawExchangeOf.two q l n s1 s2) (n, a, b) ∧ a.length ≤ 100 ∧ b.length ≤ 100 := by
  obtain ⟨a, s3, s4, ha, g1, g2, e1⟩ := cur_combination l hl s1 s2 n h0 (by omega)
  obtain ⟨b, s5, s6, hb, g3, g4, e2⟩ := cur_combination l hl s3 s4 n (by omega) (by omega)
  refine ⟨a, b, ?_, by omega, by omega⟩
  unfold spec_DrawExchangeOf.two
  exact Ev.bind e1 (Ev.bind e2 (Ev.now _))
theorem drawEx_far (l : List Int) (hl : Byt l) (N K : Nat) (hN : N ≤ 12) (hK : 0 < K) (hK2 : K < N) (s1 s2 : Int) (h0 : 0 ≤ s1) (h1 : s1 ≤ 600000000000) (a : List Int) (ha : comb N a = true) (hal : a.length = K) : ∃ b, Ev (fun q => spec_DrawExchangeOf.far q l (N : Int) (K : Int) s1 s2 a) ((N : Int), a, b) ∧ b.length ≤ 100 := by
  have hc := comp_length N a ha
  obtain ⟨q, s3, s4, e1, g1, g2, g3, g4⟩ := cur_pick l hl s1 s2 (K : Int) h0 (by omega)
  have e2 := raWithout_eq a (by omega) q g3 (by omega)
  obtain ⟨z, s5, s6, e3, g5, g6, g7, g8⟩ := cur_pick l hl s3 s4 ((missL (upTo N) a).length : Int) (by omega) (by omega)
  obtain ⟨b, e4, hb⟩ := l1Put_ev (a.take q.toNat ++ a.drop (q + 1).toNat) (by simp; omega) (rd (missL (upTo N) a) z)
  refine ⟨b, ?_, by simp at hb; omega⟩
  unfold spec_DrawExchangeOf.far
  refine Ev.bind (raUpTo_ev N (by omega)) (Ev.bind (chMissing_ev _ _ (by rw [upTo_length]; omega) (by omega)) ?_)
  rw [e1]
  refine evSome ?_
  rw [e2]
  refine evSome ?_
  rw [e3]
  exact evSome (evPos ⟨g7, by omega⟩ (Ev.bind e4 (Ev.now _)))
theorem drawEx_near (l : List Int) (hl : Byt l) (N K : Nat) (hN : N ≤ 12) (hK : K ≤ N) (s1 s2 : Int) (h0 : 0 ≤ s1) (h1 : s1 ≤ 500000000000) : ∃ a b, Ev (fun q => spec_DrawExchangeOf.near q l (N : Int) (K : Int) s1 s2) ((N : Int), a, b) ∧ a.length ≤ 100 ∧ b.length ≤ 100 := by
  have hC := C_pos N K hK
  have hL := lexC_length N K 0
  obtain ⟨p, s3, s4, e1, g1, g2, g3, g4⟩ := cur_pick l hl s1 s2 ((lexC N K 0).length : Int) h0 (by omega)
  have hp : p.toNat < (lexC N K 0).length := by omega
  have er : rd_L2 (lexC N K 0) p = (lexC N K 0)[p.toNat] := by unfold rd_L2; rw [List.getD_eq_getElem?_getD, List.getElem?_eq_getElem hp]; rfl
  obtain ⟨hc, hlen⟩ := comb_of_lex (List.getElem_mem hp)
  have hall := raAll_ev (N : Int) (by omega) (by omega) K N 0 (by omega) (by omega) (by omega)
  have hgo : ∀ r, Ev (fun q => (if (K : Int) = 0 then some ((N : Int), (lexC N K 0)[p.toNat], (lexC N K 0)[p.toNat]) else (if (K : Int) = N then some ((N : Int), (lexC N K 0)[p.toNat], (lexC N K 0)[p.toNat]) else spec_DrawExchangeOf.far q l (N : Int) (K : Int) s3 s4 (lexC N K 0)[p.toNat]))) r → Ev (fun q => spec_DrawExchangeOf.near q l (N : Int) (K : Int) s1 s2) r := by
    intro r hr
    unfold spec_DrawExchangeOf.near
    refine Ev.bind hall ?_
    rw [e1]
    refine evSome (evPos ⟨g3, by omega⟩ ?_)
    rw [er]
    exact hr
  by_cases k0 : K = 0
  · exact ⟨_, _, hgo _ (evPos (by omega) (Ev.now _)), by omega, by omega⟩
  by_cases k1 : K = N
  · exact ⟨_, _, hgo _ (evNeg (by omega) (evPos (by omega) (Ev.now _))), by omega, by omega⟩
  obtain ⟨b, e2, hb⟩ := drawEx_far l hl N K hN (by omega) (by omega) s3 s4 (by omega) (by omega) _ hc hlen
  exact ⟨_, b, hgo _ (evNeg (by omega) (evNeg (by omega) e2)), by omega, hb⟩
theorem drawExchangeOf_ev (l : List Int) (hl : Byt l) : ∃ n a b, Ev (fun q => spec_DrawExchangeOf.f q l) (n, a, b) ∧ a.length ≤ 100 ∧ b.length ≤ 100 := by
  obtain ⟨n, kk, s1, s2, e1, g1, g2⟩ := cur_size3 l hl 0 0 7 (by omega) (by omega) (by omega) (by omega)
  by_cases h : 0 ≤ n ∧ n ≤ 12 ∧ 0 ≤ kk ∧ kk ≤ n
  · obtain ⟨o, s3, s4, e2, g3, g4⟩ := cur_one l hl s1 s2 3 (by omega) (by omega)
    cases o
    · obtain ⟨N, rfl⟩ := Int.eq_ofNat_of_zero_le h.1
      obtain ⟨K, rfl⟩ := Int.eq_ofNat_of_zero_le h.2.2.1
      obtain ⟨a, b, e3, ha, hb⟩ := drawEx_near l hl N K (by omega) (by omega) s3 s4 (by omega) (by omega)
      refine ⟨(N : Int), a, b, ?_, ha, hb⟩
      unfold spec_DrawExchangeOf.f
      rw [e1]
      refine evSome ?_
      rw [chSize_eq, decide_eq_true h]
      refine evSome (evPos rfl ?_)
      rw [e2]
      exact evSome (evNeg (by simp) e3)
    · obtain ⟨a, b, e3, ha, hb⟩ := drawEx_two l hl n s3 s4 (by omega) (by omega)
      refine ⟨n, a, b, ?_, ha, hb⟩
      unfold spec_DrawExchangeOf.f
      rw [e1]
      refine evSome ?_
      rw [chSize_eq, decide_eq_true h]
      refine evSome (evPos rfl ?_)
      rw [e2]
      exact evSome (evPos rfl e3)
  · obtain ⟨a, b, e3, ha, hb⟩ := drawEx_two l hl n s1 s2 (by omega) (by omega)
    refine ⟨n, a, b, ?_, ha, hb⟩
    unfold spec_DrawExchangeOf.f
    rw [e1]
    refine evSome ?_
    rw [chSize_eq, decide_eq_false h]
    exact evSome (evNeg (by simp) e3)
theorem ExchangeOf_ev (n : Int) (a b : List Int) (ha : a.length ≤ 35184372088) (hb : b.length ≤ 35184372088) :
    Ev (fun k => impl_ExchangeOf.f k n a b) (if isComb n a = true ∧ isComb n b = true ∧ a.length = b.length then exchL a b else (0, 0, false)) := by
  unfold impl_ExchangeOf.f
  refine Ev.bind (IsCombination_ev n a (by omega)) ?_
  by_cases c1 : isComb n a = true
  · refine evPos c1 (Ev.bind (IsCombination_ev n b (by omega)) ?_)
    by_cases c2 : isComb n b = true
    · refine evPos c2 ?_
      by_cases c3 : a.length = b.length
      · rw [if_pos ⟨c1, c2, c3⟩]; exact evPos (by omega) (Ev.bind (exchange_ev a b ha hb) (Ev.now _))
      · rw [if_neg (fun h => c3 h.2.2)]; exact evNeg (by omega) (Ev.now _)
    · rw [if_neg (fun h => c2 h.2.1)]; exact evNeg c2 (Ev.now _)
  · rw [if_neg (fun h => c1 h.1)]; exact evNeg c1 (Ev.now _)
theorem l1Rising_l0 (xs : List Int) (a b : Int) (hn : xs.length ≤ 35184372088832) : ∀ (d : Nat) (j : Int), 1 ≤ j → j.toNat + d = xs.length →
    Ev (fun k => spec_l1Rising.l0 k xs a b xs (xs.length : Int) j) (((xs.drop j.toNat).all fun x => decide (a ≤ x ∧ x ≤ b)) && incrFrom (rd xs (j - 1) + 1) (xs.drop j.toNat)) := by
  intro d
  induction d with
  | zero =>
    intro j h0 hd
    refine Ev.step (fun k => by rw [spec_l1Rising.l0]) ?_
    refine evNeg (by omega) (evEq ?_)
    rw [drop_end _ _ (by omega)]; rfl
  | succ d ih =>
    intro j h0 hd
    refine Ev.step (fun k => by rw [spec_l1Rising.l0]) ?_
    rw [wr (x := j - 1) (by omega) (by omega), wr (x := j + 1) (by omega) (by omega), drop_rd xs j (by omega) (by omega)]
    simp only [l1In_eq, Option.bind_some, List.all_cons, incrFrom]
    refine evPos (by omega) (evPos (by omega) (evPos (by omega) ?_))
    by_cases c1 : a ≤ rd xs j ∧ rd xs j ≤ b
    · refine evPos (by simpa using c1) (evPos (by omega) (evPos (by omega) (evPos (by omega) ?_)))
      rw [decide_eq_true c1, Bool.true_and]
      by_cases c : rd xs (j - 1) ≥ rd xs j
      · refine evPos c (evEq ?_)
        rw [decide_eq_false (show ¬ (rd xs (j - 1) + 1 ≤ rd xs j) by omega)]; simp
      · refine evNeg c (evTo (ih (j + 1) (by omega) (by omega)) ?_)
        rw [decide_eq_true (show rd xs (j - 1) + 1 ≤ rd xs j by omega), Bool.true_and, show j + 1 - 1 = j from by omega]
    · refine evNeg (by simpa using c1) (evEq ?_)
      rw [decide_eq_false c1]; rfl
theorem l1Rising_ev (xs : List Int) (a b : Int) (hn : xs.length ≤ 35184372088832) : Ev (fun k => spec_l1Rising.f k xs a b) ((xs.all fun x => decide (a ≤ x ∧ x ≤ b)) && incr xs) := by
  unfold spec_l1Rising.f
  cases xs with
  | nil =>
    refine Ev.step (fun k => by rw [spec_l1Rising.l0]) ?_
    exact evNeg (by simp) (Ev.now _)
  | cons x t =>
    refine Ev.step (fun k => by rw [spec_l1Rising.l0]) ?_
    simp only [l1In_eq, Option.bind_some]
    refine evPos (by simp) (evPos (by omega) (evPos (by simp) ?_))
    have hx : rd (x :: t) 0 = x := rfl
    rw [hx]
    by_cases c1 : a ≤ x ∧ x ≤ b
    · refine evPos (by simpa using c1) (evNeg (by omega) ?_)
      rw [wr (by omega) (by omega)]
      refine evTo (l1Rising_l0 (x :: t) a b hn t.length 1 (by omega) (by simp; omega)) ?_
      rw [List.all_cons, decide_eq_true c1, Bool.true_and]
      simp [incr, rd]
    · refine evNeg (by simpa using c1) (evEq ?_)
      rw [List.all_cons, decide_eq_false c1]; rfl
theorem raCombination_ev (n : Int) (l : List Int) (hn : l.length ≤ 35184372088832) : Ev (fun k => spec_raCombination.f k n l) (isComb n l) := by
  unfold spec_raCombination.f
  simp only [raItems_eq, Option.bind_some]
  by_cases h : 0 ≤ n ∧ n ≤ 12
  · refine evPos (by simpa using h) ?_
    rw [wr (by omega) (by omega), isComb, decide_eq_true h, Bool.true_and]
    by_cases c : (l.length : Int) ≤ n
    · refine evPos c (Ev.bind (l1Rising_ev l 0 (n - 1) hn) (evEq ?_))
      rw [comb_all]
    · refine evNeg c (evEq ?_)
      symm
      rw [Bool.eq_false_iff]
      intro hc
      obtain ⟨m, rfl⟩ := Int.eq_ofNat_of_zero_le h.1
      have := comb_length hc
      omega
  · refine evNeg (by simpa using h) (evEq ?_)
    rw [isComb, decide_eq_false h, Bool.false_and]
theorem chExchange_ev (a b : List Int) (ha : a.length ≤ 35184372088) (hb : b.length ≤ 35184372088) : Ev (fun k => spec_chExchange.f k a b) (exchL a b) := by
  unfold spec_chExchange.f
  refine Ev.bind (chMissing_ev a b ha (by omega)) (Ev.bind (chMissing_ev b a hb (by omega)) ?_)
  by_cases c1 : ((missL a b).length : Int) = 1
  · refine evPos c1 ?_
    by_cases c2 : ((missL b a).length : Int) = 1
    · exact evPos c2 (evPos (by omega) (evPos (by omega) (evEq (by unfold exchL; rw [if_pos c1, if_pos c2]))))
    · exact evNeg c2 (evEq (by unfold exchL; rw [if_pos c1, if_neg c2]))
  · exact evNeg c1 (evEq (by unfold exchL; rw [if_neg c1]))
theorem spec_ExchangeOf_ev (n : Int) (a b : List Int) (ha : a.length ≤ 35184372088) (hb : b.length ≤ 35184372088) :
    Ev (fun k => spec_ExchangeOf.f k n a b) (if isComb n a = true ∧ isComb n b = true ∧ a.length = b.length then exchL a b else (0, 0, false)) := by
  unfold spec_ExchangeOf.f
  refine Ev.bind (raCombination_ev n a (by omega)) ?_
  by_cases c1 : isComb n a = true
  · refine evPos c1 (Ev.bind (raCombination_ev n b (by omega)) ?_)
    by_cases c2 : isComb n b = true
    · refine evPos c2 ?_
      by_cases c3 : a.length = b.length
      · rw [if_pos ⟨c1, c2, c3⟩]; exact evPos (by omega) (Ev.bind (chExchange_ev a b ha hb) (Ev.now _))
      · rw [if_neg (fun h => c3 h.2.2)]; exact evNeg (by omega) (Ev.now _)
    · rw [if_neg (fun h => c2 h.2.1)]; exact evNeg c2 (Ev.now _)
  · rw [if_neg (fun h => c1 h.1)]; exact evNeg c1 (Ev.now _)
theorem uHas_l0 (x : Int) (xs : List Int) (hn : xs.length ≤ 35184372088832) : ∀ (d : Nat) (j : Int), 0 ≤ j → j.toNat + d = xs.length →
    Ev (fun k => laws_uHas.l0 k x xs (xs.length : Int) j) (decide (x ∈ xs.drop j.toNat)) := by
  intro d
  induction d with
  | zero =>
    intro j h0 hd
    refine Ev.step (fun k => by rw [laws_uHas.l0]) ?_
    refine evNeg (by omega) (evEq ?_)
    rw [drop_end _ _ (by omega)]; simp
  | succ d ih =>
    intro j h0 hd
    refine Ev.step (fun k => by rw [laws_uHas.l0]) ?_
    refine evPos (by omega) (evPos (by omega) (evPos (by omega) ?_))
    rw [wr (by omega) (by omega), drop_rd xs j h0 (by omega)]
    by_cases c : rd xs j = x
    · exact evPos c (evEq (by simp [c]))
    · exact evNeg c (evTo (ih _ (by omega) (by omega)) (by simp [List.mem_cons, Ne.symm c]))
theorem uHas_ev (xs : List Int) (x : Int) (hn : xs.length ≤ 35184372088832) : Ev (fun k => laws_uHas.f k xs x) (decide (x ∈ xs)) := by
  unfold laws_uHas.f
  exact evTo (uHas_l0 x xs hn xs.length 0 (by omega) (by simp)) (by simp)
theorem l1Abs_eq (x : Int) (h1 : -9223372036854775807 ≤ x) (h2 : x ≤ 9223372036854775807) : spec_l1Abs.f x = some (if x > -x then x else -x) := by
  unfold spec_l1Abs.f spec_l1Most.f
  rw [wr (by omega) (by omega)]
  by_cases c : x > -x
  · rw [if_pos c, if_pos c]; rfl
  · rw [if_neg c, if_neg c]; rfl
def within' (far : Int) (a b : Int) : Bool := decide (a - b ≤ far ∧ b - a ≤ far)
theorem chNear_l0 (far : Int) (L : List (List Int)) (hL : L.length ≤ 100000) (hl : ∀ t ∈ L, t.length ≤ 12 ∧ ∀ x ∈ t, 0 ≤ x ∧ x < 12) : ∀ (d : Nat) (i : Nat), i + d = L.length → 1 ≤ i →
    Ev (fun k => spec_chNear.l0 k L far (i : Int)) (nearL (within' far) (L.drop (i - 1))) := by
  intro d
  induction d with
  | zero =>
    intro i hd h1
    refine Ev.step (fun k => by rw [spec_chNear.l0]) ?_
    refine evNeg (by omega) (evEq ?_)
    have hp : i - 1 < L.length ∨ L.length = 0 := by omega
    rcases hp with hp | hp
    · rw [List.drop_eq_getElem_cons hp, List.drop_of_length_le (by omega)]; rfl
    · rw [List.length_eq_zero_iff.1 hp]; simp [nearL]
  | succ d ih =>
    intro i hd h1
    have hi : i < L.length := by omega
    have hp : i - 1 < L.length := by omega
    have e1 : rd_L2 L (i : Int) = L[i] := by unfold rd_L2; rw [Int.toNat_natCast, List.getD_eq_getElem?_getD, List.getElem?_eq_getElem hi]; rfl
    have e2 : rd_L2 L ((i : Int) - 1) = L[i - 1] := by unfold rd_L2; rw [show ((i : Int) - 1).toNat = i - 1 from by omega, List.getD_eq_getElem?_getD, List.getElem?_eq_getElem hp]; rfl
    have ha := hl _ (List.getElem_mem hp)
    have hb := hl _ (List.getElem_mem hi)
    have hdr : L.drop (i - 1) = L[i - 1] :: L[i] :: L.drop (i + 1) := by
      rw [List.drop_eq_getElem_cons hp, show i - 1 + 1 = i from by omega, List.drop_eq_getElem_cons hi]
    refine Ev.step (fun k => by rw [spec_chNear.l0]) ?_
    rw [wr (by omega) (by omega), e1, e2, hdr, nearL]
    refine evPos (by omega) (evPos (by omega) (evPos (by omega) (evPos (by omega) (Ev.bind (chExchange_ev _ _ (by omega) (by omega)) ?_))))
    by_cases c : (exchL L[i - 1] L[i]).2.2 = true
    · obtain ⟨⟨m1, _⟩, m2, _⟩ := exchL_mem _ _ c
      have r1 := ha.2 _ m1
      have r2 := hb.2 _ m2
      rw [wr (x := (exchL L[i - 1] L[i]).1 - (exchL L[i - 1] L[i]).2.1) (by omega) (by omega), l1Abs_eq _ (by omega) (by omega)]
      refine evPos c (evSome ?_)
      rw [c, Bool.true_and]
      by_cases cf : within' far (exchL L[i - 1] L[i]).1 (exchL L[i - 1] L[i]).2.1 = true
      · have cf' := cf
        simp only [within', decide_eq_true_eq] at cf'
        refine evNeg (by split <;> omega) ?_
        rw [wr (by omega) (by omega), show (i : Int) + 1 = ((i + 1 : Nat) : Int) from by omega, cf, Bool.true_and]
        refine evTo (ih (i + 1) (by omega) (by omega)) ?_
        rw [show i + 1 - 1 = i from by omega, List.drop_eq_getElem_cons hi]
      · have cf' := cf
        simp only [within', decide_eq_true_eq] at cf'
        refine evPos (by split <;> omega) (evEq ?_)
        simp only [Bool.not_eq_true] at cf
        rw [cf]; rfl
    · refine evNeg c (evEq ?_)
      simp only [Bool.not_eq_true] at c
      rw [c]; rfl
theorem chNear_ev (far : Int) (L : List (List Int)) (hL : L.length ≤ 100000) (hl : ∀ t ∈ L, t.length ≤ 12 ∧ ∀ x ∈ t, 0 ≤ x ∧ x < 12) : Ev (fun k => spec_chNear.f k L far) (nearL (within' far) L) := by
  unfold spec_chNear.f
  by_cases c : 1 ≤ L.length
  · exact evTo (chNear_l0 far L hL hl (L.length - 1) 1 (by omega) (by omega)) (by simp)
  · refine Ev.step (fun k => by rw [spec_chNear.l0]) ?_
    refine evNeg (by omega) (evEq ?_)
    rw [List.length_eq_zero_iff.1 (by omega : L.length = 0)]; rfl
theorem l1Same_l0 (a b : List Int) (hn : a.length ≤ 35184372088832) (hb : a.length = b.length) : ∀ (d : Nat) (j : Int), 0 ≤ j → j.toNat + d = a.length →
    Ev (fun k => spec_l1Same.l0 k a b (a.length : Int) j) (decide (a.drop j.toNat = b.drop j.toNat)) := by
  intro d
  induction d with
  | zero =>
    intro j h0 hd
    refine Ev.step (fun k => by rw [spec_l1Same.l0]) ?_
    refine evNeg (by omega) ?_
    rw [drop_end a j (by omega), drop_end b j (by omega)]
    exact evEq rfl
  | succ d ih =>
    intro j h0 hd
    refine Ev.step (fun k => by rw [spec_l1Same.l0]) ?_
    refine evPos (by omega) (evPos (by omega) (evPos (by omega) (evPos (by omega) ?_)))
    rw [wr (by omega) (by omega), drop_rd a j h0 (by omega), drop_rd b j h0 (by omega)]
    by_cases c : rd a j = rd b j
    · refine evPos c (evTo (ih _ (by omega) (by omega)) ?_)
      simp [c]
    · refine evNeg c (evEq ?_)
      simp [c]
theorem l1Same_ev (a b : List Int) (hn : a.length ≤ 35184372088832) : Ev (fun k => spec_l1Same.f k a b) (decide (a = b)) := by
  unfold spec_l1Same.f
  by_cases hb : a.length = b.length
  · exact evPos (by omega) (l1Same_l0 a b hn hb a.length 0 (by omega) (by simp))
  · refine evNeg (by omega) (evEq ?_)
    exact (decide_eq_false (fun e => hb (by rw [e]))).symm
theorem raPlace_l0 (l : List Int) (L : List (List Int)) (hL : L.length ≤ 1000000000) (hl : ∀ t ∈ L, t.length ≤ 35184372088832) : ∀ (d : Nat) (j : Int), 0 ≤ j → j.toNat + d = L.length →
    Ev (fun k => spec_raPlace.l0 k l L (L.length : Int) j) (placeI l j (L.drop j.toNat)) := by
  intro d
  induction d with
  | zero =>
    intro j h0 hd
    refine Ev.step (fun k => by rw [spec_raPlace.l0]) ?_
    refine evNeg (by omega) ?_
    rw [drop_end L j (by omega)]
    exact evEq rfl
  | succ d ih =>
    intro j h0 hd
    refine Ev.step (fun k => by rw [spec_raPlace.l0]) ?_
    have hm : rd_L2 L j ∈ L := by
      unfold rd_L2
      rw [List.getD_eq_getElem?_getD, List.getElem?_eq_getElem (show j.toNat < L.length by omega)]
      exact List.getElem_mem _
    refine evPos (by omega) (evPos (by omega) (evPos (by omega) (Ev.bind (l1Same_ev _ l (hl _ hm)) ?_)))
    have hcons : L.drop j.toNat = rd_L2 L j :: L.drop (j + 1).toNat := dropD [] L j h0 (by omega)
    rw [wr (by omega) (by omega), hcons, placeI]
    by_cases c : rd_L2 L j = l
    · rw [if_pos c]; exact evPos (decide_eq_true c) (Ev.now _)
    · rw [if_neg c]; exact evNeg (by simpa using c) (ih _ (by omega) (by omega))
theorem raPlace_ev (L : List (List Int)) (l : List Int) (hL : L.length ≤ 1000000000) (hl : ∀ t ∈ L, t.length ≤ 35184372088832) : Ev (fun k => spec_raPlace.f k L l) (placeI l 0 L) := by
  unfold spec_raPlace.f
  exact evTo (raPlace_l0 l L hL hl L.length 0 (by omega) (by simp)) (by simp)
theorem chRevolving_l0 (n : Int) (hn : 1 ≤ n) (hn' : n ≤ 12) (L : List (List Int)) (hL : L.length ≤ 4096) (hl : ∀ t ∈ L, t.length ≤ 12) : ∀ (d : Nat) (out : List (List Int)) (j : Int), j + 1 = d → d ≤ L.length → out.length + d ≤ 100000 →
    Ev (fun k => spec_chRevolving.l0 k n out L j) (out ++ (L.take d).reverse.map (· ++ [n - 1])) := by
  intro d
  induction d with
  | zero =>
    intro out j hj hd ho
    refine Ev.step (fun k => by rw [spec_chRevolving.l0]) ?_
    exact evNeg (by omega) (evEq (by simp))
  | succ d ih =>
    intro out j hj hd ho
    refine Ev.step (fun k => by rw [spec_chRevolving.l0]) ?_
    have hm : rd_L2 L j ∈ L := by
      unfold rd_L2
      rw [List.getD_eq_getElem?_getD, List.getElem?_eq_getElem (show j.toNat < L.length by omega)]
      exact List.getElem_mem _
    have := hl _ hm
    rw [l1Own_eq _ (by omega)]
    refine evPos (by omega) (evPos (by omega) (evPos (by omega) (evSome (evPos (by omega) (evPos (by omega) ?_)))))
    rw [wr (x := n - 1) (by omega) (by omega), wr (x := j - 1) (by omega) (by omega)]
    refine evTo (ih _ (j - 1) (by omega) (by omega) (by simp; omega)) ?_
    have ht := takeD [] L j (by omega) (by omega)
    rw [show (j + 1).toNat = d + 1 from by omega, show j.toNat = d from by omega] at ht
    rw [ht]
    simp only [List.reverse_append, List.reverse_cons, List.reverse_nil, List.nil_append, List.map_append, List.map_cons, List.map_nil, List.cons_append, List.append_assoc]
    unfold rd_L2
    rw [show j.toNat = d from by omega]
theorem chRevolving_ev : ∀ (n k : Nat), n ≤ 12 → k ≤ n → Ev (fun q => spec_chRevolving.f q (n : Int) (k : Int)) (rev n k) := by
  intro n
  induction n with
  | zero =>
    intro k hn hk
    obtain rfl : k = 0 := by omega
    refine Ev.step (fun q => by rw [spec_chRevolving.f]) ?_
    refine evPos (by simp) (Ev.step (fun q => by rw [spec_chRevolving.j0]) ?_)
    exact evPos rfl (Ev.bind (raUpTo_ev 0 (by omega)) (Ev.now _))
  | succ n ih =>
    intro k hn hk
    refine Ev.step (fun q => by rw [spec_chRevolving.f]) ?_
    cases k with
    | zero =>
      refine evPos (by simp) (Ev.step (fun q => by rw [spec_chRevolving.j0]) ?_)
      exact evPos rfl (Ev.bind (raUpTo_ev 0 (by omega)) (Ev.now _))
    | succ k =>
      refine evNeg (by omega) (Ev.step (fun q => by rw [spec_chRevolving.j0]) ?_)
      by_cases e : k = n
      · subst e
        refine evPos (by simp) (Ev.bind (raUpTo_ev (k + 1) (by omega)) (evEq ?_))
        simp [rev]
      · refine evNeg (by simp; omega) ?_
        rw [wr (x := ((n + 1 : Nat) : Int) - 1) (by omega) (by omega), wr (x := ((k + 1 : Nat) : Int) - 1) (by omega) (by omega)]
        rw [show ((n + 1 : Nat) : Int) - 1 = (n : Int) from by omega, show ((k + 1 : Nat) : Int) - 1 = (k : Int) from by omega]
        refine Ev.bind (ih (k + 1) (by omega) (by omega)) (Ev.bind (ih k (by omega) (by omega)) ?_)
        have hl1 := rev_length n (k + 1) (by omega)
        have hl2 := rev_length n k (by omega)
        have hc1 := C_le12 n (k + 1) (by omega)
        have hc2 := C_le12 n k (by omega)
        rw [wr (by omega) (by omega)]
        refine evTo (chRevolving_l0 ((n + 1 : Nat) : Int) (by omega) (by omega) (rev n k) (by omega) (fun t ht => by have := (rev_mem n k t (by omega) ht).2; omega) (rev n k).length _ _ (by omega) (by omega) (by omega)) ?_
        rw [List.take_of_length_le (by omega)]
        simp only [rev, if_neg e]
        rw [show ((n + 1 : Nat) : Int) - 1 = (n : Int) from by omega]
def adjS (n k : Int) : Bool := match spec_AdjacentList.f 1000 n k with
  | some (L, b) => decide (L.length ≤ 100) && L.all (fun t => decide (t.length ≤ 12)) && (!b || decide (0 < L.length))
  | _ => false
set_option maxRecDepth 100000 in
theorem adjS_tab : ((List.range 7).all fun n => (List.range (n + 1)).all fun k => adjS (n : Int) (k : Int)) = true := by decide +kernel
theorem adjacentList_small (n k : Int) : ∃ (L : List (List Int)) (b : Bool), Ev (fun q => spec_AdjacentList.f q n k) (L, b) ∧ L.length ≤ 100 ∧ (∀ t ∈ L, t.length ≤ 12) ∧ (b = true → 0 < L.length) := by
  by_cases h : 0 ≤ n ∧ n ≤ 6 ∧ 0 ≤ k ∧ k ≤ n
  · obtain ⟨N, rfl⟩ := Int.eq_ofNat_of_zero_le h.1
    obtain ⟨K, rfl⟩ := Int.eq_ofNat_of_zero_le h.2.2.1
    have ht := List.all_eq_true.1 (List.all_eq_true.1 adjS_tab N (List.mem_range.2 (by omega))) K (List.mem_range.2 (by omega))
    unfold adjS at ht
    cases hs : spec_AdjacentList.f 1000 (N : Int) (K : Int) with
    | none => simp [hs] at ht
    | some r =>
      obtain ⟨L, b⟩ := r
      simp only [hs, Bool.and_eq_true, decide_eq_true_eq, Bool.or_eq_true, Bool.not_eq_true', List.all_eq_true] at ht
      refine ⟨L, b, evTab (g := fun q => spec_AdjacentList.f q (N : Int) (K : Int)) (spec_AdjacentList.mono _ _) 1000 hs, ht.1.1, ht.1.2, fun hb => ?_⟩
      rcases ht.2 with h3 | h3
      · rw [hb] at h3; cases h3
      · exact h3
  · refine ⟨[], false, ?_, by simp, by simp, fun h => by cases h⟩
    unfold spec_AdjacentList.f
    simp only [l1In_eq, Option.bind_some]
    have hj : Ev (fun q => spec_AdjacentList.j0 q n k true) ([], false) := Ev.step (fun q => by rw [spec_AdjacentList.j0]) (by exact evPos rfl (Ev.now _))
    by_cases h1 : 0 ≤ n ∧ n ≤ 6
    · have e : (!decide (0 ≤ k ∧ k ≤ n)) = true := by simp; omega
      rw [e]
      exact evPos (by simpa using h1) hj
    · exact evNeg (by simpa using h1) hj
theorem chosen_j2 (l : List Int) (hl : Byt l) (n k : Int) (L : List (List Int)) (h0 : 0 < L.length) (hL : L.length ≤ 5000) (ht : ∀ t ∈ L, t.length ≤ 30) (a s : Int) (ha : 0 ≤ a) (ha2 : a ≤ 600000000000) :
    ∃ L' a' s', Ev (fun q => spec_l1Cur_chosen.j2 q n k L l a s) (n, k, L', a', s') ∧ L'.length ≤ 10001 ∧ ∀ t ∈ L', t.length ≤ 30 := by
  obtain ⟨v, s1, s2, e1, g1, g2, g3, g4⟩ := cur_pick l hl a s 10 ha (by omega)
  have step : ∀ {r} (f : Nat → Option (Int × Int × List (List Int) × Int × Int)), Ev f r → (∀ q, spec_l1Cur_chosen.j2 (q + 1) n k L l a s = f q) → Ev (fun q => spec_l1Cur_chosen.j2 q n k L l a s) r := fun f h e => Ev.step e h
  by_cases c0 : v = 0
  · obtain ⟨p, s3, s4, e2, g5, g6, g7, g8⟩ := cur_pick l hl s1 s2 (L.length : Int) (by omega) (by omega)
    obtain ⟨r, s5, s6, hr, g9, g10, e3⟩ := cur_combination l hl s3 s4 n (by omega) (by omega)
    refine ⟨L.set p.toNat r, s5, s6, Ev.step (fun q => by rw [spec_l1Cur_chosen.j2]) ?_, by simp; omega, fun t htm => ?_⟩
    · rw [e1]
      refine evSome (evPos c0 ?_)
      rw [e2]
      exact evSome (Ev.bind e3 (evPos g7 (evPos (by omega) (Ev.now _))))
    · rcases List.mem_or_eq_of_mem_set htm with h | h
      · exact ht t h
      · rw [h]; omega
  by_cases c1 : v = 1
  · refine ⟨L.take ((L.length : Int) - 1).toNat, s1, s2, Ev.step (fun q => by rw [spec_l1Cur_chosen.j2]) ?_, by simp; omega, fun t htm => ht t (List.mem_of_mem_take htm)⟩
    rw [e1, wr (by omega) (by omega)]
    exact evSome (evNeg c0 (evPos c1 (evPos (by omega) (evPos (by omega) (Ev.now _)))))
  by_cases c2 : v = 2
  · obtain ⟨r, s5, s6, hr, g9, g10, e3⟩ := cur_combination l hl s1 s2 n (by omega) (by omega)
    refine ⟨L ++ [r], s5, s6, Ev.step (fun q => by rw [spec_l1Cur_chosen.j2]) ?_, by simp; omega, fun t htm => ?_⟩
    · rw [e1]
      exact evSome (evNeg c0 (evNeg c1 (evPos c2 (Ev.bind e3 (evPos (by omega) (Ev.now _))))))
    · rcases List.mem_append.1 htm with h | h
      · exact ht t h
      · rw [List.mem_singleton.1 h]; omega
  by_cases c3 : v = 3
  · obtain ⟨p, s3, s4, e2, g5, g6, g7, g8⟩ := cur_pick l hl s1 s2 (L.length : Int) (by omega) (by omega)
    refine ⟨L.drop p.toNat ++ L.take p.toNat, s3, s4, Ev.step (fun q => by rw [spec_l1Cur_chosen.j2]) ?_, by simp; omega, fun t htm => ?_⟩
    · rw [e1]
      refine evSome (evNeg c0 (evNeg c1 (evNeg c2 (evPos c3 ?_))))
      rw [e2]
      refine evSome ?_
      simp only [Option.bind_some, List.nil_append]
      exact evPos g7 (evPos (by omega) (evPos (by simp; omega) (evPos (by simp; omega) (Ev.now _))))
    · rcases List.mem_append.1 htm with h | h
      · exact ht t (List.mem_of_mem_drop h)
      · exact ht t (List.mem_of_mem_take h)
  · refine ⟨L, s1, s2, Ev.step (fun q => by rw [spec_l1Cur_chosen.j2]) ?_, by omega, ht⟩
    rw [e1]
    exact evSome (evNeg c0 (evNeg c1 (evNeg c2 (evNeg c3 (Ev.now _)))))
theorem chosen_j1 (l : List Int) (hl : Byt l) (n k : Int) (L : List (List Int)) (h0 : 0 < L.length) (hL : L.length ≤ 5000) (ht : ∀ t ∈ L, t.length ≤ 30) (b : Bool) (a s : Int) (ha : 0 ≤ a) (ha2 : a ≤ 600000000000) :
    ∃ L' a' s', Ev (fun q => spec_l1Cur_chosen.j1 q n k L b l a s) (n, k, L', a', s') ∧ L'.length ≤ 10001 ∧ ∀ t ∈ L', t.length ≤ 30 := by
  cases b
  · obtain ⟨L', a', s', e, h1, h2⟩ := chosen_j2 l hl n k L h0 hL ht a s ha ha2
    refine ⟨L', a', s', Ev.step (fun q => by rw [spec_l1Cur_chosen.j1]) ?_, h1, h2⟩
    exact evNeg (by simp) e
  · obtain ⟨M, b, e0, m1, m2, m3⟩ := adjacentList_small n k
    cases b
    · obtain ⟨L', a', s', e, h1, h2⟩ := chosen_j2 l hl n k L h0 hL ht a s ha ha2
      refine ⟨L', a', s', Ev.step (fun q => by rw [spec_l1Cur_chosen.j1]) ?_, h1, h2⟩
      refine evPos rfl (Ev.bind e0 ?_)
      exact evNeg (by simp) e
    · obtain ⟨L', a', s', e, h1, h2⟩ := chosen_j2 l hl n k M (m3 rfl) (by omega) (fun t h => by have := m2 t h; omega) a s ha ha2
      exact ⟨L', a', s', Ev.step (fun q => by rw [spec_l1Cur_chosen.j1]) (evPos rfl (Ev.bind e0 (evPos rfl e))), h1, h2⟩
theorem chosen_j0 (l : List Int) (hl : Byt l) (n k : Int) (b : Bool) (hb : b = false → 0 ≤ n ∧ n ≤ 12 ∧ 0 ≤ k ∧ k ≤ n) (a s : Int) (ha : 0 ≤ a) (ha2 : a ≤ 500000000000) :
    ∃ L' a' s', Ev (fun q => spec_l1Cur_chosen.j0 q n k b l a s) (n, k, L', a', s') ∧ L'.length ≤ 10001 ∧ ∀ t ∈ L', t.length ≤ 30 := by
  cases b
  rotate_left
  · obtain ⟨r, s5, s6, hr, g9, g10, e3⟩ := cur_combination l hl a s 4 (by omega) (by omega)
    exact ⟨[r], s5, s6, Ev.step (fun q => by rw [spec_l1Cur_chosen.j0]) (evPos rfl (Ev.bind e3 (Ev.now _))), by simp, fun t h => by rw [List.mem_singleton.1 h]; omega⟩
  obtain ⟨c1, c2, c3, c4⟩ := hb rfl
  obtain ⟨N, rfl⟩ := Int.eq_ofNat_of_zero_le c1
  obtain ⟨K, rfl⟩ := Int.eq_ofNat_of_zero_le c3
  have hr := chRevolving_ev N K (by omega) (by omega)
  have hC := C_pos N K (by omega)
  have hrl := rev_length N K (by omega)
  have hrs := rev_small N K (by omega) (by omega)
  have hll := lexC_length N K 0
  have hls := lex_small N K (by omega) (by omega)
  have hall := raAll_ev (N : Int) (by omega) (by omega) K N 0 (by omega) (by omega) (by omega)
  obtain ⟨v, s1, s2, e1, g1, g2, g3, g4⟩ := cur_pick l hl a s 3 ha (by omega)
  by_cases v0 : v = 0
  · obtain ⟨L', a', s', e, h1, h2⟩ := chosen_j2 l hl N K (lexC N K 0) (by omega) (by omega) (fun t h => by have := (hls t h).1; omega) s1 s2 (by omega) (by omega)
    refine ⟨L', a', s', Ev.step (fun q => by rw [spec_l1Cur_chosen.j0]) (evNeg (by simp) (Ev.bind hr ?_)), h1, h2⟩
    rw [e1]
    exact evSome (evPos v0 (Ev.bind hall e))
  by_cases v1 : v = 1
  · by_cases n6 : (N : Int) < 6
    · obtain ⟨L', a', s', e, h1, h2⟩ := chosen_j1 l hl N K (rev N K) (by omega) (by omega) (fun t h => by have := hrs.2 t h; omega) true s1 s2 (by omega) (by omega)
      refine ⟨L', a', s', Ev.step (fun q => by rw [spec_l1Cur_chosen.j0]) (evNeg (by simp) (Ev.bind hr ?_)), h1, h2⟩
      rw [e1]
      exact evSome (evNeg v0 (evPos v1 (evPos n6 e)))
    · obtain ⟨L', a', s', e, h1, h2⟩ := chosen_j1 l hl N K (rev N K) (by omega) (by omega) (fun t h => by have := hrs.2 t h; omega) (Int.tmod (K : Int) 2 == 1) s1 s2 (by omega) (by omega)
      refine ⟨L', a', s', Ev.step (fun q => by rw [spec_l1Cur_chosen.j0]) (evNeg (by simp) (Ev.bind hr ?_)), h1, h2⟩
      rw [e1]
      exact evSome (evNeg v0 (evPos v1 (evNeg n6 e)))
  · obtain ⟨L', a', s', e, h1, h2⟩ := chosen_j2 l hl N K (rev N K) (by omega) (by omega) (fun t h => by have := hrs.2 t h; omega) s1 s2 (by omega) (by omega)
    refine ⟨L', a', s', Ev.step (fun q => by rw [spec_l1Cur_chosen.j0]) (evNeg (by simp) (Ev.bind hr ?_)), h1, h2⟩
    rw [e1]
    exact evSome (evNeg v0 (evNeg v1 e))
theorem cur_chosen (l : List Int) (hl : Byt l) : ∃ n k L a s, Ev (fun q => spec_l1Cur_chosen.f q l 0 0) (n, k, L, a, s) ∧ L.length ≤ 10001 ∧ ∀ t ∈ L, t.length ≤ 30 := by
  obtain ⟨n, k, s1, s2, e1, g1, g2⟩ := cur_size3 l hl 0 0 6 (by omega) (by omega) (by omega) (by omega)
  by_cases h : 0 ≤ n ∧ n ≤ 12 ∧ 0 ≤ k ∧ k ≤ n
  · obtain ⟨L', a', s', e, h1, h2⟩ := chosen_j0 l hl n k (decide (n > 8)) (fun _ => h) s1 s2 (by omega) (by omega)
    refine ⟨n, k, L', a', s', ?_, h1, h2⟩
    unfold spec_l1Cur_chosen.f
    rw [e1]
    refine evSome ?_
    rw [chSize_eq, decide_eq_true h]
    exact evSome (evPos rfl e)
  · obtain ⟨L', a', s', e, h1, h2⟩ := chosen_j0 l hl n k true (fun h => by cases h) s1 s2 (by omega) (by omega)
    refine ⟨n, k, L', a', s', ?_, h1, h2⟩
    unfold spec_l1Cur_chosen.f
    rw [e1]
    refine evSome ?_
    rw [chSize_eq, decide_eq_false h]
    exact evSome (evNeg (by simp) e)
theorem IsExchange_g0 (n kk : Nat) (hn : n ≤ 12) (hk : kk ≤ n) (may : Int → Int → Bool) (hmay : ∀ x y, 0 ≤ x → x < 12 → 0 ≤ y → y < 12 → impl_anyExchange.f x y = some (may x y)) (L : List (List Int)) (hL : L.length ≤ 1100) (hl : ∀ t ∈ L, comb n t = true) : ∀ (d : Nat) (i : Nat) (met : List Int), i + d = L.length → met.length ≤ i →
    Ev (fun q => impl_IsExchangeList.g0 q (n : Int) (kk : Int) L (i : Int) met) (gR n kk may (if i = 0 then none else some (L.getD (i - 1) [])) met (L.drop i) && decide (L.length = C n kk)) := by
  intro d
  induction d with
  | zero =>
    intro i met hd hm
    refine Ev.step (fun k => by rw [impl_IsExchangeList.g0]) ?_
    refine evNeg (by omega) (Ev.bind (binomial_ev n kk hn (by omega)) (evEq ?_))
    rw [List.drop_of_length_le (by omega), gR_nil, Bool.true_and, Bool.eq_iff_iff]
    simp
    omega
  | succ d ih =>
    intro i met hd hm
    have hi : i < L.length := by omega
    have e1 : rd_L2 L (i : Int) = L[i] := by unfold rd_L2; rw [Int.toNat_natCast, List.getD_eq_getElem?_getD, List.getElem?_eq_getElem hi]; rfl
    have hc := hl _ (List.getElem_mem hi)
    have hb := comb_bound hc
    have hlen := comb_length hc
    have hlt := lexI_lt hc
    have hC := C_le12 n L[i].length hn
    refine Ev.step (fun k => by rw [impl_IsExchangeList.g0]) ?_
    rw [e1, List.drop_eq_getElem_cons hi, gR_cons]
    refine evPos (by omega) (evPos (by omega) (evPos (by omega) ?_))
    by_cases c1 : L[i].length = kk
    rotate_left
    · refine evNeg (by omega) (evEq ?_)
      rw [decide_eq_false c1]; rfl
    refine evPos (by omega) (Ev.bind (combinationRank_ev n hn L[i] hc) (evPos ?_ ?_))
    · simp [Lit.wf, IntKind.min, IntKind.max, IntKind.signed, IntKind.bits]; omega
    rw [decide_eq_true c1, Bool.true_and]
    by_cases c2 : ((lexI n 0 L[i] : Nat) : Int) ∈ met
    · refine evPos c2 (evEq ?_)
      rw [decide_eq_false (fun h => h c2)]; rfl
    refine evNeg c2 (evPos (by omega) ?_)
    rw [decide_eq_true c2, Bool.true_and]
    have hnext := ih (i + 1) (((lexI n 0 L[i] : Nat) : Int) :: met) (by omega) (by simp; omega)
    rw [if_neg (by omega), show i + 1 - 1 = i from by omega, show L.getD i [] = L[i] from by rw [List.getD_eq_getElem?_getD, List.getElem?_eq_getElem hi]; rfl] at hnext
    by_cases c3 : i = 0
    · refine evPos (by omega) ?_
      rw [wr (by omega) (by omega), show (i : Int) + 1 = ((i + 1 : Nat) : Int) from by omega, if_pos c3]
      exact evTo hnext (by simp)
    have hp : i - 1 < L.length := by omega
    have e2 : rd_L2 L ((i : Int) - 1) = L[i - 1] := by unfold rd_L2; rw [show ((i : Int) - 1).toNat = i - 1 from by omega, List.getD_eq_getElem?_getD, List.getElem?_eq_getElem hp]; rfl
    have hcp := hl _ (List.getElem_mem hp)
    have hbp := comb_bound hcp
    have hlp := comb_length hcp
    refine evNeg (by omega) ?_
    rw [e2, if_neg c3, show L.getD (i - 1) [] = L[i - 1] from by rw [List.getD_eq_getElem?_getD, List.getElem?_eq_getElem hp]; rfl]
    refine Ev.bind (exchange_ev _ _ (by omega) (by omega)) ?_
    by_cases c4 : (exchL L[i - 1] L[i]).2.2 = true
    rotate_left
    · refine evNeg c4 (evEq ?_)
      simp only [Bool.not_eq_true] at c4
      simp [c4]
    obtain ⟨⟨m1, _⟩, m2, _⟩ := exchL_mem _ _ c4
    have r1 := hbp _ m1
    have r2 := hb _ m2
    refine evPos c4 ?_
    rw [hmay _ _ (by omega) (by omega) (by omega) (by omega)]
    refine evSome ?_
    by_cases c5 : may (exchL L[i - 1] L[i]).1 (exchL L[i - 1] L[i]).2.1 = true
    · refine evPos c5 ?_
      rw [wr (by omega) (by omega), show (i : Int) + 1 = ((i + 1 : Nat) : Int) from by omega]
      exact evTo hnext (by simp [c4, c5])
    · refine evNeg c5 (evEq ?_)
      simp only [Bool.not_eq_true] at c5
      simp [c4, c5]
theorem chLists_l0 (n : Int) (L : List (List Int)) (hL : L.length ≤ 1048576) (hl : ∀ t ∈ L, t.length ≤ 1048576) : ∀ (d : Nat) (j : Int), 0 ≤ j → j.toNat + d = L.length →
    Ev (fun k => spec_chLists.l0 k n L L (L.length : Int) j) (((L.drop j.toNat).all fun l => isComb n l) && (decide (0 ≤ n ∧ n ≤ 12) && decide ((L.length : Int) ≤ 1100))) := by
  intro d
  induction d with
  | zero =>
    intro j h0 hd
    refine Ev.step (fun k => by rw [spec_chLists.l0]) ?_
    refine evNeg (by omega) ?_
    rw [drop_end L j (by omega), raItems_eq, Option.bind_some, List.all_nil, Bool.true_and]
    by_cases c : 0 ≤ n ∧ n ≤ 12
    · rw [decide_eq_true c]; exact evPos rfl (evEq (by simp))
    · rw [decide_eq_false c]; exact evNeg (by simp) (evEq (by simp))
  | succ d ih =>
    intro j h0 hd
    have hj : j.toNat < L.length := by omega
    have e : rd_L2 L j = L[j.toNat] := by unfold rd_L2; rw [List.getD_eq_getElem?_getD, List.getElem?_eq_getElem hj]; rfl
    have ed : L.drop j.toNat = L[j.toNat] :: L.drop (j + 1).toNat := by
      rw [show (j + 1).toNat = j.toNat + 1 from by omega]; exact List.drop_eq_getElem_cons hj
    refine Ev.step (fun k => by rw [spec_chLists.l0]) ?_
    refine evPos (by omega) (evPos h0 (evPos (by omega) ?_))
    rw [e, wr (by omega) (by omega), ed, List.all_cons]
    refine Ev.bind (raCombination_ev n _ (by have := hl _ (List.getElem_mem hj); omega)) ?_
    by_cases c2 : isComb n L[j.toNat] = true
    · refine evPos c2 (evTo (ih (j + 1) (by omega) (by omega)) ?_)
      rw [c2]; simp
    · refine evNeg c2 (evEq ?_)
      simp only [Bool.not_eq_true] at c2
      rw [c2]; simp
theorem chLists_ev (n : Int) (L : List (List Int)) (hL : L.length ≤ 1048576) (hl : ∀ t ∈ L, t.length ≤ 1048576) : Ev (fun k => spec_chLists.f k n L) (okCombs n L) := by
  unfold spec_chLists.f
  exact evTo (chLists_l0 n L hL hl L.length 0 (by omega) (by simp)) (by simp [okCombs])
theorem raBinomial_tab : ((List.range 13).all fun n => (List.range 13).all fun k => spec_raBinomial.f 5000 (n : Int) (k : Int) == some (C n k : Int)) = true := by decide +kernel
theorem raBinomial_ev (n k : Nat) (hn : n ≤ 12) (hk : k ≤ 12) : Ev (fun r => spec_raBinomial.f r (n : Int) (k : Int)) (C n k : Int) := by
  refine evTab (g := fun r => spec_raBinomial.f r (n : Int) (k : Int)) (spec_raBinomial.mono _ _) 5000 ?_
  exact beq_iff_eq.1 (List.all_eq_true.1 (List.all_eq_true.1 raBinomial_tab n (List.mem_range.2 (by omega))) k (List.mem_range.2 (by omega)))
theorem chAll_l0 (n kk : Nat) (hn : n ≤ 12) (hk : kk ≤ 12) (L A : List (List Int)) (hL : L.length ≤ 1048576) (hl : ∀ t ∈ L, t.length ≤ 1048576) (hA : A.length ≤ 1048576) : ∀ (d : Nat) (i : Int), 0 ≤ i → i.toNat + d = A.length →
    Ev (fun k => spec_chAll.l0 k (n : Int) (kk : Int) L A (A.length : Int) i) (((A.drop i.toNat).all fun l => decide (l ∈ L)) && decide (L.length = C n kk)) := by
  intro d
  induction d with
  | zero =>
    intro i h0 hd
    refine Ev.step (fun k => by rw [spec_chAll.l0]) ?_
    refine evNeg (by omega) (Ev.bind (raBinomial_ev n kk hn hk) (evEq ?_))
    rw [List.drop_of_length_le (by omega), List.all_nil, Bool.true_and, Bool.eq_iff_iff]
    simp
    omega
  | succ d ih =>
    intro i h0 hd
    have hi : i.toNat < A.length := by omega
    have e : rd_L2 A i = A[i.toNat] := by unfold rd_L2; rw [List.getD_eq_getElem?_getD, List.getElem?_eq_getElem hi]; rfl
    refine Ev.step (fun k => by rw [spec_chAll.l0]) ?_
    refine evPos (by omega) (evPos h0 (evPos (by omega) ?_))
    rw [e, wr (by omega) (by omega), List.drop_eq_getElem_cons hi, List.all_cons]
    refine Ev.bind (raPlace_ev L _ (by omega) (fun t ht => by have := hl t ht; omega)) ?_
    have hpm := placeI_mem L A[i.toNat] 0 (by omega)
    by_cases c : A[i.toNat] ∈ L
    · have := hpm.2 c
      refine evNeg (by omega) (evTo (ih (i + 1) (by omega) (by omega)) ?_)
      rw [decide_eq_true c, Bool.true_and, show (i + 1).toNat = i.toNat + 1 from by omega]
    · have : ¬ 0 ≤ placeI A[i.toNat] 0 L := fun h => c (hpm.1 h)
      refine evPos (by omega) (evEq ?_)
      rw [decide_eq_false c]; rfl
theorem chAll_ev (n kk : Nat) (hn : n ≤ 12) (hk : kk ≤ n) (L : List (List Int)) (hL : L.length ≤ 1048576) (hl : ∀ t ∈ L, t.length ≤ 1048576) : Ev (fun k => spec_chAll.f k (n : Int) (kk : Int) L) (allL n kk L) := by
  unfold spec_chAll.f
  have hC := C_le12 n kk hn
  have hlen := lexC_length n kk 0
  refine Ev.bind (raAll_ev (n : Int) (by omega) (by omega) kk n 0 (by omega) (by omega) (by omega)) ?_
  exact evTo (chAll_l0 n kk hn (by omega) L (lexC n kk 0) hL hl (by omega) (lexC n kk 0).length 0 (by omega) (by simp)) (by simp [allL])
theorem IsRound_g0 (n kk : Nat) (hn : n ≤ 12) (hk : kk ≤ n) (may : Int → Int → Bool) (hmay : ∀ x y, 0 ≤ x → x < 12 → 0 ≤ y → y < 12 → impl_anyExchange.f x y = some (may x y)) (L : List (List Int)) (hL : L.length ≤ 1100) (hl : ∀ t ∈ L, comb n t = true) : ∀ (d : Nat) (i : Nat) (met : List Int), i + d = L.length → met.length ≤ i →
    Ev (fun q => impl_IsRoundExchange.g0 q (n : Int) (kk : Int) L (i : Int) met) (gR n kk may (if i = 0 then none else some (L.getD (i - 1) [])) met (L.drop i) && decide (L.length = C n kk)) := by
  intro d
  induction d with
  | zero =>
    intro i met hd hm
    refine Ev.step (fun k => by rw [impl_IsRoundExchange.g0]) ?_
    refine evNeg (by omega) (Ev.bind (binomial_ev n kk hn (by omega)) (evEq ?_))
    rw [List.drop_of_length_le (by omega), gR_nil, Bool.true_and, Bool.eq_iff_iff]
    simp
    omega
  | succ d ih =>
    intro i met hd hm
    have hi : i < L.length := by omega
    have e1 : rd_L2 L (i : Int) = L[i] := by unfold rd_L2; rw [Int.toNat_natCast, List.getD_eq_getElem?_getD, List.getElem?_eq_getElem hi]; rfl
    have hc := hl _ (List.getElem_mem hi)
    have hb := comb_bound hc
    have hlen := comb_length hc
    have hlt := lexI_lt hc
    have hC := C_le12 n L[i].length hn
    refine Ev.step (fun k => by rw [impl_IsRoundExchange.g0]) ?_
    rw [e1, List.drop_eq_getElem_cons hi, gR_cons]
    refine evPos (by omega) (evPos (by omega) (evPos (by omega) ?_))
    by_cases c1 : L[i].length = kk
    rotate_left
    · refine evNeg (by omega) (evEq ?_)
      rw [decide_eq_false c1]; rfl
    refine evPos (by omega) (Ev.bind (combinationRank_ev n hn L[i] hc) (evPos ?_ ?_))
    · simp [Lit.wf, IntKind.min, IntKind.max, IntKind.signed, IntKind.bits]; omega
    rw [decide_eq_true c1, Bool.true_and]
    by_cases c2 : ((lexI n 0 L[i] : Nat) : Int) ∈ met
    · refine evPos c2 (evEq ?_)
      rw [decide_eq_false (fun h => h c2)]; rfl
    refine evNeg c2 (evPos (by omega) ?_)
    rw [decide_eq_true c2, Bool.true_and]
    have hnext := ih (i + 1) (((lexI n 0 L[i] : Nat) : Int) :: met) (by omega) (by simp; omega)
    rw [if_neg (by omega), show i + 1 - 1 = i from by omega, show L.getD i [] = L[i] from by rw [List.getD_eq_getElem?_getD, List.getElem?_eq_getElem hi]; rfl] at hnext
    by_cases c3 : i = 0
    · refine evPos (by omega) ?_
      rw [wr (by omega) (by omega), show (i : Int) + 1 = ((i + 1 : Nat) : Int) from by omega, if_pos c3]
      exact evTo hnext (by simp)
    have hp : i - 1 < L.length := by omega
    have e2 : rd_L2 L ((i : Int) - 1) = L[i - 1] := by unfold rd_L2; rw [show ((i : Int) - 1).toNat = i - 1 from by omega, List.getD_eq_getElem?_getD, List.getElem?_eq_getElem hp]; rfl
    have hcp := hl _ (List.getElem_mem hp)
    have hbp := comb_bound hcp
    have hlp := comb_length hcp
    refine evNeg (by omega) ?_
    rw [e2, if_neg c3, show L.getD (i - 1) [] = L[i - 1] from by rw [List.getD_eq_getElem?_getD, List.getElem?_eq_getElem hp]; rfl]
    refine Ev.bind (exchange_ev _ _ (by omega) (by omega)) ?_
    by_cases c4 : (exchL L[i - 1] L[i]).2.2 = true
    rotate_left
    · refine evNeg c4 (evEq ?_)
      simp only [Bool.not_eq_true] at c4
      simp [c4]
    obtain ⟨⟨m1, _⟩, m2, _⟩ := exchL_mem _ _ c4
    have r1 := hbp _ m1
    have r2 := hb _ m2
    refine evPos c4 ?_
    rw [hmay _ _ (by omega) (by omega) (by omega) (by omega)]
    refine evSome ?_
    by_cases c5 : may (exchL L[i - 1] L[i]).1 (exchL L[i - 1] L[i]).2.1 = true
    · refine evPos c5 ?_
      rw [wr (by omega) (by omega), show (i : Int) + 1 = ((i + 1 : Nat) : Int) from by omega]
      exact evTo hnext (by simp [c4, c5])
    · refine evNeg c5 (evEq ?_)
      simp only [Bool.not_eq_true] at c5
      simp [c4, c5]
theorem identity_l0 (n : Nat) (hn : n ≤ 1000000000) : ∀ (d : Nat) (j : Int), 0 ≤ j → j.toNat + d = n → Ev (fun k => impl_identity.l0 k (upTo j.toNat) (n : Int) j) (upTo n) := by
  intro d
  induction d with
  | zero =>
    intro j h0 hd
    refine Ev.step (fun k => by rw [impl_identity.l0]) ?_
    exact evNeg (by omega) (evEq (by rw [show j.toNat = n from by omega]))
  | succ d ih =>
    intro j h0 hd
    refine Ev.step (fun k => by rw [impl_identity.l0]) ?_
    refine evPos (by omega) (evPos (by rw [upTo_length]; omega) ?_)
    have h := ih (j + 1) (by omega) (by omega)
    rw [show (j + 1).toNat = j.toNat + 1 from by omega, upTo_succ, Int.toNat_of_nonneg h0] at h
    rw [wr (by omega) (by omega)]
    exact h
theorem identity_ev (n : Nat) (hn : n ≤ 1000000000) : Ev (fun k => impl_identity.f k (n : Int)) (upTo n) := by
  unfold impl_identity.f
  exact identity_l0 n hn n 0 (by omega) (by simp)
theorem ComplementsOf_l0 (n : Nat) (hn : n ≤ 12) (L : List (List Int)) (hL : L.length ≤ 1100) (hl : ∀ t ∈ L, t.length ≤ 12) : ∀ (d : Nat) (out : List (List Int)) (j : Int), 0 ≤ j → j.toNat + d = L.length → out.length ≤ j →
    Ev (fun k => impl_ComplementsOf.l0 k (n : Int) out L (L.length : Int) j) (out ++ (L.drop j.toNat).map (fun l => missL (upTo n) l), true) := by
  intro d
  induction d with
  | zero =>
    intro out j h0 hd ho
    refine Ev.step (fun k => by rw [impl_ComplementsOf.l0]) ?_
    refine evNeg (by omega) (evEq ?_)
    rw [drop_end L j (by omega)]; simp
  | succ d ih =>
    intro out j h0 hd ho
    have hj : j.toNat < L.length := by omega
    have e : rd_L2 L j = L[j.toNat] := by unfold rd_L2; rw [List.getD_eq_getElem?_getD, List.getElem?_eq_getElem hj]; rfl
    have ed : L.drop j.toNat = L[j.toNat] :: L.drop (j + 1).toNat := by
      rw [show (j + 1).toNat = j.toNat + 1 from by omega]; exact List.drop_eq_getElem_cons hj
    refine Ev.step (fun k => by rw [impl_ComplementsOf.l0]) ?_
    refine evPos (by omega) (evPos h0 (evPos (by omega) ?_))
    rw [e, wr (by omega) (by omega), ed, List.map_cons]
    refine Ev.bind (identity_ev n (by omega)) (Ev.bind (missing_ev _ _ (by rw [upTo_length]; omega) (by have := hl _ (List.getElem_mem hj); omega)) (evPos (by omega) (evTo (ih _ (j + 1) (by omega) (by omega) (by simp; omega)) ?_)))
    simp
theorem spec_ComplementsOf_l0 (n : Nat) (hn : n ≤ 12) (L : List (List Int)) (hL : L.length ≤ 1100) (hl : ∀ t ∈ L, t.length ≤ 12) : ∀ (d : Nat) (out : List (List Int)) (j : Int), 0 ≤ j → j.toNat + d = L.length → out.length ≤ j →
    Ev (fun k => spec_ComplementsOf.l0 k (n : Int) out L (L.length : Int) j) (out ++ (L.drop j.toNat).map (fun l => missL (upTo n) l), true) := by
  intro d
  induction d with
  | zero =>
    intro out j h0 hd ho
    refine Ev.step (fun k => by rw [spec_ComplementsOf.l0]) ?_
    refine evNeg (by omega) (evEq ?_)
    rw [drop_end L j (by omega)]; simp
  | succ d ih =>
    intro out j h0 hd ho
    have hj : j.toNat < L.length := by omega
    have e : rd_L2 L j = L[j.toNat] := by unfold rd_L2; rw [List.getD_eq_getElem?_getD, List.getElem?_eq_getElem hj]; rfl
    have ed : L.drop j.toNat = L[j.toNat] :: L.drop (j + 1).toNat := by
      rw [show (j + 1).toNat = j.toNat + 1 from by omega]; exact List.drop_eq_getElem_cons hj
    refine Ev.step (fun k => by rw [spec_ComplementsOf.l0]) ?_
    refine evPos (by omega) (evPos h0 (evPos (by omega) ?_))
    rw [e, wr (by omega) (by omega), ed, List.map_cons]
    refine Ev.bind (raUpTo_ev n (by omega)) (Ev.bind (chMissing_ev _ _ (by rw [upTo_length]; omega) (by have := hl _ (List.getElem_mem hj); omega)) (evPos (by omega) (evTo (ih _ (j + 1) (by omega) (by omega) (by simp; omega)) ?_)))
    simp
def adjB (x y : Int) : Bool := decide (x - y = 1 ∨ y - x = 1)
theorem adjB_symm (x y : Int) : adjB x y = adjB y x := by unfold adjB; exact decide_eq_decide.2 ⟨fun h => h.symm, fun h => h.symm⟩
theorem adjB_eq : ∀ x y : Int, 0 ≤ x → x < 12 → 0 ≤ y → y < 12 → impl_adjacent.f x y = some (adjB x y) := by
  intro x y h1 h2 h3 h4
  unfold impl_adjacent.f adjB
  rw [wr (by omega) (by omega), wr (by omega) (by omega)]
  by_cases c : x - y = 1
  · rw [if_pos c, decide_eq_true (.inl c)]
  · rw [if_neg c]
    by_cases c2 : y - x = 1
    · rw [decide_eq_true (.inr c2)]; simp [c2]
    · rw [decide_eq_false (by omega)]; simp [c2]
def okA (n kk : Int) (L : List (List Int)) : Bool := decide (0 ≤ n ∧ n ≤ 12 ∧ 0 ≤ kk ∧ kk ≤ n) && okCombs n L
def exV (n kk : Int) (L : List (List Int)) : Bool × Bool := if okA n kk L = true then (allL n.toNat kk.toNat L && nearL (fun _ _ => true) L, true) else (false, false)
def adV (n kk : Int) (L : List (List Int)) : Bool × Bool := if okA n kk L = true then (allL n.toNat kk.toNat L && nearL adjB L, true) else (false, false)
theorem okA_parts {n kk : Int} {L : List (List Int)} (h : okA n kk L = true) : ∃ N K : Nat, n = N ∧ kk = K ∧ N ≤ 12 ∧ K ≤ N ∧ okCombs N L = true := by
  simp only [okA, Bool.and_eq_true, decide_eq_true_eq] at h
  obtain ⟨⟨c1, c2, c3, c4⟩, h2⟩ := h
  obtain ⟨N, rfl⟩ := Int.eq_ofNat_of_zero_le c1
  obtain ⟨K, rfl⟩ := Int.eq_ofNat_of_zero_le c3
  exact ⟨N, K, rfl, rfl, by omega, by omega, h2⟩
theorem exBoth (n kk : Int) (L : List (List Int)) (r3 : L.length ≤ 1048576) (r4 : ∀ t ∈ L, t.length ≤ 1048576) : Ev (fun q => spec_IsExchangeList.f q n kk L) (exV n kk L) ∧ Ev (fun q => impl_IsExchangeList.f q n kk L) (exV n kk L) := by
  have ha := chLists_ev n L r3 r4
  have hb := areCombinations_ev n L r3 r4
  unfold spec_IsExchangeList.f impl_IsExchangeList.f
  rw [chSize_eq, isChoice_eq]
  by_cases hc : 0 ≤ n ∧ n ≤ 12 ∧ 0 ≤ kk ∧ kk ≤ n
  rotate_left
  · rw [decide_eq_false hc]
    have e : exV n kk L = (false, false) := by unfold exV okA; rw [decide_eq_false hc]; simp
    rw [e]
    refine ⟨evSome (evNeg (by simp) ?_), evSome (evNeg (by simp) (Ev.now _))⟩
    refine Ev.step (fun k => by rw [spec_IsExchangeList.j0]) ?_
    exact evPos rfl (Ev.now _)
  have e0 : okA n kk L = okCombs n L := by unfold okA; rw [decide_eq_true hc, Bool.true_and]
  rw [decide_eq_true hc]
  obtain ⟨c1, c2, c3, c4⟩ := hc
  obtain ⟨N, rfl⟩ := Int.eq_ofNat_of_zero_le c1
  obtain ⟨K, rfl⟩ := Int.eq_ofNat_of_zero_le c3
  unfold exV
  rw [e0]
  cases ho : okCombs N L
  · rw [ho] at ha hb
    rw [if_neg (by simp)]
    refine ⟨evSome (evPos rfl (Ev.bind ha ?_)), evSome (evPos rfl (Ev.bind hb (evNeg (by simp) (Ev.now _))))⟩
    refine Ev.step (fun k => by rw [spec_IsExchangeList.j0]) ?_
    exact evPos rfl (Ev.now _)
  rw [ho] at ha hb
  rw [if_pos rfl, Int.toNat_natCast, Int.toNat_natCast]
  obtain ⟨_, _, o3, o4⟩ := okCombs_parts ho
  have hsm : ∀ t ∈ L, t.length ≤ 12 ∧ ∀ x ∈ t, 0 ≤ x ∧ x < 12 := fun t ht => ⟨by have := comb_length (o4 t ht); omega, fun x hx => by have := comb_bound (o4 t ht) x hx; omega⟩
  have hg := IsExchange_g0 N K (by omega) (by omega) (fun _ _ => true) (fun x y _ _ _ _ => rfl) L o3 o4 L.length 0 [] (by omega) (by simp)
  rw [if_pos rfl, List.drop_zero, goes_all N K (fun _ _ => true) L o4] at hg
  have hall := chAll_ev N K (by omega) (by omega) L r3 r4
  have hnear := chNear_ev (N : Int) L (by omega) hsm
  have hcg := nearL_congr (within' (N : Int)) (fun _ _ => true) L (fun a ha b hb he => by
    obtain ⟨⟨m1, _⟩, m2, _⟩ := exchL_mem a b he
    have q1 := comb_bound (o4 a ha) _ m1
    have q2 := comb_bound (o4 b hb) _ m2
    simp only [within', decide_eq_true_eq]
    omega)
  rw [hcg] at hnear
  refine ⟨evSome (evPos rfl (Ev.bind ha ?_)), evSome (evPos rfl (Ev.bind hb (evPos rfl (Ev.bind hg (Ev.now _)))))⟩
  refine Ev.step (fun k => by rw [spec_IsExchangeList.j0]) ?_
  refine evNeg (by simp) (Ev.bind hall ?_)
  by_cases c : allL N K L = true
  · refine evPos c (Ev.bind hnear (evEq ?_))
    rw [c, Bool.true_and]
  · refine evNeg c (evEq ?_)
    simp only [Bool.not_eq_true] at c
    rw [c, Bool.false_and]
theorem adBoth (n kk : Int) (L : List (List Int)) (r3 : L.length ≤ 1048576) (r4 : ∀ t ∈ L, t.length ≤ 1048576) : Ev (fun q => spec_IsAdjacentList.f q n kk L) (adV n kk L) ∧ Ev (fun q => impl_IsAdjacentList.f q n kk L) (adV n kk L) := by
  have ha := chLists_ev n L r3 r4
  have hb := areCombinations_ev n L r3 r4
  unfold spec_IsAdjacentList.f impl_IsAdjacentList.f
  rw [chSize_eq, isChoice_eq]
  by_cases hc : 0 ≤ n ∧ n ≤ 12 ∧ 0 ≤ kk ∧ kk ≤ n
  rotate_left
  · rw [decide_eq_false hc]
    have e : adV n kk L = (false, false) := by unfold adV okA; rw [decide_eq_false hc]; simp
    rw [e]
    refine ⟨evSome (evNeg (by simp) ?_), evSome (evNeg (by simp) (Ev.now _))⟩
    refine Ev.step (fun k => by rw [spec_IsAdjacentList.j0]) ?_
    exact evPos rfl (Ev.now _)
  have e0 : okA n kk L = okCombs n L := by unfold okA; rw [decide_eq_true hc, Bool.true_and]
  rw [decide_eq_true hc]
  obtain ⟨c1, c2, c3, c4⟩ := hc
  obtain ⟨N, rfl⟩ := Int.eq_ofNat_of_zero_le c1
  obtain ⟨K, rfl⟩ := Int.eq_ofNat_of_zero_le c3
  unfold adV
  rw [e0]
  cases ho : okCombs N L
  · rw [ho] at ha hb
    rw [if_neg (by simp)]
    refine ⟨evSome (evPos rfl (Ev.bind ha ?_)), evSome (evPos rfl (Ev.bind hb (evNeg (by simp) (Ev.now _))))⟩
    refine Ev.step (fun k => by rw [spec_IsAdjacentList.j0]) ?_
    exact evPos rfl (Ev.now _)
  rw [ho] at ha hb
  rw [if_pos rfl, Int.toNat_natCast, Int.toNat_natCast]
  obtain ⟨_, _, o3, o4⟩ := okCombs_parts ho
  have hsm : ∀ t ∈ L, t.length ≤ 12 ∧ ∀ x ∈ t, 0 ≤ x ∧ x < 12 := fun t ht => ⟨by have := comb_length (o4 t ht); omega, fun x hx => by have := comb_bound (o4 t ht) x hx; omega⟩
  have hg := IsAdjacent_g0 N K (by omega) (by omega) adjB adjB_eq L o3 o4 L.length 0 [] (by omega) (by simp)
  rw [if_pos rfl, List.drop_zero, goes_all N K adjB L o4] at hg
  have hall := chAll_ev N K (by omega) (by omega) L r3 r4
  have hnear := chNear_ev 1 L (by omega) hsm
  have hcg := nearL_congr (within' 1) adjB L (fun a ha b hb he => by
    obtain ⟨⟨m1, m3⟩, m2, _⟩ := exchL_mem a b he
    have q1 := comb_bound (o4 a ha) _ m1
    have q2 := comb_bound (o4 b hb) _ m2
    have hne : (exchL a b).1 ≠ (exchL a b).2.1 := fun e => m3 (e ▸ m2)
    simp only [within', adjB]
    apply decide_eq_decide.2
    omega)
  rw [hcg] at hnear
  refine ⟨evSome (evPos rfl (Ev.bind ha ?_)), evSome (evPos rfl (Ev.bind hb (evPos rfl (Ev.bind hg (Ev.now _)))))⟩
  refine Ev.step (fun k => by rw [spec_IsAdjacentList.j0]) ?_
  refine evNeg (by simp) (Ev.bind hall ?_)
  by_cases c : allL N K L = true
  · refine evPos c (Ev.bind hnear (evEq ?_))
    rw [c, Bool.true_and]
  · refine evNeg c (evEq ?_)
    simp only [Bool.not_eq_true] at c
    rw [c, Bool.false_and]
theorem nearL_pair (may : Int → Int → Bool) (a b : List Int) : nearL may [a, b] = ((exchL a b).2.2 && may (exchL a b).1 (exchL a b).2.1) := by
  simp [nearL]
theorem rdBoth (n kk : Int) (L : List (List Int)) (r3 : L.length ≤ 1048576) (r4 : ∀ t ∈ L, t.length ≤ 1048576) : ∃ g b : Bool, Ev (fun q => spec_IsRoundExchange.f q n kk L) (g, b) ∧ Ev (fun q => impl_IsRoundExchange.f q n kk L) (g, b) ∧ (g = true → (exV n kk L).1 = true) := by
  have hE := (exBoth n kk L r3 r4).1
  have ha := chLists_ev n L r3 r4
  have hb := areCombinations_ev n L r3 r4
  unfold spec_IsRoundExchange.f impl_IsRoundExchange.f
  rw [isChoice_eq]
  by_cases hc : 0 ≤ n ∧ n ≤ 12 ∧ 0 ≤ kk ∧ kk ≤ n
  rotate_left
  · have e : exV n kk L = (false, false) := by unfold exV okA; rw [decide_eq_false hc]; simp
    rw [e] at hE
    rw [decide_eq_false hc]
    exact ⟨false, false, Ev.bind hE (evNeg (by simp) (Ev.now _)), evSome (evNeg (by simp) (Ev.now _)), fun h => by cases h⟩
  have e0 : okA n kk L = okCombs n L := by unfold okA; rw [decide_eq_true hc, Bool.true_and]
  rw [decide_eq_true hc]
  obtain ⟨c1, c2, c3, c4⟩ := hc
  obtain ⟨N, rfl⟩ := Int.eq_ofNat_of_zero_le c1
  obtain ⟨K, rfl⟩ := Int.eq_ofNat_of_zero_le c3
  cases ho : okCombs N L
  · have e : exV N K L = (false, false) := by unfold exV; rw [e0, ho]; simp
    rw [ho] at ha hb
    rw [e] at hE
    exact ⟨false, false, Ev.bind hE (evNeg (by simp) (Ev.now _)), evSome (evPos rfl (Ev.bind hb (evNeg (by simp) (Ev.now _)))), fun h => by cases h⟩
  have e : exV N K L = (allL N K L && nearL (fun _ _ => true) L, true) := by unfold exV; rw [e0, ho, if_pos rfl, Int.toNat_natCast, Int.toNat_natCast]
  rw [e] at hE ⊢
  rw [ho] at ha hb
  obtain ⟨_, _, o3, o4⟩ := okCombs_parts ho
  have hsm : ∀ t ∈ L, t.length ≤ 12 ∧ ∀ x ∈ t, 0 ≤ x ∧ x < 12 := fun t ht => ⟨by have := comb_length (o4 t ht); omega, fun x hx => by have := comb_bound (o4 t ht) x hx; omega⟩
  have hg := IsRound_g0 N K (by omega) (by omega) (fun _ _ => true) (fun x y _ _ _ _ => rfl) L o3 o4 L.length 0 [] (by omega) (by simp)
  rw [if_pos rfl, List.drop_zero, goes_all N K (fun _ _ => true) L o4] at hg
  have hmay : ∀ a ∈ L, ∀ b ∈ L, (exchL a b).2.2 = true → within' (N : Int) (exchL a b).1 (exchL a b).2.1 = true := by
    intro a ha b hb he
    obtain ⟨⟨m1, _⟩, m2, _⟩ := exchL_mem a b he
    have q1 := comb_bound (o4 a ha) _ m1
    have q2 := comb_bound (o4 b hb) _ m2
    simp only [within', decide_eq_true_eq]
    omega
  cases hv : (allL N K L && nearL (fun _ _ => true) L)
  · rw [hv] at hE hg
    exact ⟨false, true, Ev.bind hE (evPos rfl (evNeg (by simp) (Ev.now _))), evSome (evPos rfl (Ev.bind hb (evPos rfl (Ev.bind hg (evNeg (by simp) (Ev.now _)))))), fun h => by cases h⟩
  rw [hv] at hE hg
  have hlen : L.length = C N K := by
    simp only [allL, Bool.and_eq_true, decide_eq_true_eq] at hv
    exact hv.1.2
  have hpos : 0 < L.length := by rw [hlen]; exact C_pos N K (by omega)
  have m1 : L.length - 1 < L.length := by omega
  have eL : rd_L2 L ((L.length : Int) - 1) = L[L.length - 1] := by unfold rd_L2; rw [show ((L.length : Int) - 1).toNat = L.length - 1 from by omega, List.getD_eq_getElem?_getD, List.getElem?_eq_getElem m1]; rfl
  have eF : rd_L2 L 0 = L[0] := by unfold rd_L2; rw [show (0 : Int).toNat = 0 from rfl, List.getD_eq_getElem?_getD, List.getElem?_eq_getElem hpos]; rfl
  have mL := List.getElem_mem m1
  have mF := List.getElem_mem hpos
  have sL := hsm _ mL
  have sF := hsm _ mF
  have hx := exchange_ev L[L.length - 1] L[0] (by omega) (by omega)
  have himp : Ev (fun q => (impl_exchange.f q (rd_L2 L ((L.length : Int) - 1)) (rd_L2 L 0)).bind fun x => (some (x.2.2 || decide (L.length = 1), true))) ((exchL L[L.length - 1] L[0]).2.2 || decide (L.length = 1), true) := by
    rw [eL, eF]
    exact Ev.bind hx (Ev.now _)
  refine ⟨(exchL L[L.length - 1] L[0]).2.2 || decide (L.length = 1), true, Ev.bind hE (evPos rfl (evPos rfl ?_)), evSome (evPos rfl (Ev.bind hb (evPos rfl (Ev.bind hg (evPos rfl (evPos hpos (evPos (by omega) himp))))))), fun _ => rfl⟩
  by_cases c : L.length = 1
  · refine evPos (by omega) (evEq ?_)
    rw [decide_eq_true c, Bool.or_true]
  refine evNeg (by omega) ?_
  rw [wr (by omega) (by omega), eL, eF, decide_eq_false c, Bool.or_false]
  refine evPos (by omega) (evPos (by omega) (evPos (by omega) ?_))
  have hn2 := chNear_ev (N : Int) [L[L.length - 1], L[0]] (by simp) (fun t ht => by
    rcases List.mem_cons.1 ht with rfl | ht
    · exact sL
    · rcases List.mem_cons.1 ht with rfl | ht
      · exact sF
      · cases ht)
  refine Ev.bind hn2 (evEq ?_)
  rw [nearL_pair]
  cases he : (exchL L[L.length - 1] L[0]).2.2
  · rfl
  · rw [hmay _ mL _ mF he]; rfl
def cps (n : Nat) (L : List (List Int)) : List (List Int) := L.map (fun l => missL (upTo n) l)
theorem incrFrom_filter (p : Int → Bool) : ∀ (l : List Int) (b : Int), incrFrom b l = true → incrFrom b (l.filter p) = true := by
  intro l
  induction l with
  | nil => intro b _; rfl
  | cons x t ih =>
    intro b h
    simp only [incrFrom, Bool.and_eq_true, decide_eq_true_eq] at h
    rw [List.filter_cons]
    by_cases c : p x = true
    · rw [if_pos c]
      simp only [incrFrom, Bool.and_eq_true, decide_eq_true_eq]
      exact ⟨h.1, ih _ h.2⟩
    · rw [if_neg c]
      exact incrFrom_mono _ _ _ (by omega) (ih _ h.2)
theorem comp_comb (n : Nat) (l : List Int) : comb n (missL (upTo n) l) = true := by
  have h := comb_upTo n
  simp only [comb, Bool.and_eq_true, List.all_eq_true, decide_eq_true_eq] at h ⊢
  exact ⟨incrFrom_filter _ _ _ h.1, fun x hx => h.2 x (missL_mem.1 hx).1⟩
theorem comp_miss (n : Nat) (a b : List Int) (hb : comb n b = true) : missL (missL (upTo n) a) (missL (upTo n) b) = missL b a := by
  have e : missL b a = missL ((upTo n).filter (fun x => decide (x ∈ b))) a := by rw [comb_filter n b hb]
  rw [e]
  unfold missL
  rw [List.filter_filter, List.filter_filter]
  apply List.filter_congr
  intro x hx
  rw [Bool.eq_iff_iff]
  simp only [Bool.and_eq_true, decide_eq_true_eq, List.mem_filter, decide_not, Bool.not_eq_true', decide_eq_false_iff_not, not_and, Decidable.not_not]
  exact ⟨fun h => ⟨h.2, h.1 hx⟩, fun h => ⟨fun _ => h.2, h.1⟩⟩
theorem comp_comp (n : Nat) (a : List Int) (ha : comb n a = true) : missL (upTo n) (missL (upTo n) a) = a := by
  have h := comp_miss n [] a ha
  have e1 : missL (upTo n) [] = upTo n := by unfold missL; rw [List.filter_eq_self]; intro x _; simp
  have e2 : missL a [] = a := by unfold missL; rw [List.filter_eq_self]; intro x _; simp
  rw [e1, e2] at h
  exact h
theorem comp_exch (n : Nat) (a b : List Int) (ha : comb n a = true) (hb : comb n b = true) : (exchL (missL (upTo n) a) (missL (upTo n) b)).2.2 = (exchL a b).2.2 ∧ (exchL (missL (upTo n) a) (missL (upTo n) b)).1 = (exchL a b).2.1 ∧ (exchL (missL (upTo n) a) (missL (upTo n) b)).2.1 = (exchL a b).1 := by
  unfold exchL
  rw [comp_miss n a b hb, comp_miss n b a ha]
  by_cases c1 : ((missL a b).length : Int) = 1
  · by_cases c2 : ((missL b a).length : Int) = 1
    · simp only [c1, c2, if_true, and_self]
    · simp only [c1, c2, if_true, if_false, and_self]
  · by_cases c2 : ((missL b a).length : Int) = 1
    · simp only [c1, c2, if_true, if_false, and_self]
    · simp only [c1, c2, if_false, and_self]
theorem cps_near (n : Nat) (may : Int → Int → Bool) (hs : ∀ x y, may x y = may y x) : ∀ L : List (List Int), (∀ t ∈ L, comb n t = true) → nearL may (cps n L) = nearL may L := by
  intro L
  induction L with
  | nil => intro _; rfl
  | cons a T ih =>
    intro h
    cases T with
    | nil => rfl
    | cons b T =>
      have h2 := ih (fun t ht => h t (List.mem_cons_of_mem _ ht))
      obtain ⟨e1, e2, e3⟩ := comp_exch n a b (h a (by simp)) (h b (by simp))
      show ((exchL (missL (upTo n) a) (missL (upTo n) b)).2.2 && may (exchL (missL (upTo n) a) (missL (upTo n) b)).1 (exchL (missL (upTo n) a) (missL (upTo n) b)).2.1 && nearL may (cps n (b :: T))) = ((exchL a b).2.2 && may (exchL a b).1 (exchL a b).2.1 && nearL may (b :: T))
      rw [h2, e1, e2, e3, hs]
theorem C_symm : ∀ m a b : Nat, a + b = m → C m a = C m b := by
  intro m
  induction m with
  | zero => intro a b h; obtain rfl : a = 0 := by omega
            obtain rfl : b = 0 := by omega
            rfl
  | succ m ih =>
    intro a b h
    cases a with
    | zero => obtain rfl : b = m + 1 := by omega
              simp
    | succ a =>
      cases b with
      | zero => obtain rfl : a = m := by omega
                simp
      | succ b =>
        rw [C_succ, C_succ, ih (a + 1) b (by omega), ih a (b + 1) (by omega)]
        omega
theorem nodup_cps (n : Nat) : ∀ L : List (List Int), (∀ t ∈ L, comb n t = true) → ((cps n L).Nodup ↔ L.Nodup) := by
  intro L
  induction L with
  | nil => intro _; simp [cps]
  | cons a T ih =>
    intro h
    have h2 := ih (fun t ht => h t (List.mem_cons_of_mem _ ht))
    show (missL (upTo n) a :: cps n T).Nodup ↔ _
    rw [List.nodup_cons, List.nodup_cons, h2]
    have h3 : missL (upTo n) a ∈ cps n T ↔ a ∈ T := by
      constructor
      · intro hm
        obtain ⟨b, hb, e⟩ := List.mem_map.1 hm
        have e1 := comp_comp n a (h a (by simp))
        have e2 := comp_comp n b (h b (List.mem_cons_of_mem _ hb))
        have e' : missL (upTo n) b = missL (upTo n) a := e
        rw [← e1, ← e', e2]
        exact hb
      · intro hm
        exact List.mem_map.2 ⟨a, hm, rfl⟩
    rw [h3]
theorem cps_all (n k : Nat) (hk : k ≤ n) (L : List (List Int)) (h : ∀ t ∈ L, comb n t = true) : allL n (n - k) (cps n L) = allL n k L := by
  have h1 : ∀ t ∈ cps n L, comb n t = true := fun t ht => by
    obtain ⟨b, hb, rfl⟩ := List.mem_map.1 ht
    exact comp_comb n b
  rw [Bool.eq_iff_iff, allL_iff n (n - k) _ h1, allL_iff n k _ h, nodup_cps n L h, C_symm n (n - k) k (by omega)]
  have hl : (cps n L).length = L.length := by simp [cps]
  rw [hl]
  have h2 : (∀ l ∈ cps n L, l.length = n - k) ↔ ∀ l ∈ L, l.length = k := by
    constructor
    · intro h3 l hm
      have h4 := h3 _ (List.mem_map.2 ⟨l, hm, rfl⟩)
      have h5 := comp_length n l (h l hm)
      have h6 : (missL (upTo n) l).length = n - k := h4
      omega
    · intro h3 l hm
      obtain ⟨b, hb, rfl⟩ := List.mem_map.1 hm
      have h5 := comp_length n b (h b hb)
      have := h3 b hb
      show (missL (upTo n) b).length = n - k
      omega
  rw [h2]
theorem okCombs_cps (n : Nat) (L : List (List Int)) (h : okCombs n L = true) : okCombs n (cps n L) = true := by
  obtain ⟨o1, o2, o3, o4⟩ := okCombs_parts h
  simp only [okCombs, Bool.and_eq_true, List.all_eq_true, isComb, decide_eq_true_eq]
  refine ⟨fun t ht => ?_, ⟨o1, o2⟩, by simp [cps]; omega⟩
  obtain ⟨b, hb, rfl⟩ := List.mem_map.1 ht
  exact ⟨⟨o1, o2⟩, comp_comb n b⟩
theorem cpBoth (n : Int) (L : List (List Int)) (r3 : L.length ≤ 1048576) (r4 : ∀ t ∈ L, t.length ≤ 1048576) : ∃ (G : List (List Int)) (b : Bool), Ev (fun q => spec_ComplementsOf.f q n L) (G, b) ∧ Ev (fun q => impl_ComplementsOf.f q n L) (G, b) ∧ G.length ≤ 1100000 ∧ (∀ t ∈ G, t.length ≤ 12) ∧ (okCombs n L = true → G = cps n.toNat L) := by
  have ha := chLists_ev n L r3 r4
  have hb := areCombinations_ev n L r3 r4
  unfold spec_ComplementsOf.f impl_ComplementsOf.f
  by_cases ho : okCombs n L = true
  rotate_left
  · exact ⟨[], false, Ev.bind ha (evNeg ho (Ev.now _)), Ev.bind hb (evNeg ho (Ev.now _)), by simp, by simp, fun h => absurd h ho⟩
  obtain ⟨o1, o2, o3, o4⟩ := okCombs_parts ho
  obtain ⟨N, rfl⟩ := Int.eq_ofNat_of_zero_le o1
  have hlen : ∀ t ∈ L, t.length ≤ 12 := fun t ht => by have := comb_length (o4 t ht); omega
  have h1 := spec_ComplementsOf_l0 N (by omega) L o3 hlen L.length [] 0 (by omega) (by simp) (by simp)
  have h2 := ComplementsOf_l0 N (by omega) L o3 hlen L.length [] 0 (by omega) (by simp) (by simp)
  refine ⟨_, true, Ev.bind ha (evPos ho h1), Ev.bind hb (evPos ho h2), by simp; omega, fun t ht => ?_, fun _ => by simp [cps]⟩
  simp only [Int.toNat_zero, List.drop_zero, List.nil_append, List.mem_map] at ht
  obtain ⟨l, hl, rfl⟩ := ht
  have := List.length_filter_le (fun x => decide (x ∉ l)) (upTo N)
  rw [upTo_length] at this
  unfold missL
  omega
theorem lawJ2 (n k : Int) (L : List (List Int)) (r3 : L.length ≤ 1048576) (r4 : ∀ t ∈ L, t.length ≤ 1048576) (G : List (List Int)) (hG : G.length ≤ 1100000) (hg : ∀ t ∈ G, t.length ≤ 12) (he : okCombs n L = true → G = cps n.toNat L) : Ev (fun q => laws_FnExchanges.j2 q n k (exV n k L).1 (exV n k L).2 (adV n k L).1 G false) true := by
  refine Ev.step (fun k => by rw [laws_FnExchanges.j2]) ?_
  refine evNeg (by simp) ?_
  by_cases h : okA n k L = true
  rotate_left
  · have e : (exV n k L).2 = false := by unfold exV; rw [if_neg h]
    rw [e]
    exact evNeg (by simp) (Ev.now _)
  have e1 : exV n k L = (allL n.toNat k.toNat L && nearL (fun _ _ => true) L, true) := by unfold exV; rw [if_pos h]
  have e2 : adV n k L = (allL n.toNat k.toNat L && nearL adjB L, true) := by unfold adV; rw [if_pos h]
  obtain ⟨N, K, rfl, rfl, hN, hK, ho⟩ := okA_parts h
  obtain ⟨o1, o2, o3, o4⟩ := okCombs_parts ho
  have hGe : G = cps N L := by rw [he ho, Int.toNat_natCast]
  subst hGe
  have hGl : (cps N L).length = L.length := by simp [cps]
  have ho' := okCombs_cps N L ho
  have hk : okA (N : Int) ((N - K : Nat) : Int) (cps N L) = true := by
    unfold okA
    rw [ho', Bool.and_true, decide_eq_true_eq]
    omega
  have x1 := (exBoth (N : Int) ((N - K : Nat) : Int) (cps N L) (by omega) (fun t ht => by have := hg t ht; omega)).2
  have x2 := (adBoth (N : Int) ((N - K : Nat) : Int) (cps N L) (by omega) (fun t ht => by have := hg t ht; omega)).2
  unfold exV at x1
  unfold adV at x2
  rw [if_pos hk, Int.toNat_natCast, Int.toNat_natCast, cps_all N K hK L o4, cps_near N _ (fun _ _ => rfl) L o4] at x1
  rw [if_pos hk, Int.toNat_natCast, Int.toNat_natCast, cps_all N K hK L o4, cps_near N adjB adjB_symm L o4] at x2
  rw [e1, e2, wr (by omega) (by omega), show (N : Int) - (K : Int) = ((N - K : Nat) : Int) from by omega, Int.toNat_natCast, Int.toNat_natCast]
  exact evPos rfl (Ev.bind x1 (Ev.bind x2 (evPos rfl (evPos (by simp) (evPos rfl (evEq (by simp)))))))
theorem adV_exV (n k : Int) (L : List (List Int)) (h : (adV n k L).1 = true) : (exV n k L).1 = true := by
  by_cases ho : okA n k L = true
  rotate_left
  · unfold adV at h; rw [if_neg ho] at h; cases h
  unfold adV at h
  unfold exV
  rw [if_pos ho] at h ⊢
  simp only [Bool.and_eq_true] at h ⊢
  refine ⟨h.1, ?_⟩
  have h2 := h.2
  generalize hL : L = M at h2 ⊢
  clear hL h ho
  induction M with
  | nil => rfl
  | cons a T ih =>
    cases T with
    | nil => rfl
    | cons b T =>
      have h3 : ((exchL a b).2.2 && adjB (exchL a b).1 (exchL a b).2.1 && nearL adjB (b :: T)) = true := h2
      simp only [Bool.and_eq_true] at h3
      show ((exchL a b).2.2 && true && nearL (fun _ _ => true) (b :: T)) = true
      rw [h3.1.1, ih h3.2]; rfl
theorem lawJ0 (l : List Int) (hl : Byt l) : Ev (fun q => laws_FnExchanges.j0 q l false) true := by
  refine Ev.step (fun k => by rw [laws_FnExchanges.j0]) ?_
  refine evNeg (by simp) ?_
  obtain ⟨n, k, L, a, s, hd, hL, ht⟩ := cur_chosen l hl
  have hD : Ev (fun q => spec_DrawIsExchangeList.f q l) (n, k, L) := by
    unfold spec_DrawIsExchangeList.f
    exact Ev.bind hd (Ev.now _)
  have r4 : ∀ t ∈ L, t.length ≤ 1048576 := fun t h => by have := ht t h; omega
  obtain ⟨x1, x2⟩ := exBoth n k L (by omega) r4
  obtain ⟨y1, y2⟩ := adBoth n k L (by omega) r4
  obtain ⟨g, b, z1, z2, z3⟩ := rdBoth n k L (by omega) r4
  obtain ⟨G, c, w1, w2, w3, w4, w5⟩ := cpBoth n L (by omega) r4
  refine Ev.bind hD (Ev.bind x2 (Ev.bind x1 (Ev.bind z2 (Ev.bind z1 (Ev.bind y2 (Ev.bind y1 ?_))))))
  have hj1 : Ev (fun q => laws_FnExchanges.j1 q n k L (exV n k L).1 (exV n k L).2 (adV n k L).1 false) true := by
    refine Ev.step (fun k => by rw [laws_FnExchanges.j1]) ?_
    refine evNeg (by simp) (Ev.bind w2 (Ev.bind w1 (evNeg (by simp) ?_)))
    exact Ev.bind (uLists_self G (by omega) (fun t h => by have := w4 t h; omega)) (lawJ2 n k L (by omega) r4 G w3 w4 w5)
  refine evNeg (by simp) (evNeg (by simp) (evNeg (by simp) (evNeg (by simp) (evNeg (by simp) (evNeg (by simp) ?_)))))
  have hax := adV_exV n k L
  cases g
  · refine evNeg (by simp) ?_
    cases hd2 : (adV n k L).1
    · rw [hd2] at hj1
      exact evNeg (by simp) hj1
    · have hx := hax hd2
      rw [hd2] at hj1
      rw [hx] at hj1 ⊢
      exact evPos rfl hj1
  · have hx := z3 rfl
    rw [hx] at hj1 ⊢
    refine evPos rfl (evPos rfl ?_)
    cases hd2 : (adV n k L).1
    · rw [hd2] at hj1
      exact evNeg (by simp) hj1
    · rw [hd2] at hj1
      exact evPos rfl hj1
theorem FnExchanges : laws_FnExchanges.Pure := by
  intro l0 l1 hm0 hb0 hw0 hm1 hb1 hw1
  refine Ev.rounds (g := fun q => laws_FnExchanges.f q l0 l1) ?_
  unfold laws_FnExchanges.f
  obtain ⟨t, ht, hbig⟩ := big_eq l0 l1
  rw [ht]
  refine evSome ?_
  cases t
  rotate_left
  · exact evPos rfl (Ev.now _)
  obtain ⟨q0, q1⟩ := hbig rfl
  have y0 := byt_of q0 hw0
  have y1 := byt_of q1 hw1
  refine evNeg (by simp) ?_
  obtain ⟨n, a, b, hd, ha, hb⟩ := drawExchangeOf_ev l0 y0
  have hs := spec_ExchangeOf_ev n a b (by omega) (by omega)
  have hi := ExchangeOf_ev n a b (by omega) (by omega)
  refine Ev.bind hd (Ev.bind hi (Ev.bind hs (evNeg (by simp) (evPos rfl (evPos rfl ?_)))))
  have hj := lawJ0 l1 y1
  by_cases c : isComb n a = true ∧ isComb n b = true ∧ a.length = b.length
  rotate_left
  · rw [if_neg c]
    exact evNeg (by simp) hj
  rw [if_pos c]
  cases he : (exchL a b).2.2
  · exact evNeg (by simp) hj
  obtain ⟨⟨m1, m2⟩, m3, m4⟩ := exchL_mem a b he
  refine evPos rfl (Ev.bind (uHas_ev a _ (by omega)) (evPos (decide_eq_true m1) (Ev.bind (uHas_ev b _ (by omega)) (evNeg (by simp [m2]) (Ev.bind (uHas_ev a _ (by omega)) (evNeg (by simp [m4]) (Ev.bind (uHas_ev b _ (by omega)) ?_)))))))
  rw [decide_eq_true m3]
  exact hj
end Go.Proofs.Ytmkokfljonbcmaa.Pure
