/- The pure statement of FnRevolvingDoor: for all arguments that fit, the law as a Lean function answers true after enough rounds. -/
import Derived.Test.YtelajnmnbmamhaaMFnRevolvingDoorx1
import Derived.Test.YtelajnmnbmamhaaMFnRevolvingDoorx2
import Derived.Test.YtelajnmnbmamhaaMFnRevolvingDoorx3
import Derived.Test.YtelajnmnbmamhaaMFnRevolvingDoorx4
import Derived.Test.YtelajnmnbmamhaaMFnRevolvingDoorx5
import Derived.Test.YtelajnmnbmamhaaMFnRevolvingDoorx6
import Derived.Test.YtelajnmnbmamhaaMFnRevolvingDoorx7
import Derived.Test.YtelajnmnbmamhaaMFnRevolvingDoorx8
import Derived.Test.YtelajnmnbmamhaaMFnRevolvingDoorx9
import Derived.Test.YtelajnmnbmamhaaBase
import Derived.Test.YtelajnmnbmamhaaComb
import Derived.Test.YtelajnmnbmamhaaGoes
import Derived.Test.YtelajnmnbmamhaaRevX
namespace Go.Proofs.Ytelajnmnbmamhaa.Pure
open Go.RowKit Go.Proofs.Ytelajnmnbmamhaa.MFnRevolvingDoor Go.Proofs.YtelajnmnbmamhaaW.PrintWords Go.Proofs.YtelajnmnbmamhaaW.PrintLast Go.Proofs.Ytelajnmnbmamhaa.Base Go.Proofs.Ytelajnmnbmamhaa.Comb Go.Proofs.Ytelajnmnbmamhaa.Goes Go.Proofs.Ytelajnmnbmamhaa.RevX
set_option linter.unusedVariables false
set_option linter.unusedSimpArgs false

/-! impl_within -/
theorem within_eq (x a b : Int) : impl_within.f x a b = some (decide (a ≤ x ∧ x ≤ b)) := by
  unfold impl_within.f
  by_cases h : x ≥ a
  · rw [if_pos h]; have h' : a ≤ x := h; simp [h']
  · rw [if_neg h]; have h' : ¬ a ≤ x := h; simp [h']
/-! impl_allWithin -/
theorem allWithin_l0 (a b : Int) (xs : List Int) (hn : xs.length ≤ 35184372088832) : ∀ (d : Nat) (j : Int), 0 ≤ j → j.toNat + d = xs.length →
    Ev (fun k => impl_allWithin.l0 k a b xs (xs.length : Int) j) ((xs.drop j.toNat).all fun x => decide (a ≤ x ∧ x ≤ b)) := by
  intro d
  induction d with
  | zero =>
    intro j h0 hd
    refine Ev.step (fun k => by rw [impl_allWithin.l0]) ?_
    refine evNeg (by omega) (evEq ?_)
    rw [drop_end _ _ (by omega)]; rfl
  | succ d ih =>
    intro j h0 hd
    refine Ev.step (fun k => by rw [impl_allWithin.l0]) ?_
    refine evPos (by omega) (evPos (by omega) (evPos (by omega) ?_))
    simp only [within_eq, Option.bind_some]
    rw [wr (by omega) (by omega), drop_rd xs j h0 (by omega), List.all_cons]
    by_cases c : a ≤ rd xs j ∧ rd xs j ≤ b
    · exact evPos (by simpa using c) (evTo (ih _ (by omega) (by omega)) (by simp [c]))
    · exact evNeg (by simpa using c) (evEq (by rw [decide_eq_false c]; rfl))
theorem allWithin_ev (xs : List Int) (a b : Int) (hn : xs.length ≤ 35184372088832) : Ev (fun k => impl_allWithin.f k xs a b) (xs.all fun x => decide (a ≤ x ∧ x ≤ b)) := by
  unfold impl_allWithin.f
  exact evTo (allWithin_l0 a b xs hn xs.length 0 (by omega) (by simp)) (by simp)
/-! impl_increasing -/
theorem increasing_l0 (xs : List Int) (hn : xs.length ≤ 35184372088832) : ∀ (d : Nat) (j : Int), 1 ≤ j → j.toNat + d = xs.length →
    Ev (fun k => impl_increasing.l0 k xs j) (incrFrom (rd xs (j - 1) + 1) (xs.drop j.toNat)) := by
  intro d
  induction d with
  | zero =>
    intro j h0 hd
    refine Ev.step (fun k => by rw [impl_increasing.l0]) ?_
    refine evNeg (by omega) (evEq ?_)
    rw [drop_end _ _ (by omega)]; rfl
  | succ d ih =>
    intro j h0 hd
    refine Ev.step (fun k => by rw [impl_increasing.l0]) ?_
    rw [wr (x := j - 1) (by omega) (by omega), wr (x := j + 1) (by omega) (by omega), drop_rd xs j (by omega) (by omega)]
    refine evPos (by omega) (evPos (by omega) (evPos (by omega) (evPos (by omega) ?_)))
    by_cases c : rd xs (j - 1) ≥ rd xs j
    · refine evPos c (evEq ?_)
      simp only [incrFrom]
      rw [decide_eq_false (by omega)]; rfl
    · refine evNeg c (evTo (ih (j + 1) (by omega) (by omega)) ?_)
      simp only [incrFrom]
      rw [decide_eq_true (by omega), Bool.true_and, show j + 1 - 1 = j from by omega]
theorem increasing_ev (xs : List Int) (hn : xs.length ≤ 35184372088832) : Ev (fun k => impl_increasing.f k xs) (incr xs) := by
  unfold impl_increasing.f
  cases xs with
  | nil =>
    refine Ev.step (fun k => by rw [impl_increasing.l0]) ?_
    exact evNeg (by simp) (Ev.now _)
  | cons x t =>
    refine evTo (increasing_l0 (x :: t) hn t.length 1 (by omega) (by simp; omega)) ?_
    simp [incr, rd]
/-! impl_IsCombination -/
theorem IsCombination_ev (n : Int) (l : List Int) (hn : l.length ≤ 35184372088832) : Ev (fun k => impl_IsCombination.f k n l) (isComb n l) := by
  unfold impl_IsCombination.f
  simp only [within_eq, Option.bind_some]
  by_cases h : 0 ≤ n ∧ n ≤ 12
  · refine evPos (by simpa using h) ?_
    rw [wr (by omega) (by omega)]
    refine Ev.bind (allWithin_ev l 0 (n - 1) hn) ?_
    rw [isComb, decide_eq_true h, Bool.true_and, ← comb_all]
    by_cases c : (l.all fun x => decide (0 ≤ x ∧ x ≤ n - 1)) = true
    · refine evPos c (Ev.bind (increasing_ev l hn) (evEq ?_))
      rw [c, Bool.true_and]
    · refine evNeg c (evEq ?_)
      rw [Bool.eq_false_iff.2 c, Bool.false_and]
  · refine evNeg (by simpa using h) (evEq ?_)
    rw [isComb, decide_eq_false h, Bool.false_and]
/-! impl_areCombinations -/
theorem areCombinations_l0 (n : Int) (L : List (List Int)) (hL : L.length ≤ 1048576) (hl : ∀ t ∈ L, t.length ≤ 1048576) : ∀ (d : Nat) (j : Int), 0 ≤ j → j.toNat + d = L.length →
    Ev (fun k => impl_areCombinations.l0 k n L L (L.length : Int) j) (((L.drop j.toNat).all fun l => isComb n l) && (decide (0 ≤ n ∧ n ≤ 12) && decide ((L.length : Int) ≤ 1100))) := by
  intro d
  induction d with
  | zero =>
    intro j h0 hd
    refine Ev.step (fun k => by rw [impl_areCombinations.l0]) ?_
    refine evNeg (by omega) ?_
    rw [drop_end L j (by omega), within_eq, Option.bind_some, List.all_nil, Bool.true_and]
    by_cases c : 0 ≤ n ∧ n ≤ 12
    · rw [decide_eq_true c]; exact evPos rfl (evEq (by simp))
    · rw [decide_eq_false c]; exact evNeg (by simp) (evEq (by simp))
  | succ d ih =>
    intro j h0 hd
    have hj : j.toNat < L.length := by omega
    have e : rd_L1 L j = L[j.toNat] := by unfold rd_L1; rw [List.getD_eq_getElem?_getD, List.getElem?_eq_getElem hj]; rfl
    have ed : L.drop j.toNat = L[j.toNat] :: L.drop (j + 1).toNat := by
      rw [show (j + 1).toNat = j.toNat + 1 from by omega]; exact List.drop_eq_getElem_cons hj
    refine Ev.step (fun k => by rw [impl_areCombinations.l0]) ?_
    refine evPos (by omega) (evPos h0 (evPos (by omega) ?_))
    rw [e, wr (by omega) (by omega), ed, List.all_cons]
    refine Ev.bind (IsCombination_ev n _ (by have := hl _ (List.getElem_mem hj); omega)) ?_
    by_cases c2 : isComb n L[j.toNat] = true
    · refine evPos c2 (evTo (ih (j + 1) (by omega) (by omega)) ?_)
      rw [c2]; simp
    · refine evNeg c2 (evEq ?_)
      simp only [Bool.not_eq_true] at c2
      rw [c2]; simp
theorem areCombinations_ev (n : Int) (L : List (List Int)) (hL : L.length ≤ 1048576) (hl : ∀ t ∈ L, t.length ≤ 1048576) : Ev (fun k => impl_areCombinations.f k n L) (okCombs n L) := by
  unfold impl_areCombinations.f
  exact evTo (areCombinations_l0 n L hL hl L.length 0 (by omega) (by simp)) (by simp [okCombs])
/-! impl_isChoice -/
theorem isChoice_eq (n k : Int) : impl_isChoice.f n k = some (decide (0 ≤ n ∧ n ≤ 12 ∧ 0 ≤ k ∧ k ≤ n)) := by
  unfold impl_isChoice.f
  simp only [within_eq, Option.bind_some]
  by_cases h : 0 ≤ n ∧ n ≤ 12
  · rw [if_pos (by simpa using h)]; simp [h]
  · rw [if_neg (by simpa using h)]; congr 1; exact (decide_eq_false (by omega)).symm
/-! slices_Index_int_int -/
theorem Index_l0 (x : Int) (xs : List Int) (hn : xs.length ≤ 35184372088832) : ∀ (d : Nat) (j : Int), 0 ≤ j → j.toNat + d = xs.length →
    Ev (fun k => slices_Index_int_int.l0 k xs x (xs.length : Int) j) (findI x j (xs.drop j.toNat)) := by
  intro d
  induction d with
  | zero =>
    intro j h0 hd
    refine Ev.step (fun k => by rw [slices_Index_int_int.l0]) ?_
    refine evNeg (by omega) (evEq ?_)
    rw [drop_end _ _ (by omega)]; rfl
  | succ d ih =>
    intro j h0 hd
    refine Ev.step (fun k => by rw [slices_Index_int_int.l0]) ?_
    refine evPos (by omega) (evPos (by omega) (evPos (by omega) ?_))
    rw [wr (by omega) (by omega), drop_rd xs j h0 (by omega), findI]
    by_cases c : x = rd xs j
    · rw [if_pos c]; exact evPos c (Ev.now _)
    · rw [if_neg c]; exact evNeg c (ih _ (by omega) (by omega))
theorem Index_ev (xs : List Int) (x : Int) (hn : xs.length ≤ 35184372088832) : Ev (fun k => slices_Index_int_int.f k xs x) (findI x 0 xs) := by
  unfold slices_Index_int_int.f
  exact evTo (Index_l0 x xs hn xs.length 0 (by omega) (by simp)) (by simp)
/-! slices_Contains_int_int -/
theorem Contains_ev (xs : List Int) (x : Int) (hn : xs.length ≤ 35184372088832) : Ev (fun k => slices_Contains_int_int.f k xs x) (decide (x ∈ xs)) := by
  unfold slices_Contains_int_int.f
  refine Ev.bind (Index_ev xs x hn) (evEq ?_)
  have := findI_mem x xs 0 (by omega)
  by_cases c : x ∈ xs
  · rw [decide_eq_true c]; exact decide_eq_true (this.2 c)
  · rw [decide_eq_false c]; exact decide_eq_false (fun h => c (this.1 h))
/-! impl_missing -/
theorem missing_l0 (b xs : List Int) (hn : xs.length ≤ 35184372088) (hb : b.length ≤ 35184372088832) : ∀ (d : Nat) (out : List Int) (j : Int), 0 ≤ j → j.toNat + d = xs.length → out.length ≤ j →
    Ev (fun k => impl_missing.l0 k b out xs (xs.length : Int) j) (out ++ (xs.drop j.toNat).filter (fun x => decide (x ∉ b))) := by
  intro d
  induction d with
  | zero =>
    intro out j h0 hd ho
    refine Ev.step (fun k => by rw [impl_missing.l0]) ?_
    refine evNeg (by omega) (evEq ?_)
    rw [drop_end _ _ (by omega)]; simp
  | succ d ih =>
    intro out j h0 hd ho
    refine Ev.step (fun k => by rw [impl_missing.l0]) ?_
    refine evPos (by omega) (evPos (by omega) (evPos (by omega) (Ev.bind (Contains_ev b _ hb) ?_)))
    rw [wr (by omega) (by omega), drop_rd xs j h0 (by omega)]
    by_cases c : rd xs j ∈ b
    · exact evPos (by simpa using c) (evTo (ih _ _ (by omega) (by omega) (by omega)) (by simp [List.filter_cons, c]))
    · exact evNeg (by simpa using c) (evPos (by omega) (evTo (ih _ _ (by omega) (by omega) (by simp; omega)) (by simp [List.filter_cons, c])))
theorem missing_ev (xs b : List Int) (hn : xs.length ≤ 35184372088) (hb : b.length ≤ 35184372088832) : Ev (fun k => impl_missing.f k xs b) (missL xs b) := by
  unfold impl_missing.f
  exact evTo (missing_l0 b xs hn hb xs.length [] 0 (by omega) (by simp) (by simp)) (by simp [missL])
/-! impl_exchange -/
theorem exchange_ev (a b : List Int) (ha : a.length ≤ 35184372088) (hb : b.length ≤ 35184372088) : Ev (fun k => impl_exchange.f k a b) (exchL a b) := by
  unfold impl_exchange.f
  refine Ev.bind (missing_ev a b ha (by omega)) (Ev.bind (missing_ev b a hb (by omega)) ?_)
  by_cases c1 : ((missL a b).length : Int) = 1
  · refine evPos c1 ?_
    by_cases c2 : ((missL b a).length : Int) = 1
    · exact evPos c2 (evPos (by omega) (evPos (by omega) (evEq (by unfold exchL; rw [if_pos c1, if_pos c2]))))
    · exact evNeg c2 (evEq (by unfold exchL; rw [if_pos c1, if_neg c2]))
  · exact evNeg c1 (evEq (by unfold exchL; rw [if_neg c1]))
/-! impl_binomial -/
theorem binomial_tab : ((List.range 13).all fun n => (List.range 13).all fun k => impl_binomial.f 20 (n : Int) (k : Int) == some (C n k : Int)) = true := by decide +kernel
theorem binomial_ev (n k : Nat) (hn : n ≤ 12) (hk : k ≤ 12) : Ev (fun r => impl_binomial.f r (n : Int) (k : Int)) (C n k : Int) := by
  refine evTab (g := fun r => impl_binomial.f r (n : Int) (k : Int)) (impl_binomial.mono _ _) 20 ?_
  have h := List.all_eq_true.1 (List.all_eq_true.1 binomial_tab n (List.mem_range.2 (by omega))) k (List.mem_range.2 (by omega))
  exact beq_iff_eq.1 h
theorem binomial_evI (n k : Int) (hn : 0 ≤ n) (hn' : n ≤ 12) (hk : 0 ≤ k) (hk' : k ≤ 12) : Ev (fun r => impl_binomial.f r n k) (C n.toNat k.toNat : Int) := by
  have := binomial_ev n.toNat k.toNat (by omega) (by omega)
  rwa [Int.toNat_of_nonneg hn, Int.toNat_of_nonneg hk] at this
/-! impl_combinationRank -/
theorem combinationRank_l1 (n : Nat) (hn : n ≤ 12) (l : List Int) (hl : l.length ≤ 12) : ∀ (m : Nat) (rank fr : Int) (j : Nat) (hj : j < l.length), 0 ≤ fr → fr + m = n → incrFrom fr (l.drop j) = true → (∀ y ∈ l.drop j, y < (n : Int)) → 0 ≤ rank → rank + 4096 * m ≤ 100000 →
    Ev (fun q => impl_combinationRank.l1 q (n : Int) l rank fr (j : Int) (rd l (j : Int)) l (l.length : Int) (j : Int)) (rank + (lexI m fr (l.drop j) : Nat)) := by
  intro m
  induction m with
  | zero =>
    intro rank fr j hj h0 hm hi hb _ _
    rw [List.drop_eq_getElem_cons hj] at hi hb
    have h1 := incrFrom_ge _ _ hi _ (List.mem_cons_self ..)
    have h2 := hb _ (List.mem_cons_self ..)
    omega
  | succ m ih =>
    intro rank fr j hj h0 hm hi hb hr1 hr2
    have hd := List.drop_eq_getElem_cons hj
    have e : rd l (j : Int) = l[j] := rd_get l (j : Int) (by simpa using hj)
    have hC := C_le12 m (l.length - j - 1) (by omega)
    rw [hd] at hi hb
    have hge := incrFrom_ge _ _ hi _ (List.mem_cons_self ..)
    have hi2 := hi
    simp only [incrFrom, Bool.and_eq_true, decide_eq_true_eq] at hi2
    refine Ev.step (fun q => by rw [impl_combinationRank.l1]) ?_
    rw [e, hd, lexI]
    by_cases c : fr < l[j]
    · rw [if_neg (by omega)]
      refine evPos c ?_
      have hbin := binomial_ev m (l.length - j - 1) (by omega) (by omega)
      rw [wr (x := (n : Int) - fr) (by omega) (by omega), wr (by omega) (by omega), wr (x := (l.length : Int) - (j : Int)) (by omega) (by omega), wr (x := (l.length : Int) - (j : Int) - 1) (by omega) (by omega), show (n : Int) - fr - 1 = (m : Int) from by omega, show (l.length : Int) - (j : Int) - 1 = ((l.length - j - 1 : Nat) : Int) from by omega]
      refine Ev.bind hbin ?_
      rw [wr (by omega) (by omega), wr (by omega) (by omega)]
      have h := ih (rank + (C m (l.length - j - 1) : Nat)) (fr + 1) j hj (by omega) (by omega) (by rw [hd]; simp only [incrFrom, Bool.and_eq_true, decide_eq_true_eq]; exact ⟨by omega, hi2.2⟩) (by rw [hd]; exact hb) (by omega) (by omega)
      rw [e, hd] at h
      refine evTo h ?_
      rw [show (l.drop (j + 1)).length = l.length - j - 1 from by rw [List.length_drop]; omega]
      omega
    · have ef : l[j] = fr := by omega
      rw [if_pos ef]
      refine evNeg c (Ev.step (fun q => by rw [impl_combinationRank.l0]) ?_)
      rw [wr (by omega) (by omega), wr (by omega) (by omega)]
      by_cases c2 : j + 1 < l.length
      · refine evPos (by omega) (evPos (by omega) (evPos (by omega) ?_))
        have h := ih rank (fr + 1) (j + 1) c2 (by omega) (by omega) (by rw [← ef]; exact hi2.2) (fun y hy => hb y (List.mem_cons_of_mem _ hy)) hr1 (by omega)
        rw [show ((j + 1 : Nat) : Int) = (j : Int) + 1 from by omega] at h
        exact h
      · refine evNeg (by omega) (evEq ?_)
        rw [List.drop_of_length_le (by omega)]
        cases m <;> simp [lexI]
theorem combinationRank_ev (n : Nat) (hn : n ≤ 12) (l : List Int) (h : comb n l = true) : Ev (fun q => impl_combinationRank.f q (n : Int) l) ((lexI n 0 l : Nat) : Int) := by
  have hl := comb_length h
  have hb := comb_bound h
  simp only [comb, Bool.and_eq_true] at h
  unfold impl_combinationRank.f
  refine Ev.step (fun q => by rw [impl_combinationRank.l0]) ?_
  by_cases c : 0 < l.length
  · refine evPos (by omega) (evPos (by omega) (evPos (by omega) ?_))
    have := combinationRank_l1 n hn l (by omega) n 0 0 0 c (by omega) (by omega) (by simpa using h.1) (fun y hy => (hb y (by simpa using hy)).2) (by omega) (by omega)
    refine evTo this (by simp)
  · refine evNeg (by omega) (evEq ?_)
    rw [List.length_eq_zero_iff.1 (by omega : l.length = 0)]
    cases n <;> simp [lexI]
/-! impl_IsRoundExchange -/
theorem IsRound_g0 (n kk : Nat) (hn : n ≤ 12) (hk : kk ≤ n) (may : Int → Int → Bool) (hmay : ∀ x y, 0 ≤ x → x < 12 → 0 ≤ y → y < 12 → impl_anyExchange.f x y = some (may x y)) (L : List (List Int)) (hL : L.length ≤ 1100) (hl : ∀ t ∈ L, comb n t = true) : ∀ (d : Nat) (i : Nat) (met : List Int), i + d = L.length → met.length ≤ i →
    Ev (fun q => impl_IsRoundExchange.g0 q (n : Int) (kk : Int) L (i : Int) met) (gR n kk may (if i = 0 then none else some (L.getD (i - 1) [])) met (L.drop i) && decide (L.length = C n kk)) := by
  intro d
  induction d with
  | zero =>
    intro i met hd hm
    refine Ev.step (fun k => by rw [impl_IsRoundExchange.g0]) ?_
    refine evNeg (by omega) (Ev.bind (binomial_ev n kk hn (by omega)) (evEq ?_))
    rw [List.drop_of_length_le (by omega), gR_nil, Bool.true_and, Bool.eq_iff_iff]
    simp
    omega
  | succ d ih =>
    intro i met hd hm
    have hi : i < L.length := by omega
    have e1 : rd_L1 L (i : Int) = L[i] := by unfold rd_L1; rw [Int.toNat_natCast, List.getD_eq_getElem?_getD, List.getElem?_eq_getElem hi]; rfl
    have hc := hl _ (List.getElem_mem hi)
    have hb := comb_bound hc
    have hlen := comb_length hc
    have hlt := lexI_lt hc
    have hC := C_le12 n L[i].length hn
    refine Ev.step (fun k => by rw [impl_IsRoundExchange.g0]) ?_
    rw [e1, List.drop_eq_getElem_cons hi, gR_cons]
    refine evPos (by omega) (evPos (by omega) (evPos (by omega) ?_))
    by_cases c1 : L[i].length = kk
    rotate_left
    · refine evNeg (by omega) (evEq ?_)
      rw [decide_eq_false c1]; rfl
    refine evPos (by omega) (Ev.bind (combinationRank_ev n hn L[i] hc) (evPos ?_ ?_))
    · simp [Lit.wf, IntKind.min, IntKind.max, IntKind.signed, IntKind.bits]; omega
    rw [decide_eq_true c1, Bool.true_and]
    by_cases c2 : ((lexI n 0 L[i] : Nat) : Int) ∈ met
    · refine evPos c2 (evEq ?_)
      rw [decide_eq_false (fun h => h c2)]; rfl
    refine evNeg c2 (evPos (by omega) ?_)
    rw [decide_eq_true c2, Bool.true_and]
    have hnext := ih (i + 1) (((lexI n 0 L[i] : Nat) : Int) :: met) (by omega) (by simp; omega)
    rw [if_neg (by omega), show i + 1 - 1 = i from by omega, show L.getD i [] = L[i] from by rw [List.getD_eq_getElem?_getD, List.getElem?_eq_getElem hi]; rfl] at hnext
    by_cases c3 : i = 0
    · refine evPos (by omega) ?_
      rw [wr (by omega) (by omega), show (i : Int) + 1 = ((i + 1 : Nat) : Int) from by omega, if_pos c3]
      exact evTo hnext (by simp)
    have hp : i - 1 < L.length := by omega
    have e2 : rd_L1 L ((i : Int) - 1) = L[i - 1] := by unfold rd_L1; rw [show ((i : Int) - 1).toNat = i - 1 from by omega, List.getD_eq_getElem?_getD, List.getElem?_eq_getElem hp]; rfl
    have hcp := hl _ (List.getElem_mem hp)
    have hbp := comb_bound hcp
    have hlp := comb_length hcp
    refine evNeg (by omega) ?_
    rw [e2, if_neg c3, show L.getD (i - 1) [] = L[i - 1] from by rw [List.getD_eq_getElem?_getD, List.getElem?_eq_getElem hp]; rfl]
    refine Ev.bind (exchange_ev _ _ (by omega) (by omega)) ?_
    by_cases c4 : (exchL L[i - 1] L[i]).2.2 = true
    rotate_left
    · refine evNeg c4 (evEq ?_)
      simp only [Bool.not_eq_true] at c4
      simp [c4]
    obtain ⟨⟨m1, _⟩, m2, _⟩ := exchL_mem _ _ c4
    have r1 := hbp _ m1
    have r2 := hb _ m2
    refine evPos c4 ?_
    rw [hmay _ _ (by omega) (by omega) (by omega) (by omega)]
    refine evSome ?_
    by_cases c5 : may (exchL L[i - 1] L[i]).1 (exchL L[i - 1] L[i]).2.1 = true
    · refine evPos c5 ?_
      rw [wr (by omega) (by omega), show (i : Int) + 1 = ((i + 1 : Nat) : Int) from by omega]
      exact evTo hnext (by simp [c4, c5])
    · refine evNeg c5 (evEq ?_)
      simp only [Bool.not_eq_true] at c5
      simp [c4, c5]
theorem IsRound_rev (n kk : Nat) (hn : n ≤ 12) (hk : kk ≤ n) (hC : C n kk ≤ 1100) (hmay : ∀ x y, 0 ≤ x → x < 12 → 0 ≤ y → y < 12 → impl_anyExchange.f x y = some true) : Ev (fun q => impl_IsRoundExchange.f q (n : Int) (kk : Int) (rev n kk)) (true, true) := by
  have hl := rev_length n kk hk
  have hpos := C_pos n kk hk
  have hsm := rev_small n kk hn hk
  have hcm : ∀ t ∈ rev n kk, comb n t = true := fun t ht => (rev_mem n kk t hk ht).1
  have ho : okCombs n (rev n kk) = true := by
    simp only [okCombs, Bool.and_eq_true, decide_eq_true_eq, List.all_eq_true, isComb]
    exact ⟨fun t ht => ⟨by omega, hcm t ht⟩, by omega, by omega⟩
  have hb := areCombinations_ev (n : Int) (rev n kk) (by omega) (fun t ht => by have := hsm.2 t ht; omega)
  rw [ho] at hb
  have hg := IsRound_g0 n kk hn hk (fun _ _ => true) hmay (rev n kk) (by omega) hcm (rev n kk).length 0 [] (by omega) (by simp)
  rw [if_pos rfl, List.drop_zero, goes_all n kk (fun _ _ => true) _ hcm, rev_all n kk hk, rev_near n kk hk] at hg
  have m1 : (rev n kk).length - 1 < (rev n kk).length := by omega
  have m0 : 0 < (rev n kk).length := by omega
  have eL : rd_L1 (rev n kk) (((rev n kk).length : Int) - 1) = (rev n kk)[(rev n kk).length - 1] := by unfold rd_L1; rw [show (((rev n kk).length : Int) - 1).toNat = (rev n kk).length - 1 from by omega, List.getD_eq_getElem?_getD, List.getElem?_eq_getElem m1]; rfl
  have eF : rd_L1 (rev n kk) 0 = (rev n kk)[0] := by unfold rd_L1; rw [show (0 : Int).toNat = 0 from rfl, List.getD_eq_getElem?_getD, List.getElem?_eq_getElem m0]; rfl
  have sL := hsm.2 _ (List.getElem_mem m1)
  have sF := hsm.2 _ (List.getElem_mem m0)
  have hx := exchange_ev (rev n kk)[(rev n kk).length - 1] (rev n kk)[0] (by omega) (by omega)
  have hv : ((exchL (rev n kk)[(rev n kk).length - 1] (rev n kk)[0]).2.2 || decide ((rev n kk).length = 1)) = true := by
    by_cases c : (rev n kk).length = 1
    · rw [decide_eq_true c, Bool.or_true]
    · have h5 : (exchL (rev n kk)[(rev n kk).length - 1] (rev n kk)[0]).2.2 = true := rev_round n kk hk c m1
      rw [h5, Bool.true_or]
  unfold impl_IsRoundExchange.f
  rw [isChoice_eq, decide_eq_true (by omega)]
  have himp : Ev (fun q => (impl_exchange.f q (rd_L1 (rev n kk) (((rev n kk).length : Int) - 1)) (rd_L1 (rev n kk) 0)).bind fun x => (some (x.2.2 || decide ((rev n kk).length = 1), true))) (true, true) := by
    rw [eL, eF]
    exact Ev.bind hx (evEq (by rw [hv]))
  exact evSome (evPos rfl (Ev.bind hb (evPos rfl (Ev.bind hg (evPos rfl (evPos m0 (evPos (by omega) himp)))))))
/-! laws_big -/
theorem big_eq (a b : List Int) : ∃ t, laws_big.f a b = some t ∧ (t = false → a.length ≤ 1048576 ∧ b.length ≤ 1048576) := by
  unfold laws_big.f
  by_cases c : (a.length : Int) > 1048576
  · exact ⟨true, by rw [if_pos c], fun h => by cases h⟩
  · rw [if_neg c, wr (by omega) (by omega)]
    exact ⟨_, rfl, fun h => by have := of_decide_eq_false h; omega⟩
/-! laws_uSame -/
theorem uSame_l0 (a : List Int) (hn : a.length ≤ 35184372088832) : ∀ (d : Nat) (j : Int), 0 ≤ j → j.toNat + d = a.length → Ev (fun k => laws_uSame.l0 k a a (a.length : Int) j) true := by
  intro d
  induction d with
  | zero =>
    intro j h0 hd
    refine Ev.step (fun k => by rw [laws_uSame.l0]) ?_
    exact evNeg (by omega) (Ev.now _)
  | succ d ih =>
    intro j h0 hd
    refine Ev.step (fun k => by rw [laws_uSame.l0]) ?_
    refine evPos (by omega) (evPos (by omega) (evPos (by omega) (evPos (by omega) (evPos rfl ?_))))
    rw [wr (by omega) (by omega)]
    exact ih _ (by omega) (by omega)
theorem uSame_self (a : List Int) (hn : a.length ≤ 35184372088832) : Ev (fun k => laws_uSame.f k a a) true := by
  unfold laws_uSame.f
  exact evPos rfl (uSame_l0 a hn a.length 0 (by omega) (by simp))
/-! laws_uLists -/
theorem uLists_self (L : List (List Int)) (hn : L.length ≤ 1000000000) (hl : ∀ t ∈ L, t.length ≤ 35184372088832) : Ev (fun k => laws_uLists.f k L L) true := by
  have key : ∀ (d : Nat) (j : Int), 0 ≤ j → j.toNat + d = L.length → Ev (fun k => laws_uLists.l0 k L L (L.length : Int) j) true := by
    intro d
    induction d with
    | zero =>
      intro j h0 hd
      refine Ev.step (fun k => by rw [laws_uLists.l0]) ?_
      exact evNeg (by omega) (Ev.now _)
    | succ d ih =>
      intro j h0 hd
      refine Ev.step (fun k => by rw [laws_uLists.l0]) ?_
      have hm : rd_L1 L j ∈ L := by
        unfold rd_L1
        rw [List.getD_eq_getElem?_getD, List.getElem?_eq_getElem (show j.toNat < L.length by omega)]
        exact List.getElem_mem _
      refine evPos (by omega) (evPos (by omega) (evPos (by omega) (evPos (by omega) (Ev.bind (uSame_self _ (hl _ hm)) (evPos rfl ?_)))))
      rw [wr (by omega) (by omega)]
      exact ih _ (by omega) (by omega)
  unfold laws_uLists.f
  exact evPos rfl (key L.length 0 (by omega) (by simp))
/-! impl_Binomial -/
theorem Binomial_ev (n k : Nat) (hn : n ≤ 12) (hk : k ≤ n) : Ev (fun q => impl_Binomial.f q (n : Int) (k : Int)) ((C n k : Int), true) := by
  unfold impl_Binomial.f
  rw [within_eq, within_eq]
  exact evSome (evPos (by simp; omega) (evSome (evPos (by simp; omega) (Ev.bind (binomial_ev n k hn (by omega)) (Ev.now _)))))
/-! laws_numberOf -/
theorem numberOf_l0 (xs : List Int) (hn : xs.length ≤ 2000000) (hx : ∀ x ∈ xs, 0 ≤ x ∧ x ≤ 255) : ∀ (d : Nat) (m j : Int), 0 ≤ j → j.toNat + d = xs.length → 0 ≤ m → m ≤ 1000003 →
    ∃ r, 0 ≤ r ∧ r ≤ 1000003 ∧ Ev (fun k => laws_numberOf.l0 k m xs (xs.length : Int) j) r := by
  intro d
  induction d with
  | zero =>
    intro m j h0 hd h1 h2
    refine ⟨m, h1, h2, Ev.step (fun k => by rw [laws_numberOf.l0]) ?_⟩
    exact evNeg (by omega) (Ev.now _)
  | succ d ih =>
    intro m j h0 hd h1 h2
    have hb := hx (rd xs j) (by rw [rd_get xs j (by omega)]; exact List.getElem_mem _)
    obtain ⟨r, q1, q2, h⟩ := ih (Int.tmod (31 * m + rd xs j) 1000003) (j + 1) (by omega) (by omega) (Int.tmod_nonneg _ (by omega)) (by have := Int.tmod_lt_of_pos (31 * m + rd xs j) (show (0 : Int) < 1000003 by omega); omega)
    refine ⟨r, q1, q2, Ev.step (fun k => by rw [laws_numberOf.l0]) ?_⟩
    refine evPos (by omega) (evPos (by omega) (evPos (by omega) ?_))
    rw [wr (x := 31 * m) (by omega) (by omega), wr (x := rd xs j) (by omega) (by omega), wr (x := 31 * m + rd xs j) (by omega) (by omega), wr (x := j + 1) (by omega) (by omega)]
    exact h
theorem numberOf_ev (xs : List Int) (hn : xs.length ≤ 2000000) (hx : ∀ x ∈ xs, 0 ≤ x ∧ x ≤ 255) : ∃ r, 0 ≤ r ∧ r ≤ 1000003 ∧ Ev (fun k => laws_numberOf.f k xs) r := by
  unfold laws_numberOf.f
  exact numberOf_l0 xs hn hx xs.length 0 0 (by omega) (by simp) (by omega) (by omega)
/-! spec_l1Cur_next -/
theorem u64_lt (x : Int) : 0 ≤ IntKind.u64.wrap x ∧ IntKind.u64.wrap x < 18446744073709551616 := by rw [IntKind.wrap_u64]; omega
theorem low8 (x : Int) : 0 ≤ wrap64 (Go.bits .and .u64 (IntKind.u64.wrap x / 1099511627776) 255) ∧ wrap64 (Go.bits .and .u64 (IntKind.u64.wrap x / 1099511627776) 255) ≤ 255 := by
  have hu := u64_lt x
  generalize IntKind.u64.wrap x = y at hu ⊢
  have h := Go.bits_mask .u64 63 (by decide) (fun n h0 h1 => by rw [IntKind.wrap_u64]; omega) 8 (by decide) (y / 1099511627776) (by omega) (by omega)
  have e : ((2 : Int) ^ 8 - 1) = 255 := by decide
  have e2 : ((2 : Int) ^ 8) = 256 := by decide
  rw [e, e2] at h
  rw [h, wr (by omega) (by omega)]
  omega
/-- The bytes of a reader. -/
def Byt (l : List Int) : Prop := l.length ≤ 2000000 ∧ ∀ x ∈ l, 0 ≤ x ∧ x ≤ 255
theorem byt_of {l : List Int} (h1 : l.length ≤ 1048576) (h2 : ∀ x ∈ l, (Lit.int .u8 x).wf = true) : Byt l := by
  refine ⟨by omega, fun x hx => ?_⟩
  have := h2 x hx
  simp [Lit.wf, IntKind.min, IntKind.max, IntKind.signed, IntKind.bits] at this
  omega
theorem cur_next (l : List Int) (hl : Byt l) (a s : Int) (h0 : 0 ≤ a) (h1 : a ≤ 1000000000000) : ∃ v s', spec_l1Cur_next.f l a s = some (v, a + 1, s') ∧ 0 ≤ v ∧ v ≤ 255 := by
  obtain ⟨hn, hb⟩ := hl
  unfold spec_l1Cur_next.f
  rw [wr (x := a + 1) (by omega) (by omega)]
  by_cases c : a < l.length
  · have hr := hb (rd l a) (by rw [rd_get l a (by omega)]; exact List.getElem_mem _)
    rw [if_pos c, if_pos h0, if_pos (by omega)]
    refine ⟨_, _, rfl, ?_⟩
    rw [wr (by omega) (by omega)]
    exact hr
  · rw [if_neg c, if_neg (by omega)]
    exact ⟨_, _, rfl, low8 _⟩
/-! spec_l1Cur_pick -/
theorem cur_pick (l : List Int) (hl : Byt l) (a s n : Int) (h0 : 0 ≤ a) (h1 : a ≤ 900000000000) : ∃ v a' s', spec_l1Cur_pick.f l a s n = some (v, a', s') ∧ a ≤ a' ∧ a' ≤ a + 2 ∧ 0 ≤ v ∧ (v = 0 ∨ v < n) := by
  unfold spec_l1Cur_pick.f
  by_cases c : n ≤ 1
  · rw [if_pos c]; exact ⟨_, _, _, rfl, by omega, by omega, by omega, .inl rfl⟩
  rw [if_neg c]
  obtain ⟨v, s', e, h2, h3⟩ := cur_next l hl a s h0 (by omega)
  rw [e]
  simp only [Option.bind_some]
  by_cases c2 : n > 200
  · rw [if_pos c2]
    obtain ⟨v2, s2, e2, h4, h5⟩ := cur_next l hl (a + 1) s' (by omega) (by omega)
    rw [e2]
    simp only [Option.bind_some]
    rw [if_neg (by omega), wr (x := v * 256) (by omega) (by omega), wr (by omega) (by omega)]
    exact ⟨_, _, _, rfl, by omega, by omega, Int.tmod_nonneg _ (by omega), .inr (Int.tmod_lt_of_pos _ (by omega))⟩
  · rw [if_neg c2, if_neg (by omega)]
    exact ⟨_, _, _, rfl, by omega, by omega, Int.tmod_nonneg _ (by omega), .inr (Int.tmod_lt_of_pos _ (by omega))⟩
/-! spec_l1Cur_among -/
theorem cur_among (l : List Int) (hl : Byt l) (a s : Int) (xs : List Int) (hx : 0 < xs.length) (h0 : 0 ≤ a) (h1 : a ≤ 900000000000) : ∃ v a' s', spec_l1Cur_among.f l a s xs = some (v, a', s') ∧ a ≤ a' ∧ a' ≤ a + 2 ∧ v ∈ xs := by
  unfold spec_l1Cur_among.f
  obtain ⟨v, a', s', e, h2, h3, h4, h5⟩ := cur_pick l hl a s (xs.length : Int) h0 h1
  rw [e]
  simp only [Option.bind_some]
  rw [if_pos h4, if_pos (by omega)]
  refine ⟨_, _, _, rfl, h2, h3, ?_⟩
  rw [rd_get xs v (by omega)]
  exact List.getElem_mem _
/-! spec_l1Cur_size3 -/
theorem cur_size3 (l : List Int) (hl : Byt l) (a s m : Int) (h0 : 0 ≤ a) (h1 : a ≤ 800000000000) (hm : 0 ≤ m) (hm' : m ≤ 1000) : ∃ n k a' s', spec_l1Cur_size3.f l a s m = some (n, k, a', s') ∧ a ≤ a' ∧ a' ≤ a + 8 := by
  unfold spec_l1Cur_size3.f
  rw [wr (x := m + 1) (by omega) (by omega)]
  obtain ⟨v, a1, s1, e, h2, h3, h4, h5⟩ := cur_pick l hl a s (m + 1) h0 (by omega)
  rw [e]
  simp only [Option.bind_some]
  rw [wr (x := v + 1) (by omega) (by omega)]
  obtain ⟨v2, a2, s2, e2, h6, h7, h8, h9⟩ := cur_pick l hl a1 s1 (v + 1) (by omega) (by omega)
  rw [e2]
  simp only [Option.bind_some]
  obtain ⟨v3, a3, s3, e3, g1, g2, g3, g4⟩ := cur_pick l hl a2 s2 16 (by omega) (by omega)
  rw [e3]
  simp only [Option.bind_some]
  by_cases c : v3 = 0
  · rw [if_pos c]
    obtain ⟨v4, a4, s4, e4, g5, g6, _⟩ := cur_among l hl a3 s3 [-1, v, v + 1, 0] (by simp) (by omega) (by omega)
    rw [e4]
    simp only [Option.bind_some]
    exact ⟨_, _, _, _, rfl, by omega, by omega⟩
  · rw [if_neg c]
    by_cases c2 : v3 = 1
    · rw [if_pos c2]
      obtain ⟨v4, a4, s4, e4, g5, g6, _⟩ := cur_among l hl a3 s3 [-1, 0, 12, 13] (by simp) (by omega) (by omega)
      rw [e4]
      simp only [Option.bind_some]
      exact ⟨_, _, _, _, rfl, by omega, by omega⟩
    · rw [if_neg c2]
      exact ⟨_, _, _, _, rfl, by omega, by omega⟩
/-! spec_DrawRevolvingList -/
theorem drawRevolvingList_ev (l : List Int) (hl : Byt l) : ∃ n k, spec_DrawRevolvingList.f l = some (n, k) := by
  unfold spec_DrawRevolvingList.f
  obtain ⟨n, k, a', s', e, _, _⟩ := cur_size3 l hl 0 0 9 (by omega) (by omega) (by omega) (by omega)
  rw [e]
  exact ⟨_, _, rfl⟩
/-! impl_identity -/
theorem identity_l0 (n : Nat) (hn : n ≤ 1000000000) : ∀ (d : Nat) (j : Int), 0 ≤ j → j.toNat + d = n → Ev (fun k => impl_identity.l0 k (upTo j.toNat) (n : Int) j) (upTo n) := by
  intro d
  induction d with
  | zero =>
    intro j h0 hd
    refine Ev.step (fun k => by rw [impl_identity.l0]) ?_
    exact evNeg (by omega) (evEq (by rw [show j.toNat = n from by omega]))
  | succ d ih =>
    intro j h0 hd
    refine Ev.step (fun k => by rw [impl_identity.l0]) ?_
    refine evPos (by omega) (evPos (by rw [upTo_length]; omega) ?_)
    have h := ih (j + 1) (by omega) (by omega)
    rw [show (j + 1).toNat = j.toNat + 1 from by omega, upTo_succ, Int.toNat_of_nonneg h0] at h
    rw [wr (by omega) (by omega)]
    exact h
theorem identity_ev (n : Nat) (hn : n ≤ 1000000000) : Ev (fun k => impl_identity.f k (n : Int)) (upTo n) := by
  unfold impl_identity.f
  exact identity_l0 n hn n 0 (by omega) (by simp)
/-! impl_revolvingAt -/
theorem revolvingAt_ev : ∀ (n k : Nat) (r : Int), n ≤ 12 → k ≤ n → 0 ≤ r → r < C n k → Ev (fun q => impl_revolvingAt.f q (n : Int) (k : Int) r) ((rev n k).getD r.toNat []) := by
  intro n
  induction n with
  | zero =>
    intro k r hn hk h0 hr
    obtain rfl : k = 0 := by omega
    refine Ev.step (fun q => by rw [impl_revolvingAt.f]) ?_
    refine evPos (by simp) (evEq ?_)
    simp at hr
    obtain rfl : r = 0 := by omega
    rfl
  | succ n ih =>
    intro k r hn hk h0 hr
    refine Ev.step (fun q => by rw [impl_revolvingAt.f]) ?_
    cases k with
    | zero =>
      refine evPos (by simp) (evEq ?_)
      simp at hr
      obtain rfl : r = 0 := by omega
      rfl
    | succ k =>
      refine evNeg (by omega) ?_
      by_cases e : k = n
      · subst e
        refine evPos rfl (Ev.bind (identity_ev (k + 1) (by omega)) (evEq ?_))
        simp at hr
        obtain rfl : r = 0 := by omega
        simp [rev]
      · refine evNeg (by omega) ?_
        have hc1 := C_le12 n (k + 1) (by omega)
        have hc2 := C_le12 n k (by omega)
        have hl1 := rev_length n (k + 1) (by omega)
        have hl2 := rev_length n k (by omega)
        rw [wr (x := ((n + 1 : Nat) : Int) - 1) (by omega) (by omega), wr (x := ((k + 1 : Nat) : Int) - 1) (by omega) (by omega)]
        rw [show ((n + 1 : Nat) : Int) - 1 = (n : Int) from by omega, show ((k + 1 : Nat) : Int) - 1 = (k : Int) from by omega]
        refine Ev.bind (binomial_ev n (k + 1) (by omega) (by omega)) ?_
        have hrv : rev (n + 1) (k + 1) = rev n (k + 1) ++ (rev n k).reverse.map (· ++ [(n : Int)]) := by simp [rev, e]
        rw [hrv, List.getD_eq_getElem?_getD]
        by_cases c : r < C n (k + 1)
        · refine evPos c (Ev.bind (ih (k + 1) r (by omega) (by omega) h0 c) (evEq ?_))
          rw [List.getElem?_append_left (by omega), List.getD_eq_getElem?_getD]
        · refine evNeg c (Ev.bind (binomial_ev (n + 1) (k + 1) (by omega) (by omega)) ?_)
          rw [C_succ] at hr ⊢
          simp (disch := omega) only [wr]
          have h := ih k (((C n (k + 1) + C n k : Nat) : Int) - 1 - r) (by omega) (by omega) (by omega) (by omega)
          refine Ev.bind h ?_
          have hi : r.toNat - (rev n (k + 1)).length < (rev n k).length := by omega
          have hm : (rev n k).getD (((C n (k + 1) + C n k : Nat) : Int) - 1 - r).toNat [] ∈ rev n k := by
            rw [List.getD_eq_getElem?_getD, List.getElem?_eq_getElem (show (((C n (k + 1) + C n k : Nat) : Int) - 1 - r).toNat < (rev n k).length by omega)]
            exact List.getElem_mem _
          have hlen := (rev_mem n k _ (by omega) hm).2
          refine evPos (by omega) (evEq ?_)
          rw [List.getElem?_append_right (by omega), List.getElem?_map, List.getElem?_reverse (by omega)]
          rw [show (rev n k).length - 1 - (r.toNat - (rev n (k + 1)).length) = (((C n (k + 1) + C n k : Nat) : Int) - 1 - r).toNat from by omega]
          rw [List.getD_eq_getElem?_getD, List.getElem?_eq_getElem (show (((C n (k + 1) + C n k : Nat) : Int) - 1 - r).toNat < (rev n k).length by omega)]
          rfl
/-! impl_RevolvingList -/
theorem RevolvingList_l0 (n k : Nat) (hn : n ≤ 12) (hk : k ≤ n) : ∀ (d : Nat) (out : List (List Int)) (j : Int), 0 ≤ j → j.toNat + d = C n k → out = (rev n k).take j.toNat →
    Ev (fun q => impl_RevolvingList.l0 q (n : Int) (k : Int) out (C n k : Int) j) (rev n k, true) := by
  have hc := C_le12 n k hn
  have hl := rev_length n k hk
  intro d
  induction d with
  | zero =>
    intro out j h0 hd ho
    refine Ev.step (fun q => by rw [impl_RevolvingList.l0]) ?_
    refine evNeg (by omega) (evEq ?_)
    rw [ho, take_end _ _ (by omega)]
  | succ d ih =>
    intro out j h0 hd ho
    refine Ev.step (fun q => by rw [impl_RevolvingList.l0]) ?_
    refine evPos (by omega) (Ev.bind (revolvingAt_ev n k j hn hk h0 (by omega)) ?_)
    have ho2 : out.length = j.toNat := by rw [ho, List.length_take]; omega
    rw [wr (by omega) (by omega)]
    refine evPos (by omega) (ih _ _ (by omega) (by omega) ?_)
    rw [takeD [] _ j h0 (by omega), ho]
theorem RevolvingList_ev (n k : Int) : Ev (fun q => impl_RevolvingList.f q n k) (if 0 ≤ n ∧ n ≤ 12 ∧ 0 ≤ k ∧ k ≤ n then (rev n.toNat k.toNat, true) else ([], false)) := by
  unfold impl_RevolvingList.f
  simp only [isChoice_eq, Option.bind_some]
  by_cases h : 0 ≤ n ∧ n ≤ 12 ∧ 0 ≤ k ∧ k ≤ n
  · rw [if_pos h]
    refine evPos (by simpa using h) (Ev.bind (binomial_evI n k (by omega) (by omega) (by omega) (by omega)) ?_)
    have hr := RevolvingList_l0 n.toNat k.toNat (by omega) (by omega) (C n.toNat k.toNat) [] 0 (by omega) (by simp) (by simp)
    rw [Int.toNat_of_nonneg h.1, Int.toNat_of_nonneg h.2.2.1] at hr
    exact hr
  · exact evNeg (by simpa using h) (evEq (by rw [if_neg h]))
/-! spec_l1In -/
theorem l1In_eq (x a b : Int) : spec_l1In.f x a b = some (decide (a ≤ x ∧ x ≤ b)) := by
  unfold spec_l1In.f
  by_cases h : x ≥ a
  · rw [if_pos h]; have h' : a ≤ x := h; simp [h']
  · rw [if_neg h]; have h' : ¬ a ≤ x := h; simp [h']
/-! spec_raItems -/
theorem raItems_eq (x : Int) : spec_raItems.f x = some (decide (0 ≤ x ∧ x ≤ 12)) := by
  unfold spec_raItems.f; rw [l1In_eq]; rfl
/-! spec_chSize -/
theorem chSize_eq (n k : Int) : spec_chSize.f n k = some (decide (0 ≤ n ∧ n ≤ 12 ∧ 0 ≤ k ∧ k ≤ n)) := by
  unfold spec_chSize.f
  simp only [raItems_eq, l1In_eq, Option.bind_some]
  by_cases h : 0 ≤ n ∧ n ≤ 12
  · rw [if_pos (by simpa using h)]; simp [h]
  · rw [if_neg (by simpa using h)]; congr 1; exact (decide_eq_false (by omega)).symm
/-! spec_raUpTo -/
theorem raUpTo_l0 (n : Nat) (hn : n ≤ 1000000000) : ∀ (d : Nat) (j : Int), 0 ≤ j → j.toNat + d = n → Ev (fun k => spec_raUpTo.l0 k (n : Int) (upTo j.toNat) j) (upTo n) := by
  intro d
  induction d with
  | zero =>
    intro j h0 hd
    refine Ev.step (fun k => by rw [spec_raUpTo.l0]) ?_
    exact evNeg (by omega) (evEq (by rw [show j.toNat = n from by omega]))
  | succ d ih =>
    intro j h0 hd
    refine Ev.step (fun k => by rw [spec_raUpTo.l0]) ?_
    refine evPos (by omega) (evPos (by rw [upTo_length]; omega) ?_)
    have h := ih (j + 1) (by omega) (by omega)
    rw [show (j + 1).toNat = j.toNat + 1 from by omega, upTo_succ, Int.toNat_of_nonneg h0] at h
    rw [wr (by omega) (by omega)]
    exact h
theorem raUpTo_ev (n : Nat) (hn : n ≤ 1000000000) : Ev (fun k => spec_raUpTo.f k (n : Int)) (upTo n) := by
  unfold spec_raUpTo.f
  exact raUpTo_l0 n hn n 0 (by omega) (by simp)
/-! spec_l1Own -/
theorem l1Own_eq (l : List Int) (hn : l.length ≤ 10000000000000) : spec_l1Own.f l = some l := by
  unfold spec_l1Own.f
  simp only [Option.bind_some, List.nil_append, List.length_nil, Nat.zero_add]
  rw [if_pos (by omega)]
/-! spec_chRevolving -/
theorem chRevolving_l0 (n : Int) (hn : 1 ≤ n) (hn' : n ≤ 12) (L : List (List Int)) (hL : L.length ≤ 4096) (hl : ∀ t ∈ L, t.length ≤ 12) : ∀ (d : Nat) (out : List (List Int)) (j : Int), j + 1 = d → d ≤ L.length → out.length + d ≤ 100000 →
    Ev (fun k => spec_chRevolving.l0 k n out L j) (out ++ (L.take d).reverse.map (· ++ [n - 1])) := by
  intro d
  induction d with
  | zero =>
    intro out j hj hd ho
    refine Ev.step (fun k => by rw [spec_chRevolving.l0]) ?_
    exact evNeg (by omega) (evEq (by simp))
  | succ d ih =>
    intro out j hj hd ho
    refine Ev.step (fun k => by rw [spec_chRevolving.l0]) ?_
    have hm : rd_L1 L j ∈ L := by
      unfold rd_L1
      rw [List.getD_eq_getElem?_getD, List.getElem?_eq_getElem (show j.toNat < L.length by omega)]
      exact List.getElem_mem _
    have := hl _ hm
    rw [l1Own_eq _ (by omega)]
    refine evPos (by omega) (evPos (by omega) (evPos (by omega) (evSome (evPos (by omega) (evPos (by omega) ?_)))))
    rw [wr (x := n - 1) (by omega) (by omega), wr (x := j - 1) (by omega) (by omega)]
    refine evTo (ih _ (j - 1) (by omega) (by omega) (by simp; omega)) ?_
    have ht := takeD [] L j (by omega) (by omega)
    rw [show (j + 1).toNat = d + 1 from by omega, show j.toNat = d from by omega] at ht
    rw [ht]
    simp only [List.reverse_append, List.reverse_cons, List.reverse_nil, List.nil_append, List.map_append, List.map_cons, List.map_nil, List.cons_append, List.append_assoc]
    unfold rd_L1
    rw [show j.toNat = d from by omega]
theorem chRevolving_ev : ∀ (n k : Nat), n ≤ 12 → k ≤ n → Ev (fun q => spec_chRevolving.f q (n : Int) (k : Int)) (rev n k) := by
  intro n
  induction n with
  | zero =>
    intro k hn hk
    obtain rfl : k = 0 := by omega
    refine Ev.step (fun q => by rw [spec_chRevolving.f]) ?_
    refine evPos (by simp) (Ev.step (fun q => by rw [spec_chRevolving.j0]) ?_)
    exact evPos rfl (Ev.bind (raUpTo_ev 0 (by omega)) (Ev.now _))
  | succ n ih =>
    intro k hn hk
    refine Ev.step (fun q => by rw [spec_chRevolving.f]) ?_
    cases k with
    | zero =>
      refine evPos (by simp) (Ev.step (fun q => by rw [spec_chRevolving.j0]) ?_)
      exact evPos rfl (Ev.bind (raUpTo_ev 0 (by omega)) (Ev.now _))
    | succ k =>
      refine evNeg (by omega) (Ev.step (fun q => by rw [spec_chRevolving.j0]) ?_)
      by_cases e : k = n
      · subst e
        refine evPos (by simp) (Ev.bind (raUpTo_ev (k + 1) (by omega)) (evEq ?_))
        simp [rev]
      · refine evNeg (by simp; omega) ?_
        rw [wr (x := ((n + 1 : Nat) : Int) - 1) (by omega) (by omega), wr (x := ((k + 1 : Nat) : Int) - 1) (by omega) (by omega)]
        rw [show ((n + 1 : Nat) : Int) - 1 = (n : Int) from by omega, show ((k + 1 : Nat) : Int) - 1 = (k : Int) from by omega]
        refine Ev.bind (ih (k + 1) (by omega) (by omega)) (Ev.bind (ih k (by omega) (by omega)) ?_)
        have hl1 := rev_length n (k + 1) (by omega)
        have hl2 := rev_length n k (by omega)
        have hc1 := C_le12 n (k + 1) (by omega)
        have hc2 := C_le12 n k (by omega)
        rw [wr (by omega) (by omega)]
        refine evTo (chRevolving_l0 ((n + 1 : Nat) : Int) (by omega) (by omega) (rev n k) (by omega) (fun t ht => by have := (rev_mem n k t (by omega) ht).2; omega) (rev n k).length _ _ (by omega) (by omega) (by omega)) ?_
        rw [List.take_of_length_le (by omega)]
        simp only [rev, if_neg e]
        rw [show ((n + 1 : Nat) : Int) - 1 = (n : Int) from by omega]
/-! spec_RevolvingList -/
theorem spec_RevolvingList_ev (n k : Int) : Ev (fun q => spec_RevolvingList.f q n k) (if 0 ≤ n ∧ n ≤ 12 ∧ 0 ≤ k ∧ k ≤ n then (rev n.toNat k.toNat, true) else ([], false)) := by
  unfold spec_RevolvingList.f
  simp only [chSize_eq, Option.bind_some]
  by_cases h : 0 ≤ n ∧ n ≤ 12 ∧ 0 ≤ k ∧ k ≤ n
  · have hr := chRevolving_ev n.toNat k.toNat (by omega) (by omega)
    rw [Int.toNat_of_nonneg h.1, Int.toNat_of_nonneg h.2.2.1] at hr
    exact evPos (by simpa using h) (Ev.bind hr (evEq (by rw [if_pos h])))
  · exact evNeg (by simpa using h) (evEq (by rw [if_neg h]))
/-! impl_revolvingRank -/
theorem revolvingRank_ev : ∀ (n : Nat) (l : List Int), n ≤ 12 → comb n l = true → Ev (fun q => impl_revolvingRank.f q (n : Int) l) (rk n l) := by
  intro n
  induction n with
  | zero =>
    intro l hn hc
    have := comb_length hc
    have h0 : l = [] := List.length_eq_zero_iff.1 (by omega)
    subst h0
    refine Ev.step (fun q => by rw [impl_revolvingRank.f]) ?_
    refine evPos (by simp) (Ev.step (fun q => by rw [impl_revolvingRank.j0]) ?_)
    exact evPos rfl (Ev.now _)
  | succ n ih =>
    intro l hn hc
    have hlen := comb_length hc
    refine Ev.step (fun q => by rw [impl_revolvingRank.f]) ?_
    by_cases e0 : l.length = 0
    · refine evPos (by omega) (Ev.step (fun q => by rw [impl_revolvingRank.j0]) ?_)
      exact evPos rfl (evEq (by rw [rk, if_pos (Or.inl e0)]))
    · refine evNeg (by omega) (Ev.step (fun q => by rw [impl_revolvingRank.j0]) ?_)
      by_cases e1 : l.length = n + 1
      · exact evPos (by simp; omega) (evEq (by rw [rk, if_pos (Or.inr e1)]))
      · refine evNeg (by simp; omega) ?_
        rw [wr (x := (l.length : Int) - 1) (by omega) (by omega), wr (x := ((n + 1 : Nat) : Int) - 1) (by omega) (by omega)]
        rw [show ((n + 1 : Nat) : Int) - 1 = (n : Int) from by omega]
        rcases List.eq_nil_or_concat l with rfl | ⟨t, a, rfl⟩
        · simp at e0
        · rw [List.concat_eq_append] at *
          have hlt : (t ++ [a]).length = t.length + 1 := by simp
          have h2 := (comb_snoc _ _ _).1 hc
          have hr : rd (t ++ [a]) (((t ++ [a]).length : Int) - 1) = a := by
            rw [rd_get _ _ (by omega)]
            simp only [show (((t ++ [a]).length : Int) - 1).toNat = t.length from by omega]
            simp
          refine evPos (by omega) (evPos (by omega) ?_)
          have hbd := rk_bound n
          by_cases ea : a = n
          · subst ea
            have hrk := hbd t h2.1
            have htl := comb_length h2.1
            have hcc := C_le12 (n + 1) (t.length + 1) (by omega)
            have hcc2 := C_le12 n t.length (by omega)
            refine evPos hr ?_
            rw [hlt]
            refine Ev.bind (binomial_ev (n + 1) (t.length + 1) (by omega) (by omega)) (evPos (by omega) ?_)
            rw [show (((t.length + 1 : Nat) : Int) - 1).toNat = t.length from by omega]
            rw [show (t ++ [(n : Int)]).take t.length = t from by simp]
            refine Ev.bind (ih t (by omega) h2.1) (evEq ?_)
            simp (disch := omega) only [wr]
            rw [rk, if_neg (by omega), if_pos (by simp), hlt]
            simp
          · refine evNeg (by rw [hr]; exact ea) ?_
            have h3 : comb n (t ++ [a]) = true := (comb_snoc _ _ _).2 ⟨h2.1, h2.2.1, by omega⟩
            refine Ev.bind (ih _ (by omega) h3) (evEq ?_)
            rw [rk, if_neg (by omega), if_neg (by simp; exact ea)]
/-! impl_RevolvingRank -/
theorem RevolvingRank_ev (n : Int) (l : List Int) (hl : l.length ≤ 35184372088832) :
    Ev (fun q => impl_RevolvingRank.f q n l) (if isComb n l = true then (rk n.toNat l, true) else (0, false)) := by
  unfold impl_RevolvingRank.f
  refine Ev.bind (IsCombination_ev n l hl) ?_
  by_cases c : isComb n l = true
  · obtain ⟨h0, h1, hc⟩ := isComb_parts c
    obtain ⟨m, rfl⟩ := Int.eq_ofNat_of_zero_le h0
    refine evPos c (Ev.bind (revolvingRank_ev m l (by omega) hc) (evEq ?_))
    rw [if_pos c, Int.toNat_natCast]
  · exact evNeg c (evEq (by rw [if_neg c]))
/-! impl_isRank -/
theorem isRank_ev (n k r : Int) : Ev (fun q => impl_isRank.f q n k r) (decide (0 ≤ n ∧ n ≤ 12 ∧ 0 ≤ k ∧ k ≤ n ∧ 0 ≤ r ∧ r < C n.toNat k.toNat)) := by
  unfold impl_isRank.f
  simp only [within_eq, Option.bind_some]
  by_cases h : 0 ≤ n ∧ n ≤ 12
  · refine evPos (by simpa using h) ?_
    by_cases h2 : 0 ≤ k ∧ k ≤ n
    · refine evPos (by simpa using h2) (Ev.bind (binomial_evI n k (by omega) (by omega) (by omega) (by omega)) ?_)
      have := C_le12 n.toNat k.toNat (by omega)
      rw [wr (by omega) (by omega)]
      refine evEq ?_
      apply decide_eq_decide.2
      omega
    · exact evNeg (by simpa using h2) (evEq (decide_eq_false (by omega)).symm)
  · exact evNeg (by simpa using h) (evEq (decide_eq_false (by omega)).symm)
/-! impl_RevolvingAt -/
theorem RevolvingAt_ev (n k : Nat) (hn : n ≤ 12) (hk : k ≤ n) (r : Int) :
    Ev (fun q => impl_RevolvingAt.f q (n : Int) (k : Int) r) (if 0 ≤ r ∧ r < C n k then ((rev n k).getD r.toNat [], true) else ([], false)) := by
  unfold impl_RevolvingAt.f
  refine Ev.bind (isRank_ev n k r) ?_
  rw [Int.toNat_natCast, Int.toNat_natCast]
  by_cases c : 0 ≤ r ∧ r < C n k
  · exact evPos (by simp; omega) (Ev.bind (revolvingAt_ev n k r hn hk c.1 c.2) (evEq (by rw [if_pos c])))
  · exact evNeg (by simp; omega) (evEq (by rw [if_neg c]))
theorem RevolvingAt_no (n k r : Int) (h : ¬ (0 ≤ n ∧ n ≤ 12 ∧ 0 ≤ k ∧ k ≤ n)) : Ev (fun q => impl_RevolvingAt.f q n k r) ([], false) := by
  unfold impl_RevolvingAt.f
  refine Ev.bind (isRank_ev n k r) (evNeg ?_ (Ev.now _))
  intro hd
  have := of_decide_eq_true hd
  omega
/-! impl_NextRevolving -/
theorem NextRevolving_ev (n : Int) (l : List Int) (hl : l.length ≤ 35184372088832) : Ev (fun q => impl_NextRevolving.f q n l) (nextRev n l) := by
  unfold impl_NextRevolving.f
  refine Ev.bind (RevolvingRank_ev n l hl) ?_
  by_cases c : isComb n l = true
  · obtain ⟨h0, h1, hc⟩ := isComb_parts c
    obtain ⟨m, rfl⟩ := Int.eq_ofNat_of_zero_le h0
    have hk := comb_length hc
    have hb := rk_bound m l hc
    have hcc := C_le12 m l.length (by omega)
    simp only [if_pos c, Int.toNat_natCast]
    refine evPos (by simp) ?_
    rw [wr (by omega) (by omega)]
    refine Ev.bind (RevolvingAt_ev m l.length (by omega) hk (rk m l + 1)) (evEq ?_)
    unfold nextRev
    rw [if_pos c, Int.toNat_natCast]
  · simp only [if_neg c]
    exact evNeg (by simp) (evEq (by unfold nextRev; rw [if_neg c]))
/-! spec_raBinomial -/
theorem raBinomial_tab : ((List.range 13).all fun n => (List.range 13).all fun k => spec_raBinomial.f 5000 (n : Int) (k : Int) == some (C n k : Int)) = true := by decide +kernel
theorem raBinomial_ev (n k : Nat) (hn : n ≤ 12) (hk : k ≤ 12) : Ev (fun r => spec_raBinomial.f r (n : Int) (k : Int)) (C n k : Int) := by
  refine evTab (g := fun r => spec_raBinomial.f r (n : Int) (k : Int)) (spec_raBinomial.mono _ _) 5000 ?_
  exact beq_iff_eq.1 (List.all_eq_true.1 (List.all_eq_true.1 raBinomial_tab n (List.mem_range.2 (by omega))) k (List.mem_range.2 (by omega)))
/-! spec_l1Cur_rank -/
theorem cur_rank (l : List Int) (hl : Byt l) (a s n : Int) (h0 : 0 ≤ a) (h1 : a ≤ 700000000000) : ∃ r a' s', spec_l1Cur_rank.f l a s n = some (r, a', s') ∧ a ≤ a' ∧ a' ≤ a + 10 := by
  unfold spec_l1Cur_rank.f
  obtain ⟨v, a1, s1, e, h2, h3, h4, h5⟩ := cur_pick l hl a s 12 h0 (by omega)
  rw [e]
  simp only [Option.bind_some]
  by_cases c : v = 0
  · rw [if_pos c]
    obtain ⟨v4, a4, s4, e4, g5, g6, g7⟩ := cur_among l hl a1 s1 [-1, n, wrap64 (n + 1), 4611686018427387904] (by simp) (by omega) (by omega)
    rw [e4]
    simp only [Option.bind_some]
    exact ⟨_, _, _, rfl, by omega, by omega⟩
  rw [if_neg c]
  by_cases c2 : v = 1
  · rw [if_pos c2]; exact ⟨_, _, _, rfl, by omega, by omega⟩
  rw [if_neg c2]
  by_cases c3 : v = 2
  · rw [if_pos c3]; exact ⟨_, _, _, rfl, by omega, by omega⟩
  rw [if_neg c3]
  by_cases c4 : n < 2
  · rw [if_pos c4]; exact ⟨_, _, _, rfl, by omega, by omega⟩
  rw [if_neg c4]
  obtain ⟨v2, a2, s2, e2, g1, g2, g3, g4⟩ := cur_pick l hl a1 s1 60000 (by omega) (by omega)
  rw [e2]
  simp only [Option.bind_some]
  obtain ⟨v3, a3, s3, e3, g5, g6, g7, g8⟩ := cur_pick l hl a2 s2 60000 (by omega) (by omega)
  rw [e3]
  simp only [Option.bind_some]
  rw [if_neg (by omega)]
  exact ⟨_, _, _, rfl, by omega, by omega⟩
/-! spec_DrawRevolvingAt -/
theorem drawRevolvingAt_ev (l : List Int) (hl : Byt l) : ∃ n k r, Ev (fun q => spec_DrawRevolvingAt.f q l) (n, k, r) := by
  unfold spec_DrawRevolvingAt.f
  obtain ⟨n, k, a', s', e, h1, h2⟩ := cur_size3 l hl 0 0 9 (by omega) (by omega) (by omega) (by omega)
  rw [e]
  simp only [Option.bind_some]
  rw [chSize_eq]
  by_cases c : 0 ≤ n ∧ n ≤ 12 ∧ 0 ≤ k ∧ k ≤ n
  · obtain ⟨N, rfl⟩ := Int.eq_ofNat_of_zero_le c.1
    obtain ⟨K, rfl⟩ := Int.eq_ofNat_of_zero_le c.2.2.1
    obtain ⟨r, a2, s2, e2, _, _⟩ := cur_rank l hl a' s' (C N K : Int) (by omega) (by omega)
    refine ⟨(N : Int), (K : Int), r, evSome (evPos (by simpa using c) (Ev.bind (raBinomial_ev N K (by omega) (by omega)) ?_))⟩
    rw [e2]
    exact Ev.now _
  · obtain ⟨r, a2, s2, e2, _, _⟩ := cur_rank l hl a' s' 1 (by omega) (by omega)
    refine ⟨n, k, r, evSome (evNeg (by simpa using c) ?_)⟩
    rw [e2]
    exact Ev.now _
/-! spec_raOf -/
theorem raOf_eq (L : List (List Int)) (i : Int) (hL : L.length ≤ 1000000) (hl : ∀ t ∈ L, t.length ≤ 1000000) : spec_raOf.f L i = some (if 0 ≤ i ∧ i < L.length then (L.getD i.toNat [], true) else ([], false)) := by
  unfold spec_raOf.f
  rw [wr (by omega) (by omega)]
  simp only [l1In_eq, Option.bind_some]
  by_cases c : 0 ≤ i ∧ i < L.length
  · rw [if_pos c, if_pos (by simp; omega), if_pos c.1, if_pos c.2]
    have hm : rd_L1 L i ∈ L := by
      unfold rd_L1
      rw [List.getD_eq_getElem?_getD, List.getElem?_eq_getElem (show i.toNat < L.length by omega)]
      exact List.getElem_mem _
    have := hl _ hm
    rw [l1Own_eq _ (by omega)]; rfl
  · rw [if_neg c, if_neg (by simp; omega)]
/-! spec_RevolvingAt -/
theorem spec_RevolvingAt_ev (n k : Nat) (hn : n ≤ 12) (hk : k ≤ n) (r : Int) :
    Ev (fun q => spec_RevolvingAt.f q (n : Int) (k : Int) r) (if 0 ≤ r ∧ r < C n k then ((rev n k).getD r.toNat [], true) else ([], false)) := by
  unfold spec_RevolvingAt.f
  simp only [chSize_eq, Option.bind_some]
  have hs := rev_small n k hn hk
  refine evPos (by simp; omega) (Ev.bind (chRevolving_ev n k hn hk) ?_)
  rw [raOf_eq _ r (by omega) (fun t ht => by have := hs.2 t ht; omega), rev_length n k hk]
  exact evSome (Ev.now _)
/-! spec_l1Cur_one -/
theorem cur_one (l : List Int) (hl : Byt l) (a s n : Int) (h0 : 0 ≤ a) (h1 : a ≤ 900000000000) : ∃ b a' s', spec_l1Cur_one.f l a s n = some (b, a', s') ∧ a ≤ a' ∧ a' ≤ a + 2 := by
  unfold spec_l1Cur_one.f
  obtain ⟨v, a', s', e, h2, h3, h4, h5⟩ := cur_pick l hl a s n h0 h1
  rw [e]
  simp only [Option.bind_some]
  exact ⟨_, _, _, rfl, h2, h3⟩
/-! spec_l1Least -/
theorem least_eq (a b : Int) : spec_l1Least.f a b = some (if a < b then a else b) := by
  unfold spec_l1Least.f
  split <;> rfl
/-! spec_l1Cur_combination -/
theorem combination_l0 (l : List Int) (hl : Byt l) (n : Int) : ∀ (d : Nat) (out : List Int) (j a s : Int), 0 ≤ j → (20 - j).toNat ≤ d → (out.length : Int) ≤ j → j ≤ 20 → 0 ≤ a → a + 2 * d + 10 ≤ 800000000000 →
    ∃ r a' s', r.length ≤ 21 ∧ a ≤ a' ∧ a' ≤ a + 2 * d + 10 ∧ Ev (fun k => spec_l1Cur_combination.l0 k n out j l a s) (r, a', s') := by
  have hend : ∀ (d : Nat) (out : List Int) (j a s : Int), (out.length : Int) ≤ j → j ≤ 20 → 0 ≤ a → a + 2 * d + 10 ≤ 800000000000 → ¬ j < (if n < 20 then n else 20) → ∃ r a' s', r.length ≤ 21 ∧ a ≤ a' ∧ a' ≤ a + 2 * d + 10 ∧ Ev (fun k => spec_l1Cur_combination.l0 k n out j l a s) (r, a', s') := by
    intro d out j a s ho hj h1 h2 hc
    obtain ⟨b, a1, s1, e, g1, g2⟩ := cur_one l hl a s 20 h1 (by omega)
    by_cases c : b = true
    · obtain ⟨v4, a4, s4, e4, g5, g6, g7⟩ := cur_among l hl a1 s1 [-1, 0, n, 4611686018427387904] (by simp) (by omega) (by omega)
      refine ⟨out ++ [v4], a4, s4, by simp; omega, by omega, by omega, Ev.step (fun k => by rw [spec_l1Cur_combination.l0]) ?_⟩
      rw [least_eq]
      refine evSome (evNeg hc ?_)
      rw [e]
      refine evSome (evPos c ?_)
      rw [e4]
      exact evSome (evPos (by omega) (Ev.now _))
    · refine ⟨out, a1, s1, by omega, by omega, by omega, Ev.step (fun k => by rw [spec_l1Cur_combination.l0]) ?_⟩
      rw [least_eq]
      refine evSome (evNeg hc ?_)
      rw [e]
      exact evSome (evNeg c (Ev.now _))
  intro d
  induction d with
  | zero =>
    intro out j a s h0 hd ho hj h1 h2
    exact hend 0 out j a s ho hj h1 h2 (by split <;> omega)
  | succ d ih =>
    intro out j a s h0 hd ho hj h1 h2
    by_cases hc : j < (if n < 20 then n else 20)
    · have hj20 : j < 20 := by split at hc <;> omega
      obtain ⟨b, a1, s1, e, g1, g2⟩ := cur_one l hl a s 2 h1 (by omega)
      by_cases c : b = true
      · obtain ⟨r, a', s', r1, r2, r3, hr⟩ := ih (out ++ [j]) (j + 1) a1 s1 (by omega) (by omega) (by simp; omega) (by omega) (by omega) (by omega)
        refine ⟨r, a', s', r1, by omega, by omega, Ev.step (fun k => by rw [spec_l1Cur_combination.l0]) ?_⟩
        rw [least_eq]
        refine evSome (evPos hc ?_)
        rw [e]
        refine evSome (evPos c (evPos (by omega) ?_))
        rw [wr (by omega) (by omega)]
        exact hr
      · obtain ⟨r, a', s', r1, r2, r3, hr⟩ := ih out (j + 1) a1 s1 (by omega) (by omega) (by omega) (by omega) (by omega) (by omega)
        refine ⟨r, a', s', r1, by omega, by omega, Ev.step (fun k => by rw [spec_l1Cur_combination.l0]) ?_⟩
        rw [least_eq]
        refine evSome (evPos hc ?_)
        rw [e]
        refine evSome (evNeg c ?_)
        rw [wr (by omega) (by omega)]
        exact hr
    · exact hend (d + 1) out j a s ho hj h1 h2 hc
theorem cur_combination (l : List Int) (hl : Byt l) (a s n : Int) (h0 : 0 ≤ a) (h1 : a ≤ 700000000000) : ∃ r a' s', r.length ≤ 21 ∧ a ≤ a' ∧ a' ≤ a + 50 ∧ Ev (fun k => spec_l1Cur_combination.f k l a s n) (r, a', s') := by
  unfold spec_l1Cur_combination.f
  obtain ⟨r, a', s', r1, r2, r3, hr⟩ := combination_l0 l hl n 20 [] 0 a s (by omega) (by omega) (by simp) (by omega) h0 (by omega)
  exact ⟨r, a', s', r1, r2, by omega, hr⟩
/-! spec_l1Cur_items -/
theorem cur_items (l : List Int) (hl : Byt l) (a s : Int) (h0 : 0 ≤ a) (h1 : a ≤ 800000000000) : ∃ v a' s', spec_l1Cur_items.f l a s = some (v, a', s') ∧ a ≤ a' ∧ a' ≤ a + 4 ∧ -1 ≤ v ∧ v ≤ 13 := by
  unfold spec_l1Cur_items.f
  obtain ⟨b, a1, s1, e, h2, h3⟩ := cur_one l hl a s 15 h0 (by omega)
  rw [e]
  simp only [Option.bind_some]
  by_cases c : b = true
  · rw [if_pos c]
    obtain ⟨v4, a4, s4, e4, g5, g6, g7⟩ := cur_among l hl a1 s1 [-1, 0, 12, 13] (by simp) (by omega) (by omega)
    rw [e4]
    simp only [Option.bind_some]
    simp at g7
    exact ⟨_, _, _, rfl, by omega, by omega, by omega, by omega⟩
  · rw [if_neg c]
    obtain ⟨v4, a4, s4, e4, g5, g6, g7, g8⟩ := cur_pick l hl a1 s1 9 (by omega) (by omega)
    rw [e4]
    simp only [Option.bind_some]
    exact ⟨_, _, _, rfl, by omega, by omega, by omega, by omega⟩
/-! spec_DrawIsCombination -/
theorem drawIsCombination_ev (l : List Int) (hl : Byt l) : ∃ n r, r.length ≤ 21 ∧ Ev (fun k => spec_DrawIsCombination.f k l) (n, r) := by
  unfold spec_DrawIsCombination.f
  obtain ⟨n, a', s', e, h1, h2, h3, h4⟩ := cur_items l hl 0 0 (by omega) (by omega)
  obtain ⟨r, a2, s2, r1, r2, r3, hr⟩ := cur_combination l hl a' s' n (by omega) (by omega)
  refine ⟨n, r, r1, ?_⟩
  rw [e]
  exact evSome (Ev.bind hr (Ev.now _))
/-! spec_DrawNextRevolving -/
theorem drawNextRevolving_ev (l : List Int) (hl : Byt l) : ∃ n r, r.length ≤ 21 ∧ Ev (fun k => spec_DrawNextRevolving.f k l) (n, r) := by
  unfold spec_DrawNextRevolving.f
  obtain ⟨n, r, h1, h2⟩ := drawIsCombination_ev l hl
  exact ⟨n, r, h1, Ev.bind h2 (Ev.now _)⟩
/-! spec_l1Same -/
theorem l1Same_l0 (a b : List Int) (hn : a.length ≤ 35184372088832) (hb : a.length = b.length) : ∀ (d : Nat) (j : Int), 0 ≤ j → j.toNat + d = a.length →
    Ev (fun k => spec_l1Same.l0 k a b (a.length : Int) j) (decide (a.drop j.toNat = b.drop j.toNat)) := by
  intro d
  induction d with
  | zero =>
    intro j h0 hd
    refine Ev.step (fun k => by rw [spec_l1Same.l0]) ?_
    refine evNeg (by omega) ?_
    rw [drop_end a j (by omega), drop_end b j (by omega)]
    exact evEq rfl
  | succ d ih =>
    intro j h0 hd
    refine Ev.step (fun k => by rw [spec_l1Same.l0]) ?_
    refine evPos (by omega) (evPos (by omega) (evPos (by omega) (evPos (by omega) ?_)))
    rw [wr (by omega) (by omega), drop_rd a j h0 (by omega), drop_rd b j h0 (by omega)]
    by_cases c : rd a j = rd b j
    · refine evPos c (evTo (ih _ (by omega) (by omega)) ?_)
      simp [c]
    · refine evNeg c (evEq ?_)
      simp [c]
theorem l1Same_ev (a b : List Int) (hn : a.length ≤ 35184372088832) : Ev (fun k => spec_l1Same.f k a b) (decide (a = b)) := by
  unfold spec_l1Same.f
  by_cases hb : a.length = b.length
  · exact evPos (by omega) (l1Same_l0 a b hn hb a.length 0 (by omega) (by simp))
  · refine evNeg (by omega) (evEq ?_)
    exact (decide_eq_false (fun e => hb (by rw [e]))).symm
/-! spec_raPlace -/
theorem raPlace_l0 (l : List Int) (L : List (List Int)) (hL : L.length ≤ 1000000000) (hl : ∀ t ∈ L, t.length ≤ 35184372088832) : ∀ (d : Nat) (j : Int), 0 ≤ j → j.toNat + d = L.length →
    Ev (fun k => spec_raPlace.l0 k l L (L.length : Int) j) (placeI l j (L.drop j.toNat)) := by
  intro d
  induction d with
  | zero =>
    intro j h0 hd
    refine Ev.step (fun k => by rw [spec_raPlace.l0]) ?_
    refine evNeg (by omega) ?_
    rw [drop_end L j (by omega)]
    exact evEq rfl
  | succ d ih =>
    intro j h0 hd
    refine Ev.step (fun k => by rw [spec_raPlace.l0]) ?_
    have hm : rd_L1 L j ∈ L := by
      unfold rd_L1
      rw [List.getD_eq_getElem?_getD, List.getElem?_eq_getElem (show j.toNat < L.length by omega)]
      exact List.getElem_mem _
    refine evPos (by omega) (evPos (by omega) (evPos (by omega) (Ev.bind (l1Same_ev _ l (hl _ hm)) ?_)))
    have hcons : L.drop j.toNat = rd_L1 L j :: L.drop (j + 1).toNat := dropD [] L j h0 (by omega)
    rw [wr (by omega) (by omega), hcons, placeI]
    by_cases c : rd_L1 L j = l
    · rw [if_pos c]; exact evPos (decide_eq_true c) (Ev.now _)
    · rw [if_neg c]; exact evNeg (by simpa using c) (ih _ (by omega) (by omega))
theorem raPlace_ev (L : List (List Int)) (l : List Int) (hL : L.length ≤ 1000000000) (hl : ∀ t ∈ L, t.length ≤ 35184372088832) : Ev (fun k => spec_raPlace.f k L l) (placeI l 0 L) := by
  unfold spec_raPlace.f
  exact evTo (raPlace_l0 l L hL hl L.length 0 (by omega) (by simp)) (by simp)
/-! spec_l1Rising -/
theorem l1Rising_l0 (xs : List Int) (a b : Int) (hn : xs.length ≤ 35184372088832) : ∀ (d : Nat) (j : Int), 1 ≤ j → j.toNat + d = xs.length →
    Ev (fun k => spec_l1Rising.l0 k xs a b xs (xs.length : Int) j) (((xs.drop j.toNat).all fun x => decide (a ≤ x ∧ x ≤ b)) && incrFrom (rd xs (j - 1) + 1) (xs.drop j.toNat)) := by
  intro d
  induction d with
  | zero =>
    intro j h0 hd
    refine Ev.step (fun k => by rw [spec_l1Rising.l0]) ?_
    refine evNeg (by omega) (evEq ?_)
    rw [drop_end _ _ (by omega)]; rfl
  | succ d ih =>
    intro j h0 hd
    refine Ev.step (fun k => by rw [spec_l1Rising.l0]) ?_
    rw [wr (x := j - 1) (by omega) (by omega), wr (x := j + 1) (by omega) (by omega), drop_rd xs j (by omega) (by omega)]
    simp only [l1In_eq, Option.bind_some, List.all_cons, incrFrom]
    refine evPos (by omega) (evPos (by omega) (evPos (by omega) ?_))
    by_cases c1 : a ≤ rd xs j ∧ rd xs j ≤ b
    · refine evPos (by simpa using c1) (evPos (by omega) (evPos (by omega) (evPos (by omega) ?_)))
      rw [decide_eq_true c1, Bool.true_and]
      by_cases c : rd xs (j - 1) ≥ rd xs j
      · refine evPos c (evEq ?_)
        rw [decide_eq_false (show ¬ (rd xs (j - 1) + 1 ≤ rd xs j) by omega)]; simp
      · refine evNeg c (evTo (ih (j + 1) (by omega) (by omega)) ?_)
        rw [decide_eq_true (show rd xs (j - 1) + 1 ≤ rd xs j by omega), Bool.true_and, show j + 1 - 1 = j from by omega]
    · refine evNeg (by simpa using c1) (evEq ?_)
      rw [decide_eq_false c1]; rfl
theorem l1Rising_ev (xs : List Int) (a b : Int) (hn : xs.length ≤ 35184372088832) : Ev (fun k => spec_l1Rising.f k xs a b) ((xs.all fun x => decide (a ≤ x ∧ x ≤ b)) && incr xs) := by
  unfold spec_l1Rising.f
  cases xs with
  | nil =>
    refine Ev.step (fun k => by rw [spec_l1Rising.l0]) ?_
    exact evNeg (by simp) (Ev.now _)
  | cons x t =>
    refine Ev.step (fun k => by rw [spec_l1Rising.l0]) ?_
    simp only [l1In_eq, Option.bind_some]
    refine evPos (by simp) (evPos (by omega) (evPos (by simp) ?_))
    have hx : rd (x :: t) 0 = x := rfl
    rw [hx]
    by_cases c1 : a ≤ x ∧ x ≤ b
    · refine evPos (by simpa using c1) (evNeg (by omega) ?_)
      rw [wr (by omega) (by omega)]
      refine evTo (l1Rising_l0 (x :: t) a b hn t.length 1 (by omega) (by simp; omega)) ?_
      rw [List.all_cons, decide_eq_true c1, Bool.true_and]
      simp [incr, rd]
    · refine evNeg (by simpa using c1) (evEq ?_)
      rw [List.all_cons, decide_eq_false c1]; rfl
/-! spec_raCombination -/
theorem raCombination_ev (n : Int) (l : List Int) (hn : l.length ≤ 35184372088832) : Ev (fun k => spec_raCombination.f k n l) (isComb n l) := by
  unfold spec_raCombination.f
  simp only [raItems_eq, Option.bind_some]
  by_cases h : 0 ≤ n ∧ n ≤ 12
  · refine evPos (by simpa using h) ?_
    rw [wr (by omega) (by omega), isComb, decide_eq_true h, Bool.true_and]
    by_cases c : (l.length : Int) ≤ n
    · refine evPos c (Ev.bind (l1Rising_ev l 0 (n - 1) hn) (evEq ?_))
      rw [comb_all]
    · refine evNeg c (evEq ?_)
      symm
      rw [Bool.eq_false_iff]
      intro hc
      obtain ⟨m, rfl⟩ := Int.eq_ofNat_of_zero_le h.1
      have := comb_length hc
      omega
  · refine evNeg (by simpa using h) (evEq ?_)
    rw [isComb, decide_eq_false h, Bool.false_and]
/-! spec_NextRevolving -/
theorem spec_NextRevolving_ev (n : Int) (l : List Int) (hl : l.length ≤ 35184372088832) : Ev (fun q => spec_NextRevolving.f q n l) (nextRev n l) := by
  unfold spec_NextRevolving.f nextRev
  refine Ev.bind (raCombination_ev n l hl) ?_
  by_cases c : isComb n l = true
  · obtain ⟨h0, h1, hc⟩ := isComb_parts c
    obtain ⟨m, rfl⟩ := Int.eq_ofNat_of_zero_le h0
    have hk := comb_length hc
    have hs := rev_small m l.length (by omega) hk
    have hb := rk_bound m l hc
    have hcc := C_le12 m l.length (by omega)
    refine evPos c (Ev.bind (chRevolving_ev m l.length (by omega) hk) (Ev.bind (raPlace_ev _ _ (by omega) (fun t ht => by have := hs.2 t ht; omega)) ?_))
    rw [placeI_rev m l hc, wr (by omega) (by omega), raOf_eq _ _ (by omega) (fun t ht => by have := hs.2 t ht; omega), rev_length m _ hk]
    refine evSome (evEq ?_)
    rw [if_pos c, Int.toNat_natCast]
  · exact evNeg c (evEq (by rw [if_neg c]))
/-! spec_RevolvingRank -/
theorem spec_RevolvingRank_ev (n : Int) (l : List Int) (hl : l.length ≤ 35184372088832) :
    Ev (fun q => spec_RevolvingRank.f q n l) (if isComb n l = true then (rk n.toNat l, true) else (0, false)) := by
  unfold spec_RevolvingRank.f
  refine Ev.bind (raCombination_ev n l hl) ?_
  by_cases c : isComb n l = true
  · obtain ⟨h0, h1, hc⟩ := isComb_parts c
    obtain ⟨m, rfl⟩ := Int.eq_ofNat_of_zero_le h0
    have hk := comb_length hc
    have hs := rev_small m l.length (by omega) hk
    refine evPos c (Ev.bind (chRevolving_ev m l.length (by omega) hk) (Ev.bind (raPlace_ev _ _ (by omega) (fun t ht => by have := hs.2 t ht; omega)) (evEq ?_)))
    rw [if_pos c, Int.toNat_natCast, placeI_rev m l hc]
  · exact evNeg c (evEq (by rw [if_neg c]))
-- rev_near
theorem rev_wf (n k : Nat) (hn : n ≤ 12) (i : Nat) (h : i < (rev n k).length) (hk : k ≤ n) : (rev n k)[i].length ≤ 12 := (rev_small n k hn hk).2 _ (List.getElem_mem h)
theorem C_le924 : ((List.range 13).all fun n => (List.range 13).all fun k => decide (C n k ≤ 1000)) = true := by decide +kernel
theorem C_1000 (n k : Nat) (hn : n ≤ 12) (hk : k ≤ 12) : C n k ≤ 1000 := of_decide_eq_true (List.all_eq_true.1 (List.all_eq_true.1 C_le924 n (List.mem_range.2 (by omega))) k (List.mem_range.2 (by omega)))
theorem tail3 (l : List Int) (hl : Byt l) : Ev (fun q => laws_FnRevolvingDoor.j3 q l false) true := by
  refine Ev.step (fun k => by rw [laws_FnRevolvingDoor.j3]) ?_
  obtain ⟨n, r, hr, hd⟩ := drawNextRevolving_ev l hl
  have h1 := NextRevolving_ev n r (by omega)
  have h2 := spec_NextRevolving_ev n r (by omega)
  have h3 := RevolvingRank_ev n r (by omega)
  have h4 := spec_RevolvingRank_ev n r (by omega)
  have hl := nextRev_length n r
  refine evNeg (by simp) (Ev.bind hd (Ev.bind h1 (Ev.bind h2 (Ev.bind h3 (Ev.bind h4 ?_)))))
  exact evPos (by simp) (Ev.bind (uSame_self (nextRev n r).1 (by omega)) (evPos rfl (evPos (by simp) (evEq (by simp)))))
theorem tail2 (l : List Int) (hl : Byt l) : Ev (fun q => laws_FnRevolvingDoor.j2 q l) true := by
  refine Ev.step (fun k => by rw [laws_FnRevolvingDoor.j2]) ?_
  obtain ⟨n, k, r, hd⟩ := drawRevolvingAt_ev l hl
  have key : ∃ g b, Ev (fun q => spec_RevolvingAt.f q n k r) (g, b) ∧ Ev (fun q => impl_RevolvingAt.f q n k r) (g, b) ∧ g.length ≤ 1000 := by
    by_cases h : 0 ≤ n ∧ n ≤ 12 ∧ 0 ≤ k ∧ k ≤ n
    · obtain ⟨N, rfl⟩ := Int.eq_ofNat_of_zero_le h.1
      obtain ⟨K, rfl⟩ := Int.eq_ofNat_of_zero_le h.2.2.1
      have h1 := spec_RevolvingAt_ev N K (by omega) (by omega) r
      have h2 := RevolvingAt_ev N K (by omega) (by omega) r
      by_cases c : 0 ≤ r ∧ r < C N K
      · rw [if_pos c] at h1 h2
        refine ⟨_, _, h1, h2, ?_⟩
        have hs := rev_small N K (by omega) (by omega)
        have hm : (rev N K).getD r.toNat [] ∈ rev N K := by
          rw [List.getD_eq_getElem?_getD, List.getElem?_eq_getElem (show r.toNat < (rev N K).length by rw [rev_length N K (by omega)]; omega)]
          exact List.getElem_mem _
        have := hs.2 _ hm
        omega
      · rw [if_neg c] at h1 h2
        exact ⟨_, _, h1, h2, by simp⟩
    · refine ⟨[], false, ?_, RevolvingAt_no n k r h, by simp⟩
      unfold spec_RevolvingAt.f
      simp only [chSize_eq, Option.bind_some]
      exact evNeg (by simpa using h) (Ev.now _)
  obtain ⟨g, b, hs, hi, hgl⟩ := key
  exact Ev.bind hd (Ev.bind hi (Ev.bind hs (evNeg (by simp) (Ev.bind (uSame_self g (by omega)) (tail3 l hl)))))
theorem tail1 (l : List Int) (hl : Byt l) (n k : Nat) (hn : n ≤ 12) (hk : k ≤ n) : Ev (fun q => laws_FnRevolvingDoor.j1 q l (n : Int) (rev n k) false) true := by
  refine Ev.step (fun k => by rw [laws_FnRevolvingDoor.j1]) ?_
  obtain ⟨m, m0, m1, hm⟩ := numberOf_ev l hl.1 hl.2
  have hlen := rev_length n k hk
  have hpos := C_pos n k hk
  have hC := C_1000 n k hn (by omega)
  have ht0 : 0 ≤ Int.tmod m ((rev n k).length : Int) := Int.tmod_nonneg _ m0
  have ht1 : Int.tmod m ((rev n k).length : Int) < ((rev n k).length : Int) := Int.tmod_lt_of_pos _ (by omega)
  refine evNeg (by simp) (Ev.bind hm (evNeg (by omega) ?_))
  obtain ⟨i, hi⟩ := Int.eq_ofNat_of_zero_le ht0
  rw [hi] at ht1 ⊢
  have hi1 : i < (rev n k).length := by omega
  have e1 : rd_L1 (rev n k) (i : Int) = (rev n k)[i] := by unfold rd_L1; rw [Int.toNat_natCast, List.getD_eq_getElem?_getD, List.getElem?_eq_getElem hi1]; rfl
  have hmem := rev_mem n k _ hk (List.getElem_mem hi1)
  have hcb : isComb (n : Int) (rev n k)[i] = true := by simp only [isComb, Bool.and_eq_true, decide_eq_true_eq]; exact ⟨by omega, hmem.1⟩
  have hrk := rk_rev n k i hi1 hk
  have h12 := rev_wf n k hn i hi1 hk
  have h1 := RevolvingRank_ev (n : Int) (rev n k)[i] (by omega)
  rw [if_pos hcb, Int.toNat_natCast, hrk] at h1
  have h2 := NextRevolving_ev (n : Int) (rev n k)[i] (by omega)
  have hnx : nextRev (n : Int) (rev n k)[i] = if i + 1 < (rev n k).length then ((rev n k).getD (i + 1) [], true) else ([], false) := by
    unfold nextRev
    rw [if_pos hcb, Int.toNat_natCast, hrk, hmem.2, ← hlen]
    by_cases c : i + 1 < (rev n k).length
    · rw [if_pos c, if_pos (by omega), show ((i : Int) + 1).toNat = i + 1 from by omega]
    · rw [if_neg c, if_neg (by omega)]
  rw [hnx] at h2
  refine evPos (by omega) (evPos (by omega) ?_)
  rw [e1, wr (x := (i : Int) + 1) (by omega) (by omega)]
  refine Ev.bind h1 (Ev.bind h2 (evPos rfl (evPos rfl ?_)))
  by_cases c : i + 1 < (rev n k).length
  · have e2 : rd_L1 (rev n k) ((i : Int) + 1) = (rev n k).getD (i + 1) [] := by unfold rd_L1; rw [show ((i : Int) + 1).toNat = i + 1 from by omega]
    have h3 : ((rev n k).getD (i + 1) []).length ≤ 12 := by
      rw [List.getD_eq_getElem?_getD, List.getElem?_eq_getElem c]
      exact rev_wf n k hn (i + 1) c hk
    simp only [if_pos c]
    refine evNeg (by simp; omega) (evPos (by simp) (evPos (by omega) (evPos (by omega) ?_)))
    rw [e2]
    exact Ev.bind (uSame_self ((rev n k).getD (i + 1) []) (by omega)) (evPos rfl (tail2 l hl))
  · simp only [if_neg c]
    exact evNeg (by simp; omega) (evNeg (by simp) (tail2 l hl))
theorem FnRevolvingDoor : laws_FnRevolvingDoor.Pure := by
  intro l0 l1 hm0 hb0 hw0 hm1 hb1 hw1
  refine Ev.rounds (g := fun q => laws_FnRevolvingDoor.f q l0 l1) ?_
  unfold laws_FnRevolvingDoor.f
  obtain ⟨t, ht, hbig⟩ := big_eq l0 l1
  rw [ht]
  refine evSome ?_
  cases t
  rotate_left
  · exact evPos rfl (Ev.now _)
  obtain ⟨q0, q1⟩ := hbig rfl
  have y0 := byt_of q0 hw0
  have y1 := byt_of q1 hw1
  refine evNeg (by simp) ?_
  obtain ⟨n, k, hd⟩ := drawRevolvingList_ev l0 y0
  rw [hd]
  refine evSome ?_
  have h1 := RevolvingList_ev n k
  have h2 := spec_RevolvingList_ev n k
  by_cases c : 0 ≤ n ∧ n ≤ 12 ∧ 0 ≤ k ∧ k ≤ n
  · rw [if_pos c] at h1 h2
    obtain ⟨N, rfl⟩ := Int.eq_ofNat_of_zero_le c.1
    obtain ⟨K, rfl⟩ := Int.eq_ofNat_of_zero_le c.2.2.1
    rw [Int.toNat_natCast, Int.toNat_natCast] at h1 h2
    have hn : N ≤ 12 := by omega
    have hk : K ≤ N := by omega
    have hs := rev_small N K hn hk
    have hC := C_1000 N K hn (by omega)
    refine Ev.bind h1 (Ev.bind h2 (evNeg (by simp) (Ev.bind (uLists_self (rev N K) (by omega) (fun t ht => by have := hs.2 t ht; omega)) ?_)))
    refine Ev.step (fun k => by rw [laws_FnRevolvingDoor.j0]) ?_
    refine evNeg (by simp) (evPos rfl (Ev.bind (IsRound_rev N K hn hk (by omega) (fun x y _ _ _ _ => rfl)) (Ev.bind (Binomial_ev N K hn hk) (evPos rfl (evPos rfl (evPos rfl ?_))))))
    rw [rev_length N K hk, bne_self_eq_false]
    exact tail1 l1 y1 N K hn hk
  · rw [if_neg c] at h1 h2
    refine Ev.bind h1 (Ev.bind h2 (evNeg (by simp) (Ev.bind (uLists_self [] (by simp) (by simp)) ?_)))
    refine Ev.step (fun k => by rw [laws_FnRevolvingDoor.j0]) ?_
    exact evNeg (by simp) (evNeg (by simp) (tail2 l1 y1))

end Go.Proofs.Ytelajnmnbmamhaa.Pure
