/- The pure statement of FnExactAreEven: for all arguments that fit, the law as a Lean function answers true after enough rounds. -/
import Derived.Test.YtcplfdfmebibpaaMFnExactAreEvenx1
import Derived.Test.YtcplfdfmebibpaaMFnExactAreEvenx2
import Derived.Test.YtcplfdfmebibpaaMFnExactAreEvenx3
import Derived.Test.YtcplfdfmebibpaaMFnExactAreEvenx4
import Derived.Test.YtcplfdfmebibpaaMFnExactAreEvenx5
import Derived.Test.YtcplfdfmebibpaaMFnExactAreEvenx6
import Derived.Test.YtcplfdfmebibpaaBase
import Derived.Test.YtcplfdfmebibpaaComb
import Derived.Test.YtcplfdfmebibpaaMoves
namespace Go.Proofs.Ytcplfdfmebibpaa.Pure
open Go.RowKit Go.Proofs.Ytcplfdfmebibpaa.MFnExactAreEven Go.Proofs.YtcplfdfmebibpaaW.PrintWords Go.Proofs.YtcplfdfmebibpaaW.PrintLast Go.Proofs.Ytcplfdfmebibpaa.Base Go.Proofs.Ytcplfdfmebibpaa.Comb Go.Proofs.Ytcplfdfmebibpaa.Moves
set_option linter.unusedVariables false
set_option linter.unusedSimpArgs false

/-! laws_szMoveS -/
theorem szMoveS_eq (l : List S53) (h : l.length ≤ maxLen) : laws_szMoveS.f l 1048576 = some (if l.length ≤ 1048576 then (1048576 - (l.length : Int)) else -1) := by
  have hm : maxLen = 9223372036854775807 := rfl
  unfold laws_szMoveS.f
  rw [wr (by omega) (by omega)]
  by_cases c : l.length ≤ 1048576
  · rw [if_neg (by omega), if_pos c]
  · rw [if_pos (by omega), if_neg c]
/-! spec_l1In -/
theorem l1In_eq (x a b : Int) : spec_l1In.f x a b = some (decide (a ≤ x ∧ x ≤ b)) := by
  unfold spec_l1In.f
  by_cases h : x ≥ a
  · rw [if_pos h]; have h' : a ≤ x := h; simp [h']
  · rw [if_neg h]; have h' : ¬ a ≤ x := h; simp [h']
/-! spec_moGood -/
/-- A move of permutations of n. -/
def isMv (n c i j : Int) : Bool := decide ((c = 0 ∧ 0 ≤ i ∧ i < j ∧ j < n) ∨ ((c = 1 ∨ c = 2) ∧ 2 ≤ i ∧ i ≤ n ∧ j = 0))
theorem moGood_eq (n c i j : Int) (h0 : 0 ≤ n) (hn : n ≤ 12) : spec_moGood.f n c i j = some (isMv n c i j) := by
  unfold spec_moGood.f isMv
  rw [wr (x := n - 1) (by omega) (by omega)]
  simp only [l1In_eq, Option.bind_some]
  by_cases c0 : c = 0
  · rw [if_pos c0]
    by_cases c1 : 1 ≤ j ∧ j ≤ n - 1
    · rw [if_pos (by simpa using c1), wr (by omega) (by omega)]
      congr 1; apply decide_eq_decide.2; omega
    · rw [if_neg (by simpa using c1)]
      congr 1; exact (decide_eq_false (by omega)).symm
  · rw [if_neg c0]
    by_cases c1 : c = 1
    · rw [if_pos c1]
      by_cases c3 : 2 ≤ i ∧ i ≤ n
      · rw [if_pos (by simpa using c3)]
        congr 1; rw [Bool.eq_iff_iff]; simp; omega
      · rw [if_neg (by simpa using c3)]
        congr 1; exact (decide_eq_false (by omega)).symm
    · rw [if_neg c1]
      by_cases c2 : c = 2
      · rw [if_pos c2]
        by_cases c3 : 2 ≤ i ∧ i ≤ n
        · rw [if_pos (by simpa using c3)]
          congr 1; rw [Bool.eq_iff_iff]; simp; omega
        · rw [if_neg (by simpa using c3)]
          congr 1; exact (decide_eq_false (by omega)).symm
      · rw [if_neg c2]
        congr 1; exact (decide_eq_false (by omega)).symm
/-! spec_moTask -/
def okTask (n : Int) (l : List S55) : Bool := (l.all fun m => isMv n m.f0 m.f1 m.f2) && (decide (1 ≤ n ∧ n ≤ 5) && decide ((l.length : Int) ≤ 12))
theorem moGood_some (n a b c : Int) : spec_moGood.f n a b c = some ((spec_moGood.f n a b c).getD false) := by
  unfold spec_moGood.f
  simp only [l1In_eq, Option.bind_some]
  repeat' split
  all_goals rfl
theorem moTask_l0 (n : Int) (g : S55 → Bool) (hg : ∀ m : S55, spec_moGood.f n m.f0 m.f1 m.f2 = some (g m)) (l : List S55) (hl : l.length ≤ 1048576) : ∀ (d : Nat) (i : Int), 0 ≤ i → i.toNat + d = l.length →
    Ev (fun k => spec_moTask.l0 k n l l (l.length : Int) i) (((l.drop i.toNat).all g) && (decide (1 ≤ n ∧ n ≤ 5) && decide ((l.length : Int) ≤ 12))) := by
  intro d
  induction d with
  | zero =>
    intro i h0 hd
    refine Ev.step (fun k => by rw [spec_moTask.l0]) ?_
    rw [List.drop_of_length_le (by omega)]
    refine evNeg (by omega) ?_
    rw [l1In_eq]
    refine evSome ?_
    by_cases c : 1 ≤ n ∧ n ≤ 5
    · exact evPos (by simpa using c) (evEq (by simp [c]))
    · refine evNeg (by simpa using c) (evEq ?_)
      rw [decide_eq_false c]; simp
  | succ d ih =>
    intro i h0 hd
    refine Ev.step (fun k => by rw [spec_moTask.l0]) ?_
    refine evPos (by omega) (evPos h0 (evPos (by omega) ?_))
    rw [hg, wr (by omega) (by omega), List.drop_eq_getElem_cons (show i.toNat < l.length by omega), List.all_cons]
    have e : rd_T55 l i = l[i.toNat] := by unfold rd_T55; rw [List.getD_eq_getElem?_getD, List.getElem?_eq_getElem (by omega)]; rfl
    rw [e]
    refine evSome ?_
    by_cases c : g l[i.toNat] = true
    · refine evPos c (evTo (ih (i + 1) (by omega) (by omega)) ?_)
      rw [c, show (i + 1).toNat = i.toNat + 1 by omega]; simp
    · refine evNeg c (evEq ?_)
      rw [Bool.eq_false_iff.mpr c]; simp
theorem moTask_ev (n : Int) (l : List S55) (hl : l.length ≤ 1048576) : Ev (fun k => spec_moTask.f k n l) (okTask n l) := by
  unfold spec_moTask.f okTask
  by_cases c : 1 ≤ n ∧ n ≤ 5
  · exact evTo (moTask_l0 n (fun m => isMv n m.f0 m.f1 m.f2) (fun m => moGood_eq n _ _ _ (by omega) (by omega)) l hl l.length 0 (by omega) (by simp)) (by simp)
  · refine evTo (moTask_l0 n _ (fun m => moGood_some n m.f0 m.f1 m.f2) l hl l.length 0 (by omega) (by simp)) ?_
    rw [decide_eq_false c]; simp
/-! spec_raUpTo -/
theorem raUpTo_l0 (n : Nat) (hn : n ≤ 1000000000) : ∀ (d : Nat) (j : Int), 0 ≤ j → j.toNat + d = n → Ev (fun k => spec_raUpTo.l0 k (n : Int) (upTo j.toNat) j) (upTo n) := by
  intro d
  induction d with
  | zero =>
    intro j h0 hd
    refine Ev.step (fun k => by rw [spec_raUpTo.l0]) ?_
    exact evNeg (by omega) (evEq (by rw [show j.toNat = n from by omega]))
  | succ d ih =>
    intro j h0 hd
    refine Ev.step (fun k => by rw [spec_raUpTo.l0]) ?_
    refine evPos (by omega) (evPos (by rw [upTo_length]; omega) ?_)
    have h := ih (j + 1) (by omega) (by omega)
    rw [show (j + 1).toNat = j.toNat + 1 from by omega, upTo_succ, Int.toNat_of_nonneg h0] at h
    rw [wr (by omega) (by omega)]
    exact h
theorem raUpTo_ev (n : Nat) (hn : n ≤ 1000000000) : Ev (fun k => spec_raUpTo.f k (n : Int)) (upTo n) := by
  unfold spec_raUpTo.f
  exact raUpTo_l0 n hn n 0 (by omega) (by simp)
/-! spec_l1Own -/
theorem l1Own_eq (l : List Int) (hn : l.length ≤ 10000000000000) : spec_l1Own.f l = some l := by
  unfold spec_l1Own.f
  simp only [Option.bind_some, List.nil_append, List.length_nil, Nat.zero_add]
  rw [if_pos (by omega)]
/-! spec_moApply -/
theorem moApply_l0 (l : List Int) (hl : l.length ≤ 1000) (b : Int) (hb : b ≤ l.length) (a c : Int) : ∀ (d : Nat) (x5 : List Int) (i : Int), 0 ≤ i → i + d = b → x5.length = l.length → x5.take i.toNat = (l.take b.toNat).reverse.take i.toNat → x5.drop i.toNat = l.drop i.toNat →
    Ev (fun k => spec_moApply.l0 k l x5 i a b c) ((l.take b.toNat).reverse ++ l.drop b.toNat) := by
  intro d
  induction d with
  | zero =>
    intro x5 i h0 hi h5 ht hd
    refine Ev.step (fun k => by rw [spec_moApply.l0]) ?_
    refine evNeg (by omega) (evEq ?_)
    obtain rfl : i = b := by omega
    rw [← List.take_append_drop i.toNat x5, ht, hd, List.take_of_length_le (by rw [List.length_reverse, List.length_take]; omega)]
  | succ d ih =>
    intro x5 i h0 hi h5 ht hd
    refine Ev.step (fun k => by rw [spec_moApply.l0]) ?_
    simp (disch := omega) only [wr]
    refine evPos (by omega) (evPos (by omega) (evPos (by omega) (evPos (by omega) (evPos (by omega) ?_))))
    refine ih _ (i + 1) (by omega) (by omega) (by simpa using h5) ?_ ?_
    · rw [set_takeI _ _ _ h0 (by omega), ht, show (i + 1).toNat = i.toNat + 1 by omega, List.take_add_one, List.getElem?_reverse (by rw [List.length_take]; omega), List.length_take, show min b.toNat l.length - 1 - i.toNat = (b - 1 - i).toNat by omega, List.getElem?_take, if_pos (by omega)]
      unfold rd
      rw [List.getD_eq_getElem?_getD, List.getElem?_eq_getElem (show (b - 1 - i).toNat < l.length by omega)]
      rfl
    · rw [show (i + 1).toNat = i.toNat + 1 by omega, List.drop_set_of_lt (by omega), ← List.drop_drop, ← List.drop_drop, hd]
theorem moApply_l1 (l : List Int) (hl : l.length ≤ 1000) (b : Int) (hb0 : 1 ≤ b) (hb : b ≤ l.length) (a c : Int) : ∀ (d : Nat) (x5 : List Int) (i : Int), 0 ≤ i → i + d = b → x5.length = l.length → x5.take i.toNat = ((l.take b.toNat).drop 1 ++ (l.take b.toNat).take 1).take i.toNat → x5.drop i.toNat = l.drop i.toNat →
    Ev (fun k => spec_moApply.l1 k l x5 i a b c) ((l.take b.toNat).drop 1 ++ (l.take b.toNat).take 1 ++ l.drop b.toNat) := by
  intro d
  have hlen : ((l.take b.toNat).drop 1 ++ (l.take b.toNat).take 1).length = b.toNat := by
    simp; omega
  induction d with
  | zero =>
    intro x5 i h0 hi h5 ht hd
    refine Ev.step (fun k => by rw [spec_moApply.l1]) ?_
    refine evNeg (by omega) (evEq ?_)
    obtain rfl : i = b := by omega
    rw [← List.take_append_drop i.toNat x5, ht, hd, List.take_of_length_le (by omega)]
  | succ d ih =>
    intro x5 i h0 hi h5 ht hd
    refine Ev.step (fun k => by rw [spec_moApply.l1]) ?_
    simp (disch := omega) only [wr]
    rw [Int.tmod_eq_emod_of_nonneg (by omega)]
    have hm : (i + 1) % b = if i + 1 < b then i + 1 else 0 := by
      split
      · exact Int.emod_eq_of_lt (by omega) (by omega)
      · rw [show i + 1 = b by omega, Int.emod_self]
    rw [hm]
    refine evPos (by omega) (evNeg (by omega) (evPos (by split <;> omega) (evPos (by split <;> omega) (evPos (by omega) (evPos (by omega) ?_)))))
    refine ih _ (i + 1) (by omega) (by omega) (by simpa using h5) ?_ ?_
    · rw [set_takeI _ _ _ h0 (by omega), ht, show (i + 1).toNat = i.toNat + 1 by omega, List.take_add_one (l := _ ++ _)]
      congr 1
      unfold rd
      by_cases c : i + 1 < b
      · rw [if_pos c, List.getElem?_append_left (by simp; omega), List.getElem?_drop, List.getElem?_take, if_pos (by omega), show 1 + i.toNat = (i + 1).toNat by omega, List.getD_eq_getElem?_getD, List.getElem?_eq_getElem (by omega)]
        rfl
      · rw [if_neg c, List.getElem?_append_right (by simp; omega)]
        have e : i.toNat - ((l.take b.toNat).drop 1).length = 0 := by simp; omega
        rw [e, List.getElem?_take, if_pos (by omega), List.getElem?_take, if_pos (by omega), List.getD_eq_getElem?_getD, show (0 : Int).toNat = 0 from rfl, List.getElem?_eq_getElem (show 0 < l.length by omega)]
        rfl
    · rw [show (i + 1).toNat = i.toNat + 1 by omega, List.drop_set_of_lt (by omega), ← List.drop_drop, ← List.drop_drop, hd]
theorem moApply_ev (l : List Int) (hl : l.length ≤ 1000) (a b c : Int) (hg : Mgood l.length a b c) : Ev (fun q => spec_moApply.f q l a b c) (mv l a b c) := by
  unfold spec_moApply.f
  rw [l1Own_eq l (by omega)]
  refine evSome ?_
  rcases hg with ⟨rfl, h1, h2, h3⟩ | ⟨rfl, h1, h2, rfl⟩ | ⟨rfl, h1, h2, rfl⟩
  · exact evPos rfl (evPos (by omega) (evPos (by omega) (evPos (by omega) (evPos (by omega) (evPos (by omega) (evPos (by omega) (evEq rfl)))))))
  · refine evNeg (by decide) (evPos rfl ?_)
    refine evTo (moApply_l0 l hl b h2 1 0 b.toNat l 0 (by omega) (by omega) rfl (by simp) (by simp)) (by simp [mv])
  · refine evNeg (by decide) (evNeg (by decide) ?_)
    refine evTo (moApply_l1 l hl b (by omega) h2 2 0 b.toNat l 0 (by omega) (by omega) rfl (by simp) (by simp)) (by simp [mv])
/-! laws_toMoveS -/
def conv (l : List S53) : List S55 := l.map fun m => (⟨m.f0, m.f1, m.f2⟩ : S55)
theorem conv_length (l : List S53) : (conv l).length = l.length := by simp [conv]
theorem toMoveS_l0 (x0 : List S53) (hn : x0.length ≤ 1048576) : ∀ (d : Nat) (x3 : List S55) (j : Int), 0 ≤ j → j.toNat + d = x0.length → x3.length = x0.length → x3.take j.toNat = (conv x0).take j.toNat →
    Ev (fun k => laws_toMoveS.l0 k x0 x3 j) (conv x0) := by
  intro d
  have hc := conv_length x0
  induction d with
  | zero =>
    intro x3 j h0 hd hl ht
    refine Ev.step (fun k => by rw [laws_toMoveS.l0]) ?_
    refine evNeg (by omega) ?_
    rw [List.take_of_length_le (by omega), List.take_of_length_le (by omega)] at ht
    exact evEq ht
  | succ d ih =>
    intro x3 j h0 hd hl ht
    refine Ev.step (fun k => by rw [laws_toMoveS.l0]) ?_
    refine evPos (by omega) (evPos (by omega) (evSome (evPos (by omega) ?_)))
    rw [wr (by omega) (by omega)]
    refine ih _ _ (by omega) (by omega) (by simpa using hl) ?_
    rw [set_takeG x3 j _ h0 (by omega), ht, show (j + 1).toNat = j.toNat + 1 by omega, List.take_add_one]
    congr 1
    simp only [conv, List.getElem?_map, rd_T53, List.getD_eq_getElem?_getD]
    rw [List.getElem?_eq_getElem (show j.toNat < x0.length by omega)]
    rfl
theorem toMoveS_ev (l : List S53) (hn : l.length ≤ 1048576) : Ev (fun k => laws_toMoveS.f k l) (conv l) := by
  unfold laws_toMoveS.f
  refine evPos (by omega) (evPos (by simp; omega) ?_)
  exact toMoveS_l0 l hn l.length _ 0 (by omega) (by simp) (by simp) (by simp)
/-! impl_within -/
theorem within_eq (x a b : Int) : impl_within.f x a b = some (decide (a ≤ x ∧ x ≤ b)) := by
  unfold impl_within.f
  by_cases h : x ≥ a
  · rw [if_pos h]; have h' : a ≤ x := h; simp [h']
  · rw [if_neg h]; have h' : ¬ a ≤ x := h; simp [h']
/-! impl_isMove -/
theorem isMove_eq (n c i j : Int) (h0 : 0 ≤ n) (hn : n ≤ 12) : impl_isMove.f n c i j = some (isMv n c i j) := by
  unfold impl_isMove.f isMv
  simp only [within_eq, Option.bind_some]
  by_cases c0 : c = 0
  · rw [if_pos c0]
    by_cases c1 : 0 ≤ i
    · rw [if_pos c1]
      by_cases c2 : i < j
      · rw [if_pos c2]; congr 1; apply decide_eq_decide.2; omega
      · rw [if_neg c2]; congr 1; exact (decide_eq_false (by omega)).symm
    · rw [if_neg c1]; congr 1; exact (decide_eq_false (by omega)).symm
  · rw [if_neg c0]
    by_cases c1 : c = 1
    · rw [if_pos c1]
      by_cases c3 : 2 ≤ i ∧ i ≤ n
      · rw [if_pos (by simpa using c3)]
        congr 1; rw [Bool.eq_iff_iff]; simp; omega
      · rw [if_neg (by simpa using c3)]
        congr 1; exact (decide_eq_false (by omega)).symm
    · rw [if_neg c1]
      by_cases c2 : c = 2
      · rw [if_pos c2]
        by_cases c3 : 2 ≤ i ∧ i ≤ n
        · rw [if_pos (by simpa using c3)]
          congr 1; rw [Bool.eq_iff_iff]; simp; omega
        · rw [if_neg (by simpa using c3)]
          congr 1; exact (decide_eq_false (by omega)).symm
      · rw [if_neg c2]
        congr 1; exact (decide_eq_false (by omega)).symm
/-! impl_areMoves -/
theorem isMove_some (n a b c : Int) : impl_isMove.f n a b c = some ((impl_isMove.f n a b c).getD false) := by
  unfold impl_isMove.f
  simp only [within_eq, Option.bind_some]
  repeat' split
  all_goals rfl
theorem areMoves_l0 (n : Int) (g : S55 → Bool) (hg : ∀ m : S55, impl_isMove.f n m.f0 m.f1 m.f2 = some (g m)) (l : List S55) (hl : l.length ≤ 1048576) : ∀ (d : Nat) (i : Int), 0 ≤ i → i.toNat + d = l.length →
    Ev (fun k => impl_areMoves.l0 k n l l (l.length : Int) i) (((l.drop i.toNat).all g) && (decide (1 ≤ n ∧ n ≤ 5) && decide ((l.length : Int) ≤ 12))) := by
  intro d
  induction d with
  | zero =>
    intro i h0 hd
    refine Ev.step (fun k => by rw [impl_areMoves.l0]) ?_
    rw [List.drop_of_length_le (by omega)]
    refine evNeg (by omega) ?_
    rw [within_eq]
    refine evSome ?_
    by_cases c : 1 ≤ n ∧ n ≤ 5
    · exact evPos (by simpa using c) (evEq (by simp [c]))
    · refine evNeg (by simpa using c) (evEq ?_)
      rw [decide_eq_false c]; simp
  | succ d ih =>
    intro i h0 hd
    refine Ev.step (fun k => by rw [impl_areMoves.l0]) ?_
    refine evPos (by omega) (evPos h0 (evPos (by omega) ?_))
    rw [hg, wr (by omega) (by omega), List.drop_eq_getElem_cons (show i.toNat < l.length by omega), List.all_cons]
    have e : rd_T55 l i = l[i.toNat] := by unfold rd_T55; rw [List.getD_eq_getElem?_getD, List.getElem?_eq_getElem (by omega)]; rfl
    rw [e]
    refine evSome ?_
    by_cases c : g l[i.toNat] = true
    · refine evPos c (evTo (ih (i + 1) (by omega) (by omega)) ?_)
      rw [c, show (i + 1).toNat = i.toNat + 1 by omega]; simp
    · refine evNeg c (evEq ?_)
      rw [Bool.eq_false_iff.mpr c]; simp
theorem areMoves_ev (n : Int) (l : List S55) (hl : l.length ≤ 1048576) : Ev (fun k => impl_areMoves.f k n l) (okTask n l) := by
  unfold impl_areMoves.f okTask
  by_cases c : 1 ≤ n ∧ n ≤ 5
  · exact evTo (areMoves_l0 n (fun m => isMv n m.f0 m.f1 m.f2) (fun m => isMove_eq n _ _ _ (by omega) (by omega)) l hl l.length 0 (by omega) (by simp)) (by simp)
  · refine evTo (areMoves_l0 n _ (fun m => isMove_some n m.f0 m.f1 m.f2) l hl l.length 0 (by omega) (by simp)) ?_
    rw [decide_eq_false c]; simp
/-! impl_identity -/
theorem identity_l0 (n : Nat) (hn : n ≤ 1000000000) : ∀ (d : Nat) (j : Int), 0 ≤ j → j.toNat + d = n → Ev (fun k => impl_identity.l0 k (upTo j.toNat) (n : Int) j) (upTo n) := by
  intro d
  induction d with
  | zero =>
    intro j h0 hd
    refine Ev.step (fun k => by rw [impl_identity.l0]) ?_
    exact evNeg (by omega) (evEq (by rw [show j.toNat = n from by omega]))
  | succ d ih =>
    intro j h0 hd
    refine Ev.step (fun k => by rw [impl_identity.l0]) ?_
    refine evPos (by omega) (evPos (by rw [upTo_length]; omega) ?_)
    have h := ih (j + 1) (by omega) (by omega)
    rw [show (j + 1).toNat = j.toNat + 1 from by omega, upTo_succ, Int.toNat_of_nonneg h0] at h
    rw [wr (by omega) (by omega)]
    exact h
theorem identity_ev (n : Nat) (hn : n ≤ 1000000000) : Ev (fun k => impl_identity.f k (n : Int)) (upTo n) := by
  unfold impl_identity.f
  exact identity_l0 n hn n 0 (by omega) (by simp)
/-! impl_copied -/
theorem copied_eq (l : List Int) (hn : l.length ≤ 10000000000000) : impl_copied.f l = some l := by
  unfold impl_copied.f
  simp only [Option.bind_some, List.nil_append, List.length_nil, Nat.zero_add]
  rw [if_pos (by omega)]
/-! impl_moved -/
theorem moved_r0 : ∀ (n : Nat) (p m s : List Int), m.length ≤ n → Ev (fun k => impl_moved.r0 k (p ++ m ++ s) (p.length : Int) ((p.length : Int) + m.length - 1)) (p ++ m.reverse ++ s) := by
  intro n
  induction n with
  | zero =>
    intro p m s hm
    obtain rfl : m = [] := List.length_eq_zero_iff.1 (by omega)
    refine Ev.step (fun q => by rw [impl_moved.r0]) ?_
    exact evNeg (by simp; omega) (evEq (by simp))
  | succ n ih =>
    intro p m s hm
    refine Ev.step (fun q => by rw [impl_moved.r0]) ?_
    match m, hm with
    | [], _ => exact evNeg (by simp; omega) (evEq (by simp))
    | [x], _ => exact evNeg (by simp) (evEq (by simp))
    | x :: y :: t, hm =>
      obtain ⟨u, z, hz⟩ : ∃ u z, y :: t = u ++ [z] := ⟨(y :: t).dropLast, (y :: t).getLast (by simp), (List.dropLast_concat_getLast (by simp)).symm⟩
      rw [hz]
      have hl : u.length + 1 = t.length + 1 := by have := congrArg List.length hz; simp at this; omega
      simp only [List.length_cons] at hm
      refine evPos (by simp; omega) ?_
      have e1 : (p.length : Int).toNat = p.length := Int.toNat_natCast _
      have e2 : ((p.length : Int) + ((x :: (u ++ [z])).length : Nat) - 1).toNat = p.length + u.length + 1 := by simp; omega
      have r1 : rd (p ++ x :: (u ++ [z]) ++ s) (p.length : Int) = x := by
        unfold rd; rw [e1]; simp
      have r2 : rd (p ++ x :: (u ++ [z]) ++ s) ((p.length : Int) + ((x :: (u ++ [z])).length : Nat) - 1) = z := by
        unfold rd; rw [e2]
        rw [List.getD_eq_getElem?_getD, List.append_assoc, List.getElem?_append_right (by omega), show p.length + u.length + 1 - p.length = u.length + 1 by omega]
        simp
      rw [r1, r2, e1, e2]
      have hset : ((p ++ x :: (u ++ [z]) ++ s).set p.length z).set (p.length + u.length + 1) x = (p ++ [z]) ++ u ++ ([x] ++ s) := by
        rw [List.append_assoc p, List.set_append_right _ _ (by omega), Nat.sub_self, List.cons_append, List.set_cons_zero, List.set_append_right _ _ (by omega), show p.length + u.length + 1 - p.length = u.length + 1 by omega, List.set_cons_succ]
        rw [List.append_assoc u, List.set_append_right _ _ (by omega), Nat.sub_self]
        simp
      rw [hset]
      refine evTo (Ev.congr (fun k => ?_) (ih (p ++ [z]) u ([x] ++ s) (by omega))) ?_
      · congr 1
        · simp
        · simp; omega
      · simp
theorem moved_ev (l : List Int) (hl : l.length ≤ 1000) (a b c : Int) (hg : Mgood l.length a b c) : Ev (fun q => impl_moved.f q l a b c) (mv l a b c) := by
  unfold impl_moved.f
  rw [copied_eq l (by omega)]
  refine evSome (evPos (by omega) ?_)
  rcases hg with ⟨rfl, h1, h2, h3⟩ | ⟨rfl, h1, h2, rfl⟩ | ⟨rfl, h1, h2, rfl⟩
  · exact evPos rfl (evPos (by omega) (evPos (by omega) (evPos (by omega) (evPos (by omega) (evEq rfl)))))
  · refine evNeg (by decide) (evPos rfl (evPos (by omega) (evPos (by omega) ?_)))
    have h := moved_r0 b.toNat [] (l.take b.toNat) (l.drop b.toNat) (by rw [List.length_take]; omega)
    rw [List.length_take, show min b.toNat l.length = b.toNat by omega] at h
    refine evTo (Ev.congr (fun k => ?_) h) (by simp [mv])
    rw [List.nil_append, List.take_append_drop]
    congr 1
    simp; omega
  · refine evNeg (by decide) (evNeg (by decide) (evPos rfl (evPos (by omega) (evPos (by omega) (evEq ?_)))))
    obtain ⟨n, hn⟩ : ∃ n : Nat, b = (n : Int) + 1 := ⟨b.toNat - 1, by omega⟩
    subst hn
    rw [show ((n : Int) + 1).toNat = n + 1 by omega, show ((n : Int) + 1 - 1).toNat = n by omega]
    match l, h2 with
    | x :: t, h2 =>
      simp at h2
      have e : rd (x :: t) 0 = x := rfl
      rw [e]
      simp only [mv, List.take_succ_cons, List.drop_succ_cons, List.drop_zero]
      rw [show ((n : Int) + 1).toNat = n + 1 by omega]
      simp only [List.take_succ_cons, List.drop_succ_cons, List.drop_zero, List.take_zero]
      rw [if_neg (by decide), if_neg (by decide)]
      have hd : (x :: t).drop n = (x :: t)[n]'(by simp; omega) :: t.drop n := by
        rw [List.drop_eq_getElem_cons (by simp; omega)]; simp
      rw [hd, List.set_append_right _ _ (by rw [List.length_take]; omega), List.length_take, show n - min n t.length = 0 by omega]
      simp
/-! impl_AreEven -/
theorem AreEven_idx_ev (g : Nat → S55 → Option Bool) (p : S55 → Bool) (L : List S55) (hn : L.length ≤ 1048576) (hg : ∀ x ∈ L, Ev (fun k => g k x) (p x)) : ∀ (d : Nat) (i : Int), 0 ≤ i → i.toNat + d = L.length →
    Ev (fun k => impl_AreEven.idx g k L i) (pIdx p i (L.drop i.toNat)) := by
  intro d
  induction d with
  | zero =>
    intro i h0 hd
    refine Ev.step (fun k => by rw [impl_AreEven.idx]) ?_
    refine evNeg (by omega) (evEq ?_)
    rw [List.drop_of_length_le (by omega)]; rfl
  | succ d ih =>
    intro i h0 hd
    refine Ev.step (fun k => by rw [impl_AreEven.idx]) ?_
    have hil : i.toNat < L.length := by omega
    have e : rd_T55 L i = L[i.toNat] := by unfold rd_T55; rw [List.getD_eq_getElem?_getD, List.getElem?_eq_getElem hil]; rfl
    refine evPos (by omega) (evPos h0 ?_)
    rw [wr (by omega) (by omega), List.drop_eq_getElem_cons hil, pIdx, e]
    refine Ev.bind (hg _ (List.getElem_mem hil)) ?_
    by_cases c : p L[i.toNat] = true
    · rw [if_pos c]; exact evPos c (Ev.now _)
    · rw [if_neg c]
      refine evNeg c (evTo (ih (i + 1) (by omega) (by omega)) ?_)
      rw [show (i + 1).toNat = i.toNat + 1 from by omega]
/-- Both sides' signs agree within so many rounds. -/
def evenOk (n : Int) (a b c : Int) : Bool := match spec_moSign.f 100 a b c with | some s => impl_AreEven.g n 100 ⟨a, b, c⟩ == some (decide (s < 0)) | none => false
set_option maxRecDepth 100000 in
theorem even_tab : ((List.range 6).all fun n => (goods n).all fun m => evenOk (n : Int) m.1 m.2.1 m.2.2) = true := by decide +kernel
theorem even_use (n : Nat) (hn : n ≤ 5) (a b c : Int) (hg : Mgood n a b c) : ∃ s, Ev (fun q => spec_moSign.f q a b c) s ∧ Ev (fun q => impl_AreEven.g n q ⟨a, b, c⟩) (decide (s < 0)) := by
  have h := List.all_eq_true.1 (List.all_eq_true.1 even_tab n (List.mem_range.2 (by omega))) _ (good_mem n a b c hg)
  unfold evenOk at h
  cases hs : spec_moSign.f 100 a b c with
  | none => simp [hs] at h
  | some s =>
    simp only [hs, beq_iff_eq] at h
    exact ⟨s, evTab (g := fun q => spec_moSign.f q a b c) (spec_moSign.mono _ _ _) 100 hs, evTab (g := fun q => impl_AreEven.g n q ⟨a, b, c⟩) (fun k => impl_AreEven.g_mono n k _) 100 h⟩
/-- Is the sign of a move -1? -/
def negS (m : S55) : Bool := decide ((spec_moSign.f 100 m.f0 m.f1 m.f2).getD 0 < 0)
theorem neg_use (n : Nat) (hn : n ≤ 5) (m : S55) (hg : Mgood n m.f0 m.f1 m.f2) : (∃ s, Ev (fun q => spec_moSign.f q m.f0 m.f1 m.f2) s ∧ decide (s < 0) = negS m) ∧ Ev (fun q => impl_AreEven.g n q m) (negS m) := by
  have h := List.all_eq_true.1 (List.all_eq_true.1 even_tab n (List.mem_range.2 (by omega))) _ (good_mem n m.f0 m.f1 m.f2 hg)
  unfold evenOk at h
  cases hs : spec_moSign.f 100 m.f0 m.f1 m.f2 with
  | none => simp [hs] at h
  | some s =>
    simp only [hs, beq_iff_eq] at h
    have e : negS m = decide (s < 0) := by unfold negS; rw [hs]; rfl
    refine ⟨⟨s, evTab (g := fun q => spec_moSign.f q m.f0 m.f1 m.f2) (spec_moSign.mono _ _ _) 100 hs, e.symm⟩, ?_⟩
    rw [e]
    exact evTab (g := fun q => impl_AreEven.g n q m) (fun k => impl_AreEven.g_mono n k m) 100 h
/-! laws_eqMoveS -/
theorem eqMoveS_l0 (a : List S55) (hn : a.length ≤ 1048576) : ∀ (d : Nat) (j : Int), 0 ≤ j → j.toNat + d = a.length → Ev (fun k => laws_eqMoveS.l0 k a a j) true := by
  intro d
  induction d with
  | zero =>
    intro j h0 hd
    refine Ev.step (fun k => by rw [laws_eqMoveS.l0]) ?_
    exact evNeg (by omega) (Ev.now _)
  | succ d ih =>
    intro j h0 hd
    refine Ev.step (fun k => by rw [laws_eqMoveS.l0]) ?_
    refine evPos (by omega) (evPos (by omega) (evPos (by omega) ?_))
    rw [wr (by omega) (by omega)]
    have e : ∀ x y z : Int, laws_eqMove.f x y z x y z = some true := by intro x y z; unfold laws_eqMove.f; rw [if_pos rfl, if_pos rfl, if_pos rfl]
    rw [e]
    exact evSome (evPos rfl (ih _ (by omega) (by omega)))
theorem eqMoveS_self (a : List S55) (hn : a.length ≤ 1048576) : Ev (fun k => laws_eqMoveS.f k a a) true := by
  unfold laws_eqMoveS.f
  exact evPos rfl (eqMoveS_l0 a hn a.length 0 (by omega) (by simp))
theorem spec_AreEven_l0 (n : Nat) (hn : n ≤ 5) (L : List S55) (hl : L.length ≤ 1048576) (hg : ∀ m ∈ L, Mgood n m.f0 m.f1 m.f2) : ∀ (d : Nat) (i : Int), 0 ≤ i → i.toNat + d = L.length →
    Ev (fun k => spec_AreEven.l0 k L (L.length : Int) i) (!(L.drop i.toNat).any negS, true) := by
  intro d
  induction d with
  | zero =>
    intro i h0 hd
    refine Ev.step (fun k => by rw [spec_AreEven.l0]) ?_
    refine evNeg (by omega) (evEq ?_)
    rw [List.drop_of_length_le (by omega)]; rfl
  | succ d ih =>
    intro i h0 hd
    refine Ev.step (fun k => by rw [spec_AreEven.l0]) ?_
    have hil : i.toNat < L.length := by omega
    have e : rd_T55 L i = L[i.toNat] := by unfold rd_T55; rw [List.getD_eq_getElem?_getD, List.getElem?_eq_getElem hil]; rfl
    obtain ⟨⟨s, h1, h2⟩, _⟩ := neg_use n hn L[i.toNat] (hg _ (List.getElem_mem hil))
    refine evPos (by omega) (evPos h0 (evPos (by omega) ?_))
    rw [wr (by omega) (by omega), List.drop_eq_getElem_cons hil, List.any_cons, e, ← h2]
    refine Ev.bind h1 ?_
    by_cases c : s < 0
    · refine evPos c (evEq ?_); simp [c]
    · refine evNeg c (evTo (ih (i + 1) (by omega) (by omega)) ?_)
      rw [show (i + 1).toNat = i.toNat + 1 from by omega]
      simp [c]
theorem FnExactAreEven (n : Int) (l : List S53) (wn : (Lit.int .i64 n).wf = true) (hm : l.length ≤ maxLen) (hg : ∀ x ∈ l, (fun x : S53 => (Lit.int .i64 x.f0).wf = true ∧ (Lit.int .i64 x.f1).wf = true ∧ (Lit.int .i64 x.f2).wf = true) x) :
    ∃ k, laws_FnExactAreEven.f k n l = some true := by
  refine Ev.rounds (g := fun q => laws_FnExactAreEven.f q n l) ?_
  unfold laws_FnExactAreEven.f
  rw [szMoveS_eq l hm]
  refine evSome ?_
  by_cases c : l.length ≤ 1048576
  · rw [if_pos c]
    have ec := conv_length l
    refine evNeg (by omega) (Ev.bind (toMoveS_ev l c) ?_)
    have key : ∃ g b, Ev (fun q => spec_AreEven.f q n (conv l)) (g, b) ∧ Ev (fun q => impl_AreEven.f q n (conv l)) (g, b) := by
      unfold spec_AreEven.f impl_AreEven.f
      by_cases hok : okTask n (conv l) = true
      · have h := hok
        simp only [okTask, Bool.and_eq_true, decide_eq_true_eq, List.all_eq_true] at h
        obtain ⟨N, rfl⟩ := Int.eq_ofNat_of_zero_le (show 0 ≤ n by omega)
        have hgd : ∀ m ∈ conv l, Mgood N m.f0 m.f1 m.f2 := fun m hm => by have := h.1 m hm; simp only [isMv, decide_eq_true_eq] at this; unfold Mgood; omega
        have h1 := spec_AreEven_l0 N (by omega) (conv l) (by omega) hgd (conv l).length 0 (by omega) (by simp)
        have h2 := AreEven_idx_ev (impl_AreEven.g N) negS (conv l) (by omega) (fun m hm => (neg_use N (by omega) m (hgd m hm)).2) (conv l).length 0 (by omega) (by simp)
        refine ⟨_, _, Ev.bind (moTask_ev _ _ (by omega)) (evPos hok h1), Ev.bind (areMoves_ev _ _ (by omega)) (evPos hok (Ev.bind h2 (evEq ?_)))⟩
        have hp := pIdx_any negS (conv l) 0 (by omega)
        simp only [Int.toNat_zero, List.drop_zero]
        congr 1
        cases ha : (conv l).any negS
        · have : ¬ 0 ≤ pIdx negS 0 (conv l) := fun h0 => by rw [hp, ha] at h0; cases h0
          simp [this]
        · have : 0 ≤ pIdx negS 0 (conv l) := hp.2 ha
          simp [this]
      · exact ⟨_, _, Ev.bind (moTask_ev _ _ (by omega)) (evNeg hok (Ev.now _)), Ev.bind (areMoves_ev _ _ (by omega)) (evNeg hok (Ev.now _))⟩
    obtain ⟨g, b, hs, hi⟩ := key
    repeat (first
      | (with_reducible exact Ev.now _)
      | (with_reducible refine Ev.bind hs ?_)
      | (with_reducible refine Ev.bind hi ?_)
      | (with_reducible refine Ev.bind (toMoveS_ev l c) ?_)
      | (with_reducible refine Ev.bind (eqMoveS_self _ (by omega)) ?_)
      | (with_reducible refine Ev.bind hmk ?_)
      | (with_reducible refine Ev.bind (toIntS_ev _ (by omega)) ?_)
      | (with_reducible refine Ev.bind (eqIntS_self _ (by omega)) ?_)
      | (with_reducible refine Ev.bind (markIntS_ev _ 1 (by omega) (by omega) (by omega)) ?_)
      | (with_reducible refine Ev.bind (heldIntS_ev _ 1 (by omega) (by omega) (by omega)) ?_)
      | (with_reducible refine evPos rfl ?_)
      | (with_reducible refine evPos trivial ?_)
      | (with_reducible refine evNeg (by omega) ?_)
      | (rw [bne_self_eq_false])
      | (simp only [bne_self_eq_false])
      | (refine evNeg (by decide) ?_)
      | (refine Ev.step (fun k => by rw [laws_FnExactAreEven.j0]) ?_)
      | (refine Ev.step (fun k => by rw [laws_FnExactAreEven.j1]) ?_)
      | (refine Ev.step (fun k => by rw [laws_FnExactAreEven.j2]) ?_))
  · rw [if_neg c]
    exact evPos (by decide) (Ev.now _)

end Go.Proofs.Ytcplfdfmebibpaa.Pure
