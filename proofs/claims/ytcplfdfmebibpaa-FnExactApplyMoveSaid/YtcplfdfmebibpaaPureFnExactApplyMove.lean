/- The pure statement of FnExactApplyMove: for all arguments that fit, the law as a Lean function answers true after enough rounds. -/
import Derived.Test.YtcplfdfmebibpaaMFnExactApplyMovex1
import Derived.Test.YtcplfdfmebibpaaMFnExactApplyMovex2
import Derived.Test.YtcplfdfmebibpaaMFnExactApplyMovex3
import Derived.Test.YtcplfdfmebibpaaMFnExactApplyMovex4
import Derived.Test.YtcplfdfmebibpaaMFnExactApplyMovex5
import Derived.Test.YtcplfdfmebibpaaMFnExactApplyMovex6
import Derived.Test.YtcplfdfmebibpaaBase
import Derived.Test.YtcplfdfmebibpaaComb
import Derived.Test.YtcplfdfmebibpaaMoves
import Derived.Test.YtcplfdfmebibpaaPerms
namespace Go.Proofs.Ytcplfdfmebibpaa.Pure
open Go.RowKit Go.Proofs.Ytcplfdfmebibpaa.MFnExactApplyMove Go.Proofs.YtcplfdfmebibpaaW.PrintWords Go.Proofs.YtcplfdfmebibpaaW.PrintLast Go.Proofs.Ytcplfdfmebibpaa.Base Go.Proofs.Ytcplfdfmebibpaa.Comb Go.Proofs.Ytcplfdfmebibpaa.Moves Go.Proofs.Ytcplfdfmebibpaa.Perms
set_option linter.unusedVariables false
set_option linter.unusedSimpArgs false

/-! laws_eqIntS -/
theorem eqIntS_l0 (a b : List Int) (hn : a.length ≤ 35184372088832) (hb : a.length = b.length) : ∀ (d : Nat) (j : Int), 0 ≤ j → j.toNat + d = a.length →
    Ev (fun k => laws_eqIntS.l0 k a b j) (decide (a.drop j.toNat = b.drop j.toNat)) := by
  intro d
  induction d with
  | zero =>
    intro j h0 hd
    refine Ev.step (fun k => by rw [laws_eqIntS.l0]) ?_
    refine evNeg (by omega) ?_
    rw [drop_end a j (by omega), drop_end b j (by omega)]
    exact evEq rfl
  | succ d ih =>
    intro j h0 hd
    refine Ev.step (fun k => by rw [laws_eqIntS.l0]) ?_
    refine evPos (by omega) (evPos (by omega) (evPos (by omega) ?_))
    rw [wr (by omega) (by omega), drop_rd a j h0 (by omega), drop_rd b j h0 (by omega)]
    by_cases c : rd a j = rd b j
    · refine evPos c (evTo (ih _ (by omega) (by omega)) ?_)
      simp [c]
    · refine evNeg c (evEq ?_)
      simp [c]
theorem eqIntS_ev (a b : List Int) (hn : a.length ≤ 35184372088832) : Ev (fun k => laws_eqIntS.f k a b) (decide (a = b)) := by
  unfold laws_eqIntS.f
  by_cases hb : a.length = b.length
  · exact evPos (by omega) (eqIntS_l0 a b hn hb a.length 0 (by omega) (by simp))
  · refine evNeg (by omega) (evEq ?_)
    exact (decide_eq_false (fun e => hb (by rw [e]))).symm
theorem eqIntS_self (a : List Int) (hn : a.length ≤ 35184372088832) : Ev (fun k => laws_eqIntS.f k a a) true := evTo (eqIntS_ev a a hn) (by simp)
/-! laws_markIntS -/
theorem markIntS_l0 : ∀ (d : Nat) (xs : List Int) (m j : Int), 0 ≤ j → j.toNat + d = xs.length → xs.length ≤ 35184372088832 → 0 ≤ m → m + d ≤ 70368744177664 →
    Ev (fun k => laws_markIntS.l0 k xs m j) (m + d, xs.take j.toNat ++ iotaI m d) := by
  intro d
  induction d with
  | zero =>
    intro xs m j h0 hd hn hm hk
    refine Ev.step (fun k => by rw [laws_markIntS.l0]) ?_
    refine evNeg (by omega) (evEq ?_)
    rw [take_end xs j (by omega)]
    simp [iotaI]
  | succ d ih =>
    intro xs m j h0 hd hn hm hk
    refine Ev.step (fun k => by rw [laws_markIntS.l0]) ?_
    refine evPos (by omega) (evPos (by omega) ?_)
    rw [wr (by omega) (by omega), wr (by omega) (by omega)]
    refine evTo (ih (xs.set j.toNat m) (m + 1) (j + 1) (by omega) (by simp; omega) (by simpa using hn) (by omega) (by omega)) ?_
    rw [set_takeI xs j m h0 (by omega)]
    simp [iotaI]
    omega
theorem markIntS_ev (xs : List Int) (m : Int) (hn : xs.length ≤ 35184372088832) (hm : 0 ≤ m) (hk : m + xs.length ≤ 70368744177664) :
    Ev (fun k => laws_markIntS.f k xs m) (m + xs.length, iotaI m xs.length) := by
  unfold laws_markIntS.f
  refine evTo (markIntS_l0 xs.length xs m 0 (by omega) (by simp) hn hm hk) (by simp)
/-! laws_heldIntS -/
theorem heldIntS_l0 (xs : List Int) (hn : xs.length ≤ 35184372088832) : ∀ (d : Nat) (m j : Int), 0 ≤ j → j.toNat + d = xs.length → 0 ≤ m → m + d ≤ 70368744177664 → (∀ i : Int, j ≤ i → i < xs.length → rd xs i = m + (i - j)) →
    Ev (fun k => laws_heldIntS.l0 k xs m j) (m + d) := by
  intro d
  induction d with
  | zero =>
    intro m j h0 hd hm hk h
    refine Ev.step (fun k => by rw [laws_heldIntS.l0]) ?_
    exact evNeg (by omega) (evEq (by simp))
  | succ d ih =>
    intro m j h0 hd hm hk h
    refine Ev.step (fun k => by rw [laws_heldIntS.l0]) ?_
    have hr := h j (by omega) (by omega)
    refine evPos (by omega) (evPos (by omega) (evPos (by omega) ?_))
    rw [wr (by omega) (by omega), wr (by omega) (by omega)]
    refine evTo (ih (m + 1) (j + 1) (by omega) (by omega) (by omega) (by omega) (fun i h1 h2 => ?_)) (by omega)
    rw [h i (by omega) h2]; omega
theorem heldIntS_ev (n : Nat) (m : Int) (hn : n ≤ 35184372088832) (hm : 0 ≤ m) (hk : m + n ≤ 70368744177664) :
    Ev (fun k => laws_heldIntS.f k (iotaI m n) m) (m + n) := by
  unfold laws_heldIntS.f
  have hl := iotaI_length m n
  refine heldIntS_l0 (iotaI m n) (by omega) n m 0 (by omega) (by omega) hm hk (fun i h1 h2 => ?_)
  rw [iotaI_rd n m i h1 (by omega)]; omega
/-! laws_toIntS -/
theorem toIntS_l0 (x0 : List Int) (hn : x0.length ≤ 35184372088832) : ∀ (d : Nat) (x3 : List Int) (j : Int), 0 ≤ j → j.toNat + d = x0.length → x3.length = x0.length → x3.take j.toNat = x0.take j.toNat →
    Ev (fun k => laws_toIntS.l0 k x0 x3 j) x0 := by
  intro d
  induction d with
  | zero =>
    intro x3 j h0 hd hl ht
    refine Ev.step (fun k => by rw [laws_toIntS.l0]) ?_
    refine evNeg (by omega) ?_
    rw [take_end x0 j (by omega), take_end x3 j (by omega)] at ht
    exact evEq ht
  | succ d ih =>
    intro x3 j h0 hd hl ht
    refine Ev.step (fun k => by rw [laws_toIntS.l0]) ?_
    refine evPos (by omega) (evPos (by omega) (evPos (by omega) ?_))
    rw [wr (by omega) (by omega)]
    refine ih _ _ (by omega) (by omega) (by simpa using hl) ?_
    rw [set_takeI x3 j _ h0 (by omega), take_rd x0 j h0 (by omega), ht]
theorem toIntS_ev (l : List Int) (hn : l.length ≤ 35184372088832) : Ev (fun k => laws_toIntS.f k l) l := by
  unfold laws_toIntS.f
  refine evPos (by omega) (evPos (by simpa using hn) ?_)
  exact toIntS_l0 l hn l.length _ 0 (by omega) (by simp) (by simp) (by simp)
/-! spec_l1Own -/
theorem l1Own_eq (l : List Int) (hn : l.length ≤ 10000000000000) : spec_l1Own.f l = some l := by
  unfold spec_l1Own.f
  simp only [Option.bind_some, List.nil_append, List.length_nil, Nat.zero_add]
  rw [if_pos (by omega)]
/-! spec_moApply -/
theorem moApply_l0 (l : List Int) (hl : l.length ≤ 1000) (b : Int) (hb : b ≤ l.length) (a c : Int) : ∀ (d : Nat) (x5 : List Int) (i : Int), 0 ≤ i → i + d = b → x5.length = l.length → x5.take i.toNat = (l.take b.toNat).reverse.take i.toNat → x5.drop i.toNat = l.drop i.toNat →
    Ev (fun k => spec_moApply.l0 k l x5 i a b c) ((l.take b.toNat).reverse ++ l.drop b.toNat) := by
  intro d
  induction d with
  | zero =>
    intro x5 i h0 hi h5 ht hd
    refine Ev.step (fun k => by rw [spec_moApply.l0]) ?_
    refine evNeg (by omega) (evEq ?_)
    obtain rfl : i = b := by omega
    rw [← List.take_append_drop i.toNat x5, ht, hd, List.take_of_length_le (by rw [List.length_reverse, List.length_take]; omega)]
  | succ d ih =>
    intro x5 i h0 hi h5 ht hd
    refine Ev.step (fun k => by rw [spec_moApply.l0]) ?_
    simp (disch := omega) only [wr]
    refine evPos (by omega) (evPos (by omega) (evPos (by omega) (evPos (by omega) (evPos (by omega) ?_))))
    refine ih _ (i + 1) (by omega) (by omega) (by simpa using h5) ?_ ?_
    · rw [set_takeI _ _ _ h0 (by omega), ht, show (i + 1).toNat = i.toNat + 1 by omega, List.take_add_one, List.getElem?_reverse (by rw [List.length_take]; omega), List.length_take, show min b.toNat l.length - 1 - i.toNat = (b - 1 - i).toNat by omega, List.getElem?_take, if_pos (by omega)]
      unfold rd
      rw [List.getD_eq_getElem?_getD, List.getElem?_eq_getElem (show (b - 1 - i).toNat < l.length by omega)]
      rfl
    · rw [show (i + 1).toNat = i.toNat + 1 by omega, List.drop_set_of_lt (by omega), ← List.drop_drop, ← List.drop_drop, hd]
theorem moApply_l1 (l : List Int) (hl : l.length ≤ 1000) (b : Int) (hb0 : 1 ≤ b) (hb : b ≤ l.length) (a c : Int) : ∀ (d : Nat) (x5 : List Int) (i : Int), 0 ≤ i → i + d = b → x5.length = l.length → x5.take i.toNat = ((l.take b.toNat).drop 1 ++ (l.take b.toNat).take 1).take i.toNat → x5.drop i.toNat = l.drop i.toNat →
    Ev (fun k => spec_moApply.l1 k l x5 i a b c) ((l.take b.toNat).drop 1 ++ (l.take b.toNat).take 1 ++ l.drop b.toNat) := by
  intro d
  have hlen : ((l.take b.toNat).drop 1 ++ (l.take b.toNat).take 1).length = b.toNat := by
    simp; omega
  induction d with
  | zero =>
    intro x5 i h0 hi h5 ht hd
    refine Ev.step (fun k => by rw [spec_moApply.l1]) ?_
    refine evNeg (by omega) (evEq ?_)
    obtain rfl : i = b := by omega
    rw [← List.take_append_drop i.toNat x5, ht, hd, List.take_of_length_le (by omega)]
  | succ d ih =>
    intro x5 i h0 hi h5 ht hd
    refine Ev.step (fun k => by rw [spec_moApply.l1]) ?_
    simp (disch := omega) only [wr]
    rw [Int.tmod_eq_emod_of_nonneg (by omega)]
    have hm : (i + 1) % b = if i + 1 < b then i + 1 else 0 := by
      split
      · exact Int.emod_eq_of_lt (by omega) (by omega)
      · rw [show i + 1 = b by omega, Int.emod_self]
    rw [hm]
    refine evPos (by omega) (evNeg (by omega) (evPos (by split <;> omega) (evPos (by split <;> omega) (evPos (by omega) (evPos (by omega) ?_)))))
    refine ih _ (i + 1) (by omega) (by omega) (by simpa using h5) ?_ ?_
    · rw [set_takeI _ _ _ h0 (by omega), ht, show (i + 1).toNat = i.toNat + 1 by omega, List.take_add_one (l := _ ++ _)]
      congr 1
      unfold rd
      by_cases c : i + 1 < b
      · rw [if_pos c, List.getElem?_append_left (by simp; omega), List.getElem?_drop, List.getElem?_take, if_pos (by omega), show 1 + i.toNat = (i + 1).toNat by omega, List.getD_eq_getElem?_getD, List.getElem?_eq_getElem (by omega)]
        rfl
      · rw [if_neg c, List.getElem?_append_right (by simp; omega)]
        have e : i.toNat - ((l.take b.toNat).drop 1).length = 0 := by simp; omega
        rw [e, List.getElem?_take, if_pos (by omega), List.getElem?_take, if_pos (by omega), List.getD_eq_getElem?_getD, show (0 : Int).toNat = 0 from rfl, List.getElem?_eq_getElem (show 0 < l.length by omega)]
        rfl
    · rw [show (i + 1).toNat = i.toNat + 1 by omega, List.drop_set_of_lt (by omega), ← List.drop_drop, ← List.drop_drop, hd]
theorem moApply_ev (l : List Int) (hl : l.length ≤ 1000) (a b c : Int) (hg : Mgood l.length a b c) : Ev (fun q => spec_moApply.f q l a b c) (mv l a b c) := by
  unfold spec_moApply.f
  rw [l1Own_eq l (by omega)]
  refine evSome ?_
  rcases hg with ⟨rfl, h1, h2, h3⟩ | ⟨rfl, h1, h2, rfl⟩ | ⟨rfl, h1, h2, rfl⟩
  · exact evPos rfl (evPos (by omega) (evPos (by omega) (evPos (by omega) (evPos (by omega) (evPos (by omega) (evPos (by omega) (evEq rfl)))))))
  · refine evNeg (by decide) (evPos rfl ?_)
    refine evTo (moApply_l0 l hl b h2 1 0 b.toNat l 0 (by omega) (by omega) rfl (by simp) (by simp)) (by simp [mv])
  · refine evNeg (by decide) (evNeg (by decide) ?_)
    refine evTo (moApply_l1 l hl b (by omega) h2 2 0 b.toNat l 0 (by omega) (by omega) rfl (by simp) (by simp)) (by simp [mv])
/-! spec_l1In -/
theorem l1In_eq (x a b : Int) : spec_l1In.f x a b = some (decide (a ≤ x ∧ x ≤ b)) := by
  unfold spec_l1In.f
  by_cases h : x ≥ a
  · rw [if_pos h]; have h' : a ≤ x := h; simp [h']
  · rw [if_neg h]; have h' : ¬ a ≤ x := h; simp [h']
/-! spec_l1Has -/
theorem l1Has_l0 (x : Int) (xs : List Int) (hn : xs.length ≤ 35184372088832) : ∀ (d : Nat) (j : Int), 0 ≤ j → j.toNat + d = xs.length →
    Ev (fun k => spec_l1Has.l0 k x xs (xs.length : Int) j) (decide (x ∈ xs.drop j.toNat)) := by
  intro d
  induction d with
  | zero =>
    intro j h0 hd
    refine Ev.step (fun k => by rw [spec_l1Has.l0]) ?_
    refine evNeg (by omega) (evEq ?_)
    rw [drop_end _ _ (by omega)]; simp
  | succ d ih =>
    intro j h0 hd
    refine Ev.step (fun k => by rw [spec_l1Has.l0]) ?_
    refine evPos (by omega) (evPos (by omega) (evPos (by omega) ?_))
    rw [wr (by omega) (by omega), drop_rd xs j h0 (by omega)]
    by_cases c : rd xs j = x
    · exact evPos c (evEq (by simp [c]))
    · exact evNeg c (evTo (ih _ (by omega) (by omega)) (by simp [List.mem_cons, Ne.symm c]))
theorem l1Has_ev (xs : List Int) (x : Int) (hn : xs.length ≤ 35184372088832) : Ev (fun k => spec_l1Has.f k xs x) (decide (x ∈ xs)) := by
  unfold spec_l1Has.f
  exact evTo (l1Has_l0 x xs hn xs.length 0 (by omega) (by simp)) (by simp)
/-! spec_raPermutation -/
theorem raPermutation_l0 (l : List Int) (hl : l.length ≤ 1048576) : ∀ (d : Nat) (i : Int), 0 ≤ i → i.toNat + d = l.length →
    Ev (fun q => spec_raPermutation.l0 q l l (l.length : Int) i) (decide (∀ j (h : j < l.length), i.toNat ≤ j → j < 12 ∧ (0 ≤ l[j] ∧ l[j] ≤ (l.length : Int) - 1) ∧ l[j] ∉ l.take j)) := by
  intro d
  induction d with
  | zero =>
    intro i h0 hd
    refine Ev.step (fun k => by rw [spec_raPermutation.l0]) ?_
    refine evNeg (by omega) (evEq (decide_eq_true ?_).symm)
    intro j h hj; omega
  | succ d ih =>
    intro i h0 hd
    refine Ev.step (fun k => by rw [spec_raPermutation.l0]) ?_
    have hil : i.toNat < l.length := by omega
    have e : rd l i = l[i.toNat] := by unfold rd; rw [List.getD_eq_getElem?_getD, List.getElem?_eq_getElem hil]; rfl
    refine evPos (by omega) (evPos h0 (evPos (by omega) ?_))
    by_cases c1 : i ≥ 12
    · refine evPos c1 (evEq (decide_eq_false ?_).symm)
      intro h
      have := (h i.toNat hil (Nat.le_refl _)).1
      omega
    · refine evNeg c1 ?_
      rw [l1In_eq, wr (by omega) (by omega), wr (by omega) (by omega)]
      refine evSome ?_
      by_cases c2 : 0 ≤ rd l i ∧ rd l i ≤ (l.length : Int) - 1
      · refine evPos (by simpa using c2) (evPos (by omega) (Ev.bind (l1Has_ev _ _ (by rw [List.length_take]; omega)) ?_))
        by_cases c3 : rd l i ∈ l.take i.toNat
        · refine evPos (decide_eq_true c3) (evEq (decide_eq_false ?_).symm)
          intro h
          rw [e] at c3
          exact (h i.toNat hil (Nat.le_refl _)).2.2 c3
        · refine evNeg (by simpa using c3) (evTo (ih (i + 1) (by omega) (by omega)) ?_)
          apply decide_eq_decide.2
          constructor
          · intro h j hj hij
            by_cases ej : j = i.toNat
            · subst ej
              rw [e] at c2 c3
              exact ⟨by omega, c2, c3⟩
            · exact h j hj (by omega)
          · intro h j hj hij
            exact h j hj (by omega)
      · refine evNeg (by simpa using c2) (evEq (decide_eq_false ?_).symm)
        intro h
        rw [e] at c2
        exact c2 (h i.toNat hil (Nat.le_refl _)).2.1
theorem raPermutation_ev (l : List Int) (hl : l.length ≤ 1048576) : Ev (fun q => spec_raPermutation.f q l) (isPm l) := by
  unfold spec_raPermutation.f
  refine evTo (raPermutation_l0 l hl l.length 0 (by omega) (by simp)) ?_
  rw [Bool.eq_iff_iff, isPm_iff, decide_eq_true_eq]
  constructor
  · intro h j hj; exact h j hj (by simp)
  · intro h j hj _; exact h j hj
/-! spec_moGood -/
/-- A move of permutations of n. -/
def isMv (n c i j : Int) : Bool := decide ((c = 0 ∧ 0 ≤ i ∧ i < j ∧ j < n) ∨ ((c = 1 ∨ c = 2) ∧ 2 ≤ i ∧ i ≤ n ∧ j = 0))
theorem moGood_eq (n c i j : Int) (h0 : 0 ≤ n) (hn : n ≤ 12) : spec_moGood.f n c i j = some (isMv n c i j) := by
  unfold spec_moGood.f isMv
  rw [wr (x := n - 1) (by omega) (by omega)]
  simp only [l1In_eq, Option.bind_some]
  by_cases c0 : c = 0
  · rw [if_pos c0]
    by_cases c1 : 1 ≤ j ∧ j ≤ n - 1
    · rw [if_pos (by simpa using c1), wr (by omega) (by omega)]
      congr 1; apply decide_eq_decide.2; omega
    · rw [if_neg (by simpa using c1)]
      congr 1; exact (decide_eq_false (by omega)).symm
  · rw [if_neg c0]
    by_cases c1 : c = 1
    · rw [if_pos c1]
      by_cases c3 : 2 ≤ i ∧ i ≤ n
      · rw [if_pos (by simpa using c3)]
        congr 1; rw [Bool.eq_iff_iff]; simp; omega
      · rw [if_neg (by simpa using c3)]
        congr 1; exact (decide_eq_false (by omega)).symm
    · rw [if_neg c1]
      by_cases c2 : c = 2
      · rw [if_pos c2]
        by_cases c3 : 2 ≤ i ∧ i ≤ n
        · rw [if_pos (by simpa using c3)]
          congr 1; rw [Bool.eq_iff_iff]; simp; omega
        · rw [if_neg (by simpa using c3)]
          congr 1; exact (decide_eq_false (by omega)).symm
      · rw [if_neg c2]
        congr 1; exact (decide_eq_false (by omega)).symm
/-! impl_copied -/
theorem copied_eq (l : List Int) (hn : l.length ≤ 10000000000000) : impl_copied.f l = some l := by
  unfold impl_copied.f
  simp only [Option.bind_some, List.nil_append, List.length_nil, Nat.zero_add]
  rw [if_pos (by omega)]
/-! impl_moved -/
theorem moved_r0 : ∀ (n : Nat) (p m s : List Int), m.length ≤ n → Ev (fun k => impl_moved.r0 k (p ++ m ++ s) (p.length : Int) ((p.length : Int) + m.length - 1)) (p ++ m.reverse ++ s) := by
  intro n
  induction n with
  | zero =>
    intro p m s hm
    obtain rfl : m = [] := List.length_eq_zero_iff.1 (by omega)
    refine Ev.step (fun q => by rw [impl_moved.r0]) ?_
    exact evNeg (by simp; omega) (evEq (by simp))
  | succ n ih =>
    intro p m s hm
    refine Ev.step (fun q => by rw [impl_moved.r0]) ?_
    match m, hm with
    | [], _ => exact evNeg (by simp; omega) (evEq (by simp))
    | [x], _ => exact evNeg (by simp) (evEq (by simp))
    | x :: y :: t, hm =>
      obtain ⟨u, z, hz⟩ : ∃ u z, y :: t = u ++ [z] := ⟨(y :: t).dropLast, (y :: t).getLast (by simp), (List.dropLast_concat_getLast (by simp)).symm⟩
      rw [hz]
      have hl : u.length + 1 = t.length + 1 := by have := congrArg List.length hz; simp at this; omega
      simp only [List.length_cons] at hm
      refine evPos (by simp; omega) ?_
      have e1 : (p.length : Int).toNat = p.length := Int.toNat_natCast _
      have e2 : ((p.length : Int) + ((x :: (u ++ [z])).length : Nat) - 1).toNat = p.length + u.length + 1 := by simp; omega
      have r1 : rd (p ++ x :: (u ++ [z]) ++ s) (p.length : Int) = x := by
        unfold rd; rw [e1]; simp
      have r2 : rd (p ++ x :: (u ++ [z]) ++ s) ((p.length : Int) + ((x :: (u ++ [z])).length : Nat) - 1) = z := by
        unfold rd; rw [e2]
        rw [List.getD_eq_getElem?_getD, List.append_assoc, List.getElem?_append_right (by omega), show p.length + u.length + 1 - p.length = u.length + 1 by omega]
        simp
      rw [r1, r2, e1, e2]
      have hset : ((p ++ x :: (u ++ [z]) ++ s).set p.length z).set (p.length + u.length + 1) x = (p ++ [z]) ++ u ++ ([x] ++ s) := by
        rw [List.append_assoc p, List.set_append_right _ _ (by omega), Nat.sub_self, List.cons_append, List.set_cons_zero, List.set_append_right _ _ (by omega), show p.length + u.length + 1 - p.length = u.length + 1 by omega, List.set_cons_succ]
        rw [List.append_assoc u, List.set_append_right _ _ (by omega), Nat.sub_self]
        simp
      rw [hset]
      refine evTo (Ev.congr (fun k => ?_) (ih (p ++ [z]) u ([x] ++ s) (by omega))) ?_
      · congr 1
        · simp
        · simp; omega
      · simp
theorem moved_ev (l : List Int) (hl : l.length ≤ 1000) (a b c : Int) (hg : Mgood l.length a b c) : Ev (fun q => impl_moved.f q l a b c) (mv l a b c) := by
  unfold impl_moved.f
  rw [copied_eq l (by omega)]
  refine evSome (evPos (by omega) ?_)
  rcases hg with ⟨rfl, h1, h2, h3⟩ | ⟨rfl, h1, h2, rfl⟩ | ⟨rfl, h1, h2, rfl⟩
  · exact evPos rfl (evPos (by omega) (evPos (by omega) (evPos (by omega) (evPos (by omega) (evEq rfl)))))
  · refine evNeg (by decide) (evPos rfl (evPos (by omega) (evPos (by omega) ?_)))
    have h := moved_r0 b.toNat [] (l.take b.toNat) (l.drop b.toNat) (by rw [List.length_take]; omega)
    rw [List.length_take, show min b.toNat l.length = b.toNat by omega] at h
    refine evTo (Ev.congr (fun k => ?_) h) (by simp [mv])
    rw [List.nil_append, List.take_append_drop]
    congr 1
    simp; omega
  · refine evNeg (by decide) (evNeg (by decide) (evPos rfl (evPos (by omega) (evPos (by omega) (evEq ?_)))))
    obtain ⟨n, hn⟩ : ∃ n : Nat, b = (n : Int) + 1 := ⟨b.toNat - 1, by omega⟩
    subst hn
    rw [show ((n : Int) + 1).toNat = n + 1 by omega, show ((n : Int) + 1 - 1).toNat = n by omega]
    match l, h2 with
    | x :: t, h2 =>
      simp at h2
      have e : rd (x :: t) 0 = x := rfl
      rw [e]
      simp only [mv, List.take_succ_cons, List.drop_succ_cons, List.drop_zero]
      rw [show ((n : Int) + 1).toNat = n + 1 by omega]
      simp only [List.take_succ_cons, List.drop_succ_cons, List.drop_zero, List.take_zero]
      rw [if_neg (by decide), if_neg (by decide)]
      have hd : (x :: t).drop n = (x :: t)[n]'(by simp; omega) :: t.drop n := by
        rw [List.drop_eq_getElem_cons (by simp; omega)]; simp
      rw [hd, List.set_append_right _ _ (by rw [List.length_take]; omega), List.length_take, show n - min n t.length = 0 by omega]
      simp
/-! impl_identity -/
theorem identity_l0 (n : Nat) (hn : n ≤ 1000000000) : ∀ (d : Nat) (j : Int), 0 ≤ j → j.toNat + d = n → Ev (fun k => impl_identity.l0 k (upTo j.toNat) (n : Int) j) (upTo n) := by
  intro d
  induction d with
  | zero =>
    intro j h0 hd
    refine Ev.step (fun k => by rw [impl_identity.l0]) ?_
    exact evNeg (by omega) (evEq (by rw [show j.toNat = n from by omega]))
  | succ d ih =>
    intro j h0 hd
    refine Ev.step (fun k => by rw [impl_identity.l0]) ?_
    refine evPos (by omega) (evPos (by rw [upTo_length]; omega) ?_)
    have h := ih (j + 1) (by omega) (by omega)
    rw [show (j + 1).toNat = j.toNat + 1 from by omega, upTo_succ, Int.toNat_of_nonneg h0] at h
    rw [wr (by omega) (by omega)]
    exact h
theorem identity_ev (n : Nat) (hn : n ≤ 1000000000) : Ev (fun k => impl_identity.f k (n : Int)) (upTo n) := by
  unfold impl_identity.f
  exact identity_l0 n hn n 0 (by omega) (by simp)
/-! slices_Equal_int_int -/
theorem slicesEqual_l0 (a b : List Int) (hn : a.length ≤ 35184372088832) (hb : a.length = b.length) : ∀ (d : Nat) (j : Int), 0 ≤ j → j.toNat + d = a.length →
    Ev (fun k => slices_Equal_int_int.l0 k a b (a.length : Int) j) (decide (a.drop j.toNat = b.drop j.toNat)) := by
  intro d
  induction d with
  | zero =>
    intro j h0 hd
    refine Ev.step (fun k => by rw [slices_Equal_int_int.l0]) ?_
    refine evNeg (by omega) ?_
    rw [drop_end a j (by omega), drop_end b j (by omega)]
    exact evEq rfl
  | succ d ih =>
    intro j h0 hd
    refine Ev.step (fun k => by rw [slices_Equal_int_int.l0]) ?_
    refine evPos (by omega) (evPos (by omega) (evPos (by omega) (evPos (by omega) ?_)))
    rw [wr (by omega) (by omega), drop_rd a j h0 (by omega), drop_rd b j h0 (by omega)]
    by_cases c : rd a j = rd b j
    · refine evPos c (evTo (ih _ (by omega) (by omega)) ?_)
      simp [c]
    · refine evNeg c (evEq ?_)
      simp [c]
theorem slicesEqual_ev (a b : List Int) (hn : a.length ≤ 35184372088832) : Ev (fun k => slices_Equal_int_int.f k a b) (decide (a = b)) := by
  unfold slices_Equal_int_int.f
  by_cases hb : a.length = b.length
  · exact evPos (by omega) (slicesEqual_l0 a b hn hb a.length 0 (by omega) (by simp))
  · refine evNeg (by omega) (evEq ?_)
    exact (decide_eq_false (fun e => hb (by rw [e]))).symm
/-! impl_IsPermutation -/
theorem IsPermutation_ev (l : List Int) (hl : l.length ≤ 35184372088832) : Ev (fun q => impl_IsPermutation.f q l) (isPm l) := by
  unfold impl_IsPermutation.f isPm
  by_cases c : l.length ≤ 12
  · refine evPos c (Ev.bind (identity_ev l.length (by omega)) ?_)
    have hs : (srt l).length = l.length := (srt_perm l).length_eq
    refine evTo (slicesEqual_ev (srt l) (upTo l.length) (by omega)) ?_
    rw [decide_eq_true c, Bool.true_and]
  · refine evNeg c (evEq ?_)
    rw [decide_eq_false c, Bool.false_and]
/-! impl_within -/
theorem within_eq (x a b : Int) : impl_within.f x a b = some (decide (a ≤ x ∧ x ≤ b)) := by
  unfold impl_within.f
  by_cases h : x ≥ a
  · rw [if_pos h]; have h' : a ≤ x := h; simp [h']
  · rw [if_neg h]; have h' : ¬ a ≤ x := h; simp [h']
/-! impl_isMove -/
theorem isMove_eq (n c i j : Int) (h0 : 0 ≤ n) (hn : n ≤ 12) : impl_isMove.f n c i j = some (isMv n c i j) := by
  unfold impl_isMove.f isMv
  simp only [within_eq, Option.bind_some]
  by_cases c0 : c = 0
  · rw [if_pos c0]
    by_cases c1 : 0 ≤ i
    · rw [if_pos c1]
      by_cases c2 : i < j
      · rw [if_pos c2]; congr 1; apply decide_eq_decide.2; omega
      · rw [if_neg c2]; congr 1; exact (decide_eq_false (by omega)).symm
    · rw [if_neg c1]; congr 1; exact (decide_eq_false (by omega)).symm
  · rw [if_neg c0]
    by_cases c1 : c = 1
    · rw [if_pos c1]
      by_cases c3 : 2 ≤ i ∧ i ≤ n
      · rw [if_pos (by simpa using c3)]
        congr 1; rw [Bool.eq_iff_iff]; simp; omega
      · rw [if_neg (by simpa using c3)]
        congr 1; exact (decide_eq_false (by omega)).symm
    · rw [if_neg c1]
      by_cases c2 : c = 2
      · rw [if_pos c2]
        by_cases c3 : 2 ≤ i ∧ i ≤ n
        · rw [if_pos (by simpa using c3)]
          congr 1; rw [Bool.eq_iff_iff]; simp; omega
        · rw [if_neg (by simpa using c3)]
          congr 1; exact (decide_eq_false (by omega)).symm
      · rw [if_neg c2]
        congr 1; exact (decide_eq_false (by omega)).symm
theorem FnExactApplyMove (l : List Int) (a b c : Int) (hm : l.length ≤ maxLen) (hg : ∀ x ∈ l, (fun x : Int => (Lit.int .i64 x).wf = true) x) (wa : (Lit.int .i64 a).wf = true) (wb : (Lit.int .i64 b).wf = true) (wc : (Lit.int .i64 c).wf = true) :
    ∃ k, laws_FnExactApplyMove.f k l a b c = some true := by
  refine Ev.rounds (g := fun q => laws_FnExactApplyMove.f q l a b c) ?_
  unfold laws_FnExactApplyMove.f laws_toMove.f
  by_cases hl : (l.length : Int) > 1048576
  · exact evPos hl (Ev.now _)
  · refine evNeg hl ?_
    have key : ∃ g e, Ev (fun q => spec_ApplyMove.f q l a b c) (g, e) ∧ Ev (fun q => impl_ApplyMove.f q l a b c) (g, e) ∧ g.length ≤ 1000 := by
      unfold spec_ApplyMove.f impl_ApplyMove.f
      have h1 := raPermutation_ev l (by omega)
      have h2 := IsPermutation_ev l (by omega)
      by_cases hp : isPm l = true
      · have hlen : l.length ≤ 12 := by
          unfold isPm at hp
          rw [Bool.and_eq_true, decide_eq_true_eq] at hp
          exact hp.1
        by_cases hv : isMv (l.length : Int) a b c = true
        · have hgd : Mgood l.length a b c := by
            simp only [isMv, decide_eq_true_eq] at hv; unfold Mgood; omega
          refine ⟨mv l a b c, true, Ev.bind h1 (evPos hp ?_), Ev.bind h2 (evPos hp ?_), ?_⟩
          · rw [moGood_eq _ _ _ _ (by omega) (by omega)]
            exact evSome (evPos hv (Ev.bind (moApply_ev l (by omega) a b c hgd) (Ev.now _)))
          · rw [isMove_eq _ _ _ _ (by omega) (by omega)]
            exact evSome (evPos hv (Ev.bind (moved_ev l (by omega) a b c hgd) (Ev.now _)))
          · rw [mv_length]; omega
        · refine ⟨[], false, Ev.bind h1 (evPos hp ?_), Ev.bind h2 (evPos hp ?_), ?_⟩
          · rw [moGood_eq _ _ _ _ (by omega) (by omega)]
            exact evSome (evNeg hv (Ev.now _))
          · rw [isMove_eq _ _ _ _ (by omega) (by omega)]
            exact evSome (evNeg hv (Ev.now _))
          · simp
      · exact ⟨_, _, Ev.bind h1 (evNeg hp (Ev.now _)), Ev.bind h2 (evNeg hp (Ev.now _)), by simp⟩
    obtain ⟨g, b', hs, hi, hgl⟩ := key
    have ht := toIntS_ev l (by omega)
    refine Ev.bind ht (evSome (Ev.bind hs (Ev.bind ht (evSome (Ev.bind hi ?_)))))
    repeat (first
      | (with_reducible exact Ev.now _)
      | (with_reducible refine Ev.bind hs ?_)
      | (with_reducible refine Ev.bind hi ?_)
      | (unfold laws_toMove.f; refine evSome (Ev.bind hi ?_))
      | (with_reducible refine Ev.bind (toIntS_ev _ (by omega)) ?_)
      | (with_reducible refine Ev.bind (eqIntS_self _ (by omega)) ?_)
      | (with_reducible refine Ev.bind (markIntS_ev _ 1 (by omega) (by omega) (by omega)) ?_)
      | (with_reducible refine Ev.bind (heldIntS_ev _ 1 (by omega) (by omega) (by omega)) ?_)
      | (with_reducible refine evPos rfl ?_)
      | (with_reducible refine evNeg (by omega) ?_)
      | (rw [bne_self_eq_false])
      | (simp only [bne_self_eq_false])
      | (refine evNeg (by decide) ?_)
      | (refine Ev.step (fun k => by rw [laws_FnExactApplyMove.j0]) ?_)
      | (refine Ev.step (fun k => by rw [laws_FnExactApplyMove.j1]) ?_)
      | (refine Ev.step (fun k => by rw [laws_FnExactApplyMove.j2]) ?_))

end Go.Proofs.Ytcplfdfmebibpaa.Pure
