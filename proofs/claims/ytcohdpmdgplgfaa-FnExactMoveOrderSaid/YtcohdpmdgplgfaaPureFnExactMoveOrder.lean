/- - What is to be shown of the printed law. -/
import Derived.Test.YtcohdpmdgplgfaaPFnExactMoveOrderx3
import Derived.Test.YtcohdpmdgplgfaaBase
import Derived.Test.YtcohdpmdgplgfaaComb
namespace Go.Proofs.Ytcohdpmdgplgfaa.Pure
open Go.RowKit Go.Proofs.Ytcohdpmdgplgfaa.PFnExactMoveOrder Go.Proofs.YtcohdpmdgplgfaaW.PrintWords Go.Proofs.YtcohdpmdgplgfaaW.PrintLast Go.Proofs.Ytcohdpmdgplgfaa.Base Go.Proofs.Ytcohdpmdgplgfaa.Comb
set_option linter.unusedVariables false
set_option linter.unusedSimpArgs false

/-! spec_l1In -/
theorem l1In_eq (x a b : Int) : spec_l1In.f x a b = some (decide (a ≤ x ∧ x ≤ b)) := by
  unfold spec_l1In.f
  by_cases h : x ≥ a
  · rw [if_pos h]; have h' : a ≤ x := h; simp [h']
  · rw [if_neg h]; have h' : ¬ a ≤ x := h; simp [h']
/-! spec_moGood -/
/-- A move of permutations of n. -/
def isMv (n c i j : Int) : Bool := decide ((c = 0 ∧ 0 ≤ i ∧ i < j ∧ j < n) ∨ ((c = 1 ∨ c = 2) ∧ 2 ≤ i ∧ i ≤ n ∧ j = 0))
theorem moGood_eq (n c i j : Int) (h0 : 0 ≤ n) (hn : n ≤ 12) : spec_moGood.f n c i j = some (isMv n c i j) := by
  unfold spec_moGood.f isMv
  rw [wr (x := n - 1) (by omega) (by omega)]
  simp only [l1In_eq, Option.bind_some]
  by_cases c0 : c = 0
  · rw [if_pos c0]
    by_cases c1 : 1 ≤ j ∧ j ≤ n - 1
    · rw [if_pos (by simpa using c1), wr (by omega) (by omega)]
      congr 1; apply decide_eq_decide.2; omega
    · rw [if_neg (by simpa using c1)]
      congr 1; exact (decide_eq_false (by omega)).symm
  · rw [if_neg c0]
    by_cases c1 : c = 1
    · rw [if_pos c1]
      by_cases c3 : 2 ≤ i ∧ i ≤ n
      · rw [if_pos (by simpa using c3)]
        congr 1; rw [Bool.eq_iff_iff]; simp; omega
      · rw [if_neg (by simpa using c3)]
        congr 1; exact (decide_eq_false (by omega)).symm
    · rw [if_neg c1]
      by_cases c2 : c = 2
      · rw [if_pos c2]
        by_cases c3 : 2 ≤ i ∧ i ≤ n
        · rw [if_pos (by simpa using c3)]
          congr 1; rw [Bool.eq_iff_iff]; simp; omega
        · rw [if_neg (by simpa using c3)]
          congr 1; exact (decide_eq_false (by omega)).symm
      · rw [if_neg c2]
        congr 1; exact (decide_eq_false (by omega)).symm
/-! spec_raUpTo -/
theorem raUpTo_l0 (n : Nat) (hn : n ≤ 1000000000) : ∀ (d : Nat) (j : Int), 0 ≤ j → j.toNat + d = n → Ev (fun k => spec_raUpTo.l0 k (n : Int) (upTo j.toNat) j) (upTo n) := by
  intro d
  induction d with
  | zero =>
    intro j h0 hd
    refine Ev.step (fun k => by rw [spec_raUpTo.l0]) ?_
    exact evNeg (by omega) (evEq (by rw [show j.toNat = n from by omega]))
  | succ d ih =>
    intro j h0 hd
    refine Ev.step (fun k => by rw [spec_raUpTo.l0]) ?_
    refine evPos (by omega) (evPos (by rw [upTo_length]; omega) ?_)
    have h := ih (j + 1) (by omega) (by omega)
    rw [show (j + 1).toNat = j.toNat + 1 from by omega, upTo_succ, Int.toNat_of_nonneg h0] at h
    rw [wr (by omega) (by omega)]
    exact h
theorem raUpTo_ev (n : Nat) (hn : n ≤ 1000000000) : Ev (fun k => spec_raUpTo.f k (n : Int)) (upTo n) := by
  unfold spec_raUpTo.f
  exact raUpTo_l0 n hn n 0 (by omega) (by simp)
/-! spec_l1Own -/
theorem l1Own_eq (l : List Int) (hn : l.length ≤ 10000000000000) : spec_l1Own.f l = some l := by
  unfold spec_l1Own.f
  simp only [Option.bind_some, List.nil_append, List.length_nil, Nat.zero_add]
  rw [if_pos (by omega)]
/-! spec_l1Same -/
theorem l1Same_l0 (a b : List Int) (hn : a.length ≤ 35184372088832) (hb : a.length = b.length) : ∀ (d : Nat) (j : Int), 0 ≤ j → j.toNat + d = a.length →
    Ev (fun k => spec_l1Same.l0 k a b (a.length : Int) j) (decide (a.drop j.toNat = b.drop j.toNat)) := by
  intro d
  induction d with
  | zero =>
    intro j h0 hd
    refine Ev.step (fun k => by rw [spec_l1Same.l0]) ?_
    refine evNeg (by omega) ?_
    rw [drop_end a j (by omega), drop_end b j (by omega)]
    exact evEq rfl
  | succ d ih =>
    intro j h0 hd
    refine Ev.step (fun k => by rw [spec_l1Same.l0]) ?_
    refine evPos (by omega) (evPos (by omega) (evPos (by omega) (evPos (by omega) ?_)))
    rw [wr (by omega) (by omega), drop_rd a j h0 (by omega), drop_rd b j h0 (by omega)]
    by_cases c : rd a j = rd b j
    · refine evPos c (evTo (ih _ (by omega) (by omega)) ?_)
      simp [c]
    · refine evNeg c (evEq ?_)
      simp [c]
theorem l1Same_ev (a b : List Int) (hn : a.length ≤ 35184372088832) : Ev (fun k => spec_l1Same.f k a b) (decide (a = b)) := by
  unfold spec_l1Same.f
  by_cases hb : a.length = b.length
  · exact evPos (by omega) (l1Same_l0 a b hn hb a.length 0 (by omega) (by simp))
  · refine evNeg (by omega) (evEq ?_)
    exact (decide_eq_false (fun e => hb (by rw [e]))).symm
/-! impl_within -/
theorem within_eq (x a b : Int) : impl_within.f x a b = some (decide (a ≤ x ∧ x ≤ b)) := by
  unfold impl_within.f
  by_cases h : x ≥ a
  · rw [if_pos h]; have h' : a ≤ x := h; simp [h']
  · rw [if_neg h]; have h' : ¬ a ≤ x := h; simp [h']
/-! impl_isMove -/
theorem isMove_eq (n c i j : Int) (h0 : 0 ≤ n) (hn : n ≤ 12) : impl_isMove.f n c i j = some (isMv n c i j) := by
  unfold impl_isMove.f isMv
  simp only [within_eq, Option.bind_some]
  by_cases c0 : c = 0
  · rw [if_pos c0]
    by_cases c1 : 0 ≤ i
    · rw [if_pos c1]
      by_cases c2 : i < j
      · rw [if_pos c2]; congr 1; apply decide_eq_decide.2; omega
      · rw [if_neg c2]; congr 1; exact (decide_eq_false (by omega)).symm
    · rw [if_neg c1]; congr 1; exact (decide_eq_false (by omega)).symm
  · rw [if_neg c0]
    by_cases c1 : c = 1
    · rw [if_pos c1]
      by_cases c3 : 2 ≤ i ∧ i ≤ n
      · rw [if_pos (by simpa using c3)]
        congr 1; rw [Bool.eq_iff_iff]; simp; omega
      · rw [if_neg (by simpa using c3)]
        congr 1; exact (decide_eq_false (by omega)).symm
    · rw [if_neg c1]
      by_cases c2 : c = 2
      · rw [if_pos c2]
        by_cases c3 : 2 ≤ i ∧ i ≤ n
        · rw [if_pos (by simpa using c3)]
          congr 1; rw [Bool.eq_iff_iff]; simp; omega
        · rw [if_neg (by simpa using c3)]
          congr 1; exact (decide_eq_false (by omega)).symm
      · rw [if_neg c2]
        congr 1; exact (decide_eq_false (by omega)).symm
def FnExactMoveOrder_Pure : Prop := ∀ (b0 b1 b2 : Int), (Lit.int .i64 b0).wf = true → (Lit.int .i64 b1).wf = true → (Lit.int .i64 b2).wf = true → ∃ k, laws_FnExactMoveOrder.f k b0 b1 b2 = some true
theorem order_swap : ((List.range 12).all fun i => (List.range 12).all fun j => if i < j then spec_MoveOrder.f 70 0 (i : Int) (j : Int) == some (2, true) else true) = true := by decide +kernel
theorem order_turn : ((List.range 13).all fun i => if 2 ≤ i then spec_MoveOrder.f 70 1 (i : Int) 0 == some (2, true) else true) = true := by decide +kernel
theorem order_rot : ((List.range 13).all fun i => if 2 ≤ i then spec_MoveOrder.f 70 2 (i : Int) 0 == some ((i : Int), true) else true) = true := by decide +kernel
theorem FnExactMoveOrder : FnExactMoveOrder_Pure := by
  intro c i j wc wi wj
  refine Ev.rounds (g := fun q => laws_FnExactMoveOrder.f q c i j) ?_
  unfold laws_FnExactMoveOrder.f laws_toMove.f
  refine evSome ?_
  have key : ∃ r : Int × Bool, Ev (fun q => spec_MoveOrder.f q c i j) r ∧ impl_MoveOrder.f c i j = some r := by
    unfold impl_MoveOrder.f
    rw [isMove_eq 12 c i j (by omega) (by omega)]
    by_cases h : isMv 12 c i j = true
    · simp only [Option.bind_some]
      rw [if_pos h]
      have h' := of_decide_eq_true h
      rcases h' with ⟨rfl, h0, h1, h2⟩ | ⟨h0, h1, h2, rfl⟩
      · refine ⟨(2, true), ?_, by rw [if_neg (by omega)]⟩
        obtain ⟨I, rfl⟩ := Int.eq_ofNat_of_zero_le h0
        obtain ⟨J, rfl⟩ := Int.eq_ofNat_of_zero_le (show 0 ≤ j by omega)
        have t := List.all_eq_true.1 (List.all_eq_true.1 order_swap I (List.mem_range.2 (by omega))) J (List.mem_range.2 (by omega))
        rw [if_pos (by omega)] at t
        exact evTab (g := fun q => spec_MoveOrder.f q 0 (I : Int) (J : Int)) (spec_MoveOrder.mono _ _ _) 70 (beq_iff_eq.1 t)
      · obtain ⟨I, rfl⟩ := Int.eq_ofNat_of_zero_le (show 0 ≤ i by omega)
        rcases h0 with rfl | rfl
        · refine ⟨(2, true), ?_, by rw [if_neg (by omega)]⟩
          have t := List.all_eq_true.1 order_turn I (List.mem_range.2 (by omega))
          rw [if_pos (by omega)] at t
          exact evTab (g := fun q => spec_MoveOrder.f q 1 (I : Int) 0) (spec_MoveOrder.mono _ _ _) 70 (beq_iff_eq.1 t)
        · refine ⟨((I : Int), true), ?_, by rw [if_pos rfl]⟩
          have t := List.all_eq_true.1 order_rot I (List.mem_range.2 (by omega))
          rw [if_pos (by omega)] at t
          exact evTab (g := fun q => spec_MoveOrder.f q 2 (I : Int) 0) (spec_MoveOrder.mono _ _ _) 70 (beq_iff_eq.1 t)
    · simp only [Option.bind_some]
      rw [if_neg h]
      refine ⟨_, ?_, rfl⟩
      unfold spec_MoveOrder.f
      rw [moGood_eq 12 c i j (by omega) (by omega)]
      exact evSome (evNeg h (Ev.now _))
  obtain ⟨⟨r1, r2⟩, hs, hi⟩ := key
  refine Ev.bind hs (evSome ?_)
  rw [hi]
  refine evSome (evPos rfl (evNeg (by simp) (Ev.now _)))

end Go.Proofs.Ytcohdpmdgplgfaa.Pure
