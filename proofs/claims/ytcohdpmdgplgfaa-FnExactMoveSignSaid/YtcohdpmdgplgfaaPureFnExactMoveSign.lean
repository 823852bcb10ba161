/- The pure statement of FnExactMoveSign: for all arguments that fit, the law as a Lean function answers true after enough rounds. -/
import Derived.Test.YtcohdpmdgplgfaaMFnExactMoveSignx1
import Derived.Test.YtcohdpmdgplgfaaMFnExactMoveSignx2
import Derived.Test.YtcohdpmdgplgfaaMFnExactMoveSignx3
import Derived.Test.YtcohdpmdgplgfaaMFnExactMoveSignx4
import Derived.Test.YtcohdpmdgplgfaaMFnExactMoveSignx5
import Derived.Test.YtcohdpmdgplgfaaBase
import Derived.Test.YtcohdpmdgplgfaaComb
namespace Go.Proofs.Ytcohdpmdgplgfaa.Pure
open Go.RowKit Go.Proofs.Ytcohdpmdgplgfaa.MFnExactMoveSign Go.Proofs.YtcohdpmdgplgfaaW.PrintWords Go.Proofs.YtcohdpmdgplgfaaW.PrintLast Go.Proofs.Ytcohdpmdgplgfaa.Base Go.Proofs.Ytcohdpmdgplgfaa.Comb
set_option linter.unusedVariables false
set_option linter.unusedSimpArgs false

/-! spec_l1In -/
theorem l1In_eq (x a b : Int) : spec_l1In.f x a b = some (decide (a ≤ x ∧ x ≤ b)) := by
  unfold spec_l1In.f
  by_cases h : x ≥ a
  · rw [if_pos h]; have h' : a ≤ x := h; simp [h']
  · rw [if_neg h]; have h' : ¬ a ≤ x := h; simp [h']
/-! spec_moGood -/
/-- A move of permutations of n. -/
def isMv (n c i j : Int) : Bool := decide ((c = 0 ∧ 0 ≤ i ∧ i < j ∧ j < n) ∨ ((c = 1 ∨ c = 2) ∧ 2 ≤ i ∧ i ≤ n ∧ j = 0))
theorem moGood_eq (n c i j : Int) (h0 : 0 ≤ n) (hn : n ≤ 12) : spec_moGood.f n c i j = some (isMv n c i j) := by
  unfold spec_moGood.f isMv
  rw [wr (x := n - 1) (by omega) (by omega)]
  simp only [l1In_eq, Option.bind_some]
  by_cases c0 : c = 0
  · rw [if_pos c0]
    by_cases c1 : 1 ≤ j ∧ j ≤ n - 1
    · rw [if_pos (by simpa using c1), wr (by omega) (by omega)]
      congr 1; apply decide_eq_decide.2; omega
    · rw [if_neg (by simpa using c1)]
      congr 1; exact (decide_eq_false (by omega)).symm
  · rw [if_neg c0]
    by_cases c1 : c = 1
    · rw [if_pos c1]
      by_cases c3 : 2 ≤ i ∧ i ≤ n
      · rw [if_pos (by simpa using c3)]
        congr 1; rw [Bool.eq_iff_iff]; simp; omega
      · rw [if_neg (by simpa using c3)]
        congr 1; exact (decide_eq_false (by omega)).symm
    · rw [if_neg c1]
      by_cases c2 : c = 2
      · rw [if_pos c2]
        by_cases c3 : 2 ≤ i ∧ i ≤ n
        · rw [if_pos (by simpa using c3)]
          congr 1; rw [Bool.eq_iff_iff]; simp; omega
        · rw [if_neg (by simpa using c3)]
          congr 1; exact (decide_eq_false (by omega)).symm
      · rw [if_neg c2]
        congr 1; exact (decide_eq_false (by omega)).symm
/-! spec_raUpTo -/
theorem raUpTo_l0 (n : Nat) (hn : n ≤ 1000000000) : ∀ (d : Nat) (j : Int), 0 ≤ j → j.toNat + d = n → Ev (fun k => spec_raUpTo.l0 k (n : Int) (upTo j.toNat) j) (upTo n) := by
  intro d
  induction d with
  | zero =>
    intro j h0 hd
    refine Ev.step (fun k => by rw [spec_raUpTo.l0]) ?_
    exact evNeg (by omega) (evEq (by rw [show j.toNat = n from by omega]))
  | succ d ih =>
    intro j h0 hd
    refine Ev.step (fun k => by rw [spec_raUpTo.l0]) ?_
    refine evPos (by omega) (evPos (by rw [upTo_length]; omega) ?_)
    have h := ih (j + 1) (by omega) (by omega)
    rw [show (j + 1).toNat = j.toNat + 1 from by omega, upTo_succ, Int.toNat_of_nonneg h0] at h
    rw [wr (by omega) (by omega)]
    exact h
theorem raUpTo_ev (n : Nat) (hn : n ≤ 1000000000) : Ev (fun k => spec_raUpTo.f k (n : Int)) (upTo n) := by
  unfold spec_raUpTo.f
  exact raUpTo_l0 n hn n 0 (by omega) (by simp)
/-! spec_l1Own -/
theorem l1Own_eq (l : List Int) (hn : l.length ≤ 10000000000000) : spec_l1Own.f l = some l := by
  unfold spec_l1Own.f
  simp only [Option.bind_some, List.nil_append, List.length_nil, Nat.zero_add]
  rw [if_pos (by omega)]
/-! impl_within -/
theorem within_eq (x a b : Int) : impl_within.f x a b = some (decide (a ≤ x ∧ x ≤ b)) := by
  unfold impl_within.f
  by_cases h : x ≥ a
  · rw [if_pos h]; have h' : a ≤ x := h; simp [h']
  · rw [if_neg h]; have h' : ¬ a ≤ x := h; simp [h']
/-! impl_isMove -/
theorem isMove_eq (n c i j : Int) (h0 : 0 ≤ n) (hn : n ≤ 12) : impl_isMove.f n c i j = some (isMv n c i j) := by
  unfold impl_isMove.f isMv
  simp only [within_eq, Option.bind_some]
  by_cases c0 : c = 0
  · rw [if_pos c0]
    by_cases c1 : 0 ≤ i
    · rw [if_pos c1]
      by_cases c2 : i < j
      · rw [if_pos c2]; congr 1; apply decide_eq_decide.2; omega
      · rw [if_neg c2]; congr 1; exact (decide_eq_false (by omega)).symm
    · rw [if_neg c1]; congr 1; exact (decide_eq_false (by omega)).symm
  · rw [if_neg c0]
    by_cases c1 : c = 1
    · rw [if_pos c1]
      by_cases c3 : 2 ≤ i ∧ i ≤ n
      · rw [if_pos (by simpa using c3)]
        congr 1; rw [Bool.eq_iff_iff]; simp; omega
      · rw [if_neg (by simpa using c3)]
        congr 1; exact (decide_eq_false (by omega)).symm
    · rw [if_neg c1]
      by_cases c2 : c = 2
      · rw [if_pos c2]
        by_cases c3 : 2 ≤ i ∧ i ≤ n
        · rw [if_pos (by simpa using c3)]
          congr 1; rw [Bool.eq_iff_iff]; simp; omega
        · rw [if_neg (by simpa using c3)]
          congr 1; exact (decide_eq_false (by omega)).symm
      · rw [if_neg c2]
        congr 1; exact (decide_eq_false (by omega)).symm
/-! impl_copied -/
theorem copied_eq (l : List Int) (hn : l.length ≤ 10000000000000) : impl_copied.f l = some l := by
  unfold impl_copied.f
  simp only [Option.bind_some, List.nil_append, List.length_nil, Nat.zero_add]
  rw [if_pos (by omega)]
/-! impl_identity -/
theorem identity_l0 (n : Nat) (hn : n ≤ 1000000000) : ∀ (d : Nat) (j : Int), 0 ≤ j → j.toNat + d = n → Ev (fun k => impl_identity.l0 k (upTo j.toNat) (n : Int) j) (upTo n) := by
  intro d
  induction d with
  | zero =>
    intro j h0 hd
    refine Ev.step (fun k => by rw [impl_identity.l0]) ?_
    exact evNeg (by omega) (evEq (by rw [show j.toNat = n from by omega]))
  | succ d ih =>
    intro j h0 hd
    refine Ev.step (fun k => by rw [impl_identity.l0]) ?_
    refine evPos (by omega) (evPos (by rw [upTo_length]; omega) ?_)
    have h := ih (j + 1) (by omega) (by omega)
    rw [show (j + 1).toNat = j.toNat + 1 from by omega, upTo_succ, Int.toNat_of_nonneg h0] at h
    rw [wr (by omega) (by omega)]
    exact h
theorem identity_ev (n : Nat) (hn : n ≤ 1000000000) : Ev (fun k => impl_identity.f k (n : Int)) (upTo n) := by
  unfold impl_identity.f
  exact identity_l0 n hn n 0 (by omega) (by simp)
/-- What is to be shown of the law. -/
def FnExactMoveSign_Pure : Prop := ∀ (b0 b1 b2 : Int), (Lit.int .i64 b0).wf = true → (Lit.int .i64 b1).wf = true → (Lit.int .i64 b2).wf = true → ∃ k, laws_FnExactMoveSign.f k b0 b1 b2 = some true
/-- Both sides answer the same within so many rounds. -/
def signOk (c i j : Int) : Bool := spec_MoveSign.f 100 c i j == impl_MoveSign.f 100 c i j && (spec_MoveSign.f 100 c i j).isSome
theorem sign_swap : ((List.range 12).all fun i => (List.range 12).all fun j => if i < j then signOk 0 (i : Int) (j : Int) else true) = true := by decide +kernel
theorem sign_turn : ((List.range 13).all fun i => if 2 ≤ i then signOk 1 (i : Int) 0 && signOk 2 (i : Int) 0 else true) = true := by decide +kernel
theorem sign_use {c i j : Int} (h : signOk c i j = true) : ∃ r, Ev (fun q => spec_MoveSign.f q c i j) r ∧ Ev (fun q => impl_MoveSign.f q c i j) r := by
  unfold signOk at h
  simp only [Bool.and_eq_true, beq_iff_eq] at h
  obtain ⟨r, hr⟩ := Option.isSome_iff_exists.1 h.2
  exact ⟨r, evTab (g := fun q => spec_MoveSign.f q c i j) (spec_MoveSign.mono _ _ _) 100 hr, evTab (g := fun q => impl_MoveSign.f q c i j) (impl_MoveSign.mono _ _ _) 100 (h.1 ▸ hr)⟩
theorem FnExactMoveSign : FnExactMoveSign_Pure := by
  intro c i j wc wi wj
  refine Ev.rounds (g := fun q => laws_FnExactMoveSign.f q c i j) ?_
  unfold laws_FnExactMoveSign.f laws_toMove.f
  refine evSome ?_
  have key : ∃ r : Int × Bool, Ev (fun q => spec_MoveSign.f q c i j) r ∧ Ev (fun q => impl_MoveSign.f q c i j) r := by
    by_cases h : isMv 12 c i j = true
    · have h' := of_decide_eq_true h
      rcases h' with ⟨rfl, h0, h1, h2⟩ | ⟨h0, h1, h2, rfl⟩
      · obtain ⟨I, rfl⟩ := Int.eq_ofNat_of_zero_le h0
        obtain ⟨J, rfl⟩ := Int.eq_ofNat_of_zero_le (show 0 ≤ j by omega)
        have t := List.all_eq_true.1 (List.all_eq_true.1 sign_swap I (List.mem_range.2 (by omega))) J (List.mem_range.2 (by omega))
        rw [if_pos (by omega)] at t
        exact sign_use t
      · obtain ⟨I, rfl⟩ := Int.eq_ofNat_of_zero_le (show 0 ≤ i by omega)
        have t := List.all_eq_true.1 sign_turn I (List.mem_range.2 (by omega))
        rw [if_pos (by omega)] at t
        simp only [Bool.and_eq_true] at t
        rcases h0 with rfl | rfl
        · exact sign_use t.1
        · exact sign_use t.2
    · refine ⟨(0, false), ?_, ?_⟩
      · unfold spec_MoveSign.f
        rw [moGood_eq 12 c i j (by omega) (by omega)]
        exact evSome (evNeg h (Ev.now _))
      · unfold impl_MoveSign.f
        rw [isMove_eq 12 c i j (by omega) (by omega)]
        exact evSome (evNeg h (Ev.now _))
  obtain ⟨⟨r1, r2⟩, hs, hi⟩ := key
  refine Ev.bind hs (evSome (Ev.bind hi ?_))
  exact evPos rfl (evNeg (by simp) (Ev.now _))

end Go.Proofs.Ytcohdpmdgplgfaa.Pure
