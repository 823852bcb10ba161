/- The pure statement of FnExactDistancesFrom: for all arguments that fit, the law as a Lean function answers true after enough rounds. -/
import Derived.Test.YtcplfdfmebibpaaMFnExactDistancesFromx1
import Derived.Test.YtcplfdfmebibpaaMFnExactDistancesFromx2
import Derived.Test.YtcplfdfmebibpaaMFnExactDistancesFromx3
import Derived.Test.YtcplfdfmebibpaaMFnExactDistancesFromx4
import Derived.Test.YtcplfdfmebibpaaMFnExactDistancesFromx5
import Derived.Test.YtcplfdfmebibpaaMFnExactDistancesFromx6
import Derived.Test.YtcplfdfmebibpaaMFnExactDistancesFromx7
import Derived.Test.YtcplfdfmebibpaaMFnExactDistancesFromx8
import Derived.Test.YtcplfdfmebibpaaMFnExactDistancesFromx9
import Derived.Test.YtcplfdfmebibpaaBase
import Derived.Test.YtcplfdfmebibpaaComb
import Derived.Test.YtcplfdfmebibpaaTrot
import Derived.Test.YtcplfdfmebibpaaMoves
namespace Go.Proofs.Ytcplfdfmebibpaa.Pure
open Go.RowKit Go.Proofs.Ytcplfdfmebibpaa.MFnExactDistancesFrom Go.Proofs.YtcplfdfmebibpaaW.PrintWords Go.Proofs.YtcplfdfmebibpaaW.PrintLast Go.Proofs.Ytcplfdfmebibpaa.Base Go.Proofs.Ytcplfdfmebibpaa.Comb Go.Proofs.Ytcplfdfmebibpaa.Trot Go.Proofs.Ytcplfdfmebibpaa.Moves
set_option linter.unusedVariables false
set_option linter.unusedSimpArgs false

/-! laws_eqIntS -/
theorem eqIntS_l0 (a b : List Int) (hn : a.length ≤ 35184372088832) (hb : a.length = b.length) : ∀ (d : Nat) (j : Int), 0 ≤ j → j.toNat + d = a.length →
    Ev (fun k => laws_eqIntS.l0 k a b j) (decide (a.drop j.toNat = b.drop j.toNat)) := by
  intro d
  induction d with
  | zero =>
    intro j h0 hd
    refine Ev.step (fun k => by rw [laws_eqIntS.l0]) ?_
    refine evNeg (by omega) ?_
    rw [drop_end a j (by omega), drop_end b j (by omega)]
    exact evEq rfl
  | succ d ih =>
    intro j h0 hd
    refine Ev.step (fun k => by rw [laws_eqIntS.l0]) ?_
    refine evPos (by omega) (evPos (by omega) (evPos (by omega) ?_))
    rw [wr (by omega) (by omega), drop_rd a j h0 (by omega), drop_rd b j h0 (by omega)]
    by_cases c : rd a j = rd b j
    · refine evPos c (evTo (ih _ (by omega) (by omega)) ?_)
      simp [c]
    · refine evNeg c (evEq ?_)
      simp [c]
theorem eqIntS_ev (a b : List Int) (hn : a.length ≤ 35184372088832) : Ev (fun k => laws_eqIntS.f k a b) (decide (a = b)) := by
  unfold laws_eqIntS.f
  by_cases hb : a.length = b.length
  · exact evPos (by omega) (eqIntS_l0 a b hn hb a.length 0 (by omega) (by simp))
  · refine evNeg (by omega) (evEq ?_)
    exact (decide_eq_false (fun e => hb (by rw [e]))).symm
theorem eqIntS_self (a : List Int) (hn : a.length ≤ 35184372088832) : Ev (fun k => laws_eqIntS.f k a a) true := evTo (eqIntS_ev a a hn) (by simp)
/-! laws_markIntS -/
theorem markIntS_l0 : ∀ (d : Nat) (xs : List Int) (m j : Int), 0 ≤ j → j.toNat + d = xs.length → xs.length ≤ 35184372088832 → 0 ≤ m → m + d ≤ 70368744177664 →
    Ev (fun k => laws_markIntS.l0 k xs m j) (m + d, xs.take j.toNat ++ iotaI m d) := by
  intro d
  induction d with
  | zero =>
    intro xs m j h0 hd hn hm hk
    refine Ev.step (fun k => by rw [laws_markIntS.l0]) ?_
    refine evNeg (by omega) (evEq ?_)
    rw [take_end xs j (by omega)]
    simp [iotaI]
  | succ d ih =>
    intro xs m j h0 hd hn hm hk
    refine Ev.step (fun k => by rw [laws_markIntS.l0]) ?_
    refine evPos (by omega) (evPos (by omega) ?_)
    rw [wr (by omega) (by omega), wr (by omega) (by omega)]
    refine evTo (ih (xs.set j.toNat m) (m + 1) (j + 1) (by omega) (by simp; omega) (by simpa using hn) (by omega) (by omega)) ?_
    rw [set_takeI xs j m h0 (by omega)]
    simp [iotaI]
    omega
theorem markIntS_ev (xs : List Int) (m : Int) (hn : xs.length ≤ 35184372088832) (hm : 0 ≤ m) (hk : m + xs.length ≤ 70368744177664) :
    Ev (fun k => laws_markIntS.f k xs m) (m + xs.length, iotaI m xs.length) := by
  unfold laws_markIntS.f
  refine evTo (markIntS_l0 xs.length xs m 0 (by omega) (by simp) hn hm hk) (by simp)
/-! laws_heldIntS -/
theorem heldIntS_l0 (xs : List Int) (hn : xs.length ≤ 35184372088832) : ∀ (d : Nat) (m j : Int), 0 ≤ j → j.toNat + d = xs.length → 0 ≤ m → m + d ≤ 70368744177664 → (∀ i : Int, j ≤ i → i < xs.length → rd xs i = m + (i - j)) →
    Ev (fun k => laws_heldIntS.l0 k xs m j) (m + d) := by
  intro d
  induction d with
  | zero =>
    intro m j h0 hd hm hk h
    refine Ev.step (fun k => by rw [laws_heldIntS.l0]) ?_
    exact evNeg (by omega) (evEq (by simp))
  | succ d ih =>
    intro m j h0 hd hm hk h
    refine Ev.step (fun k => by rw [laws_heldIntS.l0]) ?_
    have hr := h j (by omega) (by omega)
    refine evPos (by omega) (evPos (by omega) (evPos (by omega) ?_))
    rw [wr (by omega) (by omega), wr (by omega) (by omega)]
    refine evTo (ih (m + 1) (j + 1) (by omega) (by omega) (by omega) (by omega) (fun i h1 h2 => ?_)) (by omega)
    rw [h i (by omega) h2]; omega
theorem heldIntS_ev (n : Nat) (m : Int) (hn : n ≤ 35184372088832) (hm : 0 ≤ m) (hk : m + n ≤ 70368744177664) :
    Ev (fun k => laws_heldIntS.f k (iotaI m n) m) (m + n) := by
  unfold laws_heldIntS.f
  have hl := iotaI_length m n
  refine heldIntS_l0 (iotaI m n) (by omega) n m 0 (by omega) (by omega) hm hk (fun i h1 h2 => ?_)
  rw [iotaI_rd n m i h1 (by omega)]; omega
/-! laws_szMoveS -/
theorem szMoveS_eq (l : List S53) (h : l.length ≤ maxLen) : laws_szMoveS.f l 1048576 = some (if l.length ≤ 1048576 then (1048576 - (l.length : Int)) else -1) := by
  have hm : maxLen = 9223372036854775807 := rfl
  unfold laws_szMoveS.f
  rw [wr (by omega) (by omega)]
  by_cases c : l.length ≤ 1048576
  · rw [if_neg (by omega), if_pos c]
  · rw [if_pos (by omega), if_neg c]
/-! laws_toMoveS -/
def conv (l : List S53) : List S55 := l.map fun m => (⟨m.f0, m.f1, m.f2⟩ : S55)
theorem conv_length (l : List S53) : (conv l).length = l.length := by simp [conv]
theorem toMoveS_l0 (x0 : List S53) (hn : x0.length ≤ 1048576) : ∀ (d : Nat) (x3 : List S55) (j : Int), 0 ≤ j → j.toNat + d = x0.length → x3.length = x0.length → x3.take j.toNat = (conv x0).take j.toNat →
    Ev (fun k => laws_toMoveS.l0 k x0 x3 j) (conv x0) := by
  intro d
  have hc := conv_length x0
  induction d with
  | zero =>
    intro x3 j h0 hd hl ht
    refine Ev.step (fun k => by rw [laws_toMoveS.l0]) ?_
    refine evNeg (by omega) ?_
    rw [List.take_of_length_le (by omega), List.take_of_length_le (by omega)] at ht
    exact evEq ht
  | succ d ih =>
    intro x3 j h0 hd hl ht
    refine Ev.step (fun k => by rw [laws_toMoveS.l0]) ?_
    refine evPos (by omega) (evPos (by omega) (evSome (evPos (by omega) ?_)))
    rw [wr (by omega) (by omega)]
    refine ih _ _ (by omega) (by omega) (by simpa using hl) ?_
    rw [set_takeG x3 j _ h0 (by omega), ht, show (j + 1).toNat = j.toNat + 1 by omega, List.take_add_one]
    congr 1
    simp only [conv, List.getElem?_map, rd_T53, List.getD_eq_getElem?_getD]
    rw [List.getElem?_eq_getElem (show j.toNat < x0.length by omega)]
    rfl
theorem toMoveS_ev (l : List S53) (hn : l.length ≤ 1048576) : Ev (fun k => laws_toMoveS.f k l) (conv l) := by
  unfold laws_toMoveS.f
  refine evPos (by omega) (evPos (by simp; omega) ?_)
  exact toMoveS_l0 l hn l.length _ 0 (by omega) (by simp) (by simp) (by simp)
/-! laws_eqMoveS -/
theorem eqMoveS_l0 (a : List S55) (hn : a.length ≤ 1048576) : ∀ (d : Nat) (j : Int), 0 ≤ j → j.toNat + d = a.length → Ev (fun k => laws_eqMoveS.l0 k a a j) true := by
  intro d
  induction d with
  | zero =>
    intro j h0 hd
    refine Ev.step (fun k => by rw [laws_eqMoveS.l0]) ?_
    exact evNeg (by omega) (Ev.now _)
  | succ d ih =>
    intro j h0 hd
    refine Ev.step (fun k => by rw [laws_eqMoveS.l0]) ?_
    refine evPos (by omega) (evPos (by omega) (evPos (by omega) ?_))
    rw [wr (by omega) (by omega)]
    have e : ∀ x y z : Int, laws_eqMove.f x y z x y z = some true := by intro x y z; unfold laws_eqMove.f; rw [if_pos rfl, if_pos rfl, if_pos rfl]
    rw [e]
    exact evSome (evPos rfl (ih _ (by omega) (by omega)))
theorem eqMoveS_self (a : List S55) (hn : a.length ≤ 1048576) : Ev (fun k => laws_eqMoveS.f k a a) true := by
  unfold laws_eqMoveS.f
  exact evPos rfl (eqMoveS_l0 a hn a.length 0 (by omega) (by simp))
/-! laws_markMoveS -/
theorem markMoveS_l0 : ∀ (d : Nat) (xs : List S55) (m j : Int), 0 ≤ j → j.toNat + d = xs.length → xs.length ≤ 1048576 → 0 ≤ m → m + 3 * d ≤ 70368744177664 →
    ∃ l', Ev (fun k => laws_markMoveS.l0 k xs m j) (m + 3 * d, l') := by
  intro d
  induction d with
  | zero =>
    intro xs m j h0 hd hn hm hk
    refine ⟨xs, ?_⟩
    refine Ev.step (fun k => by rw [laws_markMoveS.l0]) ?_
    exact evNeg (by omega) (evEq (by simp))
  | succ d ih =>
    intro xs m j h0 hd hn hm hk
    obtain ⟨l', h⟩ := ih (((xs.set j.toNat (⟨m, (rd_T55 xs j).f1, (rd_T55 xs j).f2⟩ : S55)).set j.toNat (⟨(rd_T55 (xs.set j.toNat (⟨m, (rd_T55 xs j).f1, (rd_T55 xs j).f2⟩ : S55)) j).f0, m + 1, (rd_T55 (xs.set j.toNat (⟨m, (rd_T55 xs j).f1, (rd_T55 xs j).f2⟩ : S55)) j).f2⟩ : S55)).set j.toNat (⟨(rd_T55 ((xs.set j.toNat (⟨m, (rd_T55 xs j).f1, (rd_T55 xs j).f2⟩ : S55)).set j.toNat (⟨(rd_T55 (xs.set j.toNat (⟨m, (rd_T55 xs j).f1, (rd_T55 xs j).f2⟩ : S55)) j).f0, m + 1, (rd_T55 (xs.set j.toNat (⟨m, (rd_T55 xs j).f1, (rd_T55 xs j).f2⟩ : S55)) j).f2⟩ : S55)) j).f0, (rd_T55 ((xs.set j.toNat (⟨m, (rd_T55 xs j).f1, (rd_T55 xs j).f2⟩ : S55)).set j.toNat (⟨(rd_T55 (xs.set j.toNat (⟨m, (rd_T55 xs j).f1, (rd_T55 xs j).f2⟩ : S55)) j).f0, m + 1, (rd_T55 (xs.set j.toNat (⟨m, (rd_T55 xs j).f1, (rd_T55 xs j).f2⟩ : S55)) j).f2⟩ : S55)) j).f1, m + 1 + 1⟩ : S55)) (m + 1 + 1 + 1) (j + 1) (by omega) (by simp; omega) (by simpa using hn) (by omega) (by omega)
    refine ⟨l', ?_⟩
    refine Ev.step (fun k => by rw [laws_markMoveS.l0]) ?_
    refine evPos (by omega) (evPos h0 (evSome (evSome ?_)))
    simp (disch := omega) only [wr]
    exact evTo h (by simp; omega)
theorem markMoveS_ev (xs : List S55) (hn : xs.length ≤ 1048576) : ∃ l', Ev (fun k => laws_markMoveS.f k xs 1) (1 + 3 * (xs.length : Int), l') := by
  unfold laws_markMoveS.f
  exact markMoveS_l0 xs.length xs 1 0 (by omega) (by simp) hn (by omega) (by omega)
/-! spec_l1In -/
theorem l1In_eq (x a b : Int) : spec_l1In.f x a b = some (decide (a ≤ x ∧ x ≤ b)) := by
  unfold spec_l1In.f
  by_cases h : x ≥ a
  · rw [if_pos h]; have h' : a ≤ x := h; simp [h']
  · rw [if_neg h]; have h' : ¬ a ≤ x := h; simp [h']
/-! spec_moGood -/
/-- A move of permutations of n. -/
def isMv (n c i j : Int) : Bool := decide ((c = 0 ∧ 0 ≤ i ∧ i < j ∧ j < n) ∨ ((c = 1 ∨ c = 2) ∧ 2 ≤ i ∧ i ≤ n ∧ j = 0))
theorem moGood_eq (n c i j : Int) (h0 : 0 ≤ n) (hn : n ≤ 12) : spec_moGood.f n c i j = some (isMv n c i j) := by
  unfold spec_moGood.f isMv
  rw [wr (x := n - 1) (by omega) (by omega)]
  simp only [l1In_eq, Option.bind_some]
  by_cases c0 : c = 0
  · rw [if_pos c0]
    by_cases c1 : 1 ≤ j ∧ j ≤ n - 1
    · rw [if_pos (by simpa using c1), wr (by omega) (by omega)]
      congr 1; apply decide_eq_decide.2; omega
    · rw [if_neg (by simpa using c1)]
      congr 1; exact (decide_eq_false (by omega)).symm
  · rw [if_neg c0]
    by_cases c1 : c = 1
    · rw [if_pos c1]
      by_cases c3 : 2 ≤ i ∧ i ≤ n
      · rw [if_pos (by simpa using c3)]
        congr 1; rw [Bool.eq_iff_iff]; simp; omega
      · rw [if_neg (by simpa using c3)]
        congr 1; exact (decide_eq_false (by omega)).symm
    · rw [if_neg c1]
      by_cases c2 : c = 2
      · rw [if_pos c2]
        by_cases c3 : 2 ≤ i ∧ i ≤ n
        · rw [if_pos (by simpa using c3)]
          congr 1; rw [Bool.eq_iff_iff]; simp; omega
        · rw [if_neg (by simpa using c3)]
          congr 1; exact (decide_eq_false (by omega)).symm
      · rw [if_neg c2]
        congr 1; exact (decide_eq_false (by omega)).symm
/-! spec_moTask -/
def okTask (n : Int) (l : List S55) : Bool := (l.all fun m => isMv n m.f0 m.f1 m.f2) && (decide (1 ≤ n ∧ n ≤ 5) && decide ((l.length : Int) ≤ 12))
theorem moGood_some (n a b c : Int) : spec_moGood.f n a b c = some ((spec_moGood.f n a b c).getD false) := by
  unfold spec_moGood.f
  simp only [l1In_eq, Option.bind_some]
  repeat' split
  all_goals rfl
theorem moTask_l0 (n : Int) (g : S55 → Bool) (hg : ∀ m : S55, spec_moGood.f n m.f0 m.f1 m.f2 = some (g m)) (l : List S55) (hl : l.length ≤ 1048576) : ∀ (d : Nat) (i : Int), 0 ≤ i → i.toNat + d = l.length →
    Ev (fun k => spec_moTask.l0 k n l l (l.length : Int) i) (((l.drop i.toNat).all g) && (decide (1 ≤ n ∧ n ≤ 5) && decide ((l.length : Int) ≤ 12))) := by
  intro d
  induction d with
  | zero =>
    intro i h0 hd
    refine Ev.step (fun k => by rw [spec_moTask.l0]) ?_
    rw [List.drop_of_length_le (by omega)]
    refine evNeg (by omega) ?_
    rw [l1In_eq]
    refine evSome ?_
    by_cases c : 1 ≤ n ∧ n ≤ 5
    · exact evPos (by simpa using c) (evEq (by simp [c]))
    · refine evNeg (by simpa using c) (evEq ?_)
      rw [decide_eq_false c]; simp
  | succ d ih =>
    intro i h0 hd
    refine Ev.step (fun k => by rw [spec_moTask.l0]) ?_
    refine evPos (by omega) (evPos h0 (evPos (by omega) ?_))
    rw [hg, wr (by omega) (by omega), List.drop_eq_getElem_cons (show i.toNat < l.length by omega), List.all_cons]
    have e : rd_T55 l i = l[i.toNat] := by unfold rd_T55; rw [List.getD_eq_getElem?_getD, List.getElem?_eq_getElem (by omega)]; rfl
    rw [e]
    refine evSome ?_
    by_cases c : g l[i.toNat] = true
    · refine evPos c (evTo (ih (i + 1) (by omega) (by omega)) ?_)
      rw [c, show (i + 1).toNat = i.toNat + 1 by omega]; simp
    · refine evNeg c (evEq ?_)
      rw [Bool.eq_false_iff.mpr c]; simp
theorem moTask_ev (n : Int) (l : List S55) (hl : l.length ≤ 1048576) : Ev (fun k => spec_moTask.f k n l) (okTask n l) := by
  unfold spec_moTask.f okTask
  by_cases c : 1 ≤ n ∧ n ≤ 5
  · exact evTo (moTask_l0 n (fun m => isMv n m.f0 m.f1 m.f2) (fun m => moGood_eq n _ _ _ (by omega) (by omega)) l hl l.length 0 (by omega) (by simp)) (by simp)
  · refine evTo (moTask_l0 n _ (fun m => moGood_some n m.f0 m.f1 m.f2) l hl l.length 0 (by omega) (by simp)) ?_
    rw [decide_eq_false c]; simp
/-! spec_raFactorial -/
theorem raFactorial_tab : ((List.range 13).all fun n => spec_raFactorial.f 20 (n : Int) == some (fac n : Int)) = true := by decide +kernel
theorem raFactorial_ev (n : Nat) (hn : n ≤ 12) : Ev (fun r => spec_raFactorial.f r (n : Int)) (fac n : Int) := by
  refine evTab (g := fun r => spec_raFactorial.f r (n : Int)) (spec_raFactorial.mono _) 20 ?_
  exact beq_iff_eq.1 (List.all_eq_true.1 raFactorial_tab n (List.mem_range.2 (by omega)))
/-! spec_raUpTo -/
theorem raUpTo_l0 (n : Nat) (hn : n ≤ 1000000000) : ∀ (d : Nat) (j : Int), 0 ≤ j → j.toNat + d = n → Ev (fun k => spec_raUpTo.l0 k (n : Int) (upTo j.toNat) j) (upTo n) := by
  intro d
  induction d with
  | zero =>
    intro j h0 hd
    refine Ev.step (fun k => by rw [spec_raUpTo.l0]) ?_
    exact evNeg (by omega) (evEq (by rw [show j.toNat = n from by omega]))
  | succ d ih =>
    intro j h0 hd
    refine Ev.step (fun k => by rw [spec_raUpTo.l0]) ?_
    refine evPos (by omega) (evPos (by rw [upTo_length]; omega) ?_)
    have h := ih (j + 1) (by omega) (by omega)
    rw [show (j + 1).toNat = j.toNat + 1 from by omega, upTo_succ, Int.toNat_of_nonneg h0] at h
    rw [wr (by omega) (by omega)]
    exact h
theorem raUpTo_ev (n : Nat) (hn : n ≤ 1000000000) : Ev (fun k => spec_raUpTo.f k (n : Int)) (upTo n) := by
  unfold spec_raUpTo.f
  exact raUpTo_l0 n hn n 0 (by omega) (by simp)
/-! spec_l1Own -/
theorem l1Own_eq (l : List Int) (hn : l.length ≤ 10000000000000) : spec_l1Own.f l = some l := by
  unfold spec_l1Own.f
  simp only [Option.bind_some, List.nil_append, List.length_nil, Nat.zero_add]
  rw [if_pos (by omega)]
/-! spec_moApply -/
theorem moApply_l0 (l : List Int) (hl : l.length ≤ 1000) (b : Int) (hb : b ≤ l.length) (a c : Int) : ∀ (d : Nat) (x5 : List Int) (i : Int), 0 ≤ i → i + d = b → x5.length = l.length → x5.take i.toNat = (l.take b.toNat).reverse.take i.toNat → x5.drop i.toNat = l.drop i.toNat →
    Ev (fun k => spec_moApply.l0 k l x5 i a b c) ((l.take b.toNat).reverse ++ l.drop b.toNat) := by
  intro d
  induction d with
  | zero =>
    intro x5 i h0 hi h5 ht hd
    refine Ev.step (fun k => by rw [spec_moApply.l0]) ?_
    refine evNeg (by omega) (evEq ?_)
    obtain rfl : i = b := by omega
    rw [← List.take_append_drop i.toNat x5, ht, hd, List.take_of_length_le (by rw [List.length_reverse, List.length_take]; omega)]
  | succ d ih =>
    intro x5 i h0 hi h5 ht hd
    refine Ev.step (fun k => by rw [spec_moApply.l0]) ?_
    simp (disch := omega) only [wr]
    refine evPos (by omega) (evPos (by omega) (evPos (by omega) (evPos (by omega) (evPos (by omega) ?_))))
    refine ih _ (i + 1) (by omega) (by omega) (by simpa using h5) ?_ ?_
    · rw [set_takeI _ _ _ h0 (by omega), ht, show (i + 1).toNat = i.toNat + 1 by omega, List.take_add_one, List.getElem?_reverse (by rw [List.length_take]; omega), List.length_take, show min b.toNat l.length - 1 - i.toNat = (b - 1 - i).toNat by omega, List.getElem?_take, if_pos (by omega)]
      unfold rd
      rw [List.getD_eq_getElem?_getD, List.getElem?_eq_getElem (show (b - 1 - i).toNat < l.length by omega)]
      rfl
    · rw [show (i + 1).toNat = i.toNat + 1 by omega, List.drop_set_of_lt (by omega), ← List.drop_drop, ← List.drop_drop, hd]
theorem moApply_l1 (l : List Int) (hl : l.length ≤ 1000) (b : Int) (hb0 : 1 ≤ b) (hb : b ≤ l.length) (a c : Int) : ∀ (d : Nat) (x5 : List Int) (i : Int), 0 ≤ i → i + d = b → x5.length = l.length → x5.take i.toNat = ((l.take b.toNat).drop 1 ++ (l.take b.toNat).take 1).take i.toNat → x5.drop i.toNat = l.drop i.toNat →
    Ev (fun k => spec_moApply.l1 k l x5 i a b c) ((l.take b.toNat).drop 1 ++ (l.take b.toNat).take 1 ++ l.drop b.toNat) := by
  intro d
  have hlen : ((l.take b.toNat).drop 1 ++ (l.take b.toNat).take 1).length = b.toNat := by
    simp; omega
  induction d with
  | zero =>
    intro x5 i h0 hi h5 ht hd
    refine Ev.step (fun k => by rw [spec_moApply.l1]) ?_
    refine evNeg (by omega) (evEq ?_)
    obtain rfl : i = b := by omega
    rw [← List.take_append_drop i.toNat x5, ht, hd, List.take_of_length_le (by omega)]
  | succ d ih =>
    intro x5 i h0 hi h5 ht hd
    refine Ev.step (fun k => by rw [spec_moApply.l1]) ?_
    simp (disch := omega) only [wr]
    rw [Int.tmod_eq_emod_of_nonneg (by omega)]
    have hm : (i + 1) % b = if i + 1 < b then i + 1 else 0 := by
      split
      · exact Int.emod_eq_of_lt (by omega) (by omega)
      · rw [show i + 1 = b by omega, Int.emod_self]
    rw [hm]
    refine evPos (by omega) (evNeg (by omega) (evPos (by split <;> omega) (evPos (by split <;> omega) (evPos (by omega) (evPos (by omega) ?_)))))
    refine ih _ (i + 1) (by omega) (by omega) (by simpa using h5) ?_ ?_
    · rw [set_takeI _ _ _ h0 (by omega), ht, show (i + 1).toNat = i.toNat + 1 by omega, List.take_add_one (l := _ ++ _)]
      congr 1
      unfold rd
      by_cases c : i + 1 < b
      · rw [if_pos c, List.getElem?_append_left (by simp; omega), List.getElem?_drop, List.getElem?_take, if_pos (by omega), show 1 + i.toNat = (i + 1).toNat by omega, List.getD_eq_getElem?_getD, List.getElem?_eq_getElem (by omega)]
        rfl
      · rw [if_neg c, List.getElem?_append_right (by simp; omega)]
        have e : i.toNat - ((l.take b.toNat).drop 1).length = 0 := by simp; omega
        rw [e, List.getElem?_take, if_pos (by omega), List.getElem?_take, if_pos (by omega), List.getD_eq_getElem?_getD, show (0 : Int).toNat = 0 from rfl, List.getElem?_eq_getElem (show 0 < l.length by omega)]
        rfl
    · rw [show (i + 1).toNat = i.toNat + 1 by omega, List.drop_set_of_lt (by omega), ← List.drop_drop, ← List.drop_drop, hd]
theorem moApply_ev (l : List Int) (hl : l.length ≤ 1000) (a b c : Int) (hg : Mgood l.length a b c) : Ev (fun q => spec_moApply.f q l a b c) (mv l a b c) := by
  unfold spec_moApply.f
  rw [l1Own_eq l (by omega)]
  refine evSome ?_
  rcases hg with ⟨rfl, h1, h2, h3⟩ | ⟨rfl, h1, h2, rfl⟩ | ⟨rfl, h1, h2, rfl⟩
  · exact evPos rfl (evPos (by omega) (evPos (by omega) (evPos (by omega) (evPos (by omega) (evPos (by omega) (evPos (by omega) (evEq rfl)))))))
  · refine evNeg (by decide) (evPos rfl ?_)
    refine evTo (moApply_l0 l hl b h2 1 0 b.toNat l 0 (by omega) (by omega) rfl (by simp) (by simp)) (by simp [mv])
  · refine evNeg (by decide) (evNeg (by decide) ?_)
    refine evTo (moApply_l1 l hl b (by omega) h2 2 0 b.toNat l 0 (by omega) (by omega) rfl (by simp) (by simp)) (by simp [mv])
/-! spec_raRank -/
theorem raRank_tab : ((List.range 6).all fun n => (List.range (facN n)).all fun r => spec_raRank.f 60 (PA n r) == some (r : Int)) = true := by decide +kernel
theorem raRank_ev (n r : Nat) (hn : n ≤ 5) (hr : r < facN n) : Ev (fun q => spec_raRank.f q (PA n r)) (r : Int) := by
  refine evTab (g := fun q => spec_raRank.f q (PA n r)) (spec_raRank.mono _) 60 ?_
  exact beq_iff_eq.1 (List.all_eq_true.1 (List.all_eq_true.1 raRank_tab n (List.mem_range.2 (by omega))) r (List.mem_range.2 hr))
/-! impl_within -/
theorem within_eq (x a b : Int) : impl_within.f x a b = some (decide (a ≤ x ∧ x ≤ b)) := by
  unfold impl_within.f
  by_cases h : x ≥ a
  · rw [if_pos h]; have h' : a ≤ x := h; simp [h']
  · rw [if_neg h]; have h' : ¬ a ≤ x := h; simp [h']
/-! impl_isMove -/
theorem isMove_eq (n c i j : Int) (h0 : 0 ≤ n) (hn : n ≤ 12) : impl_isMove.f n c i j = some (isMv n c i j) := by
  unfold impl_isMove.f isMv
  simp only [within_eq, Option.bind_some]
  by_cases c0 : c = 0
  · rw [if_pos c0]
    by_cases c1 : 0 ≤ i
    · rw [if_pos c1]
      by_cases c2 : i < j
      · rw [if_pos c2]; congr 1; apply decide_eq_decide.2; omega
      · rw [if_neg c2]; congr 1; exact (decide_eq_false (by omega)).symm
    · rw [if_neg c1]; congr 1; exact (decide_eq_false (by omega)).symm
  · rw [if_neg c0]
    by_cases c1 : c = 1
    · rw [if_pos c1]
      by_cases c3 : 2 ≤ i ∧ i ≤ n
      · rw [if_pos (by simpa using c3)]
        congr 1; rw [Bool.eq_iff_iff]; simp; omega
      · rw [if_neg (by simpa using c3)]
        congr 1; exact (decide_eq_false (by omega)).symm
    · rw [if_neg c1]
      by_cases c2 : c = 2
      · rw [if_pos c2]
        by_cases c3 : 2 ≤ i ∧ i ≤ n
        · rw [if_pos (by simpa using c3)]
          congr 1; rw [Bool.eq_iff_iff]; simp; omega
        · rw [if_neg (by simpa using c3)]
          congr 1; exact (decide_eq_false (by omega)).symm
      · rw [if_neg c2]
        congr 1; exact (decide_eq_false (by omega)).symm
/-! impl_areMoves -/
theorem isMove_some (n a b c : Int) : impl_isMove.f n a b c = some ((impl_isMove.f n a b c).getD false) := by
  unfold impl_isMove.f
  simp only [within_eq, Option.bind_some]
  repeat' split
  all_goals rfl
theorem areMoves_l0 (n : Int) (g : S55 → Bool) (hg : ∀ m : S55, impl_isMove.f n m.f0 m.f1 m.f2 = some (g m)) (l : List S55) (hl : l.length ≤ 1048576) : ∀ (d : Nat) (i : Int), 0 ≤ i → i.toNat + d = l.length →
    Ev (fun k => impl_areMoves.l0 k n l l (l.length : Int) i) (((l.drop i.toNat).all g) && (decide (1 ≤ n ∧ n ≤ 5) && decide ((l.length : Int) ≤ 12))) := by
  intro d
  induction d with
  | zero =>
    intro i h0 hd
    refine Ev.step (fun k => by rw [impl_areMoves.l0]) ?_
    rw [List.drop_of_length_le (by omega)]
    refine evNeg (by omega) ?_
    rw [within_eq]
    refine evSome ?_
    by_cases c : 1 ≤ n ∧ n ≤ 5
    · exact evPos (by simpa using c) (evEq (by simp [c]))
    · refine evNeg (by simpa using c) (evEq ?_)
      rw [decide_eq_false c]; simp
  | succ d ih =>
    intro i h0 hd
    refine Ev.step (fun k => by rw [impl_areMoves.l0]) ?_
    refine evPos (by omega) (evPos h0 (evPos (by omega) ?_))
    rw [hg, wr (by omega) (by omega), List.drop_eq_getElem_cons (show i.toNat < l.length by omega), List.all_cons]
    have e : rd_T55 l i = l[i.toNat] := by unfold rd_T55; rw [List.getD_eq_getElem?_getD, List.getElem?_eq_getElem (by omega)]; rfl
    rw [e]
    refine evSome ?_
    by_cases c : g l[i.toNat] = true
    · refine evPos c (evTo (ih (i + 1) (by omega) (by omega)) ?_)
      rw [c, show (i + 1).toNat = i.toNat + 1 by omega]; simp
    · refine evNeg c (evEq ?_)
      rw [Bool.eq_false_iff.mpr c]; simp
theorem areMoves_ev (n : Int) (l : List S55) (hl : l.length ≤ 1048576) : Ev (fun k => impl_areMoves.f k n l) (okTask n l) := by
  unfold impl_areMoves.f okTask
  by_cases c : 1 ≤ n ∧ n ≤ 5
  · exact evTo (areMoves_l0 n (fun m => isMv n m.f0 m.f1 m.f2) (fun m => isMove_eq n _ _ _ (by omega) (by omega)) l hl l.length 0 (by omega) (by simp)) (by simp)
  · refine evTo (areMoves_l0 n _ (fun m => isMove_some n m.f0 m.f1 m.f2) l hl l.length 0 (by omega) (by simp)) ?_
    rw [decide_eq_false c]; simp
/-! impl_factorial -/
theorem factorial_tab : ((List.range 13).all fun n => impl_factorial.f 20 (n : Int) == some (fac n : Int)) = true := by decide +kernel
theorem factorial_ev (n : Nat) (hn : n ≤ 12) : Ev (fun r => impl_factorial.f r (n : Int)) (fac n : Int) := by
  refine evTab (g := fun r => impl_factorial.f r (n : Int)) (impl_factorial.mono _) 20 ?_
  exact beq_iff_eq.1 (List.all_eq_true.1 factorial_tab n (List.mem_range.2 (by omega)))
/-! impl_copied -/
theorem copied_eq (l : List Int) (hn : l.length ≤ 10000000000000) : impl_copied.f l = some l := by
  unfold impl_copied.f
  simp only [Option.bind_some, List.nil_append, List.length_nil, Nat.zero_add]
  rw [if_pos (by omega)]
/-! impl_moved -/
theorem moved_r0 : ∀ (n : Nat) (p m s : List Int), m.length ≤ n → Ev (fun k => impl_moved.r0 k (p ++ m ++ s) (p.length : Int) ((p.length : Int) + m.length - 1)) (p ++ m.reverse ++ s) := by
  intro n
  induction n with
  | zero =>
    intro p m s hm
    obtain rfl : m = [] := List.length_eq_zero_iff.1 (by omega)
    refine Ev.step (fun q => by rw [impl_moved.r0]) ?_
    exact evNeg (by simp; omega) (evEq (by simp))
  | succ n ih =>
    intro p m s hm
    refine Ev.step (fun q => by rw [impl_moved.r0]) ?_
    match m, hm with
    | [], _ => exact evNeg (by simp; omega) (evEq (by simp))
    | [x], _ => exact evNeg (by simp) (evEq (by simp))
    | x :: y :: t, hm =>
      obtain ⟨u, z, hz⟩ : ∃ u z, y :: t = u ++ [z] := ⟨(y :: t).dropLast, (y :: t).getLast (by simp), (List.dropLast_concat_getLast (by simp)).symm⟩
      rw [hz]
      have hl : u.length + 1 = t.length + 1 := by have := congrArg List.length hz; simp at this; omega
      simp only [List.length_cons] at hm
      refine evPos (by simp; omega) ?_
      have e1 : (p.length : Int).toNat = p.length := Int.toNat_natCast _
      have e2 : ((p.length : Int) + ((x :: (u ++ [z])).length : Nat) - 1).toNat = p.length + u.length + 1 := by simp; omega
      have r1 : rd (p ++ x :: (u ++ [z]) ++ s) (p.length : Int) = x := by
        unfold rd; rw [e1]; simp
      have r2 : rd (p ++ x :: (u ++ [z]) ++ s) ((p.length : Int) + ((x :: (u ++ [z])).length : Nat) - 1) = z := by
        unfold rd; rw [e2]
        rw [List.getD_eq_getElem?_getD, List.append_assoc, List.getElem?_append_right (by omega), show p.length + u.length + 1 - p.length = u.length + 1 by omega]
        simp
      rw [r1, r2, e1, e2]
      have hset : ((p ++ x :: (u ++ [z]) ++ s).set p.length z).set (p.length + u.length + 1) x = (p ++ [z]) ++ u ++ ([x] ++ s) := by
        rw [List.append_assoc p, List.set_append_right _ _ (by omega), Nat.sub_self, List.cons_append, List.set_cons_zero, List.set_append_right _ _ (by omega), show p.length + u.length + 1 - p.length = u.length + 1 by omega, List.set_cons_succ]
        rw [List.append_assoc u, List.set_append_right _ _ (by omega), Nat.sub_self]
        simp
      rw [hset]
      refine evTo (Ev.congr (fun k => ?_) (ih (p ++ [z]) u ([x] ++ s) (by omega))) ?_
      · congr 1
        · simp
        · simp; omega
      · simp
theorem moved_ev (l : List Int) (hl : l.length ≤ 1000) (a b c : Int) (hg : Mgood l.length a b c) : Ev (fun q => impl_moved.f q l a b c) (mv l a b c) := by
  unfold impl_moved.f
  rw [copied_eq l (by omega)]
  refine evSome (evPos (by omega) ?_)
  rcases hg with ⟨rfl, h1, h2, h3⟩ | ⟨rfl, h1, h2, rfl⟩ | ⟨rfl, h1, h2, rfl⟩
  · exact evPos rfl (evPos (by omega) (evPos (by omega) (evPos (by omega) (evPos (by omega) (evEq rfl)))))
  · refine evNeg (by decide) (evPos rfl (evPos (by omega) (evPos (by omega) ?_)))
    have h := moved_r0 b.toNat [] (l.take b.toNat) (l.drop b.toNat) (by rw [List.length_take]; omega)
    rw [List.length_take, show min b.toNat l.length = b.toNat by omega] at h
    refine evTo (Ev.congr (fun k => ?_) h) (by simp [mv])
    rw [List.nil_append, List.take_append_drop]
    congr 1
    simp; omega
  · refine evNeg (by decide) (evNeg (by decide) (evPos rfl (evPos (by omega) (evPos (by omega) (evEq ?_)))))
    obtain ⟨n, hn⟩ : ∃ n : Nat, b = (n : Int) + 1 := ⟨b.toNat - 1, by omega⟩
    subst hn
    rw [show ((n : Int) + 1).toNat = n + 1 by omega, show ((n : Int) + 1 - 1).toNat = n by omega]
    match l, h2 with
    | x :: t, h2 =>
      simp at h2
      have e : rd (x :: t) 0 = x := rfl
      rw [e]
      simp only [mv, List.take_succ_cons, List.drop_succ_cons, List.drop_zero]
      rw [show ((n : Int) + 1).toNat = n + 1 by omega]
      simp only [List.take_succ_cons, List.drop_succ_cons, List.drop_zero, List.take_zero]
      rw [if_neg (by decide), if_neg (by decide)]
      have hd : (x :: t).drop n = (x :: t)[n]'(by simp; omega) :: t.drop n := by
        rw [List.drop_eq_getElem_cons (by simp; omega)]; simp
      rw [hd, List.set_append_right _ _ (by rw [List.length_take]; omega), List.length_take, show n - min n t.length = 0 by omega]
      simp
/-! impl_permutationRank -/
theorem permutationRank_tab : ((List.range 6).all fun n => (List.range (facN n)).all fun r => impl_permutationRank.f 60 (PA n r) == some (r : Int)) = true := by decide +kernel
theorem permutationRank_ev (n r : Nat) (hn : n ≤ 5) (hr : r < facN n) : Ev (fun q => impl_permutationRank.f q (PA n r)) (r : Int) := by
  refine evTab (g := fun q => impl_permutationRank.f q (PA n r)) (impl_permutationRank.mono _) 60 ?_
  exact beq_iff_eq.1 (List.all_eq_true.1 (List.all_eq_true.1 permutationRank_tab n (List.mem_range.2 (by omega))) r (List.mem_range.2 hr))
/-! impl_identity -/
theorem identity_l0 (n : Nat) (hn : n ≤ 1000000000) : ∀ (d : Nat) (j : Int), 0 ≤ j → j.toNat + d = n → Ev (fun k => impl_identity.l0 k (upTo j.toNat) (n : Int) j) (upTo n) := by
  intro d
  induction d with
  | zero =>
    intro j h0 hd
    refine Ev.step (fun k => by rw [impl_identity.l0]) ?_
    exact evNeg (by omega) (evEq (by rw [show j.toNat = n from by omega]))
  | succ d ih =>
    intro j h0 hd
    refine Ev.step (fun k => by rw [impl_identity.l0]) ?_
    refine evPos (by omega) (evPos (by rw [upTo_length]; omega) ?_)
    have h := ih (j + 1) (by omega) (by omega)
    rw [show (j + 1).toNat = j.toNat + 1 from by omega, upTo_succ, Int.toNat_of_nonneg h0] at h
    rw [wr (by omega) (by omega)]
    exact h
theorem identity_ev (n : Nat) (hn : n ≤ 1000000000) : Ev (fun k => impl_identity.f k (n : Int)) (upTo n) := by
  unfold impl_identity.f
  exact identity_l0 n hn n 0 (by omega) (by simp)
/-! impl_permutationAt -/
theorem permutationAt_tab : ((List.range 6).all fun n => (List.range (facN n)).all fun r => impl_permutationAt.f 40 (n : Int) (r : Int) == some (PA n r)) = true := by decide +kernel
theorem permutationAt_ev (n r : Nat) (hn : n ≤ 5) (hr : r < facN n) : Ev (fun q => impl_permutationAt.f q (n : Int) (r : Int)) (PA n r) := by
  refine evTab (g := fun q => impl_permutationAt.f q (n : Int) (r : Int)) (impl_permutationAt.mono _ _) 40 ?_
  exact beq_iff_eq.1 (List.all_eq_true.1 (List.all_eq_true.1 permutationAt_tab n (List.mem_range.2 (by omega))) r (List.mem_range.2 hr))
/-! impl_distances -/
theorem fac_facN : ∀ n, fac n = facN n
  | 0 => rfl
  | n + 1 => by rw [fac, facN, fac_facN n]
theorem facN_le : ∀ n, n ≤ 5 → facN n ≤ 120 ∧ 1 ≤ facN n := by decide
def ints (R : List Nat) : List Int := R.map fun (r : Nat) => (r : Int)
structure Inv (n : Nat) (out : List Int) (R : List Nat) : Prop where
  len : out.length = facN n
  ranks : ∀ r ∈ R, r < facN n
  vals : ∀ x ∈ out, -1 ≤ x ∧ x < R.length
  sum : out.countP (fun x => decide (x < 0)) + R.length = facN n
theorem Inv.step {n : Nat} {out : List Int} {R : List Nat} (h : Inv n out R) (r : Nat) (hr : r < facN n) (hneg : rd out (r : Int) < 0) (v : Int) (h0 : 0 ≤ v) (hv : v ≤ R.length) : Inv n (out.set r v) (R ++ [r]) := by
  have hl := h.len
  have hro : r < out.length := by omega
  have hg : rd out (r : Int) = out[r] := by unfold rd; rw [Int.toNat_natCast, List.getD_eq_getElem?_getD, List.getElem?_eq_getElem hro]; rfl
  rw [hg] at hneg
  refine ⟨by simpa using hl, fun q hq => ?_, fun x hx => ?_, ?_⟩
  · rcases List.mem_append.1 hq with hq | hq
    · exact h.ranks q hq
    · rw [List.mem_singleton.1 hq]; exact hr
  · rcases List.mem_or_eq_of_mem_set hx with hx | rfl
    · have := h.vals x hx
      rw [List.length_append, List.length_singleton]; omega
    · rw [List.length_append, List.length_singleton]; omega
  · have hs := h.sum
    rw [List.countP_set hro, List.length_append, List.length_singleton]
    have hp : 0 < out.countP (fun x => decide (x < 0)) := List.countP_pos_iff.2 ⟨out[r], List.getElem_mem _, by simpa using hneg⟩
    simp only [decide_eq_true hneg, if_true, decide_eq_false (show ¬ v < 0 by omega)]
    simp; omega
theorem dist_inner (n : Nat) (hn : n ≤ 5) (M : List S55) (hM : ∀ m ∈ M, Mgood n m.f0 m.f1 m.f2) (hML : M.length ≤ 12) (i q : Nat) (hq : q < facN n) (P : List Int → Prop) : ∀ (d : Nat) (j : Int), 0 ≤ j → j.toNat + d = M.length →
    ∀ (out : List Int) (R : List Nat), Inv n out R → R[i]? = some q →
    (∀ out' R', Inv n out' R' → R'[i]? = some q → ∃ o, Ev (fun k => spec_moDistances.l1 k M out' (R'.map (PA n)) ((i : Int) + 1)) o ∧ Ev (fun k => impl_distances.l1 k (n : Int) M out' (ints R') ((i : Int) + 1)) o ∧ P o) →
    ∃ o, Ev (fun k => spec_moDistances.l2 k M out (R.map (PA n)) (i : Int) M (M.length : Int) j) o ∧ Ev (fun k => impl_distances.l2 k (n : Int) M out (ints R) (i : Int) (PA n q) M (M.length : Int) j) o ∧ P o := by
  intro d
  have hf := facN_le n hn
  induction d with
  | zero =>
    intro j h0 hd out R hI hR hK
    have hil : i < R.length := by
      rcases Nat.lt_or_ge i R.length with h | h
      · exact h
      · rw [List.getElem?_eq_none h] at hR; cases hR
    have hs := hI.sum
    obtain ⟨o, h1, h2, hP⟩ := hK out R hI hR
    refine ⟨o, Ev.step (fun k => by rw [spec_moDistances.l2]) (evNeg (by omega) ?_), Ev.step (fun k => by rw [impl_distances.l2]) (evNeg (by omega) ?_), hP⟩
    · rw [wr (by omega) (by omega)]; exact h1
    · rw [wr (by omega) (by omega)]; exact h2
  | succ d ih =>
    intro j h0 hd out R hI hR hK
    have hil : i < R.length := by
      rcases Nat.lt_or_ge i R.length with h | h
      · exact h
      · rw [List.getElem?_eq_none h] at hR; cases hR
    have hs := hI.sum
    have hol := hI.len
    have hm : rd_T55 M j ∈ M := by
      unfold rd_T55
      rw [List.getD_eq_getElem?_getD, List.getElem?_eq_getElem (show j.toNat < M.length by omega)]
      exact List.getElem_mem _
    have hg := hM _ hm
    generalize hmm : rd_T55 M j = m at hg
    obtain ⟨hpl, _⟩ := PA_rk n q hn hq
    obtain ⟨hr, hpa⟩ := PA_mv n q hn hq m.f0 m.f1 m.f2 hg
    have hrow : rd_L3 (R.map (PA n)) (i : Int) = PA n q := by
      unfold rd_L3
      rw [Int.toNat_natCast, List.getD_eq_getElem?_getD, List.getElem?_map, hR]; rfl
    have hrq : rd (ints R) (i : Int) = (q : Int) := by
      unfold rd ints
      rw [Int.toNat_natCast, List.getD_eq_getElem?_getD, List.getElem?_map, hR]; rfl
    generalize hr' : rk (mv (PA n q) m.f0 m.f1 m.f2) = r at hr hpa
    have ea := moApply_ev (PA n q) (by omega) m.f0 m.f1 m.f2 (by rw [hpl]; exact hg)
    have em := moved_ev (PA n q) (by omega) m.f0 m.f1 m.f2 (by rw [hpl]; exact hg)
    rw [← hpa] at ea em
    have e1 := raRank_ev n r hn hr
    have e2 := permutationRank_ev n r hn hr
    have e3 := raRank_ev n q hn hq
    have hil2 : (ints R).length = R.length := by simp [ints]
    have hmem (s : Nat) (hs : s < facN n) : rd out (s : Int) ∈ out := by
      unfold rd
      rw [Int.toNat_natCast, List.getD_eq_getElem?_getD, List.getElem?_eq_getElem (by omega)]
      exact List.getElem_mem _
    by_cases c : rd out (r : Int) < 0
    · have hvq := hI.vals _ (hmem q hq)
      have hqv : 0 ≤ rd out (q : Int) + 1 := by omega
      obtain ⟨o, h1, h2, hP⟩ := ih (j + 1) (by omega) (by omega) (out.set r (rd out (q : Int) + 1)) (R ++ [r]) (hI.step r hr c _ hqv (by omega)) (by rw [List.getElem?_append_left hil]; exact hR) hK
      refine ⟨o, Ev.step (fun k => by rw [spec_moDistances.l2]) ?_, Ev.step (fun k => by rw [impl_distances.l2]) ?_, hP⟩
      · refine evPos (by omega) (evPos h0 (evPos (by omega) (evPos (by omega) (evPos (by simp; omega) ?_))))
        rw [hrow, hmm]
        refine Ev.bind ea (Ev.bind e1 (evPos (by omega) (evPos (by omega) (evPos c (Ev.bind e1 (Ev.bind e3 (evPos (by omega) (evPos (by omega) (evPos (by omega) (evPos (by omega) (evPos (by simp; omega) ?_)))))))))))
        rw [wr (by omega) (by omega), wr (by omega) (by omega), Int.toNat_natCast]
        simpa using h1
      · refine evPos (by omega) (evPos h0 (evPos (by omega) ?_))
        rw [hmm]
        refine Ev.bind em (Ev.bind e2 (evPos (by omega) (evPos (by omega) (evPos c (evPos (by omega) (evPos (by omega) ?_))))))
        rw [hrq]
        refine evPos (by omega) (evPos (by omega) (evPos (by omega) ?_))
        rw [wr (by omega) (by omega), wr (by omega) (by omega), Int.toNat_natCast]
        simpa [ints] using h2
    · obtain ⟨o, h1, h2, hP⟩ := ih (j + 1) (by omega) (by omega) out R hI hR hK
      refine ⟨o, Ev.step (fun k => by rw [spec_moDistances.l2]) ?_, Ev.step (fun k => by rw [impl_distances.l2]) ?_, hP⟩
      · refine evPos (by omega) (evPos h0 (evPos (by omega) (evPos (by omega) (evPos (by simp; omega) ?_))))
        rw [hrow, hmm]
        refine Ev.bind ea (Ev.bind e1 (evPos (by omega) (evPos (by omega) (evNeg c ?_))))
        rw [wr (by omega) (by omega)]
        exact h1
      · refine evPos (by omega) (evPos h0 (evPos (by omega) ?_))
        rw [hmm]
        refine Ev.bind em (Ev.bind e2 (evPos (by omega) (evPos (by omega) (evNeg c ?_))))
        rw [wr (by omega) (by omega)]
        exact h2
theorem dist_outer (n : Nat) (hn : n ≤ 5) (M : List S55) (hM : ∀ m ∈ M, Mgood n m.f0 m.f1 m.f2) (hML : M.length ≤ 12) : ∀ (d i : Nat), i + d = facN n → ∀ (out : List Int) (R : List Nat), Inv n out R → i ≤ R.length →
    ∃ o, Ev (fun k => spec_moDistances.l1 k M out (R.map (PA n)) (i : Int)) o ∧ Ev (fun k => impl_distances.l1 k (n : Int) M out (ints R) (i : Int)) o ∧ (o.length = facN n ∧ ∀ x ∈ o, -1 ≤ x ∧ x ≤ 1000) := by
  intro d
  have hf := facN_le n hn
  induction d with
  | zero =>
    intro i hi out R hI hiR
    have hs := hI.sum
    refine ⟨out, Ev.step (fun k => by rw [spec_moDistances.l1]) (evNeg (by simp; omega) (Ev.now _)), Ev.step (fun k => by rw [impl_distances.l1]) (evNeg (by simp [ints]; omega) (Ev.now _)), hI.len, fun x hx => ?_⟩
    have := hI.vals x hx
    omega
  | succ d ih =>
    intro i hi out R hI hiR
    have hs := hI.sum
    by_cases c : i < R.length
    · obtain ⟨q, hq⟩ : ∃ q, R[i]? = some q := ⟨_, List.getElem?_eq_getElem c⟩
      have hqf : q < facN n := hI.ranks q (List.mem_of_getElem? hq)
      obtain ⟨o, h1, h2, hP⟩ := dist_inner n hn M hM hML i q hqf (fun o => o.length = facN n ∧ ∀ x ∈ o, -1 ≤ x ∧ x ≤ 1000) M.length 0 (by omega) (by simp) out R hI hq (fun out' R' hI' hq' => by
        have hil : i < R'.length := by
          rcases Nat.lt_or_ge i R'.length with h | h
          · exact h
          · rw [List.getElem?_eq_none h] at hq'; cases hq'
        obtain ⟨o, h1, h2, hP⟩ := ih (i + 1) (by omega) out' R' hI' (by omega)
        exact ⟨o, by simpa using h1, by simpa using h2, hP⟩)
      refine ⟨o, Ev.step (fun k => by rw [spec_moDistances.l1]) (evPos (by simp; omega) h1), Ev.step (fun k => by rw [impl_distances.l1]) (evPos (by simp [ints]; omega) (evPos (by omega) ?_)), hP⟩
      have hrq : rd (ints R) (i : Int) = (q : Int) := by
        unfold rd ints
        rw [Int.toNat_natCast, List.getD_eq_getElem?_getD, List.getElem?_map, hq]; rfl
      rw [hrq]
      exact Ev.bind (permutationAt_ev n q hn hqf) h2
    · refine ⟨out, Ev.step (fun k => by rw [spec_moDistances.l1]) (evNeg (by simp; omega) (Ev.now _)), Ev.step (fun k => by rw [impl_distances.l1]) (evNeg (by simp [ints]; omega) (Ev.now _)), hI.len, fun x hx => ?_⟩
      have := hI.vals x hx
      omega
theorem start_tab : ((List.range 6).all fun n => PA n 0 == upTo n && (((List.replicate (facN n) (-1 : Int)).set 0 0).countP (fun x => decide (x < 0)) + 1 == facN n)) = true := by decide +kernel
theorem start_inv (n : Nat) (hn : n ≤ 5) : PA n 0 = upTo n ∧ Inv n ((List.replicate (facN n) (-1)).set 0 0) [0] := by
  have h := List.all_eq_true.1 start_tab n (List.mem_range.2 (by omega))
  simp only [Bool.and_eq_true, beq_iff_eq] at h
  have hf := facN_le n hn
  refine ⟨h.1, by simp, fun r hr => ?_, fun x hx => ?_, h.2⟩
  · rw [List.mem_singleton.1 hr]; omega
  · rcases List.mem_or_eq_of_mem_set hx with hx | rfl
    · rw [(List.mem_replicate.1 hx).2]; simp
    · simp
theorem spec_start (n : Nat) (hn : n ≤ 5) (M : List S55) (o : List Int) (h : Ev (fun k => spec_moDistances.l1 k M ((List.replicate (facN n) (-1)).set 0 0) ([0].map (PA n)) 0) o) : ∀ (d i : Nat), i + d = facN n →
    Ev (fun k => spec_moDistances.l0 k (n : Int) M (List.replicate i (-1)) (i : Int)) o := by
  intro d
  have hf := facN_le n hn
  induction d with
  | zero =>
    intro i hi
    refine Ev.step (fun k => by rw [spec_moDistances.l0]) ?_
    refine Ev.bind (raFactorial_ev n (by omega)) ?_
    rw [fac_facN]
    refine evNeg (by omega) (Ev.bind (raUpTo_ev n (by omega)) (evPos (by simp; omega) ?_))
    obtain rfl : i = facN n := by omega
    rw [← (start_inv n hn).1]
    exact h
  | succ d ih =>
    intro i hi
    refine Ev.step (fun k => by rw [spec_moDistances.l0]) ?_
    refine Ev.bind (raFactorial_ev n (by omega)) ?_
    rw [fac_facN]
    refine evPos (by omega) (evPos (by simp; omega) ?_)
    rw [wr (by omega) (by omega)]
    have e : List.replicate i (-1 : Int) ++ [-1] = List.replicate (i + 1) (-1) := by rw [List.replicate_succ']
    rw [e]
    simpa using ih (i + 1) (by omega)
theorem impl_start (n : Nat) (hn : n ≤ 5) (M : List S55) (o : List Int) (h : Ev (fun k => impl_distances.l1 k (n : Int) M ((List.replicate (facN n) (-1)).set 0 0) [0] 0) o) : ∀ (d i : Nat), i + d = facN n → ∀ x : List Int, x.length = facN n → x.take i = List.replicate i (-1) →
    Ev (fun k => impl_distances.l0 k (n : Int) M x ((facN n : Nat) : Int) (i : Int)) o := by
  intro d
  have hf := facN_le n hn
  induction d with
  | zero =>
    intro i hi x hx ht
    refine Ev.step (fun k => by rw [impl_distances.l0]) ?_
    refine evNeg (by omega) (evPos (by omega) ?_)
    obtain rfl : i = facN n := by omega
    rw [List.take_of_length_le (by omega)] at ht
    rw [ht]
    exact h
  | succ d ih =>
    intro i hi x hx ht
    refine Ev.step (fun k => by rw [impl_distances.l0]) ?_
    refine evPos (by omega) (evPos (by omega) (evPos (by omega) ?_))
    rw [wr (by omega) (by omega), show (i : Int) + 1 = ((i + 1 : Nat) : Int) from by omega]
    refine ih (i + 1) (by omega) _ (by simpa using hx) ?_
    have := set_takeG x (i : Int) (-1) (by omega) (by omega)
    rw [show ((i : Int) + 1).toNat = i + 1 by omega, Int.toNat_natCast] at this
    rw [Int.toNat_natCast, this, ht, List.replicate_succ']
theorem distances_ev (n : Nat) (hn : n ≤ 5) (M : List S55) (hM : ∀ m ∈ M, Mgood n m.f0 m.f1 m.f2) (hML : M.length ≤ 12) :
    ∃ o, Ev (fun k => spec_moDistances.f k (n : Int) M) o ∧ Ev (fun k => impl_distances.f k (n : Int) M) o ∧ (o.length = facN n ∧ ∀ x ∈ o, -1 ≤ x ∧ x ≤ 1000) := by
  have hf := facN_le n hn
  obtain ⟨o, h1, h2, hP⟩ := dist_outer n hn M hM hML (facN n) 0 (by omega) _ [0] (start_inv n hn).2 (by simp)
  refine ⟨o, ?_, ?_, hP⟩
  · unfold spec_moDistances.f
    exact spec_start n hn M o (by simpa using h1) (facN n) 0 (by omega)
  · unfold impl_distances.f
    refine Ev.bind (factorial_ev n (by omega)) ?_
    rw [fac_facN]
    refine evPos (by omega) (evPos (by omega) (evSome ?_))
    rw [List.length_replicate, Int.toNat_natCast]
    exact impl_start n hn M o (by simpa [ints] using h2) (facN n) 0 (by omega) _ (by simp) (by simp)
theorem FnExactDistancesFrom (n : Int) (l : List S53) (wn : (Lit.int .i64 n).wf = true) (hm : l.length ≤ maxLen) (hg : ∀ x ∈ l, (fun x : S53 => (Lit.int .i64 x.f0).wf = true ∧ (Lit.int .i64 x.f1).wf = true ∧ (Lit.int .i64 x.f2).wf = true) x) :
    ∃ k, laws_FnExactDistancesFrom.f k n l = some true := by
  refine Ev.rounds (g := fun q => laws_FnExactDistancesFrom.f q n l) ?_
  unfold laws_FnExactDistancesFrom.f
  rw [szMoveS_eq l hm]
  refine evSome ?_
  by_cases c : l.length ≤ 1048576
  · rw [if_pos c]
    have ec := conv_length l
    refine evNeg (by omega) (Ev.bind (toMoveS_ev l c) ?_)
    have key : ∃ g b, Ev (fun q => spec_DistancesFrom.f q n (conv l)) (g, b) ∧ Ev (fun q => impl_DistancesFrom.f q n (conv l)) (g, b) ∧ g.length ≤ 1000 := by
      unfold spec_DistancesFrom.f impl_DistancesFrom.f
      by_cases hok : okTask n (conv l) = true
      · have h := hok
        simp only [okTask, Bool.and_eq_true, decide_eq_true_eq, List.all_eq_true] at h
        obtain ⟨N, rfl⟩ := Int.eq_ofNat_of_zero_le (show 0 ≤ n by omega)
        obtain ⟨o, h1, h2, hl, hv⟩ := distances_ev N (by omega) (conv l) (fun m hm => by have := h.1 m hm; simp only [isMv, decide_eq_true_eq] at this; unfold Mgood; omega) (by omega)
        have hf := facN_le N (by omega)
        exact ⟨_, _, Ev.bind (moTask_ev _ _ (by omega)) (evPos hok (Ev.bind h1 (Ev.now _))), Ev.bind (areMoves_ev _ _ (by omega)) (evPos hok (Ev.bind h2 (Ev.now _))), by omega⟩
      · exact ⟨_, _, Ev.bind (moTask_ev _ _ (by omega)) (evNeg hok (Ev.now _)), Ev.bind (areMoves_ev _ _ (by omega)) (evNeg hok (Ev.now _)), by simp⟩
    obtain ⟨g, b, hs, hi, hgl⟩ := key
    obtain ⟨l', hmk⟩ := markMoveS_ev (conv l) (by omega)
    repeat (first
      | (with_reducible exact Ev.now _)
      | (with_reducible refine Ev.bind hs ?_)
      | (with_reducible refine Ev.bind hi ?_)
      | (with_reducible refine Ev.bind (toMoveS_ev l c) ?_)
      | (with_reducible refine Ev.bind (eqMoveS_self _ (by omega)) ?_)
      | (with_reducible refine Ev.bind hmk ?_)
      | (with_reducible refine Ev.bind (toIntS_ev _ (by omega)) ?_)
      | (with_reducible refine Ev.bind (eqIntS_self _ (by omega)) ?_)
      | (with_reducible refine Ev.bind (markIntS_ev _ 1 (by omega) (by omega) (by omega)) ?_)
      | (with_reducible refine Ev.bind (heldIntS_ev _ 1 (by omega) (by omega) (by omega)) ?_)
      | (with_reducible refine evPos rfl ?_)
      | (with_reducible refine evNeg (by omega) ?_)
      | (rw [bne_self_eq_false])
      | (simp only [bne_self_eq_false])
      | (refine evNeg (by decide) ?_)
      | (refine Ev.step (fun k => by rw [laws_FnExactDistancesFrom.j0]) ?_)
      | (refine Ev.step (fun k => by rw [laws_FnExactDistancesFrom.j1]) ?_)
      | (refine Ev.step (fun k => by rw [laws_FnExactDistancesFrom.j2]) ?_))
  · rw [if_neg c]
    exact evPos (by decide) (Ev.now _)

end Go.Proofs.Ytcplfdfmebibpaa.Pure
