/- The pure statement of FnExactIsRoundExchange: for all arguments that fit, the law as a Lean function answers true after enough rounds. -/
import Derived.Test.YtelajnmnbmamhaaMFnExactIsRoundExchangex1
import Derived.Test.YtelajnmnbmamhaaMFnExactIsRoundExchangex2
import Derived.Test.YtelajnmnbmamhaaMFnExactIsRoundExchangex3
import Derived.Test.YtelajnmnbmamhaaMFnExactIsRoundExchangex4
import Derived.Test.YtelajnmnbmamhaaMFnExactIsRoundExchangex5
import Derived.Test.YtelajnmnbmamhaaMFnExactIsRoundExchangex6
import Derived.Test.YtelajnmnbmamhaaMFnExactIsRoundExchangex7
import Derived.Test.YtelajnmnbmamhaaMFnExactIsRoundExchangex8
import Derived.Test.YtelajnmnbmamhaaBase
import Derived.Test.YtelajnmnbmamhaaComb
import Derived.Test.YtelajnmnbmamhaaGoes
namespace Go.Proofs.Ytelajnmnbmamhaa.Pure
open Go.RowKit Go.Proofs.Ytelajnmnbmamhaa.MFnExactIsRoundExchange Go.Proofs.YtelajnmnbmamhaaW.PrintWords Go.Proofs.YtelajnmnbmamhaaW.PrintLast Go.Proofs.Ytelajnmnbmamhaa.Base Go.Proofs.Ytelajnmnbmamhaa.Comb Go.Proofs.Ytelajnmnbmamhaa.Goes
set_option linter.unusedVariables false
set_option linter.unusedSimpArgs false

/-! laws_szIntSS -/
theorem szIntSS_l0 (L : List (List Int)) (hL : L.length ≤ 1048576) (hl : ∀ t ∈ L, t.length ≤ maxLen) : ∀ (d : Nat) (j left : Int), 0 ≤ j → j.toNat + d = L.length → 0 ≤ left → left ≤ 1048576 →
    ∃ s, Ev (fun k => laws_szIntSS.l0 k L left j) s ∧ (s < 0 ∨ (0 ≤ s ∧ s = left - sumLen (L.drop j.toNat) ∧ ∀ t ∈ L.drop j.toNat, t.length ≤ 1048576)) := by
  have hm : maxLen = 9223372036854775807 := rfl
  intro d
  induction d with
  | zero =>
    intro j left h0 hd h1 h2
    refine ⟨left, Ev.step (fun k => by rw [laws_szIntSS.l0]) (evNeg (by omega) (Ev.now _)), .inr ⟨h1, ?_, ?_⟩⟩
    · rw [drop_end L j (by omega)]; simp [sumLen]
    · rw [drop_end L j (by omega)]; simp
  | succ d ih =>
    intro j left h0 hd h1 h2
    have hj : j.toNat < L.length := by omega
    have e : rd_L1 L j = L[j.toNat] := by unfold rd_L1; rw [List.getD_eq_getElem?_getD, List.getElem?_eq_getElem hj]; rfl
    have ht := hl _ (List.getElem_mem hj)
    have ed : L.drop j.toNat = L[j.toNat] :: L.drop (j + 1).toNat := by
      rw [show (j + 1).toNat = j.toNat + 1 from by omega]; exact List.drop_eq_getElem_cons hj
    by_cases c : left - (L[j.toNat].length : Int) < 0
    · refine ⟨-1, Ev.step (fun k => by rw [laws_szIntSS.l0]) (evPos (by omega) (evPos h0 ?_)), .inl (by decide)⟩
      unfold laws_szIntS.f
      rw [e, wr (by omega) (by omega), if_pos c]
      exact evSome (evPos (by decide) (Ev.now _))
    · obtain ⟨s, hs, hr⟩ := ih (j + 1) (left - (L[j.toNat].length : Int)) (by omega) (by omega) (by omega) (by omega)
      refine ⟨s, Ev.step (fun k => by rw [laws_szIntSS.l0]) (evPos (by omega) (evPos h0 ?_)), ?_⟩
      · unfold laws_szIntS.f
        rw [e, wr (by omega) (by omega), if_neg c, wr (by omega) (by omega)]
        exact evSome (evNeg c hs)
      · rcases hr with hr | ⟨r1, r2, r3⟩
        · exact .inl hr
        · refine .inr ⟨r1, ?_, ?_⟩
          · rw [ed, sumLen, r2]; omega
          · rw [ed]
            intro t ht'
            rcases List.mem_cons.1 ht' with rfl | ht'
            · omega
            · exact r3 t ht'
theorem szIntSS_ev (L : List (List Int)) (hL : L.length ≤ maxLen) (hl : ∀ t ∈ L, t.length ≤ maxLen) :
    ∃ s, Ev (fun k => laws_szIntSS.f k L 1048576) s ∧ (s < 0 ∨ (0 ≤ s ∧ s = 1048576 - (L.length : Int) - sumLen L ∧ L.length ≤ 1048576 ∧ ∀ t ∈ L, t.length ≤ 1048576)) := by
  have hm : maxLen = 9223372036854775807 := rfl
  unfold laws_szIntSS.f
  rw [wr (by omega) (by omega)]
  by_cases c : 1048576 - (L.length : Int) < 0
  · exact ⟨-1, evPos c (Ev.now _), .inl (by decide)⟩
  · obtain ⟨s, h1, h2⟩ := szIntSS_l0 L (by omega) hl L.length 0 (1048576 - (L.length : Int)) (by omega) (by simp) (by omega) (by omega)
    refine ⟨s, evNeg c h1, ?_⟩
    rcases h2 with h2 | ⟨r1, r2, r3⟩
    · exact .inl h2
    · exact .inr ⟨r1, by simpa using r2, by omega, by simpa using r3⟩
/-! laws_toIntS -/
theorem toIntS_l0 (x0 : List Int) (hn : x0.length ≤ 35184372088832) : ∀ (d : Nat) (x3 : List Int) (j : Int), 0 ≤ j → j.toNat + d = x0.length → x3.length = x0.length → x3.take j.toNat = x0.take j.toNat →
    Ev (fun k => laws_toIntS.l0 k x0 x3 j) x0 := by
  intro d
  induction d with
  | zero =>
    intro x3 j h0 hd hl ht
    refine Ev.step (fun k => by rw [laws_toIntS.l0]) ?_
    refine evNeg (by omega) ?_
    rw [take_end x0 j (by omega), take_end x3 j (by omega)] at ht
    exact evEq ht
  | succ d ih =>
    intro x3 j h0 hd hl ht
    refine Ev.step (fun k => by rw [laws_toIntS.l0]) ?_
    refine evPos (by omega) (evPos (by omega) (evPos (by omega) ?_))
    rw [wr (by omega) (by omega)]
    refine ih _ _ (by omega) (by omega) (by simpa using hl) ?_
    rw [set_takeI x3 j _ h0 (by omega), take_rd x0 j h0 (by omega), ht]
theorem toIntS_ev (l : List Int) (hn : l.length ≤ 35184372088832) : Ev (fun k => laws_toIntS.f k l) l := by
  unfold laws_toIntS.f
  refine evPos (by omega) (evPos (by simpa using hn) ?_)
  exact toIntS_l0 l hn l.length _ 0 (by omega) (by simp) (by simp) (by simp)
/-! laws_toIntSS -/
theorem toIntSS_l0 (L : List (List Int)) (hL : L.length ≤ 1048576) (hl : ∀ t ∈ L, t.length ≤ 1048576) : ∀ (d : Nat) (X : List (List Int)) (j : Int), 0 ≤ j → j.toNat + d = L.length → X.length = L.length → X.take j.toNat = L.take j.toNat →
    Ev (fun k => laws_toIntSS.l0 k L X j) L := by
  intro d
  induction d with
  | zero =>
    intro X j h0 hd hX ht
    refine Ev.step (fun k => by rw [laws_toIntSS.l0]) ?_
    refine evNeg (by omega) ?_
    rw [take_end L j (by omega), take_end X j (by omega)] at ht
    exact evEq ht
  | succ d ih =>
    intro X j h0 hd hX ht
    have hj : j.toNat < L.length := by omega
    have e : rd_L1 L j = L[j.toNat] := by unfold rd_L1; rw [List.getD_eq_getElem?_getD, List.getElem?_eq_getElem hj]; rfl
    refine Ev.step (fun k => by rw [laws_toIntSS.l0]) ?_
    refine evPos (by omega) (evPos h0 ?_)
    rw [e, wr (by omega) (by omega)]
    refine Ev.bind (toIntS_ev _ (by have := hl _ (List.getElem_mem hj); omega)) (evPos (by omega) ?_)
    refine ih _ _ (by omega) (by omega) (by simpa using hX) ?_
    have hx : j.toNat < X.length := by omega
    rw [show (j + 1).toNat = j.toNat + 1 from by omega, List.take_succ_eq_append_getElem (by simpa using hx), List.take_succ_eq_append_getElem hj]
    simp [List.take_set_of_le, ht]
theorem toIntSS_ev (L : List (List Int)) (hL : L.length ≤ 1048576) (hl : ∀ t ∈ L, t.length ≤ 1048576) : Ev (fun k => laws_toIntSS.f k L) L := by
  unfold laws_toIntSS.f
  refine evPos (by omega) (evPos (by simp; omega) ?_)
  exact toIntSS_l0 L hL hl L.length _ 0 (by omega) (by simp) (by simp) (by simp)
/-! laws_eqIntS -/
theorem eqIntS_l0 (a b : List Int) (hn : a.length ≤ 35184372088832) (hb : a.length = b.length) : ∀ (d : Nat) (j : Int), 0 ≤ j → j.toNat + d = a.length →
    Ev (fun k => laws_eqIntS.l0 k a b j) (decide (a.drop j.toNat = b.drop j.toNat)) := by
  intro d
  induction d with
  | zero =>
    intro j h0 hd
    refine Ev.step (fun k => by rw [laws_eqIntS.l0]) ?_
    refine evNeg (by omega) ?_
    rw [drop_end a j (by omega), drop_end b j (by omega)]
    exact evEq rfl
  | succ d ih =>
    intro j h0 hd
    refine Ev.step (fun k => by rw [laws_eqIntS.l0]) ?_
    refine evPos (by omega) (evPos (by omega) (evPos (by omega) ?_))
    rw [wr (by omega) (by omega), drop_rd a j h0 (by omega), drop_rd b j h0 (by omega)]
    by_cases c : rd a j = rd b j
    · refine evPos c (evTo (ih _ (by omega) (by omega)) ?_)
      simp [c]
    · refine evNeg c (evEq ?_)
      simp [c]
theorem eqIntS_ev (a b : List Int) (hn : a.length ≤ 35184372088832) : Ev (fun k => laws_eqIntS.f k a b) (decide (a = b)) := by
  unfold laws_eqIntS.f
  by_cases hb : a.length = b.length
  · exact evPos (by omega) (eqIntS_l0 a b hn hb a.length 0 (by omega) (by simp))
  · refine evNeg (by omega) (evEq ?_)
    exact (decide_eq_false (fun e => hb (by rw [e]))).symm
theorem eqIntS_self (a : List Int) (hn : a.length ≤ 35184372088832) : Ev (fun k => laws_eqIntS.f k a a) true := evTo (eqIntS_ev a a hn) (by simp)
/-! laws_eqIntSS -/
theorem eqIntSS_self (L : List (List Int)) (hn : L.length ≤ 1000000000) (hl : ∀ t ∈ L, t.length ≤ 35184372088832) : Ev (fun k => laws_eqIntSS.f k L L) true := by
  have key : ∀ (d : Nat) (j : Int), 0 ≤ j → j.toNat + d = L.length → Ev (fun k => laws_eqIntSS.l0 k L L j) true := by
    intro d
    induction d with
    | zero =>
      intro j h0 hd
      refine Ev.step (fun k => by rw [laws_eqIntSS.l0]) ?_
      exact evNeg (by omega) (Ev.now _)
    | succ d ih =>
      intro j h0 hd
      refine Ev.step (fun k => by rw [laws_eqIntSS.l0]) ?_
      have hm : rd_L1 L j ∈ L := by
        unfold rd_L1
        rw [List.getD_eq_getElem?_getD, List.getElem?_eq_getElem (show j.toNat < L.length by omega)]
        exact List.getElem_mem _
      refine evPos (by omega) (evPos (by omega) (evPos (by omega) (Ev.bind (eqIntS_self _ (hl _ hm)) (evPos rfl ?_))))
      rw [wr (by omega) (by omega)]
      exact ih _ (by omega) (by omega)
  unfold laws_eqIntSS.f
  exact evPos rfl (key L.length 0 (by omega) (by simp))
/-! spec_l1In -/
theorem l1In_eq (x a b : Int) : spec_l1In.f x a b = some (decide (a ≤ x ∧ x ≤ b)) := by
  unfold spec_l1In.f
  by_cases h : x ≥ a
  · rw [if_pos h]; have h' : a ≤ x := h; simp [h']
  · rw [if_neg h]; have h' : ¬ a ≤ x := h; simp [h']
/-! spec_raItems -/
theorem raItems_eq (x : Int) : spec_raItems.f x = some (decide (0 ≤ x ∧ x ≤ 12)) := by
  unfold spec_raItems.f; rw [l1In_eq]; rfl
/-! spec_l1Rising -/
theorem l1Rising_l0 (xs : List Int) (a b : Int) (hn : xs.length ≤ 35184372088832) : ∀ (d : Nat) (j : Int), 1 ≤ j → j.toNat + d = xs.length →
    Ev (fun k => spec_l1Rising.l0 k xs a b xs (xs.length : Int) j) (((xs.drop j.toNat).all fun x => decide (a ≤ x ∧ x ≤ b)) && incrFrom (rd xs (j - 1) + 1) (xs.drop j.toNat)) := by
  intro d
  induction d with
  | zero =>
    intro j h0 hd
    refine Ev.step (fun k => by rw [spec_l1Rising.l0]) ?_
    refine evNeg (by omega) (evEq ?_)
    rw [drop_end _ _ (by omega)]; rfl
  | succ d ih =>
    intro j h0 hd
    refine Ev.step (fun k => by rw [spec_l1Rising.l0]) ?_
    rw [wr (x := j - 1) (by omega) (by omega), wr (x := j + 1) (by omega) (by omega), drop_rd xs j (by omega) (by omega)]
    simp only [l1In_eq, Option.bind_some, List.all_cons, incrFrom]
    refine evPos (by omega) (evPos (by omega) (evPos (by omega) ?_))
    by_cases c1 : a ≤ rd xs j ∧ rd xs j ≤ b
    · refine evPos (by simpa using c1) (evPos (by omega) (evPos (by omega) (evPos (by omega) ?_)))
      rw [decide_eq_true c1, Bool.true_and]
      by_cases c : rd xs (j - 1) ≥ rd xs j
      · refine evPos c (evEq ?_)
        rw [decide_eq_false (show ¬ (rd xs (j - 1) + 1 ≤ rd xs j) by omega)]; simp
      · refine evNeg c (evTo (ih (j + 1) (by omega) (by omega)) ?_)
        rw [decide_eq_true (show rd xs (j - 1) + 1 ≤ rd xs j by omega), Bool.true_and, show j + 1 - 1 = j from by omega]
    · refine evNeg (by simpa using c1) (evEq ?_)
      rw [decide_eq_false c1]; rfl
theorem l1Rising_ev (xs : List Int) (a b : Int) (hn : xs.length ≤ 35184372088832) : Ev (fun k => spec_l1Rising.f k xs a b) ((xs.all fun x => decide (a ≤ x ∧ x ≤ b)) && incr xs) := by
  unfold spec_l1Rising.f
  cases xs with
  | nil =>
    refine Ev.step (fun k => by rw [spec_l1Rising.l0]) ?_
    exact evNeg (by simp) (Ev.now _)
  | cons x t =>
    refine Ev.step (fun k => by rw [spec_l1Rising.l0]) ?_
    simp only [l1In_eq, Option.bind_some]
    refine evPos (by simp) (evPos (by omega) (evPos (by simp) ?_))
    have hx : rd (x :: t) 0 = x := rfl
    rw [hx]
    by_cases c1 : a ≤ x ∧ x ≤ b
    · refine evPos (by simpa using c1) (evNeg (by omega) ?_)
      rw [wr (by omega) (by omega)]
      refine evTo (l1Rising_l0 (x :: t) a b hn t.length 1 (by omega) (by simp; omega)) ?_
      rw [List.all_cons, decide_eq_true c1, Bool.true_and]
      simp [incr, rd]
    · refine evNeg (by simpa using c1) (evEq ?_)
      rw [List.all_cons, decide_eq_false c1]; rfl
/-! spec_raCombination -/
theorem raCombination_ev (n : Int) (l : List Int) (hn : l.length ≤ 35184372088832) : Ev (fun k => spec_raCombination.f k n l) (isComb n l) := by
  unfold spec_raCombination.f
  simp only [raItems_eq, Option.bind_some]
  by_cases h : 0 ≤ n ∧ n ≤ 12
  · refine evPos (by simpa using h) ?_
    rw [wr (by omega) (by omega), isComb, decide_eq_true h, Bool.true_and]
    by_cases c : (l.length : Int) ≤ n
    · refine evPos c (Ev.bind (l1Rising_ev l 0 (n - 1) hn) (evEq ?_))
      rw [comb_all]
    · refine evNeg c (evEq ?_)
      symm
      rw [Bool.eq_false_iff]
      intro hc
      obtain ⟨m, rfl⟩ := Int.eq_ofNat_of_zero_le h.1
      have := comb_length hc
      omega
  · refine evNeg (by simpa using h) (evEq ?_)
    rw [isComb, decide_eq_false h, Bool.false_and]
/-! spec_chLists -/
/-- Lists are combinations of n, not too many. -/
def okCombs (n : Int) (L : List (List Int)) : Bool := (L.all fun l => isComb n l) && (decide (0 ≤ n ∧ n ≤ 12) && decide ((L.length : Int) ≤ 1100))
theorem okCombs_parts {n : Int} {L : List (List Int)} (h : okCombs n L = true) : 0 ≤ n ∧ n ≤ 12 ∧ L.length ≤ 1100 ∧ ∀ t ∈ L, comb n t = true := by
  simp only [okCombs, Bool.and_eq_true, decide_eq_true_eq, List.all_eq_true] at h
  exact ⟨h.2.1.1, h.2.1.2, by omega, fun t ht => (isComb_parts (h.1 t ht)).2.2⟩
theorem chLists_l0 (n : Int) (L : List (List Int)) (hL : L.length ≤ 1048576) (hl : ∀ t ∈ L, t.length ≤ 1048576) : ∀ (d : Nat) (j : Int), 0 ≤ j → j.toNat + d = L.length →
    Ev (fun k => spec_chLists.l0 k n L L (L.length : Int) j) (((L.drop j.toNat).all fun l => isComb n l) && (decide (0 ≤ n ∧ n ≤ 12) && decide ((L.length : Int) ≤ 1100))) := by
  intro d
  induction d with
  | zero =>
    intro j h0 hd
    refine Ev.step (fun k => by rw [spec_chLists.l0]) ?_
    refine evNeg (by omega) ?_
    rw [drop_end L j (by omega), raItems_eq, Option.bind_some, List.all_nil, Bool.true_and]
    by_cases c : 0 ≤ n ∧ n ≤ 12
    · rw [decide_eq_true c]; exact evPos rfl (evEq (by simp))
    · rw [decide_eq_false c]; exact evNeg (by simp) (evEq (by simp))
  | succ d ih =>
    intro j h0 hd
    have hj : j.toNat < L.length := by omega
    have e : rd_L1 L j = L[j.toNat] := by unfold rd_L1; rw [List.getD_eq_getElem?_getD, List.getElem?_eq_getElem hj]; rfl
    have ed : L.drop j.toNat = L[j.toNat] :: L.drop (j + 1).toNat := by
      rw [show (j + 1).toNat = j.toNat + 1 from by omega]; exact List.drop_eq_getElem_cons hj
    refine Ev.step (fun k => by rw [spec_chLists.l0]) ?_
    refine evPos (by omega) (evPos h0 (evPos (by omega) ?_))
    rw [e, wr (by omega) (by omega), ed, List.all_cons]
    refine Ev.bind (raCombination_ev n _ (by have := hl _ (List.getElem_mem hj); omega)) ?_
    by_cases c2 : isComb n L[j.toNat] = true
    · refine evPos c2 (evTo (ih (j + 1) (by omega) (by omega)) ?_)
      rw [c2]; simp
    · refine evNeg c2 (evEq ?_)
      simp only [Bool.not_eq_true] at c2
      rw [c2]; simp
theorem chLists_ev (n : Int) (L : List (List Int)) (hL : L.length ≤ 1048576) (hl : ∀ t ∈ L, t.length ≤ 1048576) : Ev (fun k => spec_chLists.f k n L) (okCombs n L) := by
  unfold spec_chLists.f
  exact evTo (chLists_l0 n L hL hl L.length 0 (by omega) (by simp)) (by simp [okCombs])
/-! spec_chSize -/
theorem chSize_eq (n k : Int) : spec_chSize.f n k = some (decide (0 ≤ n ∧ n ≤ 12 ∧ 0 ≤ k ∧ k ≤ n)) := by
  unfold spec_chSize.f
  simp only [raItems_eq, l1In_eq, Option.bind_some]
  by_cases h : 0 ≤ n ∧ n ≤ 12
  · rw [if_pos (by simpa using h)]; simp [h]
  · rw [if_neg (by simpa using h)]; congr 1; exact (decide_eq_false (by omega)).symm
/-! spec_l1Same -/
theorem l1Same_l0 (a b : List Int) (hn : a.length ≤ 35184372088832) (hb : a.length = b.length) : ∀ (d : Nat) (j : Int), 0 ≤ j → j.toNat + d = a.length →
    Ev (fun k => spec_l1Same.l0 k a b (a.length : Int) j) (decide (a.drop j.toNat = b.drop j.toNat)) := by
  intro d
  induction d with
  | zero =>
    intro j h0 hd
    refine Ev.step (fun k => by rw [spec_l1Same.l0]) ?_
    refine evNeg (by omega) ?_
    rw [drop_end a j (by omega), drop_end b j (by omega)]
    exact evEq rfl
  | succ d ih =>
    intro j h0 hd
    refine Ev.step (fun k => by rw [spec_l1Same.l0]) ?_
    refine evPos (by omega) (evPos (by omega) (evPos (by omega) (evPos (by omega) ?_)))
    rw [wr (by omega) (by omega), drop_rd a j h0 (by omega), drop_rd b j h0 (by omega)]
    by_cases c : rd a j = rd b j
    · refine evPos c (evTo (ih _ (by omega) (by omega)) ?_)
      simp [c]
    · refine evNeg c (evEq ?_)
      simp [c]
theorem l1Same_ev (a b : List Int) (hn : a.length ≤ 35184372088832) : Ev (fun k => spec_l1Same.f k a b) (decide (a = b)) := by
  unfold spec_l1Same.f
  by_cases hb : a.length = b.length
  · exact evPos (by omega) (l1Same_l0 a b hn hb a.length 0 (by omega) (by simp))
  · refine evNeg (by omega) (evEq ?_)
    exact (decide_eq_false (fun e => hb (by rw [e]))).symm
/-! spec_raPlace -/
theorem raPlace_l0 (l : List Int) (L : List (List Int)) (hL : L.length ≤ 1000000000) (hl : ∀ t ∈ L, t.length ≤ 35184372088832) : ∀ (d : Nat) (j : Int), 0 ≤ j → j.toNat + d = L.length →
    Ev (fun k => spec_raPlace.l0 k l L (L.length : Int) j) (placeI l j (L.drop j.toNat)) := by
  intro d
  induction d with
  | zero =>
    intro j h0 hd
    refine Ev.step (fun k => by rw [spec_raPlace.l0]) ?_
    refine evNeg (by omega) ?_
    rw [drop_end L j (by omega)]
    exact evEq rfl
  | succ d ih =>
    intro j h0 hd
    refine Ev.step (fun k => by rw [spec_raPlace.l0]) ?_
    have hm : rd_L1 L j ∈ L := by
      unfold rd_L1
      rw [List.getD_eq_getElem?_getD, List.getElem?_eq_getElem (show j.toNat < L.length by omega)]
      exact List.getElem_mem _
    refine evPos (by omega) (evPos (by omega) (evPos (by omega) (Ev.bind (l1Same_ev _ l (hl _ hm)) ?_)))
    have hcons : L.drop j.toNat = rd_L1 L j :: L.drop (j + 1).toNat := dropD [] L j h0 (by omega)
    rw [wr (by omega) (by omega), hcons, placeI]
    by_cases c : rd_L1 L j = l
    · rw [if_pos c]; exact evPos (decide_eq_true c) (Ev.now _)
    · rw [if_neg c]; exact evNeg (by simpa using c) (ih _ (by omega) (by omega))
theorem raPlace_ev (L : List (List Int)) (l : List Int) (hL : L.length ≤ 1000000000) (hl : ∀ t ∈ L, t.length ≤ 35184372088832) : Ev (fun k => spec_raPlace.f k L l) (placeI l 0 L) := by
  unfold spec_raPlace.f
  exact evTo (raPlace_l0 l L hL hl L.length 0 (by omega) (by simp)) (by simp)
/-! spec_raAll -/
theorem raAll_l1 (n K x : Int) (B : Nat) (hB : B ≤ 1000000000) (ts : List (List Int)) (hts : ts.length ≤ 4096) (htl : ∀ t ∈ ts, t.length ≤ 12) (R : List (List Int))
    (H : ∀ out : List (List Int), out.length ≤ B → Ev (fun q => spec_raAll.l0 q n K out (x + 1)) (out ++ R)) (hx0 : 0 ≤ x) (hx : x < 12) :
    ∀ (d : Nat) (out : List (List Int)) (j : Int), 0 ≤ j → j.toNat + d = ts.length → out.length + d ≤ B →
      Ev (fun q => spec_raAll.l1 q n K out x ts (ts.length : Int) j) (out ++ (ts.drop j.toNat).map (x :: ·) ++ R) := by
  intro d
  induction d with
  | zero =>
    intro out j h0 hd ho
    refine Ev.step (fun q => by rw [spec_raAll.l1]) ?_
    refine evNeg (by omega) ?_
    rw [wr (by omega) (by omega), drop_end _ _ (by omega)]
    simpa using H out (by omega)
  | succ d ih =>
    intro out j h0 hd ho
    refine Ev.step (fun q => by rw [spec_raAll.l1]) ?_
    refine evPos (by omega) (evPos (by omega) (evPos (by omega) (evSome ?_)))
    have hm : rd_L1 ts j ∈ ts := by
      unfold rd_L1
      rw [List.getD_eq_getElem?_getD, List.getElem?_eq_getElem (show j.toNat < ts.length by omega)]
      exact List.getElem_mem _
    have := htl _ hm
    refine evPos (by simp; omega) (evPos (by omega) ?_)
    rw [wr (by omega) (by omega)]
    refine evTo (ih (out ++ [[x] ++ rd_L1 ts j]) (j + 1) (by omega) (by omega) (by simp; omega)) ?_
    rw [dropD [] ts j h0 (by omega)]
    simp [rd_L1]
theorem raAll_ev (n : Int) (hn0 : 0 ≤ n) (hn : n ≤ 12) : ∀ (kk : Nat) (m : Nat) (x : Int), kk ≤ 12 → 0 ≤ x → x + m = n →
    Ev (fun q => spec_raAll.f q n (kk : Int) x) (lexC m kk x) := by
  intro kk
  induction kk with
  | zero =>
    intro m x _ h0 hx
    refine Ev.step (fun q => by rw [spec_raAll.f]) ?_
    exact evPos (by simp) (evEq (by simp))
  | succ kk ihk =>
    intro m x hk h0 hx
    refine Ev.step (fun q => by rw [spec_raAll.f]) ?_
    refine evNeg (by omega) ?_
    have key : ∀ (m : Nat) (x : Int) (out : List (List Int)), 0 ≤ x → x + m = n → out.length ≤ 4096 * (20 - m) →
        Ev (fun q => spec_raAll.l0 q n ((kk + 1 : Nat) : Int) out x) (out ++ lexC m (kk + 1) x) := by
      intro m
      induction m with
      | zero =>
        intro x out h0 hx ho
        refine Ev.step (fun q => by rw [spec_raAll.l0]) ?_
        exact evNeg (by omega) (evEq (by simp [lexC]))
      | succ m ihm =>
        intro x out h0 hx ho
        refine Ev.step (fun q => by rw [spec_raAll.l0]) ?_
        refine evPos (by omega) ?_
        rw [wr (by omega) (by omega), wr (by omega) (by omega)]
        have h1 := ihk m (x + 1) (by omega) (by omega) (by omega)
        rw [show ((kk : Nat) : Int) = ((kk + 1 : Nat) : Int) - 1 from by omega] at h1
        refine Ev.bind h1 ?_
        have hl := lexC_length m kk (x + 1)
        have hc := C_le12 m kk (by omega)
        refine evTo (raAll_l1 n ((kk + 1 : Nat) : Int) x (4096 * (20 - m)) (by omega) (lexC m kk (x + 1)) (by omega) (fun t ht => by have := (lexC_mem _ _ _ _ ht).1; omega) (lexC m (kk + 1) (x + 1))
          (fun out' ho' => ihm (x + 1) out' (by omega) (by omega) ho') h0 (by omega) (lexC m kk (x + 1)).length out 0 (by omega) (by simp) (by omega)) ?_
        simp [lexC]
    simpa using key m x [] h0 hx (by simp)
/-! spec_chAll -/
theorem raBinomial_tab : ((List.range 13).all fun n => (List.range 13).all fun k => spec_raBinomial.f 5000 (n : Int) (k : Int) == some (C n k : Int)) = true := by decide +kernel
theorem raBinomial_ev (n k : Nat) (hn : n ≤ 12) (hk : k ≤ 12) : Ev (fun r => spec_raBinomial.f r (n : Int) (k : Int)) (C n k : Int) := by
  refine evTab (g := fun r => spec_raBinomial.f r (n : Int) (k : Int)) (spec_raBinomial.mono _ _) 5000 ?_
  exact beq_iff_eq.1 (List.all_eq_true.1 (List.all_eq_true.1 raBinomial_tab n (List.mem_range.2 (by omega))) k (List.mem_range.2 (by omega)))
theorem chAll_l0 (n kk : Nat) (hn : n ≤ 12) (hk : kk ≤ 12) (L A : List (List Int)) (hL : L.length ≤ 1048576) (hl : ∀ t ∈ L, t.length ≤ 1048576) (hA : A.length ≤ 1048576) : ∀ (d : Nat) (i : Int), 0 ≤ i → i.toNat + d = A.length →
    Ev (fun k => spec_chAll.l0 k (n : Int) (kk : Int) L A (A.length : Int) i) (((A.drop i.toNat).all fun l => decide (l ∈ L)) && decide (L.length = C n kk)) := by
  intro d
  induction d with
  | zero =>
    intro i h0 hd
    refine Ev.step (fun k => by rw [spec_chAll.l0]) ?_
    refine evNeg (by omega) (Ev.bind (raBinomial_ev n kk hn hk) (evEq ?_))
    rw [List.drop_of_length_le (by omega), List.all_nil, Bool.true_and, Bool.eq_iff_iff]
    simp
    omega
  | succ d ih =>
    intro i h0 hd
    have hi : i.toNat < A.length := by omega
    have e : rd_L1 A i = A[i.toNat] := by unfold rd_L1; rw [List.getD_eq_getElem?_getD, List.getElem?_eq_getElem hi]; rfl
    refine Ev.step (fun k => by rw [spec_chAll.l0]) ?_
    refine evPos (by omega) (evPos h0 (evPos (by omega) ?_))
    rw [e, wr (by omega) (by omega), List.drop_eq_getElem_cons hi, List.all_cons]
    refine Ev.bind (raPlace_ev L _ (by omega) (fun t ht => by have := hl t ht; omega)) ?_
    have hpm := placeI_mem L A[i.toNat] 0 (by omega)
    by_cases c : A[i.toNat] ∈ L
    · have := hpm.2 c
      refine evNeg (by omega) (evTo (ih (i + 1) (by omega) (by omega)) ?_)
      rw [decide_eq_true c, Bool.true_and, show (i + 1).toNat = i.toNat + 1 from by omega]
    · have : ¬ 0 ≤ placeI A[i.toNat] 0 L := fun h => c (hpm.1 h)
      refine evPos (by omega) (evEq ?_)
      rw [decide_eq_false c]; rfl
theorem chAll_ev (n kk : Nat) (hn : n ≤ 12) (hk : kk ≤ n) (L : List (List Int)) (hL : L.length ≤ 1048576) (hl : ∀ t ∈ L, t.length ≤ 1048576) : Ev (fun k => spec_chAll.f k (n : Int) (kk : Int) L) (allL n kk L) := by
  unfold spec_chAll.f
  have hC := C_le12 n kk hn
  have hlen := lexC_length n kk 0
  refine Ev.bind (raAll_ev (n : Int) (by omega) (by omega) kk n 0 (by omega) (by omega) (by omega)) ?_
  exact evTo (chAll_l0 n kk hn (by omega) L (lexC n kk 0) hL hl (by omega) (lexC n kk 0).length 0 (by omega) (by simp)) (by simp [allL])
/-! spec_l1Has -/
theorem l1Has_l0 (x : Int) (xs : List Int) (hn : xs.length ≤ 35184372088832) : ∀ (d : Nat) (j : Int), 0 ≤ j → j.toNat + d = xs.length →
    Ev (fun k => spec_l1Has.l0 k x xs (xs.length : Int) j) (decide (x ∈ xs.drop j.toNat)) := by
  intro d
  induction d with
  | zero =>
    intro j h0 hd
    refine Ev.step (fun k => by rw [spec_l1Has.l0]) ?_
    refine evNeg (by omega) (evEq ?_)
    rw [drop_end _ _ (by omega)]; simp
  | succ d ih =>
    intro j h0 hd
    refine Ev.step (fun k => by rw [spec_l1Has.l0]) ?_
    refine evPos (by omega) (evPos (by omega) (evPos (by omega) ?_))
    rw [wr (by omega) (by omega), drop_rd xs j h0 (by omega)]
    by_cases c : rd xs j = x
    · exact evPos c (evEq (by simp [c]))
    · exact evNeg c (evTo (ih _ (by omega) (by omega)) (by simp [List.mem_cons, Ne.symm c]))
theorem l1Has_ev (xs : List Int) (x : Int) (hn : xs.length ≤ 35184372088832) : Ev (fun k => spec_l1Has.f k xs x) (decide (x ∈ xs)) := by
  unfold spec_l1Has.f
  exact evTo (l1Has_l0 x xs hn xs.length 0 (by omega) (by simp)) (by simp)
/-! spec_chMissing -/
theorem chMissing_l0 (b xs : List Int) (hn : xs.length ≤ 35184372088) (hb : b.length ≤ 35184372088832) : ∀ (d : Nat) (out : List Int) (j : Int), 0 ≤ j → j.toNat + d = xs.length → out.length ≤ j →
    Ev (fun k => spec_chMissing.l0 k b out xs (xs.length : Int) j) (out ++ (xs.drop j.toNat).filter (fun x => decide (x ∉ b))) := by
  intro d
  induction d with
  | zero =>
    intro out j h0 hd ho
    refine Ev.step (fun k => by rw [spec_chMissing.l0]) ?_
    refine evNeg (by omega) (evEq ?_)
    rw [drop_end _ _ (by omega)]; simp
  | succ d ih =>
    intro out j h0 hd ho
    refine Ev.step (fun k => by rw [spec_chMissing.l0]) ?_
    refine evPos (by omega) (evPos (by omega) (evPos (by omega) (Ev.bind (l1Has_ev b _ hb) ?_)))
    rw [wr (by omega) (by omega), drop_rd xs j h0 (by omega)]
    by_cases c : rd xs j ∈ b
    · exact evPos (by simpa using c) (evTo (ih _ _ (by omega) (by omega) (by omega)) (by simp [List.filter_cons, c]))
    · exact evNeg (by simpa using c) (evPos (by omega) (evTo (ih _ _ (by omega) (by omega) (by simp; omega)) (by simp [List.filter_cons, c])))
theorem chMissing_ev (xs b : List Int) (hn : xs.length ≤ 35184372088) (hb : b.length ≤ 35184372088832) : Ev (fun k => spec_chMissing.f k xs b) (missL xs b) := by
  unfold spec_chMissing.f
  exact evTo (chMissing_l0 b xs hn hb xs.length [] 0 (by omega) (by simp) (by simp)) (by simp [missL])
/-! spec_chExchange -/
theorem chExchange_ev (a b : List Int) (ha : a.length ≤ 35184372088) (hb : b.length ≤ 35184372088) : Ev (fun k => spec_chExchange.f k a b) (exchL a b) := by
  unfold spec_chExchange.f
  refine Ev.bind (chMissing_ev a b ha (by omega)) (Ev.bind (chMissing_ev b a hb (by omega)) ?_)
  by_cases c1 : ((missL a b).length : Int) = 1
  · refine evPos c1 ?_
    by_cases c2 : ((missL b a).length : Int) = 1
    · exact evPos c2 (evPos (by omega) (evPos (by omega) (evEq (by unfold exchL; rw [if_pos c1, if_pos c2]))))
    · exact evNeg c2 (evEq (by unfold exchL; rw [if_pos c1, if_neg c2]))
  · exact evNeg c1 (evEq (by unfold exchL; rw [if_neg c1]))
/-! spec_chNear -/
theorem l1Abs_eq (x : Int) (h1 : -9223372036854775807 ≤ x) (h2 : x ≤ 9223372036854775807) : spec_l1Abs.f x = some (if x > -x then x else -x) := by
  unfold spec_l1Abs.f spec_l1Most.f
  rw [wr (by omega) (by omega)]
  by_cases c : x > -x
  · rw [if_pos c, if_pos c]; rfl
  · rw [if_neg c, if_neg c]; rfl
/-- Not too far from each other. -/
def within' (far : Int) (a b : Int) : Bool := decide (a - b ≤ far ∧ b - a ≤ far)
theorem chNear_l0 (far : Int) (L : List (List Int)) (hL : L.length ≤ 100000) (hl : ∀ t ∈ L, t.length ≤ 12 ∧ ∀ x ∈ t, 0 ≤ x ∧ x < 12) : ∀ (d : Nat) (i : Nat), i + d = L.length → 1 ≤ i →
    Ev (fun k => spec_chNear.l0 k L far (i : Int)) (nearL (within' far) (L.drop (i - 1))) := by
  intro d
  induction d with
  | zero =>
    intro i hd h1
    refine Ev.step (fun k => by rw [spec_chNear.l0]) ?_
    refine evNeg (by omega) (evEq ?_)
    have hp : i - 1 < L.length ∨ L.length = 0 := by omega
    rcases hp with hp | hp
    · rw [List.drop_eq_getElem_cons hp, List.drop_of_length_le (by omega)]; rfl
    · rw [List.length_eq_zero_iff.1 hp]; simp [nearL]
  | succ d ih =>
    intro i hd h1
    have hi : i < L.length := by omega
    have hp : i - 1 < L.length := by omega
    have e1 : rd_L1 L (i : Int) = L[i] := by unfold rd_L1; rw [Int.toNat_natCast, List.getD_eq_getElem?_getD, List.getElem?_eq_getElem hi]; rfl
    have e2 : rd_L1 L ((i : Int) - 1) = L[i - 1] := by unfold rd_L1; rw [show ((i : Int) - 1).toNat = i - 1 from by omega, List.getD_eq_getElem?_getD, List.getElem?_eq_getElem hp]; rfl
    have ha := hl _ (List.getElem_mem hp)
    have hb := hl _ (List.getElem_mem hi)
    have hdr : L.drop (i - 1) = L[i - 1] :: L[i] :: L.drop (i + 1) := by
      rw [List.drop_eq_getElem_cons hp, show i - 1 + 1 = i from by omega, List.drop_eq_getElem_cons hi]
    refine Ev.step (fun k => by rw [spec_chNear.l0]) ?_
    rw [wr (by omega) (by omega), e1, e2, hdr, nearL]
    refine evPos (by omega) (evPos (by omega) (evPos (by omega) (evPos (by omega) (Ev.bind (chExchange_ev _ _ (by omega) (by omega)) ?_))))
    by_cases c : (exchL L[i - 1] L[i]).2.2 = true
    · obtain ⟨⟨m1, _⟩, m2, _⟩ := exchL_mem _ _ c
      have r1 := ha.2 _ m1
      have r2 := hb.2 _ m2
      rw [wr (x := (exchL L[i - 1] L[i]).1 - (exchL L[i - 1] L[i]).2.1) (by omega) (by omega), l1Abs_eq _ (by omega) (by omega)]
      refine evPos c (evSome ?_)
      rw [c, Bool.true_and]
      by_cases cf : within' far (exchL L[i - 1] L[i]).1 (exchL L[i - 1] L[i]).2.1 = true
      · have cf' := cf
        simp only [within', decide_eq_true_eq] at cf'
        refine evNeg (by split <;> omega) ?_
        rw [wr (by omega) (by omega), show (i : Int) + 1 = ((i + 1 : Nat) : Int) from by omega, cf, Bool.true_and]
        refine evTo (ih (i + 1) (by omega) (by omega)) ?_
        rw [show i + 1 - 1 = i from by omega, List.drop_eq_getElem_cons hi]
      · have cf' := cf
        simp only [within', decide_eq_true_eq] at cf'
        refine evPos (by split <;> omega) (evEq ?_)
        simp only [Bool.not_eq_true] at cf
        rw [cf]; rfl
    · refine evNeg c (evEq ?_)
      simp only [Bool.not_eq_true] at c
      rw [c]; rfl
theorem chNear_ev (far : Int) (L : List (List Int)) (hL : L.length ≤ 100000) (hl : ∀ t ∈ L, t.length ≤ 12 ∧ ∀ x ∈ t, 0 ≤ x ∧ x < 12) : Ev (fun k => spec_chNear.f k L far) (nearL (within' far) L) := by
  unfold spec_chNear.f
  by_cases c : 1 ≤ L.length
  · exact evTo (chNear_l0 far L hL hl (L.length - 1) 1 (by omega) (by omega)) (by simp)
  · refine Ev.step (fun k => by rw [spec_chNear.l0]) ?_
    refine evNeg (by omega) (evEq ?_)
    rw [List.length_eq_zero_iff.1 (by omega : L.length = 0)]; rfl
/-! impl_within -/
theorem within_eq (x a b : Int) : impl_within.f x a b = some (decide (a ≤ x ∧ x ≤ b)) := by
  unfold impl_within.f
  by_cases h : x ≥ a
  · rw [if_pos h]; have h' : a ≤ x := h; simp [h']
  · rw [if_neg h]; have h' : ¬ a ≤ x := h; simp [h']
/-! impl_allWithin -/
theorem allWithin_l0 (a b : Int) (xs : List Int) (hn : xs.length ≤ 35184372088832) : ∀ (d : Nat) (j : Int), 0 ≤ j → j.toNat + d = xs.length →
    Ev (fun k => impl_allWithin.l0 k a b xs (xs.length : Int) j) ((xs.drop j.toNat).all fun x => decide (a ≤ x ∧ x ≤ b)) := by
  intro d
  induction d with
  | zero =>
    intro j h0 hd
    refine Ev.step (fun k => by rw [impl_allWithin.l0]) ?_
    refine evNeg (by omega) (evEq ?_)
    rw [drop_end _ _ (by omega)]; rfl
  | succ d ih =>
    intro j h0 hd
    refine Ev.step (fun k => by rw [impl_allWithin.l0]) ?_
    refine evPos (by omega) (evPos (by omega) (evPos (by omega) ?_))
    simp only [within_eq, Option.bind_some]
    rw [wr (by omega) (by omega), drop_rd xs j h0 (by omega), List.all_cons]
    by_cases c : a ≤ rd xs j ∧ rd xs j ≤ b
    · exact evPos (by simpa using c) (evTo (ih _ (by omega) (by omega)) (by simp [c]))
    · exact evNeg (by simpa using c) (evEq (by rw [decide_eq_false c]; rfl))
theorem allWithin_ev (xs : List Int) (a b : Int) (hn : xs.length ≤ 35184372088832) : Ev (fun k => impl_allWithin.f k xs a b) (xs.all fun x => decide (a ≤ x ∧ x ≤ b)) := by
  unfold impl_allWithin.f
  exact evTo (allWithin_l0 a b xs hn xs.length 0 (by omega) (by simp)) (by simp)
/-! impl_increasing -/
theorem increasing_l0 (xs : List Int) (hn : xs.length ≤ 35184372088832) : ∀ (d : Nat) (j : Int), 1 ≤ j → j.toNat + d = xs.length →
    Ev (fun k => impl_increasing.l0 k xs j) (incrFrom (rd xs (j - 1) + 1) (xs.drop j.toNat)) := by
  intro d
  induction d with
  | zero =>
    intro j h0 hd
    refine Ev.step (fun k => by rw [impl_increasing.l0]) ?_
    refine evNeg (by omega) (evEq ?_)
    rw [drop_end _ _ (by omega)]; rfl
  | succ d ih =>
    intro j h0 hd
    refine Ev.step (fun k => by rw [impl_increasing.l0]) ?_
    rw [wr (x := j - 1) (by omega) (by omega), wr (x := j + 1) (by omega) (by omega), drop_rd xs j (by omega) (by omega)]
    refine evPos (by omega) (evPos (by omega) (evPos (by omega) (evPos (by omega) ?_)))
    by_cases c : rd xs (j - 1) ≥ rd xs j
    · refine evPos c (evEq ?_)
      simp only [incrFrom]
      rw [decide_eq_false (by omega)]; rfl
    · refine evNeg c (evTo (ih (j + 1) (by omega) (by omega)) ?_)
      simp only [incrFrom]
      rw [decide_eq_true (by omega), Bool.true_and, show j + 1 - 1 = j from by omega]
theorem increasing_ev (xs : List Int) (hn : xs.length ≤ 35184372088832) : Ev (fun k => impl_increasing.f k xs) (incr xs) := by
  unfold impl_increasing.f
  cases xs with
  | nil =>
    refine Ev.step (fun k => by rw [impl_increasing.l0]) ?_
    exact evNeg (by simp) (Ev.now _)
  | cons x t =>
    refine evTo (increasing_l0 (x :: t) hn t.length 1 (by omega) (by simp; omega)) ?_
    simp [incr, rd]
/-! impl_IsCombination -/
theorem IsCombination_ev (n : Int) (l : List Int) (hn : l.length ≤ 35184372088832) : Ev (fun k => impl_IsCombination.f k n l) (isComb n l) := by
  unfold impl_IsCombination.f
  simp only [within_eq, Option.bind_some]
  by_cases h : 0 ≤ n ∧ n ≤ 12
  · refine evPos (by simpa using h) ?_
    rw [wr (by omega) (by omega)]
    refine Ev.bind (allWithin_ev l 0 (n - 1) hn) ?_
    rw [isComb, decide_eq_true h, Bool.true_and, ← comb_all]
    by_cases c : (l.all fun x => decide (0 ≤ x ∧ x ≤ n - 1)) = true
    · refine evPos c (Ev.bind (increasing_ev l hn) (evEq ?_))
      rw [c, Bool.true_and]
    · refine evNeg c (evEq ?_)
      rw [Bool.eq_false_iff.2 c, Bool.false_and]
  · refine evNeg (by simpa using h) (evEq ?_)
    rw [isComb, decide_eq_false h, Bool.false_and]
/-! impl_areCombinations -/
theorem areCombinations_l0 (n : Int) (L : List (List Int)) (hL : L.length ≤ 1048576) (hl : ∀ t ∈ L, t.length ≤ 1048576) : ∀ (d : Nat) (j : Int), 0 ≤ j → j.toNat + d = L.length →
    Ev (fun k => impl_areCombinations.l0 k n L L (L.length : Int) j) (((L.drop j.toNat).all fun l => isComb n l) && (decide (0 ≤ n ∧ n ≤ 12) && decide ((L.length : Int) ≤ 1100))) := by
  intro d
  induction d with
  | zero =>
    intro j h0 hd
    refine Ev.step (fun k => by rw [impl_areCombinations.l0]) ?_
    refine evNeg (by omega) ?_
    rw [drop_end L j (by omega), within_eq, Option.bind_some, List.all_nil, Bool.true_and]
    by_cases c : 0 ≤ n ∧ n ≤ 12
    · rw [decide_eq_true c]; exact evPos rfl (evEq (by simp))
    · rw [decide_eq_false c]; exact evNeg (by simp) (evEq (by simp))
  | succ d ih =>
    intro j h0 hd
    have hj : j.toNat < L.length := by omega
    have e : rd_L1 L j = L[j.toNat] := by unfold rd_L1; rw [List.getD_eq_getElem?_getD, List.getElem?_eq_getElem hj]; rfl
    have ed : L.drop j.toNat = L[j.toNat] :: L.drop (j + 1).toNat := by
      rw [show (j + 1).toNat = j.toNat + 1 from by omega]; exact List.drop_eq_getElem_cons hj
    refine Ev.step (fun k => by rw [impl_areCombinations.l0]) ?_
    refine evPos (by omega) (evPos h0 (evPos (by omega) ?_))
    rw [e, wr (by omega) (by omega), ed, List.all_cons]
    refine Ev.bind (IsCombination_ev n _ (by have := hl _ (List.getElem_mem hj); omega)) ?_
    by_cases c2 : isComb n L[j.toNat] = true
    · refine evPos c2 (evTo (ih (j + 1) (by omega) (by omega)) ?_)
      rw [c2]; simp
    · refine evNeg c2 (evEq ?_)
      simp only [Bool.not_eq_true] at c2
      rw [c2]; simp
theorem areCombinations_ev (n : Int) (L : List (List Int)) (hL : L.length ≤ 1048576) (hl : ∀ t ∈ L, t.length ≤ 1048576) : Ev (fun k => impl_areCombinations.f k n L) (okCombs n L) := by
  unfold impl_areCombinations.f
  exact evTo (areCombinations_l0 n L hL hl L.length 0 (by omega) (by simp)) (by simp [okCombs])
/-! impl_isChoice -/
theorem isChoice_eq (n k : Int) : impl_isChoice.f n k = some (decide (0 ≤ n ∧ n ≤ 12 ∧ 0 ≤ k ∧ k ≤ n)) := by
  unfold impl_isChoice.f
  simp only [within_eq, Option.bind_some]
  by_cases h : 0 ≤ n ∧ n ≤ 12
  · rw [if_pos (by simpa using h)]; simp [h]
  · rw [if_neg (by simpa using h)]; congr 1; exact (decide_eq_false (by omega)).symm
/-! slices_Index_int_int -/
theorem Index_l0 (x : Int) (xs : List Int) (hn : xs.length ≤ 35184372088832) : ∀ (d : Nat) (j : Int), 0 ≤ j → j.toNat + d = xs.length →
    Ev (fun k => slices_Index_int_int.l0 k xs x (xs.length : Int) j) (findI x j (xs.drop j.toNat)) := by
  intro d
  induction d with
  | zero =>
    intro j h0 hd
    refine Ev.step (fun k => by rw [slices_Index_int_int.l0]) ?_
    refine evNeg (by omega) (evEq ?_)
    rw [drop_end _ _ (by omega)]; rfl
  | succ d ih =>
    intro j h0 hd
    refine Ev.step (fun k => by rw [slices_Index_int_int.l0]) ?_
    refine evPos (by omega) (evPos (by omega) (evPos (by omega) ?_))
    rw [wr (by omega) (by omega), drop_rd xs j h0 (by omega), findI]
    by_cases c : x = rd xs j
    · rw [if_pos c]; exact evPos c (Ev.now _)
    · rw [if_neg c]; exact evNeg c (ih _ (by omega) (by omega))
theorem Index_ev (xs : List Int) (x : Int) (hn : xs.length ≤ 35184372088832) : Ev (fun k => slices_Index_int_int.f k xs x) (findI x 0 xs) := by
  unfold slices_Index_int_int.f
  exact evTo (Index_l0 x xs hn xs.length 0 (by omega) (by simp)) (by simp)
/-! slices_Contains_int_int -/
theorem Contains_ev (xs : List Int) (x : Int) (hn : xs.length ≤ 35184372088832) : Ev (fun k => slices_Contains_int_int.f k xs x) (decide (x ∈ xs)) := by
  unfold slices_Contains_int_int.f
  refine Ev.bind (Index_ev xs x hn) (evEq ?_)
  have := findI_mem x xs 0 (by omega)
  by_cases c : x ∈ xs
  · rw [decide_eq_true c]; exact decide_eq_true (this.2 c)
  · rw [decide_eq_false c]; exact decide_eq_false (fun h => c (this.1 h))
/-! impl_missing -/
theorem missing_l0 (b xs : List Int) (hn : xs.length ≤ 35184372088) (hb : b.length ≤ 35184372088832) : ∀ (d : Nat) (out : List Int) (j : Int), 0 ≤ j → j.toNat + d = xs.length → out.length ≤ j →
    Ev (fun k => impl_missing.l0 k b out xs (xs.length : Int) j) (out ++ (xs.drop j.toNat).filter (fun x => decide (x ∉ b))) := by
  intro d
  induction d with
  | zero =>
    intro out j h0 hd ho
    refine Ev.step (fun k => by rw [impl_missing.l0]) ?_
    refine evNeg (by omega) (evEq ?_)
    rw [drop_end _ _ (by omega)]; simp
  | succ d ih =>
    intro out j h0 hd ho
    refine Ev.step (fun k => by rw [impl_missing.l0]) ?_
    refine evPos (by omega) (evPos (by omega) (evPos (by omega) (Ev.bind (Contains_ev b _ hb) ?_)))
    rw [wr (by omega) (by omega), drop_rd xs j h0 (by omega)]
    by_cases c : rd xs j ∈ b
    · exact evPos (by simpa using c) (evTo (ih _ _ (by omega) (by omega) (by omega)) (by simp [List.filter_cons, c]))
    · exact evNeg (by simpa using c) (evPos (by omega) (evTo (ih _ _ (by omega) (by omega) (by simp; omega)) (by simp [List.filter_cons, c])))
theorem missing_ev (xs b : List Int) (hn : xs.length ≤ 35184372088) (hb : b.length ≤ 35184372088832) : Ev (fun k => impl_missing.f k xs b) (missL xs b) := by
  unfold impl_missing.f
  exact evTo (missing_l0 b xs hn hb xs.length [] 0 (by omega) (by simp) (by simp)) (by simp [missL])
/-! impl_exchange -/
theorem exchange_ev (a b : List Int) (ha : a.length ≤ 35184372088) (hb : b.length ≤ 35184372088) : Ev (fun k => impl_exchange.f k a b) (exchL a b) := by
  unfold impl_exchange.f
  refine Ev.bind (missing_ev a b ha (by omega)) (Ev.bind (missing_ev b a hb (by omega)) ?_)
  by_cases c1 : ((missL a b).length : Int) = 1
  · refine evPos c1 ?_
    by_cases c2 : ((missL b a).length : Int) = 1
    · exact evPos c2 (evPos (by omega) (evPos (by omega) (evEq (by unfold exchL; rw [if_pos c1, if_pos c2]))))
    · exact evNeg c2 (evEq (by unfold exchL; rw [if_pos c1, if_neg c2]))
  · exact evNeg c1 (evEq (by unfold exchL; rw [if_neg c1]))
/-! impl_binomial -/
theorem binomial_tab : ((List.range 13).all fun n => (List.range 13).all fun k => impl_binomial.f 20 (n : Int) (k : Int) == some (C n k : Int)) = true := by decide +kernel
theorem binomial_ev (n k : Nat) (hn : n ≤ 12) (hk : k ≤ 12) : Ev (fun r => impl_binomial.f r (n : Int) (k : Int)) (C n k : Int) := by
  refine evTab (g := fun r => impl_binomial.f r (n : Int) (k : Int)) (impl_binomial.mono _ _) 20 ?_
  have h := List.all_eq_true.1 (List.all_eq_true.1 binomial_tab n (List.mem_range.2 (by omega))) k (List.mem_range.2 (by omega))
  exact beq_iff_eq.1 h
theorem binomial_evI (n k : Int) (hn : 0 ≤ n) (hn' : n ≤ 12) (hk : 0 ≤ k) (hk' : k ≤ 12) : Ev (fun r => impl_binomial.f r n k) (C n.toNat k.toNat : Int) := by
  have := binomial_ev n.toNat k.toNat (by omega) (by omega)
  rwa [Int.toNat_of_nonneg hn, Int.toNat_of_nonneg hk] at this
/-! impl_combinationRank -/
theorem combinationRank_l1 (n : Nat) (hn : n ≤ 12) (l : List Int) (hl : l.length ≤ 12) : ∀ (m : Nat) (rank fr : Int) (j : Nat) (hj : j < l.length), 0 ≤ fr → fr + m = n → incrFrom fr (l.drop j) = true → (∀ y ∈ l.drop j, y < (n : Int)) → 0 ≤ rank → rank + 4096 * m ≤ 100000 →
    Ev (fun q => impl_combinationRank.l1 q (n : Int) l rank fr (j : Int) (rd l (j : Int)) l (l.length : Int) (j : Int)) (rank + (lexI m fr (l.drop j) : Nat)) := by
  intro m
  induction m with
  | zero =>
    intro rank fr j hj h0 hm hi hb _ _
    rw [List.drop_eq_getElem_cons hj] at hi hb
    have h1 := incrFrom_ge _ _ hi _ (List.mem_cons_self ..)
    have h2 := hb _ (List.mem_cons_self ..)
    omega
  | succ m ih =>
    intro rank fr j hj h0 hm hi hb hr1 hr2
    have hd := List.drop_eq_getElem_cons hj
    have e : rd l (j : Int) = l[j] := rd_get l (j : Int) (by simpa using hj)
    have hC := C_le12 m (l.length - j - 1) (by omega)
    rw [hd] at hi hb
    have hge := incrFrom_ge _ _ hi _ (List.mem_cons_self ..)
    have hi2 := hi
    simp only [incrFrom, Bool.and_eq_true, decide_eq_true_eq] at hi2
    refine Ev.step (fun q => by rw [impl_combinationRank.l1]) ?_
    rw [e, hd, lexI]
    by_cases c : fr < l[j]
    · rw [if_neg (by omega)]
      refine evPos c ?_
      have hbin := binomial_ev m (l.length - j - 1) (by omega) (by omega)
      rw [wr (x := (n : Int) - fr) (by omega) (by omega), wr (by omega) (by omega), wr (x := (l.length : Int) - (j : Int)) (by omega) (by omega), wr (x := (l.length : Int) - (j : Int) - 1) (by omega) (by omega), show (n : Int) - fr - 1 = (m : Int) from by omega, show (l.length : Int) - (j : Int) - 1 = ((l.length - j - 1 : Nat) : Int) from by omega]
      refine Ev.bind hbin ?_
      rw [wr (by omega) (by omega), wr (by omega) (by omega)]
      have h := ih (rank + (C m (l.length - j - 1) : Nat)) (fr + 1) j hj (by omega) (by omega) (by rw [hd]; simp only [incrFrom, Bool.and_eq_true, decide_eq_true_eq]; exact ⟨by omega, hi2.2⟩) (by rw [hd]; exact hb) (by omega) (by omega)
      rw [e, hd] at h
      refine evTo h ?_
      rw [show (l.drop (j + 1)).length = l.length - j - 1 from by rw [List.length_drop]; omega]
      omega
    · have ef : l[j] = fr := by omega
      rw [if_pos ef]
      refine evNeg c (Ev.step (fun q => by rw [impl_combinationRank.l0]) ?_)
      rw [wr (by omega) (by omega), wr (by omega) (by omega)]
      by_cases c2 : j + 1 < l.length
      · refine evPos (by omega) (evPos (by omega) (evPos (by omega) ?_))
        have h := ih rank (fr + 1) (j + 1) c2 (by omega) (by omega) (by rw [← ef]; exact hi2.2) (fun y hy => hb y (List.mem_cons_of_mem _ hy)) hr1 (by omega)
        rw [show ((j + 1 : Nat) : Int) = (j : Int) + 1 from by omega] at h
        exact h
      · refine evNeg (by omega) (evEq ?_)
        rw [List.drop_of_length_le (by omega)]
        cases m <;> simp [lexI]
theorem combinationRank_ev (n : Nat) (hn : n ≤ 12) (l : List Int) (h : comb n l = true) : Ev (fun q => impl_combinationRank.f q (n : Int) l) ((lexI n 0 l : Nat) : Int) := by
  have hl := comb_length h
  have hb := comb_bound h
  simp only [comb, Bool.and_eq_true] at h
  unfold impl_combinationRank.f
  refine Ev.step (fun q => by rw [impl_combinationRank.l0]) ?_
  by_cases c : 0 < l.length
  · refine evPos (by omega) (evPos (by omega) (evPos (by omega) ?_))
    have := combinationRank_l1 n hn l (by omega) n 0 0 0 c (by omega) (by omega) (by simpa using h.1) (fun y hy => (hb y (by simpa using hy)).2) (by omega) (by omega)
    refine evTo this (by simp)
  · refine evNeg (by omega) (evEq ?_)
    rw [List.length_eq_zero_iff.1 (by omega : l.length = 0)]
    cases n <;> simp [lexI]
/-! impl_IsRoundExchange -/
theorem IsRound_g0 (n kk : Nat) (hn : n ≤ 12) (hk : kk ≤ n) (may : Int → Int → Bool) (hmay : ∀ x y, 0 ≤ x → x < 12 → 0 ≤ y → y < 12 → impl_anyExchange.f x y = some (may x y)) (L : List (List Int)) (hL : L.length ≤ 1100) (hl : ∀ t ∈ L, comb n t = true) : ∀ (d : Nat) (i : Nat) (met : List Int), i + d = L.length → met.length ≤ i →
    Ev (fun q => impl_IsRoundExchange.g0 q (n : Int) (kk : Int) L (i : Int) met) (gR n kk may (if i = 0 then none else some (L.getD (i - 1) [])) met (L.drop i) && decide (L.length = C n kk)) := by
  intro d
  induction d with
  | zero =>
    intro i met hd hm
    refine Ev.step (fun k => by rw [impl_IsRoundExchange.g0]) ?_
    refine evNeg (by omega) (Ev.bind (binomial_ev n kk hn (by omega)) (evEq ?_))
    rw [List.drop_of_length_le (by omega), gR_nil, Bool.true_and, Bool.eq_iff_iff]
    simp
    omega
  | succ d ih =>
    intro i met hd hm
    have hi : i < L.length := by omega
    have e1 : rd_L1 L (i : Int) = L[i] := by unfold rd_L1; rw [Int.toNat_natCast, List.getD_eq_getElem?_getD, List.getElem?_eq_getElem hi]; rfl
    have hc := hl _ (List.getElem_mem hi)
    have hb := comb_bound hc
    have hlen := comb_length hc
    have hlt := lexI_lt hc
    have hC := C_le12 n L[i].length hn
    refine Ev.step (fun k => by rw [impl_IsRoundExchange.g0]) ?_
    rw [e1, List.drop_eq_getElem_cons hi, gR_cons]
    refine evPos (by omega) (evPos (by omega) (evPos (by omega) ?_))
    by_cases c1 : L[i].length = kk
    rotate_left
    · refine evNeg (by omega) (evEq ?_)
      rw [decide_eq_false c1]; rfl
    refine evPos (by omega) (Ev.bind (combinationRank_ev n hn L[i] hc) (evPos ?_ ?_))
    · simp [Lit.wf, IntKind.min, IntKind.max, IntKind.signed, IntKind.bits]; omega
    rw [decide_eq_true c1, Bool.true_and]
    by_cases c2 : ((lexI n 0 L[i] : Nat) : Int) ∈ met
    · refine evPos c2 (evEq ?_)
      rw [decide_eq_false (fun h => h c2)]; rfl
    refine evNeg c2 (evPos (by omega) ?_)
    rw [decide_eq_true c2, Bool.true_and]
    have hnext := ih (i + 1) (((lexI n 0 L[i] : Nat) : Int) :: met) (by omega) (by simp; omega)
    rw [if_neg (by omega), show i + 1 - 1 = i from by omega, show L.getD i [] = L[i] from by rw [List.getD_eq_getElem?_getD, List.getElem?_eq_getElem hi]; rfl] at hnext
    by_cases c3 : i = 0
    · refine evPos (by omega) ?_
      rw [wr (by omega) (by omega), show (i : Int) + 1 = ((i + 1 : Nat) : Int) from by omega, if_pos c3]
      exact evTo hnext (by simp)
    have hp : i - 1 < L.length := by omega
    have e2 : rd_L1 L ((i : Int) - 1) = L[i - 1] := by unfold rd_L1; rw [show ((i : Int) - 1).toNat = i - 1 from by omega, List.getD_eq_getElem?_getD, List.getElem?_eq_getElem hp]; rfl
    have hcp := hl _ (List.getElem_mem hp)
    have hbp := comb_bound hcp
    have hlp := comb_length hcp
    refine evNeg (by omega) ?_
    rw [e2, if_neg c3, show L.getD (i - 1) [] = L[i - 1] from by rw [List.getD_eq_getElem?_getD, List.getElem?_eq_getElem hp]; rfl]
    refine Ev.bind (exchange_ev _ _ (by omega) (by omega)) ?_
    by_cases c4 : (exchL L[i - 1] L[i]).2.2 = true
    rotate_left
    · refine evNeg c4 (evEq ?_)
      simp only [Bool.not_eq_true] at c4
      simp [c4]
    obtain ⟨⟨m1, _⟩, m2, _⟩ := exchL_mem _ _ c4
    have r1 := hbp _ m1
    have r2 := hb _ m2
    refine evPos c4 ?_
    rw [hmay _ _ (by omega) (by omega) (by omega) (by omega)]
    refine evSome ?_
    by_cases c5 : may (exchL L[i - 1] L[i]).1 (exchL L[i - 1] L[i]).2.1 = true
    · refine evPos c5 ?_
      rw [wr (by omega) (by omega), show (i : Int) + 1 = ((i + 1 : Nat) : Int) from by omega]
      exact evTo hnext (by simp [c4, c5])
    · refine evNeg c5 (evEq ?_)
      simp only [Bool.not_eq_true] at c5
      simp [c4, c5]
theorem nearL_pair (may : Int → Int → Bool) (a b : List Int) : nearL may [a, b] = ((exchL a b).2.2 && may (exchL a b).1 (exchL a b).2.1) := by
  simp [nearL]
theorem FnExactIsRoundExchange (n kk : Int) (L : List (List Int)) (wn : (Lit.int .i64 n).wf = true) (wk : (Lit.int .i64 kk).wf = true) (hmL : L.length ≤ maxLen) (hgL : ∀ x ∈ L, (fun l : List Int => l.length ≤ maxLen ∧ ∀ x ∈ l, (Lit.int .i64 x).wf = true) x) :
    ∃ k, laws_FnExactIsRoundExchange.f k n kk L = some true := by
  refine Ev.rounds (g := fun q => laws_FnExactIsRoundExchange.f q n kk L) ?_
  unfold laws_FnExactIsRoundExchange.f
  obtain ⟨s0, hs0, hr⟩ := szIntSS_ev L hmL (fun t ht => (hgL t ht).1)
  refine Ev.bind hs0 ?_
  rcases hr with hr | ⟨r1, r2, r3, r4⟩
  · exact evPos hr (Ev.now _)
  refine evNeg (by omega) ?_
  have h6 := toIntSS_ev L r3 r4
  have key : ∃ (g b : Bool), Ev (fun q => spec_IsRoundExchange.f q n kk L) (g, b) ∧ Ev (fun q => impl_IsRoundExchange.f q n kk L) (g, b) := by
    have ha := chLists_ev n L r3 r4
    have hb := areCombinations_ev n L r3 r4
    unfold spec_IsRoundExchange.f impl_IsRoundExchange.f
    rw [isChoice_eq]
    by_cases hc : 0 ≤ n ∧ n ≤ 12 ∧ 0 ≤ kk ∧ kk ≤ n
    rotate_left
    · have hE : Ev (fun q => spec_IsExchangeList.f q n kk L) (false, false) := by
        unfold spec_IsExchangeList.f
        rw [chSize_eq, decide_eq_false hc]
        refine evSome (evNeg (by simp) ?_)
        refine Ev.step (fun k => by rw [spec_IsExchangeList.j0]) ?_
        exact evPos rfl (Ev.now _)
      rw [decide_eq_false hc]
      exact ⟨false, false, Ev.bind hE (evNeg (by simp) (Ev.now _)), evSome (evNeg (by simp) (Ev.now _))⟩
    have hS : spec_chSize.f n kk = some true := by rw [chSize_eq, decide_eq_true hc]
    rw [decide_eq_true hc]
    obtain ⟨c1, c2, c3, c4⟩ := hc
    obtain ⟨N, rfl⟩ := Int.eq_ofNat_of_zero_le c1
    obtain ⟨K, rfl⟩ := Int.eq_ofNat_of_zero_le c3
    cases ho : okCombs N L
    · rw [ho] at ha hb
      have hE : Ev (fun q => spec_IsExchangeList.f q N K L) (false, false) := by
        unfold spec_IsExchangeList.f
        rw [hS]
        refine evSome (evPos rfl (Ev.bind ha ?_))
        refine Ev.step (fun k => by rw [spec_IsExchangeList.j0]) ?_
        exact evPos rfl (Ev.now _)
      exact ⟨false, false, Ev.bind hE (evNeg (by simp) (Ev.now _)), evSome (evPos rfl (Ev.bind hb (evNeg (by simp) (Ev.now _))))⟩
    rw [ho] at ha hb
    obtain ⟨_, _, o3, o4⟩ := okCombs_parts ho
    have hsm : ∀ t ∈ L, t.length ≤ 12 ∧ ∀ x ∈ t, 0 ≤ x ∧ x < 12 := fun t ht => ⟨by have := comb_length (o4 t ht); omega, fun x hx => by have := comb_bound (o4 t ht) x hx; omega⟩
    have hg := IsRound_g0 N K (by omega) (by omega) (fun _ _ => true) (fun x y _ _ _ _ => rfl) L o3 o4 L.length 0 [] (by omega) (by simp)
    rw [if_pos rfl, List.drop_zero, goes_all N K (fun _ _ => true) L o4] at hg
    have hall := chAll_ev N K (by omega) (by omega) L r3 r4
    have hnear := chNear_ev (N : Int) L (by omega) hsm
    have hmay : ∀ a ∈ L, ∀ b ∈ L, (exchL a b).2.2 = true → within' (N : Int) (exchL a b).1 (exchL a b).2.1 = true := by
      intro a ha b hb he
      obtain ⟨⟨m1, _⟩, m2, _⟩ := exchL_mem a b he
      have q1 := comb_bound (o4 a ha) _ m1
      have q2 := comb_bound (o4 b hb) _ m2
      simp only [within', decide_eq_true_eq]
      omega
    rw [nearL_congr (within' (N : Int)) (fun _ _ => true) L hmay] at hnear
    have hE : Ev (fun q => spec_IsExchangeList.f q N K L) (allL N K L && nearL (fun _ _ => true) L, true) := by
      unfold spec_IsExchangeList.f
      rw [hS]
      refine evSome (evPos rfl (Ev.bind ha ?_))
      refine Ev.step (fun k => by rw [spec_IsExchangeList.j0]) ?_
      refine evNeg (by simp) (Ev.bind hall ?_)
      by_cases c : allL N K L = true
      · refine evPos c (Ev.bind hnear (evEq ?_))
        rw [c, Bool.true_and]
      · refine evNeg c (evEq ?_)
        simp only [Bool.not_eq_true] at c
        rw [c, Bool.false_and]
    cases hv : (allL N K L && nearL (fun _ _ => true) L)
    · rw [hv] at hE hg
      exact ⟨false, true, Ev.bind hE (evPos rfl (evNeg (by simp) (Ev.now _))), evSome (evPos rfl (Ev.bind hb (evPos rfl (Ev.bind hg (evNeg (by simp) (Ev.now _))))))⟩
    rw [hv] at hE hg
    have hlen : L.length = C N K := by
      simp only [allL, Bool.and_eq_true, decide_eq_true_eq] at hv
      exact hv.1.2
    have hpos : 0 < L.length := by rw [hlen]; exact C_pos N K (by omega)
    have m1 : L.length - 1 < L.length := by omega
    have eL : rd_L1 L ((L.length : Int) - 1) = L[L.length - 1] := by unfold rd_L1; rw [show ((L.length : Int) - 1).toNat = L.length - 1 from by omega, List.getD_eq_getElem?_getD, List.getElem?_eq_getElem m1]; rfl
    have eF : rd_L1 L 0 = L[0] := by unfold rd_L1; rw [show (0 : Int).toNat = 0 from rfl, List.getD_eq_getElem?_getD, List.getElem?_eq_getElem hpos]; rfl
    have mL := List.getElem_mem m1
    have mF := List.getElem_mem hpos
    have sL := hsm _ mL
    have sF := hsm _ mF
    have hx := exchange_ev L[L.length - 1] L[0] (by omega) (by omega)
    have himp : Ev (fun q => (impl_exchange.f q (rd_L1 L ((L.length : Int) - 1)) (rd_L1 L 0)).bind fun x => (some (x.2.2 || decide (L.length = 1), true))) ((exchL L[L.length - 1] L[0]).2.2 || decide (L.length = 1), true) := by
      rw [eL, eF]
      exact Ev.bind hx (Ev.now _)
    refine ⟨(exchL L[L.length - 1] L[0]).2.2 || decide (L.length = 1), true, Ev.bind hE (evPos rfl (evPos rfl ?_)), evSome (evPos rfl (Ev.bind hb (evPos rfl (Ev.bind hg (evPos rfl (evPos hpos (evPos (by omega) himp)))))))⟩
    by_cases c : L.length = 1
    · refine evPos (by omega) (evEq ?_)
      rw [decide_eq_true c, Bool.or_true]
    refine evNeg (by omega) ?_
    rw [wr (by omega) (by omega), eL, eF, decide_eq_false c, Bool.or_false]
    refine evPos (by omega) (evPos (by omega) (evPos (by omega) ?_))
    have hn2 := chNear_ev (N : Int) [L[L.length - 1], L[0]] (by simp) (fun t ht => by
      rcases List.mem_cons.1 ht with rfl | ht
      · exact sL
      · rcases List.mem_cons.1 ht with rfl | ht
        · exact sF
        · cases ht)
    refine Ev.bind hn2 (evEq ?_)
    rw [nearL_pair]
    cases he : (exchL L[L.length - 1] L[0]).2.2
    · rfl
    · rw [hmay _ mL _ mF he]; rfl
  obtain ⟨g, b, hs, hi⟩ := key
  refine Ev.bind h6 (Ev.bind hs (Ev.bind h6 (Ev.bind hi (evNeg (by simp) ?_))))
  refine Ev.step (fun k => by rw [laws_FnExactIsRoundExchange.j0]) ?_
  refine evNeg (by simp) ?_
  exact Ev.bind h6 (Ev.bind (eqIntSS_self L (by omega) (fun t ht => by have := r4 t ht; omega)) (evPos rfl (Ev.now _)))

end Go.Proofs.Ytelajnmnbmamhaa.Pure
