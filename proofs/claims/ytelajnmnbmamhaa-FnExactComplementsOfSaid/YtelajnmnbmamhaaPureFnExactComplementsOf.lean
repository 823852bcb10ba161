/- The pure statement of FnExactComplementsOf: for all arguments that fit, the law as a Lean function answers true after enough rounds. -/
import Derived.Test.YtelajnmnbmamhaaMFnExactComplementsOfx1
import Derived.Test.YtelajnmnbmamhaaMFnExactComplementsOfx2
import Derived.Test.YtelajnmnbmamhaaMFnExactComplementsOfx3
import Derived.Test.YtelajnmnbmamhaaMFnExactComplementsOfx4
import Derived.Test.YtelajnmnbmamhaaMFnExactComplementsOfx5
import Derived.Test.YtelajnmnbmamhaaBase
import Derived.Test.YtelajnmnbmamhaaComb
namespace Go.Proofs.Ytelajnmnbmamhaa.Pure
open Go.RowKit Go.Proofs.Ytelajnmnbmamhaa.MFnExactComplementsOf Go.Proofs.YtelajnmnbmamhaaW.PrintWords Go.Proofs.YtelajnmnbmamhaaW.PrintLast Go.Proofs.Ytelajnmnbmamhaa.Base Go.Proofs.Ytelajnmnbmamhaa.Comb
set_option linter.unusedVariables false
set_option linter.unusedSimpArgs false

/-! laws_szIntSS -/
theorem szIntSS_l0 (L : List (List Int)) (hL : L.length ≤ 1048576) (hl : ∀ t ∈ L, t.length ≤ maxLen) : ∀ (d : Nat) (j left : Int), 0 ≤ j → j.toNat + d = L.length → 0 ≤ left → left ≤ 1048576 →
    ∃ s, Ev (fun k => laws_szIntSS.l0 k L left j) s ∧ (s < 0 ∨ (0 ≤ s ∧ s = left - sumLen (L.drop j.toNat) ∧ ∀ t ∈ L.drop j.toNat, t.length ≤ 1048576)) := by
  have hm : maxLen = 9223372036854775807 := rfl
  intro d
  induction d with
  | zero =>
    intro j left h0 hd h1 h2
    refine ⟨left, Ev.step (fun k => by rw [laws_szIntSS.l0]) (evNeg (by omega) (Ev.now _)), .inr ⟨h1, ?_, ?_⟩⟩
    · rw [drop_end L j (by omega)]; simp [sumLen]
    · rw [drop_end L j (by omega)]; simp
  | succ d ih =>
    intro j left h0 hd h1 h2
    have hj : j.toNat < L.length := by omega
    have e : rd_L1 L j = L[j.toNat] := by unfold rd_L1; rw [List.getD_eq_getElem?_getD, List.getElem?_eq_getElem hj]; rfl
    have ht := hl _ (List.getElem_mem hj)
    have ed : L.drop j.toNat = L[j.toNat] :: L.drop (j + 1).toNat := by
      rw [show (j + 1).toNat = j.toNat + 1 from by omega]; exact List.drop_eq_getElem_cons hj
    by_cases c : left - (L[j.toNat].length : Int) < 0
    · refine ⟨-1, Ev.step (fun k => by rw [laws_szIntSS.l0]) (evPos (by omega) (evPos h0 ?_)), .inl (by decide)⟩
      unfold laws_szIntS.f
      rw [e, wr (by omega) (by omega), if_pos c]
      exact evSome (evPos (by decide) (Ev.now _))
    · obtain ⟨s, hs, hr⟩ := ih (j + 1) (left - (L[j.toNat].length : Int)) (by omega) (by omega) (by omega) (by omega)
      refine ⟨s, Ev.step (fun k => by rw [laws_szIntSS.l0]) (evPos (by omega) (evPos h0 ?_)), ?_⟩
      · unfold laws_szIntS.f
        rw [e, wr (by omega) (by omega), if_neg c, wr (by omega) (by omega)]
        exact evSome (evNeg c hs)
      · rcases hr with hr | ⟨r1, r2, r3⟩
        · exact .inl hr
        · refine .inr ⟨r1, ?_, ?_⟩
          · rw [ed, sumLen, r2]; omega
          · rw [ed]
            intro t ht'
            rcases List.mem_cons.1 ht' with rfl | ht'
            · omega
            · exact r3 t ht'
theorem szIntSS_ev (L : List (List Int)) (hL : L.length ≤ maxLen) (hl : ∀ t ∈ L, t.length ≤ maxLen) :
    ∃ s, Ev (fun k => laws_szIntSS.f k L 1048576) s ∧ (s < 0 ∨ (0 ≤ s ∧ s = 1048576 - (L.length : Int) - sumLen L ∧ L.length ≤ 1048576 ∧ ∀ t ∈ L, t.length ≤ 1048576)) := by
  have hm : maxLen = 9223372036854775807 := rfl
  unfold laws_szIntSS.f
  rw [wr (by omega) (by omega)]
  by_cases c : 1048576 - (L.length : Int) < 0
  · exact ⟨-1, evPos c (Ev.now _), .inl (by decide)⟩
  · obtain ⟨s, h1, h2⟩ := szIntSS_l0 L (by omega) hl L.length 0 (1048576 - (L.length : Int)) (by omega) (by simp) (by omega) (by omega)
    refine ⟨s, evNeg c h1, ?_⟩
    rcases h2 with h2 | ⟨r1, r2, r3⟩
    · exact .inl h2
    · exact .inr ⟨r1, by simpa using r2, by omega, by simpa using r3⟩
/-! spec_l1In -/
theorem l1In_eq (x a b : Int) : spec_l1In.f x a b = some (decide (a ≤ x ∧ x ≤ b)) := by
  unfold spec_l1In.f
  by_cases h : x ≥ a
  · rw [if_pos h]; have h' : a ≤ x := h; simp [h']
  · rw [if_neg h]; have h' : ¬ a ≤ x := h; simp [h']
/-! spec_raItems -/
theorem raItems_eq (x : Int) : spec_raItems.f x = some (decide (0 ≤ x ∧ x ≤ 12)) := by
  unfold spec_raItems.f; rw [l1In_eq]; rfl
/-! spec_l1Rising -/
theorem l1Rising_l0 (xs : List Int) (a b : Int) (hn : xs.length ≤ 35184372088832) : ∀ (d : Nat) (j : Int), 1 ≤ j → j.toNat + d = xs.length →
    Ev (fun k => spec_l1Rising.l0 k xs a b xs (xs.length : Int) j) (((xs.drop j.toNat).all fun x => decide (a ≤ x ∧ x ≤ b)) && incrFrom (rd xs (j - 1) + 1) (xs.drop j.toNat)) := by
  intro d
  induction d with
  | zero =>
    intro j h0 hd
    refine Ev.step (fun k => by rw [spec_l1Rising.l0]) ?_
    refine evNeg (by omega) (evEq ?_)
    rw [drop_end _ _ (by omega)]; rfl
  | succ d ih =>
    intro j h0 hd
    refine Ev.step (fun k => by rw [spec_l1Rising.l0]) ?_
    rw [wr (x := j - 1) (by omega) (by omega), wr (x := j + 1) (by omega) (by omega), drop_rd xs j (by omega) (by omega)]
    simp only [l1In_eq, Option.bind_some, List.all_cons, incrFrom]
    refine evPos (by omega) (evPos (by omega) (evPos (by omega) ?_))
    by_cases c1 : a ≤ rd xs j ∧ rd xs j ≤ b
    · refine evPos (by simpa using c1) (evPos (by omega) (evPos (by omega) (evPos (by omega) ?_)))
      rw [decide_eq_true c1, Bool.true_and]
      by_cases c : rd xs (j - 1) ≥ rd xs j
      · refine evPos c (evEq ?_)
        rw [decide_eq_false (show ¬ (rd xs (j - 1) + 1 ≤ rd xs j) by omega)]; simp
      · refine evNeg c (evTo (ih (j + 1) (by omega) (by omega)) ?_)
        rw [decide_eq_true (show rd xs (j - 1) + 1 ≤ rd xs j by omega), Bool.true_and, show j + 1 - 1 = j from by omega]
    · refine evNeg (by simpa using c1) (evEq ?_)
      rw [decide_eq_false c1]; rfl
theorem l1Rising_ev (xs : List Int) (a b : Int) (hn : xs.length ≤ 35184372088832) : Ev (fun k => spec_l1Rising.f k xs a b) ((xs.all fun x => decide (a ≤ x ∧ x ≤ b)) && incr xs) := by
  unfold spec_l1Rising.f
  cases xs with
  | nil =>
    refine Ev.step (fun k => by rw [spec_l1Rising.l0]) ?_
    exact evNeg (by simp) (Ev.now _)
  | cons x t =>
    refine Ev.step (fun k => by rw [spec_l1Rising.l0]) ?_
    simp only [l1In_eq, Option.bind_some]
    refine evPos (by simp) (evPos (by omega) (evPos (by simp) ?_))
    have hx : rd (x :: t) 0 = x := rfl
    rw [hx]
    by_cases c1 : a ≤ x ∧ x ≤ b
    · refine evPos (by simpa using c1) (evNeg (by omega) ?_)
      rw [wr (by omega) (by omega)]
      refine evTo (l1Rising_l0 (x :: t) a b hn t.length 1 (by omega) (by simp; omega)) ?_
      rw [List.all_cons, decide_eq_true c1, Bool.true_and]
      simp [incr, rd]
    · refine evNeg (by simpa using c1) (evEq ?_)
      rw [List.all_cons, decide_eq_false c1]; rfl
/-! spec_raCombination -/
theorem raCombination_ev (n : Int) (l : List Int) (hn : l.length ≤ 35184372088832) : Ev (fun k => spec_raCombination.f k n l) (isComb n l) := by
  unfold spec_raCombination.f
  simp only [raItems_eq, Option.bind_some]
  by_cases h : 0 ≤ n ∧ n ≤ 12
  · refine evPos (by simpa using h) ?_
    rw [wr (by omega) (by omega), isComb, decide_eq_true h, Bool.true_and]
    by_cases c : (l.length : Int) ≤ n
    · refine evPos c (Ev.bind (l1Rising_ev l 0 (n - 1) hn) (evEq ?_))
      rw [comb_all]
    · refine evNeg c (evEq ?_)
      symm
      rw [Bool.eq_false_iff]
      intro hc
      obtain ⟨m, rfl⟩ := Int.eq_ofNat_of_zero_le h.1
      have := comb_length hc
      omega
  · refine evNeg (by simpa using h) (evEq ?_)
    rw [isComb, decide_eq_false h, Bool.false_and]
/-! spec_chLists -/
/-- Lists are combinations of n, not too many. -/
def okCombs (n : Int) (L : List (List Int)) : Bool := (L.all fun l => isComb n l) && (decide (0 ≤ n ∧ n ≤ 12) && decide ((L.length : Int) ≤ 1100))
theorem okCombs_parts {n : Int} {L : List (List Int)} (h : okCombs n L = true) : 0 ≤ n ∧ n ≤ 12 ∧ L.length ≤ 1100 ∧ ∀ t ∈ L, comb n t = true := by
  simp only [okCombs, Bool.and_eq_true, decide_eq_true_eq, List.all_eq_true] at h
  exact ⟨h.2.1.1, h.2.1.2, by omega, fun t ht => (isComb_parts (h.1 t ht)).2.2⟩
theorem chLists_l0 (n : Int) (L : List (List Int)) (hL : L.length ≤ 1048576) (hl : ∀ t ∈ L, t.length ≤ 1048576) : ∀ (d : Nat) (j : Int), 0 ≤ j → j.toNat + d = L.length →
    Ev (fun k => spec_chLists.l0 k n L L (L.length : Int) j) (((L.drop j.toNat).all fun l => isComb n l) && (decide (0 ≤ n ∧ n ≤ 12) && decide ((L.length : Int) ≤ 1100))) := by
  intro d
  induction d with
  | zero =>
    intro j h0 hd
    refine Ev.step (fun k => by rw [spec_chLists.l0]) ?_
    refine evNeg (by omega) ?_
    rw [drop_end L j (by omega), raItems_eq, Option.bind_some, List.all_nil, Bool.true_and]
    by_cases c : 0 ≤ n ∧ n ≤ 12
    · rw [decide_eq_true c]; exact evPos rfl (evEq (by simp))
    · rw [decide_eq_false c]; exact evNeg (by simp) (evEq (by simp))
  | succ d ih =>
    intro j h0 hd
    have hj : j.toNat < L.length := by omega
    have e : rd_L1 L j = L[j.toNat] := by unfold rd_L1; rw [List.getD_eq_getElem?_getD, List.getElem?_eq_getElem hj]; rfl
    have ed : L.drop j.toNat = L[j.toNat] :: L.drop (j + 1).toNat := by
      rw [show (j + 1).toNat = j.toNat + 1 from by omega]; exact List.drop_eq_getElem_cons hj
    refine Ev.step (fun k => by rw [spec_chLists.l0]) ?_
    refine evPos (by omega) (evPos h0 (evPos (by omega) ?_))
    rw [e, wr (by omega) (by omega), ed, List.all_cons]
    refine Ev.bind (raCombination_ev n _ (by have := hl _ (List.getElem_mem hj); omega)) ?_
    by_cases c2 : isComb n L[j.toNat] = true
    · refine evPos c2 (evTo (ih (j + 1) (by omega) (by omega)) ?_)
      rw [c2]; simp
    · refine evNeg c2 (evEq ?_)
      simp only [Bool.not_eq_true] at c2
      rw [c2]; simp
theorem chLists_ev (n : Int) (L : List (List Int)) (hL : L.length ≤ 1048576) (hl : ∀ t ∈ L, t.length ≤ 1048576) : Ev (fun k => spec_chLists.f k n L) (okCombs n L) := by
  unfold spec_chLists.f
  exact evTo (chLists_l0 n L hL hl L.length 0 (by omega) (by simp)) (by simp [okCombs])
/-! spec_l1Has -/
theorem l1Has_l0 (x : Int) (xs : List Int) (hn : xs.length ≤ 35184372088832) : ∀ (d : Nat) (j : Int), 0 ≤ j → j.toNat + d = xs.length →
    Ev (fun k => spec_l1Has.l0 k x xs (xs.length : Int) j) (decide (x ∈ xs.drop j.toNat)) := by
  intro d
  induction d with
  | zero =>
    intro j h0 hd
    refine Ev.step (fun k => by rw [spec_l1Has.l0]) ?_
    refine evNeg (by omega) (evEq ?_)
    rw [drop_end _ _ (by omega)]; simp
  | succ d ih =>
    intro j h0 hd
    refine Ev.step (fun k => by rw [spec_l1Has.l0]) ?_
    refine evPos (by omega) (evPos (by omega) (evPos (by omega) ?_))
    rw [wr (by omega) (by omega), drop_rd xs j h0 (by omega)]
    by_cases c : rd xs j = x
    · exact evPos c (evEq (by simp [c]))
    · exact evNeg c (evTo (ih _ (by omega) (by omega)) (by simp [List.mem_cons, Ne.symm c]))
theorem l1Has_ev (xs : List Int) (x : Int) (hn : xs.length ≤ 35184372088832) : Ev (fun k => spec_l1Has.f k xs x) (decide (x ∈ xs)) := by
  unfold spec_l1Has.f
  exact evTo (l1Has_l0 x xs hn xs.length 0 (by omega) (by simp)) (by simp)
/-! spec_chMissing -/
theorem chMissing_l0 (b xs : List Int) (hn : xs.length ≤ 35184372088) (hb : b.length ≤ 35184372088832) : ∀ (d : Nat) (out : List Int) (j : Int), 0 ≤ j → j.toNat + d = xs.length → out.length ≤ j →
    Ev (fun k => spec_chMissing.l0 k b out xs (xs.length : Int) j) (out ++ (xs.drop j.toNat).filter (fun x => decide (x ∉ b))) := by
  intro d
  induction d with
  | zero =>
    intro out j h0 hd ho
    refine Ev.step (fun k => by rw [spec_chMissing.l0]) ?_
    refine evNeg (by omega) (evEq ?_)
    rw [drop_end _ _ (by omega)]; simp
  | succ d ih =>
    intro out j h0 hd ho
    refine Ev.step (fun k => by rw [spec_chMissing.l0]) ?_
    refine evPos (by omega) (evPos (by omega) (evPos (by omega) (Ev.bind (l1Has_ev b _ hb) ?_)))
    rw [wr (by omega) (by omega), drop_rd xs j h0 (by omega)]
    by_cases c : rd xs j ∈ b
    · exact evPos (by simpa using c) (evTo (ih _ _ (by omega) (by omega) (by omega)) (by simp [List.filter_cons, c]))
    · exact evNeg (by simpa using c) (evPos (by omega) (evTo (ih _ _ (by omega) (by omega) (by simp; omega)) (by simp [List.filter_cons, c])))
theorem chMissing_ev (xs b : List Int) (hn : xs.length ≤ 35184372088) (hb : b.length ≤ 35184372088832) : Ev (fun k => spec_chMissing.f k xs b) (missL xs b) := by
  unfold spec_chMissing.f
  exact evTo (chMissing_l0 b xs hn hb xs.length [] 0 (by omega) (by simp) (by simp)) (by simp [missL])
/-! spec_raUpTo -/
theorem raUpTo_l0 (n : Nat) (hn : n ≤ 1000000000) : ∀ (d : Nat) (j : Int), 0 ≤ j → j.toNat + d = n → Ev (fun k => spec_raUpTo.l0 k (n : Int) (upTo j.toNat) j) (upTo n) := by
  intro d
  induction d with
  | zero =>
    intro j h0 hd
    refine Ev.step (fun k => by rw [spec_raUpTo.l0]) ?_
    exact evNeg (by omega) (evEq (by rw [show j.toNat = n from by omega]))
  | succ d ih =>
    intro j h0 hd
    refine Ev.step (fun k => by rw [spec_raUpTo.l0]) ?_
    refine evPos (by omega) (evPos (by rw [upTo_length]; omega) ?_)
    have h := ih (j + 1) (by omega) (by omega)
    rw [show (j + 1).toNat = j.toNat + 1 from by omega, upTo_succ, Int.toNat_of_nonneg h0] at h
    rw [wr (by omega) (by omega)]
    exact h
theorem raUpTo_ev (n : Nat) (hn : n ≤ 1000000000) : Ev (fun k => spec_raUpTo.f k (n : Int)) (upTo n) := by
  unfold spec_raUpTo.f
  exact raUpTo_l0 n hn n 0 (by omega) (by simp)
/-! spec_ComplementsOf -/
theorem spec_ComplementsOf_l0 (n : Nat) (hn : n ≤ 12) (L : List (List Int)) (hL : L.length ≤ 1100) (hl : ∀ t ∈ L, t.length ≤ 12) : ∀ (d : Nat) (out : List (List Int)) (j : Int), 0 ≤ j → j.toNat + d = L.length → out.length ≤ j →
    Ev (fun k => spec_ComplementsOf.l0 k (n : Int) out L (L.length : Int) j) (out ++ (L.drop j.toNat).map (fun l => missL (upTo n) l), true) := by
  intro d
  induction d with
  | zero =>
    intro out j h0 hd ho
    refine Ev.step (fun k => by rw [spec_ComplementsOf.l0]) ?_
    refine evNeg (by omega) (evEq ?_)
    rw [drop_end L j (by omega)]; simp
  | succ d ih =>
    intro out j h0 hd ho
    have hj : j.toNat < L.length := by omega
    have e : rd_L1 L j = L[j.toNat] := by unfold rd_L1; rw [List.getD_eq_getElem?_getD, List.getElem?_eq_getElem hj]; rfl
    have ed : L.drop j.toNat = L[j.toNat] :: L.drop (j + 1).toNat := by
      rw [show (j + 1).toNat = j.toNat + 1 from by omega]; exact List.drop_eq_getElem_cons hj
    refine Ev.step (fun k => by rw [spec_ComplementsOf.l0]) ?_
    refine evPos (by omega) (evPos h0 (evPos (by omega) ?_))
    rw [e, wr (by omega) (by omega), ed, List.map_cons]
    refine Ev.bind (raUpTo_ev n (by omega)) (Ev.bind (chMissing_ev _ _ (by rw [upTo_length]; omega) (by have := hl _ (List.getElem_mem hj); omega)) (evPos (by omega) (evTo (ih _ (j + 1) (by omega) (by omega) (by simp; omega)) ?_)))
    simp
/-! laws_toIntS -/
theorem toIntS_l0 (x0 : List Int) (hn : x0.length ≤ 35184372088832) : ∀ (d : Nat) (x3 : List Int) (j : Int), 0 ≤ j → j.toNat + d = x0.length → x3.length = x0.length → x3.take j.toNat = x0.take j.toNat →
    Ev (fun k => laws_toIntS.l0 k x0 x3 j) x0 := by
  intro d
  induction d with
  | zero =>
    intro x3 j h0 hd hl ht
    refine Ev.step (fun k => by rw [laws_toIntS.l0]) ?_
    refine evNeg (by omega) ?_
    rw [take_end x0 j (by omega), take_end x3 j (by omega)] at ht
    exact evEq ht
  | succ d ih =>
    intro x3 j h0 hd hl ht
    refine Ev.step (fun k => by rw [laws_toIntS.l0]) ?_
    refine evPos (by omega) (evPos (by omega) (evPos (by omega) ?_))
    rw [wr (by omega) (by omega)]
    refine ih _ _ (by omega) (by omega) (by simpa using hl) ?_
    rw [set_takeI x3 j _ h0 (by omega), take_rd x0 j h0 (by omega), ht]
theorem toIntS_ev (l : List Int) (hn : l.length ≤ 35184372088832) : Ev (fun k => laws_toIntS.f k l) l := by
  unfold laws_toIntS.f
  refine evPos (by omega) (evPos (by simpa using hn) ?_)
  exact toIntS_l0 l hn l.length _ 0 (by omega) (by simp) (by simp) (by simp)
/-! laws_toIntSS -/
theorem toIntSS_l0 (L : List (List Int)) (hL : L.length ≤ 1048576) (hl : ∀ t ∈ L, t.length ≤ 1048576) : ∀ (d : Nat) (X : List (List Int)) (j : Int), 0 ≤ j → j.toNat + d = L.length → X.length = L.length → X.take j.toNat = L.take j.toNat →
    Ev (fun k => laws_toIntSS.l0 k L X j) L := by
  intro d
  induction d with
  | zero =>
    intro X j h0 hd hX ht
    refine Ev.step (fun k => by rw [laws_toIntSS.l0]) ?_
    refine evNeg (by omega) ?_
    rw [take_end L j (by omega), take_end X j (by omega)] at ht
    exact evEq ht
  | succ d ih =>
    intro X j h0 hd hX ht
    have hj : j.toNat < L.length := by omega
    have e : rd_L1 L j = L[j.toNat] := by unfold rd_L1; rw [List.getD_eq_getElem?_getD, List.getElem?_eq_getElem hj]; rfl
    refine Ev.step (fun k => by rw [laws_toIntSS.l0]) ?_
    refine evPos (by omega) (evPos h0 ?_)
    rw [e, wr (by omega) (by omega)]
    refine Ev.bind (toIntS_ev _ (by have := hl _ (List.getElem_mem hj); omega)) (evPos (by omega) ?_)
    refine ih _ _ (by omega) (by omega) (by simpa using hX) ?_
    have hx : j.toNat < X.length := by omega
    rw [show (j + 1).toNat = j.toNat + 1 from by omega, List.take_succ_eq_append_getElem (by simpa using hx), List.take_succ_eq_append_getElem hj]
    simp [List.take_set_of_le, ht]
theorem toIntSS_ev (L : List (List Int)) (hL : L.length ≤ 1048576) (hl : ∀ t ∈ L, t.length ≤ 1048576) : Ev (fun k => laws_toIntSS.f k L) L := by
  unfold laws_toIntSS.f
  refine evPos (by omega) (evPos (by simp; omega) ?_)
  exact toIntSS_l0 L hL hl L.length _ 0 (by omega) (by simp) (by simp) (by simp)
/-! impl_within -/
theorem within_eq (x a b : Int) : impl_within.f x a b = some (decide (a ≤ x ∧ x ≤ b)) := by
  unfold impl_within.f
  by_cases h : x ≥ a
  · rw [if_pos h]; have h' : a ≤ x := h; simp [h']
  · rw [if_neg h]; have h' : ¬ a ≤ x := h; simp [h']
/-! impl_allWithin -/
theorem allWithin_l0 (a b : Int) (xs : List Int) (hn : xs.length ≤ 35184372088832) : ∀ (d : Nat) (j : Int), 0 ≤ j → j.toNat + d = xs.length →
    Ev (fun k => impl_allWithin.l0 k a b xs (xs.length : Int) j) ((xs.drop j.toNat).all fun x => decide (a ≤ x ∧ x ≤ b)) := by
  intro d
  induction d with
  | zero =>
    intro j h0 hd
    refine Ev.step (fun k => by rw [impl_allWithin.l0]) ?_
    refine evNeg (by omega) (evEq ?_)
    rw [drop_end _ _ (by omega)]; rfl
  | succ d ih =>
    intro j h0 hd
    refine Ev.step (fun k => by rw [impl_allWithin.l0]) ?_
    refine evPos (by omega) (evPos (by omega) (evPos (by omega) ?_))
    simp only [within_eq, Option.bind_some]
    rw [wr (by omega) (by omega), drop_rd xs j h0 (by omega), List.all_cons]
    by_cases c : a ≤ rd xs j ∧ rd xs j ≤ b
    · exact evPos (by simpa using c) (evTo (ih _ (by omega) (by omega)) (by simp [c]))
    · exact evNeg (by simpa using c) (evEq (by rw [decide_eq_false c]; rfl))
theorem allWithin_ev (xs : List Int) (a b : Int) (hn : xs.length ≤ 35184372088832) : Ev (fun k => impl_allWithin.f k xs a b) (xs.all fun x => decide (a ≤ x ∧ x ≤ b)) := by
  unfold impl_allWithin.f
  exact evTo (allWithin_l0 a b xs hn xs.length 0 (by omega) (by simp)) (by simp)
/-! impl_increasing -/
theorem increasing_l0 (xs : List Int) (hn : xs.length ≤ 35184372088832) : ∀ (d : Nat) (j : Int), 1 ≤ j → j.toNat + d = xs.length →
    Ev (fun k => impl_increasing.l0 k xs j) (incrFrom (rd xs (j - 1) + 1) (xs.drop j.toNat)) := by
  intro d
  induction d with
  | zero =>
    intro j h0 hd
    refine Ev.step (fun k => by rw [impl_increasing.l0]) ?_
    refine evNeg (by omega) (evEq ?_)
    rw [drop_end _ _ (by omega)]; rfl
  | succ d ih =>
    intro j h0 hd
    refine Ev.step (fun k => by rw [impl_increasing.l0]) ?_
    rw [wr (x := j - 1) (by omega) (by omega), wr (x := j + 1) (by omega) (by omega), drop_rd xs j (by omega) (by omega)]
    refine evPos (by omega) (evPos (by omega) (evPos (by omega) (evPos (by omega) ?_)))
    by_cases c : rd xs (j - 1) ≥ rd xs j
    · refine evPos c (evEq ?_)
      simp only [incrFrom]
      rw [decide_eq_false (by omega)]; rfl
    · refine evNeg c (evTo (ih (j + 1) (by omega) (by omega)) ?_)
      simp only [incrFrom]
      rw [decide_eq_true (by omega), Bool.true_and, show j + 1 - 1 = j from by omega]
theorem increasing_ev (xs : List Int) (hn : xs.length ≤ 35184372088832) : Ev (fun k => impl_increasing.f k xs) (incr xs) := by
  unfold impl_increasing.f
  cases xs with
  | nil =>
    refine Ev.step (fun k => by rw [impl_increasing.l0]) ?_
    exact evNeg (by simp) (Ev.now _)
  | cons x t =>
    refine evTo (increasing_l0 (x :: t) hn t.length 1 (by omega) (by simp; omega)) ?_
    simp [incr, rd]
/-! impl_IsCombination -/
theorem IsCombination_ev (n : Int) (l : List Int) (hn : l.length ≤ 35184372088832) : Ev (fun k => impl_IsCombination.f k n l) (isComb n l) := by
  unfold impl_IsCombination.f
  simp only [within_eq, Option.bind_some]
  by_cases h : 0 ≤ n ∧ n ≤ 12
  · refine evPos (by simpa using h) ?_
    rw [wr (by omega) (by omega)]
    refine Ev.bind (allWithin_ev l 0 (n - 1) hn) ?_
    rw [isComb, decide_eq_true h, Bool.true_and, ← comb_all]
    by_cases c : (l.all fun x => decide (0 ≤ x ∧ x ≤ n - 1)) = true
    · refine evPos c (Ev.bind (increasing_ev l hn) (evEq ?_))
      rw [c, Bool.true_and]
    · refine evNeg c (evEq ?_)
      rw [Bool.eq_false_iff.2 c, Bool.false_and]
  · refine evNeg (by simpa using h) (evEq ?_)
    rw [isComb, decide_eq_false h, Bool.false_and]
/-! impl_areCombinations -/
theorem areCombinations_l0 (n : Int) (L : List (List Int)) (hL : L.length ≤ 1048576) (hl : ∀ t ∈ L, t.length ≤ 1048576) : ∀ (d : Nat) (j : Int), 0 ≤ j → j.toNat + d = L.length →
    Ev (fun k => impl_areCombinations.l0 k n L L (L.length : Int) j) (((L.drop j.toNat).all fun l => isComb n l) && (decide (0 ≤ n ∧ n ≤ 12) && decide ((L.length : Int) ≤ 1100))) := by
  intro d
  induction d with
  | zero =>
    intro j h0 hd
    refine Ev.step (fun k => by rw [impl_areCombinations.l0]) ?_
    refine evNeg (by omega) ?_
    rw [drop_end L j (by omega), within_eq, Option.bind_some, List.all_nil, Bool.true_and]
    by_cases c : 0 ≤ n ∧ n ≤ 12
    · rw [decide_eq_true c]; exact evPos rfl (evEq (by simp))
    · rw [decide_eq_false c]; exact evNeg (by simp) (evEq (by simp))
  | succ d ih =>
    intro j h0 hd
    have hj : j.toNat < L.length := by omega
    have e : rd_L1 L j = L[j.toNat] := by unfold rd_L1; rw [List.getD_eq_getElem?_getD, List.getElem?_eq_getElem hj]; rfl
    have ed : L.drop j.toNat = L[j.toNat] :: L.drop (j + 1).toNat := by
      rw [show (j + 1).toNat = j.toNat + 1 from by omega]; exact List.drop_eq_getElem_cons hj
    refine Ev.step (fun k => by rw [impl_areCombinations.l0]) ?_
    refine evPos (by omega) (evPos h0 (evPos (by omega) ?_))
    rw [e, wr (by omega) (by omega), ed, List.all_cons]
    refine Ev.bind (IsCombination_ev n _ (by have := hl _ (List.getElem_mem hj); omega)) ?_
    by_cases c2 : isComb n L[j.toNat] = true
    · refine evPos c2 (evTo (ih (j + 1) (by omega) (by omega)) ?_)
      rw [c2]; simp
    · refine evNeg c2 (evEq ?_)
      simp only [Bool.not_eq_true] at c2
      rw [c2]; simp
theorem areCombinations_ev (n : Int) (L : List (List Int)) (hL : L.length ≤ 1048576) (hl : ∀ t ∈ L, t.length ≤ 1048576) : Ev (fun k => impl_areCombinations.f k n L) (okCombs n L) := by
  unfold impl_areCombinations.f
  exact evTo (areCombinations_l0 n L hL hl L.length 0 (by omega) (by simp)) (by simp [okCombs])
/-! slices_Index_int_int -/
theorem Index_l0 (x : Int) (xs : List Int) (hn : xs.length ≤ 35184372088832) : ∀ (d : Nat) (j : Int), 0 ≤ j → j.toNat + d = xs.length →
    Ev (fun k => slices_Index_int_int.l0 k xs x (xs.length : Int) j) (findI x j (xs.drop j.toNat)) := by
  intro d
  induction d with
  | zero =>
    intro j h0 hd
    refine Ev.step (fun k => by rw [slices_Index_int_int.l0]) ?_
    refine evNeg (by omega) (evEq ?_)
    rw [drop_end _ _ (by omega)]; rfl
  | succ d ih =>
    intro j h0 hd
    refine Ev.step (fun k => by rw [slices_Index_int_int.l0]) ?_
    refine evPos (by omega) (evPos (by omega) (evPos (by omega) ?_))
    rw [wr (by omega) (by omega), drop_rd xs j h0 (by omega), findI]
    by_cases c : x = rd xs j
    · rw [if_pos c]; exact evPos c (Ev.now _)
    · rw [if_neg c]; exact evNeg c (ih _ (by omega) (by omega))
theorem Index_ev (xs : List Int) (x : Int) (hn : xs.length ≤ 35184372088832) : Ev (fun k => slices_Index_int_int.f k xs x) (findI x 0 xs) := by
  unfold slices_Index_int_int.f
  exact evTo (Index_l0 x xs hn xs.length 0 (by omega) (by simp)) (by simp)
/-! slices_Contains_int_int -/
theorem Contains_ev (xs : List Int) (x : Int) (hn : xs.length ≤ 35184372088832) : Ev (fun k => slices_Contains_int_int.f k xs x) (decide (x ∈ xs)) := by
  unfold slices_Contains_int_int.f
  refine Ev.bind (Index_ev xs x hn) (evEq ?_)
  have := findI_mem x xs 0 (by omega)
  by_cases c : x ∈ xs
  · rw [decide_eq_true c]; exact decide_eq_true (this.2 c)
  · rw [decide_eq_false c]; exact decide_eq_false (fun h => c (this.1 h))
/-! impl_missing -/
theorem missing_l0 (b xs : List Int) (hn : xs.length ≤ 35184372088) (hb : b.length ≤ 35184372088832) : ∀ (d : Nat) (out : List Int) (j : Int), 0 ≤ j → j.toNat + d = xs.length → out.length ≤ j →
    Ev (fun k => impl_missing.l0 k b out xs (xs.length : Int) j) (out ++ (xs.drop j.toNat).filter (fun x => decide (x ∉ b))) := by
  intro d
  induction d with
  | zero =>
    intro out j h0 hd ho
    refine Ev.step (fun k => by rw [impl_missing.l0]) ?_
    refine evNeg (by omega) (evEq ?_)
    rw [drop_end _ _ (by omega)]; simp
  | succ d ih =>
    intro out j h0 hd ho
    refine Ev.step (fun k => by rw [impl_missing.l0]) ?_
    refine evPos (by omega) (evPos (by omega) (evPos (by omega) (Ev.bind (Contains_ev b _ hb) ?_)))
    rw [wr (by omega) (by omega), drop_rd xs j h0 (by omega)]
    by_cases c : rd xs j ∈ b
    · exact evPos (by simpa using c) (evTo (ih _ _ (by omega) (by omega) (by omega)) (by simp [List.filter_cons, c]))
    · exact evNeg (by simpa using c) (evPos (by omega) (evTo (ih _ _ (by omega) (by omega) (by simp; omega)) (by simp [List.filter_cons, c])))
theorem missing_ev (xs b : List Int) (hn : xs.length ≤ 35184372088) (hb : b.length ≤ 35184372088832) : Ev (fun k => impl_missing.f k xs b) (missL xs b) := by
  unfold impl_missing.f
  exact evTo (missing_l0 b xs hn hb xs.length [] 0 (by omega) (by simp) (by simp)) (by simp [missL])
/-! impl_identity -/
theorem identity_l0 (n : Nat) (hn : n ≤ 1000000000) : ∀ (d : Nat) (j : Int), 0 ≤ j → j.toNat + d = n → Ev (fun k => impl_identity.l0 k (upTo j.toNat) (n : Int) j) (upTo n) := by
  intro d
  induction d with
  | zero =>
    intro j h0 hd
    refine Ev.step (fun k => by rw [impl_identity.l0]) ?_
    exact evNeg (by omega) (evEq (by rw [show j.toNat = n from by omega]))
  | succ d ih =>
    intro j h0 hd
    refine Ev.step (fun k => by rw [impl_identity.l0]) ?_
    refine evPos (by omega) (evPos (by rw [upTo_length]; omega) ?_)
    have h := ih (j + 1) (by omega) (by omega)
    rw [show (j + 1).toNat = j.toNat + 1 from by omega, upTo_succ, Int.toNat_of_nonneg h0] at h
    rw [wr (by omega) (by omega)]
    exact h
theorem identity_ev (n : Nat) (hn : n ≤ 1000000000) : Ev (fun k => impl_identity.f k (n : Int)) (upTo n) := by
  unfold impl_identity.f
  exact identity_l0 n hn n 0 (by omega) (by simp)
/-! impl_ComplementsOf -/
theorem ComplementsOf_l0 (n : Nat) (hn : n ≤ 12) (L : List (List Int)) (hL : L.length ≤ 1100) (hl : ∀ t ∈ L, t.length ≤ 12) : ∀ (d : Nat) (out : List (List Int)) (j : Int), 0 ≤ j → j.toNat + d = L.length → out.length ≤ j →
    Ev (fun k => impl_ComplementsOf.l0 k (n : Int) out L (L.length : Int) j) (out ++ (L.drop j.toNat).map (fun l => missL (upTo n) l), true) := by
  intro d
  induction d with
  | zero =>
    intro out j h0 hd ho
    refine Ev.step (fun k => by rw [impl_ComplementsOf.l0]) ?_
    refine evNeg (by omega) (evEq ?_)
    rw [drop_end L j (by omega)]; simp
  | succ d ih =>
    intro out j h0 hd ho
    have hj : j.toNat < L.length := by omega
    have e : rd_L1 L j = L[j.toNat] := by unfold rd_L1; rw [List.getD_eq_getElem?_getD, List.getElem?_eq_getElem hj]; rfl
    have ed : L.drop j.toNat = L[j.toNat] :: L.drop (j + 1).toNat := by
      rw [show (j + 1).toNat = j.toNat + 1 from by omega]; exact List.drop_eq_getElem_cons hj
    refine Ev.step (fun k => by rw [impl_ComplementsOf.l0]) ?_
    refine evPos (by omega) (evPos h0 (evPos (by omega) ?_))
    rw [e, wr (by omega) (by omega), ed, List.map_cons]
    refine Ev.bind (identity_ev n (by omega)) (Ev.bind (missing_ev _ _ (by rw [upTo_length]; omega) (by have := hl _ (List.getElem_mem hj); omega)) (evPos (by omega) (evTo (ih _ (j + 1) (by omega) (by omega) (by simp; omega)) ?_)))
    simp
/-! laws_eqIntS -/
theorem eqIntS_l0 (a b : List Int) (hn : a.length ≤ 35184372088832) (hb : a.length = b.length) : ∀ (d : Nat) (j : Int), 0 ≤ j → j.toNat + d = a.length →
    Ev (fun k => laws_eqIntS.l0 k a b j) (decide (a.drop j.toNat = b.drop j.toNat)) := by
  intro d
  induction d with
  | zero =>
    intro j h0 hd
    refine Ev.step (fun k => by rw [laws_eqIntS.l0]) ?_
    refine evNeg (by omega) ?_
    rw [drop_end a j (by omega), drop_end b j (by omega)]
    exact evEq rfl
  | succ d ih =>
    intro j h0 hd
    refine Ev.step (fun k => by rw [laws_eqIntS.l0]) ?_
    refine evPos (by omega) (evPos (by omega) (evPos (by omega) ?_))
    rw [wr (by omega) (by omega), drop_rd a j h0 (by omega), drop_rd b j h0 (by omega)]
    by_cases c : rd a j = rd b j
    · refine evPos c (evTo (ih _ (by omega) (by omega)) ?_)
      simp [c]
    · refine evNeg c (evEq ?_)
      simp [c]
theorem eqIntS_ev (a b : List Int) (hn : a.length ≤ 35184372088832) : Ev (fun k => laws_eqIntS.f k a b) (decide (a = b)) := by
  unfold laws_eqIntS.f
  by_cases hb : a.length = b.length
  · exact evPos (by omega) (eqIntS_l0 a b hn hb a.length 0 (by omega) (by simp))
  · refine evNeg (by omega) (evEq ?_)
    exact (decide_eq_false (fun e => hb (by rw [e]))).symm
theorem eqIntS_self (a : List Int) (hn : a.length ≤ 35184372088832) : Ev (fun k => laws_eqIntS.f k a a) true := evTo (eqIntS_ev a a hn) (by simp)
/-! laws_eqIntSS -/
theorem eqIntSS_self (L : List (List Int)) (hn : L.length ≤ 1000000000) (hl : ∀ t ∈ L, t.length ≤ 35184372088832) : Ev (fun k => laws_eqIntSS.f k L L) true := by
  have key : ∀ (d : Nat) (j : Int), 0 ≤ j → j.toNat + d = L.length → Ev (fun k => laws_eqIntSS.l0 k L L j) true := by
    intro d
    induction d with
    | zero =>
      intro j h0 hd
      refine Ev.step (fun k => by rw [laws_eqIntSS.l0]) ?_
      exact evNeg (by omega) (Ev.now _)
    | succ d ih =>
      intro j h0 hd
      refine Ev.step (fun k => by rw [laws_eqIntSS.l0]) ?_
      have hm : rd_L1 L j ∈ L := by
        unfold rd_L1
        rw [List.getD_eq_getElem?_getD, List.getElem?_eq_getElem (show j.toNat < L.length by omega)]
        exact List.getElem_mem _
      refine evPos (by omega) (evPos (by omega) (evPos (by omega) (Ev.bind (eqIntS_self _ (hl _ hm)) (evPos rfl ?_))))
      rw [wr (by omega) (by omega)]
      exact ih _ (by omega) (by omega)
  unfold laws_eqIntSS.f
  exact evPos rfl (key L.length 0 (by omega) (by simp))
/-! laws_markIntS -/
theorem markIntS_l0 : ∀ (d : Nat) (xs : List Int) (m j : Int), 0 ≤ j → j.toNat + d = xs.length → xs.length ≤ 35184372088832 → 0 ≤ m → m + d ≤ 70368744177664 →
    Ev (fun k => laws_markIntS.l0 k xs m j) (m + d, xs.take j.toNat ++ iotaI m d) := by
  intro d
  induction d with
  | zero =>
    intro xs m j h0 hd hn hm hk
    refine Ev.step (fun k => by rw [laws_markIntS.l0]) ?_
    refine evNeg (by omega) (evEq ?_)
    rw [take_end xs j (by omega)]
    simp [iotaI]
  | succ d ih =>
    intro xs m j h0 hd hn hm hk
    refine Ev.step (fun k => by rw [laws_markIntS.l0]) ?_
    refine evPos (by omega) (evPos (by omega) ?_)
    rw [wr (by omega) (by omega), wr (by omega) (by omega)]
    refine evTo (ih (xs.set j.toNat m) (m + 1) (j + 1) (by omega) (by simp; omega) (by simpa using hn) (by omega) (by omega)) ?_
    rw [set_takeI xs j m h0 (by omega)]
    simp [iotaI]
    omega
theorem markIntS_ev (xs : List Int) (m : Int) (hn : xs.length ≤ 35184372088832) (hm : 0 ≤ m) (hk : m + xs.length ≤ 70368744177664) :
    Ev (fun k => laws_markIntS.f k xs m) (m + xs.length, iotaI m xs.length) := by
  unfold laws_markIntS.f
  refine evTo (markIntS_l0 xs.length xs m 0 (by omega) (by simp) hn hm hk) (by simp)
/-! laws_markIntSS -/
theorem markIntSS_l0 (B : Nat) (hB : B ≤ 1100000) : ∀ (d : Nat) (L : List (List Int)) (m j : Int), 0 ≤ j → j.toNat + d = L.length → L.length ≤ 1100000 → (∀ t ∈ L, t.length ≤ B) → 0 ≤ m → m + d * B ≤ 70368744177664 →
    Ev (fun k => laws_markIntSS.l0 k L m j) (m + sumLen (L.drop j.toNat), L.take j.toNat ++ iotaSS m (L.drop j.toNat)) := by
  intro d
  induction d with
  | zero =>
    intro L m j h0 hd hn hl hm hk
    refine Ev.step (fun k => by rw [laws_markIntSS.l0]) ?_
    refine evNeg (by omega) (evEq ?_)
    rw [take_end L j (by omega), drop_end L j (by omega)]
    simp [sumLen, iotaSS]
  | succ d ih =>
    intro L m j h0 hd hn hl hm hk
    refine Ev.step (fun k => by rw [laws_markIntSS.l0]) ?_
    have hm1 : rd_L1 L j ∈ L := by
      unfold rd_L1
      rw [List.getD_eq_getElem?_getD, List.getElem?_eq_getElem (show j.toNat < L.length by omega)]
      exact List.getElem_mem _
    have hb := hl _ hm1
    have hmul : (d + 1) * B = d * B + B := Nat.succ_mul d B
    have hk2 : ((d + 1 : Nat) : Int) * (B : Int) = d * B + B := by exact_mod_cast hmul
    have hnn : 0 ≤ (d : Int) * (B : Int) := Int.mul_nonneg (by omega) (by omega)
    refine evPos (by omega) (evPos (by omega) (Ev.bind (markIntS_ev _ m (by omega) hm (by omega)) ?_))
    rw [wr (by omega) (by omega)]
    refine evTo (ih (L.set j.toNat (iotaI m (rd_L1 L j).length)) (m + (rd_L1 L j).length) (j + 1) (by omega) (by simp; omega) (by simpa using hn) (fun t ht => ?_) (by omega) (by omega)) ?_
    · rcases List.mem_or_eq_of_mem_set ht with ht | rfl
      · exact hl t ht
      · rw [iotaI_length]; exact hb
    · have hdrop : (L.set j.toNat (iotaI m (rd_L1 L j).length)).drop (j + 1).toNat = L.drop (j + 1).toNat := by
        rw [List.drop_set, if_pos (by omega)]
      have htake : (L.set j.toNat (iotaI m (rd_L1 L j).length)).take (j + 1).toNat = L.take j.toNat ++ [iotaI m (rd_L1 L j).length] := by
        have hjl : j.toNat < L.length := by omega
        rw [show (j + 1).toNat = j.toNat + 1 from by omega, List.take_succ_eq_append_getElem (by simpa using hjl)]
        simp [List.take_set_of_le]
      have hcons : L.drop j.toNat = rd_L1 L j :: L.drop (j + 1).toNat := dropD [] L j h0 (by omega)
      rw [hdrop, htake, hcons]
      simp only [sumLen, iotaSS, List.append_assoc, List.singleton_append]
      congr 1; omega
theorem markIntSS_ev (L : List (List Int)) (m : Int) (B : Nat) (hB : B ≤ 1100000) (hn : L.length ≤ 1100000) (hl : ∀ t ∈ L, t.length ≤ B) (hm : 0 ≤ m) (hm2 : m ≤ 2200000) :
    Ev (fun k => laws_markIntSS.f k L m) (m + sumLen L, iotaSS m L) := by
  unfold laws_markIntSS.f
  have h1 : L.length * B ≤ 1210000000000 := Nat.le_trans (Nat.mul_le_mul hn hB) (by decide)
  have h2 : ((L.length * B : Nat) : Int) ≤ 1210000000000 := by omega
  rw [Int.natCast_mul] at h2
  exact evTo (markIntSS_l0 B hB L.length L m 0 (by omega) (by simp) hn hl hm (by omega)) (by simp)
/-! laws_heldIntS -/
theorem heldIntS_l0 (xs : List Int) (hn : xs.length ≤ 35184372088832) : ∀ (d : Nat) (m j : Int), 0 ≤ j → j.toNat + d = xs.length → 0 ≤ m → m + d ≤ 70368744177664 → (∀ i : Int, j ≤ i → i < xs.length → rd xs i = m + (i - j)) →
    Ev (fun k => laws_heldIntS.l0 k xs m j) (m + d) := by
  intro d
  induction d with
  | zero =>
    intro m j h0 hd hm hk h
    refine Ev.step (fun k => by rw [laws_heldIntS.l0]) ?_
    exact evNeg (by omega) (evEq (by simp))
  | succ d ih =>
    intro m j h0 hd hm hk h
    refine Ev.step (fun k => by rw [laws_heldIntS.l0]) ?_
    have hr := h j (by omega) (by omega)
    refine evPos (by omega) (evPos (by omega) (evPos (by omega) ?_))
    rw [wr (by omega) (by omega), wr (by omega) (by omega)]
    refine evTo (ih (m + 1) (j + 1) (by omega) (by omega) (by omega) (by omega) (fun i h1 h2 => ?_)) (by omega)
    rw [h i (by omega) h2]; omega
theorem heldIntS_ev (n : Nat) (m : Int) (hn : n ≤ 35184372088832) (hm : 0 ≤ m) (hk : m + n ≤ 70368744177664) :
    Ev (fun k => laws_heldIntS.f k (iotaI m n) m) (m + n) := by
  unfold laws_heldIntS.f
  have hl := iotaI_length m n
  refine heldIntS_l0 (iotaI m n) (by omega) n m 0 (by omega) (by omega) hm hk (fun i h1 h2 => ?_)
  rw [iotaI_rd n m i h1 (by omega)]; omega
/-! laws_heldIntSS -/
theorem heldIntSS_l0 (B : Nat) (hB : B ≤ 1100000) (L0 : List (List Int)) (hn : L0.length ≤ 1100000) : ∀ (d : Nat) (T : List (List Int)) (m j : Int), 0 ≤ j → j.toNat + d = L0.length → T.length = d → L0.drop j.toNat = iotaSS m T → (∀ t ∈ T, t.length ≤ B) → 0 ≤ m → m + d * B ≤ 70368744177664 →
    Ev (fun k => laws_heldIntSS.l0 k L0 m j) (m + sumLen T) := by
  intro d
  induction d with
  | zero =>
    intro T m j h0 hd hT hL hl hm hk
    refine Ev.step (fun k => by rw [laws_heldIntSS.l0]) ?_
    refine evNeg (by omega) (evEq ?_)
    rw [List.length_eq_zero_iff.1 hT]; simp [sumLen]
  | succ d ih =>
    intro T m j h0 hd hT hL hl hm hk
    refine Ev.step (fun k => by rw [laws_heldIntSS.l0]) ?_
    cases T with
    | nil => simp at hT
    | cons t T =>
      have hcons : L0.drop j.toNat = rd_L1 L0 j :: L0.drop (j + 1).toNat := dropD [] L0 j h0 (by omega)
      rw [hcons] at hL
      simp only [iotaSS, List.cons.injEq] at hL
      have hb := hl t (by simp)
      have hmul : (d + 1) * B = d * B + B := Nat.succ_mul d B
      have hk2 : ((d + 1 : Nat) : Int) * (B : Int) = d * B + B := by exact_mod_cast hmul
      have hnn : 0 ≤ (d : Int) * (B : Int) := Int.mul_nonneg (by omega) (by omega)
      refine evPos (by omega) (evPos (by omega) ?_)
      rw [hL.1]
      refine Ev.bind (heldIntS_ev t.length m (by omega) hm (by omega)) (evNeg (by omega) ?_)
      rw [wr (by omega) (by omega)]
      refine evTo (ih T (m + t.length) (j + 1) (by omega) (by omega) (by simpa using hT) hL.2 (fun t' ht => hl t' (by simp [ht])) (by omega) (by omega)) ?_
      simp only [sumLen]; omega
theorem heldIntSS_ev (L : List (List Int)) (m : Int) (B : Nat) (hB : B ≤ 1100000) (hn : L.length ≤ 1100000) (hl : ∀ t ∈ L, t.length ≤ B) (hm : 0 ≤ m) (hm2 : m ≤ 2200000) :
    Ev (fun k => laws_heldIntSS.f k (iotaSS m L) m) (m + sumLen L) := by
  unfold laws_heldIntSS.f
  have h1 : L.length * B ≤ 1210000000000 := Nat.le_trans (Nat.mul_le_mul hn hB) (by decide)
  have h2 : ((L.length * B : Nat) : Int) ≤ 1210000000000 := by omega
  rw [Int.natCast_mul] at h2
  have h3 := iotaSS_length m L
  exact heldIntSS_l0 B hB (iotaSS m L) (by omega) L.length L m 0 (by omega) (by omega) rfl (by simp) hl hm (by omega)
/-- The law's own functions go through a list of lists. -/
theorem markSS_all (L : List (List Int)) (B : Nat) (hB : B ≤ 1100000) (hn : L.length ≤ 1100000) (hl : ∀ t ∈ L, t.length ≤ B) :
    ∃ (L' : List (List Int)) (m : Int), Ev (fun k => laws_eqIntSS.f k L L) true ∧ Ev (fun k => laws_markIntSS.f k L 1) (m, L') ∧ Ev (fun k => laws_heldIntSS.f k L' 1) m ∧ 0 ≤ m ∧ L'.length = L.length :=
  ⟨iotaSS 1 L, 1 + sumLen L, eqIntSS_self L (by omega) (fun t ht => by have := hl t ht; omega), markIntSS_ev L 1 B hB hn hl (by omega) (by omega), heldIntSS_ev L 1 B hB hn hl (by omega) (by omega), by have := sumLen_nonneg L; omega, iotaSS_length 1 L⟩
theorem FnExactComplementsOf (n : Int) (L : List (List Int)) (wn : (Lit.int .i64 n).wf = true) (hmL : L.length ≤ maxLen) (hgL : ∀ x ∈ L, (fun l : List Int => l.length ≤ maxLen ∧ ∀ x ∈ l, (Lit.int .i64 x).wf = true) x) :
    ∃ k, laws_FnExactComplementsOf.Fine k n L := by
  obtain ⟨s0, ⟨K0, hs0⟩, hr⟩ := szIntSS_ev L hmL (fun t ht => (hgL t ht).1)
  rcases hr with hr | ⟨r1, r2, r3, r4⟩
  · exact ⟨K0, s0, hs0 _ (Nat.le_refl _), .inl hr⟩
  have hsn := sumLen_nonneg L
  have key : ∃ (G : List (List Int)) (b : Bool), Ev (fun q => spec_ComplementsOf.f q n L) (G, b) ∧ Ev (fun q => impl_ComplementsOf.f q n L) (G, b) ∧ G.length ≤ 1100000 ∧ ∀ t ∈ G, t.length ≤ 12 := by
    have ha := chLists_ev n L r3 r4
    have hb := areCombinations_ev n L r3 r4
    unfold spec_ComplementsOf.f impl_ComplementsOf.f
    by_cases ho : okCombs n L = true
    rotate_left
    · exact ⟨[], false, Ev.bind ha (evNeg ho (Ev.now _)), Ev.bind hb (evNeg ho (Ev.now _)), by simp, by simp⟩
    obtain ⟨o1, o2, o3, o4⟩ := okCombs_parts ho
    obtain ⟨N, rfl⟩ := Int.eq_ofNat_of_zero_le o1
    have hlen : ∀ t ∈ L, t.length ≤ 12 := fun t ht => by have := comb_length (o4 t ht); omega
    have h1 := spec_ComplementsOf_l0 N (by omega) L o3 hlen L.length [] 0 (by omega) (by simp) (by simp)
    have h2 := ComplementsOf_l0 N (by omega) L o3 hlen L.length [] 0 (by omega) (by simp) (by simp)
    refine ⟨_, true, Ev.bind ha (evPos ho h1), Ev.bind hb (evPos ho h2), by simp; omega, fun t ht => ?_⟩
    simp only [Int.toNat_zero, List.drop_zero, List.nil_append, List.mem_map] at ht
    obtain ⟨l, hl, rfl⟩ := ht
    have := List.length_filter_le (fun x => decide (x ∉ l)) (upTo N)
    rw [upTo_length] at this
    unfold missL
    omega
  obtain ⟨G, b, ⟨K1, h1⟩, ⟨K2, h2⟩, hgl, hgt⟩ := key
  obtain ⟨L', m, ⟨K3, h3⟩, ⟨K4, h4⟩, ⟨K5, h5⟩, h6, h7⟩ := markSS_all G 12 (by omega) hgl hgt
  obtain ⟨K6, h8⟩ := toIntSS_ev L r3 r4
  obtain ⟨K7, h9⟩ := eqIntSS_self L (by omega) (fun t ht => by have := r4 t ht; omega)
  obtain ⟨K8, h10⟩ := markIntSS_ev L 1 1048576 (by omega) (by omega) r4 (by omega) (by omega)
  refine ⟨K0 + K1 + K2 + K3 + K4 + K5 + K6 + K7 + K8, s0, hs0 _ (by omega), .inr ⟨r1, ?_⟩⟩
  exact ⟨G, L', b, m, _, _, h8 _ (by omega), h9 _ (by omega), h10 _ (by omega), by omega, h1 _ (by omega), h2 _ (by omega), h3 _ (by omega), h4 _ (by omega), h5 _ (by omega), h6, h7⟩

end Go.Proofs.Ytelajnmnbmamhaa.Pure
