/- The pure statement of FnExactRevolvingList: for all arguments that fit, the law as a Lean function answers true after enough rounds. -/
import Derived.Test.YtcohdpmdgplgfaaMFnExactRevolvingListx1
import Derived.Test.YtcohdpmdgplgfaaMFnExactRevolvingListx2
import Derived.Test.YtcohdpmdgplgfaaMFnExactRevolvingListx3
import Derived.Test.YtcohdpmdgplgfaaBase
import Derived.Test.YtcohdpmdgplgfaaComb
namespace Go.Proofs.Ytcohdpmdgplgfaa.Pure
open Go.RowKit Go.Proofs.Ytcohdpmdgplgfaa.MFnExactRevolvingList Go.Proofs.YtcohdpmdgplgfaaW.PrintWords Go.Proofs.YtcohdpmdgplgfaaW.PrintLast Go.Proofs.Ytcohdpmdgplgfaa.Base Go.Proofs.Ytcohdpmdgplgfaa.Comb
set_option linter.unusedVariables false
set_option linter.unusedSimpArgs false

/-! spec_l1In -/
theorem l1In_eq (x a b : Int) : spec_l1In.f x a b = some (decide (a ≤ x ∧ x ≤ b)) := by
  unfold spec_l1In.f
  by_cases h : x ≥ a
  · rw [if_pos h]; have h' : a ≤ x := h; simp [h']
  · rw [if_neg h]; have h' : ¬ a ≤ x := h; simp [h']
/-! spec_raItems -/
theorem raItems_eq (x : Int) : spec_raItems.f x = some (decide (0 ≤ x ∧ x ≤ 12)) := by
  unfold spec_raItems.f; rw [l1In_eq]; rfl
/-! spec_chSize -/
theorem chSize_eq (n k : Int) : spec_chSize.f n k = some (decide (0 ≤ n ∧ n ≤ 12 ∧ 0 ≤ k ∧ k ≤ n)) := by
  unfold spec_chSize.f
  simp only [raItems_eq, l1In_eq, Option.bind_some]
  by_cases h : 0 ≤ n ∧ n ≤ 12
  · rw [if_pos (by simpa using h)]; simp [h]
  · rw [if_neg (by simpa using h)]; congr 1; exact (decide_eq_false (by omega)).symm
/-! spec_raUpTo -/
theorem raUpTo_l0 (n : Nat) (hn : n ≤ 1000000000) : ∀ (d : Nat) (j : Int), 0 ≤ j → j.toNat + d = n → Ev (fun k => spec_raUpTo.l0 k (n : Int) (upTo j.toNat) j) (upTo n) := by
  intro d
  induction d with
  | zero =>
    intro j h0 hd
    refine Ev.step (fun k => by rw [spec_raUpTo.l0]) ?_
    exact evNeg (by omega) (evEq (by rw [show j.toNat = n from by omega]))
  | succ d ih =>
    intro j h0 hd
    refine Ev.step (fun k => by rw [spec_raUpTo.l0]) ?_
    refine evPos (by omega) (evPos (by rw [upTo_length]; omega) ?_)
    have h := ih (j + 1) (by omega) (by omega)
    rw [show (j + 1).toNat = j.toNat + 1 from by omega, upTo_succ, Int.toNat_of_nonneg h0] at h
    rw [wr (by omega) (by omega)]
    exact h
theorem raUpTo_ev (n : Nat) (hn : n ≤ 1000000000) : Ev (fun k => spec_raUpTo.f k (n : Int)) (upTo n) := by
  unfold spec_raUpTo.f
  exact raUpTo_l0 n hn n 0 (by omega) (by simp)
/-! spec_l1Own -/
theorem l1Own_eq (l : List Int) (hn : l.length ≤ 10000000000000) : spec_l1Own.f l = some l := by
  unfold spec_l1Own.f
  simp only [Option.bind_some, List.nil_append, List.length_nil, Nat.zero_add]
  rw [if_pos (by omega)]
/-! spec_chRevolving -/
theorem chRevolving_l0 (n : Int) (hn : 1 ≤ n) (hn' : n ≤ 12) (L : List (List Int)) (hL : L.length ≤ 4096) (hl : ∀ t ∈ L, t.length ≤ 12) : ∀ (d : Nat) (out : List (List Int)) (j : Int), j + 1 = d → d ≤ L.length → out.length + d ≤ 100000 →
    Ev (fun k => spec_chRevolving.l0 k n out L j) (out ++ (L.take d).reverse.map (· ++ [n - 1])) := by
  intro d
  induction d with
  | zero =>
    intro out j hj hd ho
    refine Ev.step (fun k => by rw [spec_chRevolving.l0]) ?_
    exact evNeg (by omega) (evEq (by simp))
  | succ d ih =>
    intro out j hj hd ho
    refine Ev.step (fun k => by rw [spec_chRevolving.l0]) ?_
    have hm : rd_L1 L j ∈ L := by
      unfold rd_L1
      rw [List.getD_eq_getElem?_getD, List.getElem?_eq_getElem (show j.toNat < L.length by omega)]
      exact List.getElem_mem _
    have := hl _ hm
    rw [l1Own_eq _ (by omega)]
    refine evPos (by omega) (evPos (by omega) (evPos (by omega) (evSome (evPos (by omega) (evPos (by omega) ?_)))))
    rw [wr (x := n - 1) (by omega) (by omega), wr (x := j - 1) (by omega) (by omega)]
    refine evTo (ih _ (j - 1) (by omega) (by omega) (by simp; omega)) ?_
    have ht := takeD [] L j (by omega) (by omega)
    rw [show (j + 1).toNat = d + 1 from by omega, show j.toNat = d from by omega] at ht
    rw [ht]
    simp only [List.reverse_append, List.reverse_cons, List.reverse_nil, List.nil_append, List.map_append, List.map_cons, List.map_nil, List.cons_append, List.append_assoc]
    unfold rd_L1
    rw [show j.toNat = d from by omega]
theorem chRevolving_ev : ∀ (n k : Nat), n ≤ 12 → k ≤ n → Ev (fun q => spec_chRevolving.f q (n : Int) (k : Int)) (rev n k) := by
  intro n
  induction n with
  | zero =>
    intro k hn hk
    obtain rfl : k = 0 := by omega
    refine Ev.step (fun q => by rw [spec_chRevolving.f]) ?_
    refine evPos (by simp) (Ev.step (fun q => by rw [spec_chRevolving.j0]) ?_)
    exact evPos rfl (Ev.bind (raUpTo_ev 0 (by omega)) (Ev.now _))
  | succ n ih =>
    intro k hn hk
    refine Ev.step (fun q => by rw [spec_chRevolving.f]) ?_
    cases k with
    | zero =>
      refine evPos (by simp) (Ev.step (fun q => by rw [spec_chRevolving.j0]) ?_)
      exact evPos rfl (Ev.bind (raUpTo_ev 0 (by omega)) (Ev.now _))
    | succ k =>
      refine evNeg (by omega) (Ev.step (fun q => by rw [spec_chRevolving.j0]) ?_)
      by_cases e : k = n
      · subst e
        refine evPos (by simp) (Ev.bind (raUpTo_ev (k + 1) (by omega)) (evEq ?_))
        simp [rev]
      · refine evNeg (by simp; omega) ?_
        rw [wr (x := ((n + 1 : Nat) : Int) - 1) (by omega) (by omega), wr (x := ((k + 1 : Nat) : Int) - 1) (by omega) (by omega)]
        rw [show ((n + 1 : Nat) : Int) - 1 = (n : Int) from by omega, show ((k + 1 : Nat) : Int) - 1 = (k : Int) from by omega]
        refine Ev.bind (ih (k + 1) (by omega) (by omega)) (Ev.bind (ih k (by omega) (by omega)) ?_)
        have hl1 := rev_length n (k + 1) (by omega)
        have hl2 := rev_length n k (by omega)
        have hc1 := C_le12 n (k + 1) (by omega)
        have hc2 := C_le12 n k (by omega)
        rw [wr (by omega) (by omega)]
        refine evTo (chRevolving_l0 ((n + 1 : Nat) : Int) (by omega) (by omega) (rev n k) (by omega) (fun t ht => by have := (rev_mem n k t (by omega) ht).2; omega) (rev n k).length _ _ (by omega) (by omega) (by omega)) ?_
        rw [List.take_of_length_le (by omega)]
        simp only [rev, if_neg e]
        rw [show ((n + 1 : Nat) : Int) - 1 = (n : Int) from by omega]
/-! spec_RevolvingList -/
theorem spec_RevolvingList_ev (n k : Int) : Ev (fun q => spec_RevolvingList.f q n k) (if 0 ≤ n ∧ n ≤ 12 ∧ 0 ≤ k ∧ k ≤ n then (rev n.toNat k.toNat, true) else ([], false)) := by
  unfold spec_RevolvingList.f
  simp only [chSize_eq, Option.bind_some]
  by_cases h : 0 ≤ n ∧ n ≤ 12 ∧ 0 ≤ k ∧ k ≤ n
  · have hr := chRevolving_ev n.toNat k.toNat (by omega) (by omega)
    rw [Int.toNat_of_nonneg h.1, Int.toNat_of_nonneg h.2.2.1] at hr
    exact evPos (by simpa using h) (Ev.bind hr (evEq (by rw [if_pos h])))
  · exact evNeg (by simpa using h) (evEq (by rw [if_neg h]))
/-! impl_within -/
theorem within_eq (x a b : Int) : impl_within.f x a b = some (decide (a ≤ x ∧ x ≤ b)) := by
  unfold impl_within.f
  by_cases h : x ≥ a
  · rw [if_pos h]; have h' : a ≤ x := h; simp [h']
  · rw [if_neg h]; have h' : ¬ a ≤ x := h; simp [h']
/-! impl_isChoice -/
theorem isChoice_eq (n k : Int) : impl_isChoice.f n k = some (decide (0 ≤ n ∧ n ≤ 12 ∧ 0 ≤ k ∧ k ≤ n)) := by
  unfold impl_isChoice.f
  simp only [within_eq, Option.bind_some]
  by_cases h : 0 ≤ n ∧ n ≤ 12
  · rw [if_pos (by simpa using h)]; simp [h]
  · rw [if_neg (by simpa using h)]; congr 1; exact (decide_eq_false (by omega)).symm
/-! impl_binomial -/
theorem binomial_tab : ((List.range 13).all fun n => (List.range 13).all fun k => impl_binomial.f 20 (n : Int) (k : Int) == some (C n k : Int)) = true := by decide +kernel
theorem binomial_ev (n k : Nat) (hn : n ≤ 12) (hk : k ≤ 12) : Ev (fun r => impl_binomial.f r (n : Int) (k : Int)) (C n k : Int) := by
  refine evTab (g := fun r => impl_binomial.f r (n : Int) (k : Int)) (impl_binomial.mono _ _) 20 ?_
  have h := List.all_eq_true.1 (List.all_eq_true.1 binomial_tab n (List.mem_range.2 (by omega))) k (List.mem_range.2 (by omega))
  exact beq_iff_eq.1 h
theorem binomial_evI (n k : Int) (hn : 0 ≤ n) (hn' : n ≤ 12) (hk : 0 ≤ k) (hk' : k ≤ 12) : Ev (fun r => impl_binomial.f r n k) (C n.toNat k.toNat : Int) := by
  have := binomial_ev n.toNat k.toNat (by omega) (by omega)
  rwa [Int.toNat_of_nonneg hn, Int.toNat_of_nonneg hk] at this
/-! impl_identity -/
theorem identity_l0 (n : Nat) (hn : n ≤ 1000000000) : ∀ (d : Nat) (j : Int), 0 ≤ j → j.toNat + d = n → Ev (fun k => impl_identity.l0 k (upTo j.toNat) (n : Int) j) (upTo n) := by
  intro d
  induction d with
  | zero =>
    intro j h0 hd
    refine Ev.step (fun k => by rw [impl_identity.l0]) ?_
    exact evNeg (by omega) (evEq (by rw [show j.toNat = n from by omega]))
  | succ d ih =>
    intro j h0 hd
    refine Ev.step (fun k => by rw [impl_identity.l0]) ?_
    refine evPos (by omega) (evPos (by rw [upTo_length]; omega) ?_)
    have h := ih (j + 1) (by omega) (by omega)
    rw [show (j + 1).toNat = j.toNat + 1 from by omega, upTo_succ, Int.toNat_of_nonneg h0] at h
    rw [wr (by omega) (by omega)]
    exact h
theorem identity_ev (n : Nat) (hn : n ≤ 1000000000) : Ev (fun k => impl_identity.f k (n : Int)) (upTo n) := by
  unfold impl_identity.f
  exact identity_l0 n hn n 0 (by omega) (by simp)
/-! impl_revolvingAt -/
theorem revolvingAt_ev : ∀ (n k : Nat) (r : Int), n ≤ 12 → k ≤ n → 0 ≤ r → r < C n k → Ev (fun q => impl_revolvingAt.f q (n : Int) (k : Int) r) ((rev n k).getD r.toNat []) := by
  intro n
  induction n with
  | zero =>
    intro k r hn hk h0 hr
    obtain rfl : k = 0 := by omega
    refine Ev.step (fun q => by rw [impl_revolvingAt.f]) ?_
    refine evPos (by simp) (evEq ?_)
    simp at hr
    obtain rfl : r = 0 := by omega
    rfl
  | succ n ih =>
    intro k r hn hk h0 hr
    refine Ev.step (fun q => by rw [impl_revolvingAt.f]) ?_
    cases k with
    | zero =>
      refine evPos (by simp) (evEq ?_)
      simp at hr
      obtain rfl : r = 0 := by omega
      rfl
    | succ k =>
      refine evNeg (by omega) ?_
      by_cases e : k = n
      · subst e
        refine evPos rfl (Ev.bind (identity_ev (k + 1) (by omega)) (evEq ?_))
        simp at hr
        obtain rfl : r = 0 := by omega
        simp [rev]
      · refine evNeg (by omega) ?_
        have hc1 := C_le12 n (k + 1) (by omega)
        have hc2 := C_le12 n k (by omega)
        have hl1 := rev_length n (k + 1) (by omega)
        have hl2 := rev_length n k (by omega)
        rw [wr (x := ((n + 1 : Nat) : Int) - 1) (by omega) (by omega), wr (x := ((k + 1 : Nat) : Int) - 1) (by omega) (by omega)]
        rw [show ((n + 1 : Nat) : Int) - 1 = (n : Int) from by omega, show ((k + 1 : Nat) : Int) - 1 = (k : Int) from by omega]
        refine Ev.bind (binomial_ev n (k + 1) (by omega) (by omega)) ?_
        have hrv : rev (n + 1) (k + 1) = rev n (k + 1) ++ (rev n k).reverse.map (· ++ [(n : Int)]) := by simp [rev, e]
        rw [hrv, List.getD_eq_getElem?_getD]
        by_cases c : r < C n (k + 1)
        · refine evPos c (Ev.bind (ih (k + 1) r (by omega) (by omega) h0 c) (evEq ?_))
          rw [List.getElem?_append_left (by omega), List.getD_eq_getElem?_getD]
        · refine evNeg c (Ev.bind (binomial_ev (n + 1) (k + 1) (by omega) (by omega)) ?_)
          rw [C_succ] at hr ⊢
          simp (disch := omega) only [wr]
          have h := ih k (((C n (k + 1) + C n k : Nat) : Int) - 1 - r) (by omega) (by omega) (by omega) (by omega)
          refine Ev.bind h ?_
          have hi : r.toNat - (rev n (k + 1)).length < (rev n k).length := by omega
          have hm : (rev n k).getD (((C n (k + 1) + C n k : Nat) : Int) - 1 - r).toNat [] ∈ rev n k := by
            rw [List.getD_eq_getElem?_getD, List.getElem?_eq_getElem (show (((C n (k + 1) + C n k : Nat) : Int) - 1 - r).toNat < (rev n k).length by omega)]
            exact List.getElem_mem _
          have hlen := (rev_mem n k _ (by omega) hm).2
          refine evPos (by omega) (evEq ?_)
          rw [List.getElem?_append_right (by omega), List.getElem?_map, List.getElem?_reverse (by omega)]
          rw [show (rev n k).length - 1 - (r.toNat - (rev n (k + 1)).length) = (((C n (k + 1) + C n k : Nat) : Int) - 1 - r).toNat from by omega]
          rw [List.getD_eq_getElem?_getD, List.getElem?_eq_getElem (show (((C n (k + 1) + C n k : Nat) : Int) - 1 - r).toNat < (rev n k).length by omega)]
          rfl
/-! impl_RevolvingList -/
theorem RevolvingList_l0 (n k : Nat) (hn : n ≤ 12) (hk : k ≤ n) : ∀ (d : Nat) (out : List (List Int)) (j : Int), 0 ≤ j → j.toNat + d = C n k → out = (rev n k).take j.toNat →
    Ev (fun q => impl_RevolvingList.l0 q (n : Int) (k : Int) out (C n k : Int) j) (rev n k, true) := by
  have hc := C_le12 n k hn
  have hl := rev_length n k hk
  intro d
  induction d with
  | zero =>
    intro out j h0 hd ho
    refine Ev.step (fun q => by rw [impl_RevolvingList.l0]) ?_
    refine evNeg (by omega) (evEq ?_)
    rw [ho, take_end _ _ (by omega)]
  | succ d ih =>
    intro out j h0 hd ho
    refine Ev.step (fun q => by rw [impl_RevolvingList.l0]) ?_
    refine evPos (by omega) (Ev.bind (revolvingAt_ev n k j hn hk h0 (by omega)) ?_)
    have ho2 : out.length = j.toNat := by rw [ho, List.length_take]; omega
    rw [wr (by omega) (by omega)]
    refine evPos (by omega) (ih _ _ (by omega) (by omega) ?_)
    rw [takeD [] _ j h0 (by omega), ho]
theorem RevolvingList_ev (n k : Int) : Ev (fun q => impl_RevolvingList.f q n k) (if 0 ≤ n ∧ n ≤ 12 ∧ 0 ≤ k ∧ k ≤ n then (rev n.toNat k.toNat, true) else ([], false)) := by
  unfold impl_RevolvingList.f
  simp only [isChoice_eq, Option.bind_some]
  by_cases h : 0 ≤ n ∧ n ≤ 12 ∧ 0 ≤ k ∧ k ≤ n
  · rw [if_pos h]
    refine evPos (by simpa using h) (Ev.bind (binomial_evI n k (by omega) (by omega) (by omega) (by omega)) ?_)
    have hr := RevolvingList_l0 n.toNat k.toNat (by omega) (by omega) (C n.toNat k.toNat) [] 0 (by omega) (by simp) (by simp)
    rw [Int.toNat_of_nonneg h.1, Int.toNat_of_nonneg h.2.2.1] at hr
    exact hr
  · exact evNeg (by simpa using h) (evEq (by rw [if_neg h]))
/-! laws_eqIntS -/
theorem eqIntS_l0 (a b : List Int) (hn : a.length ≤ 35184372088832) (hb : a.length = b.length) : ∀ (d : Nat) (j : Int), 0 ≤ j → j.toNat + d = a.length →
    Ev (fun k => laws_eqIntS.l0 k a b j) (decide (a.drop j.toNat = b.drop j.toNat)) := by
  intro d
  induction d with
  | zero =>
    intro j h0 hd
    refine Ev.step (fun k => by rw [laws_eqIntS.l0]) ?_
    refine evNeg (by omega) ?_
    rw [drop_end a j (by omega), drop_end b j (by omega)]
    exact evEq rfl
  | succ d ih =>
    intro j h0 hd
    refine Ev.step (fun k => by rw [laws_eqIntS.l0]) ?_
    refine evPos (by omega) (evPos (by omega) (evPos (by omega) ?_))
    rw [wr (by omega) (by omega), drop_rd a j h0 (by omega), drop_rd b j h0 (by omega)]
    by_cases c : rd a j = rd b j
    · refine evPos c (evTo (ih _ (by omega) (by omega)) ?_)
      simp [c]
    · refine evNeg c (evEq ?_)
      simp [c]
theorem eqIntS_ev (a b : List Int) (hn : a.length ≤ 35184372088832) : Ev (fun k => laws_eqIntS.f k a b) (decide (a = b)) := by
  unfold laws_eqIntS.f
  by_cases hb : a.length = b.length
  · exact evPos (by omega) (eqIntS_l0 a b hn hb a.length 0 (by omega) (by simp))
  · refine evNeg (by omega) (evEq ?_)
    exact (decide_eq_false (fun e => hb (by rw [e]))).symm
theorem eqIntS_self (a : List Int) (hn : a.length ≤ 35184372088832) : Ev (fun k => laws_eqIntS.f k a a) true := evTo (eqIntS_ev a a hn) (by simp)
/-! laws_eqIntSS -/
theorem eqIntSS_self (L : List (List Int)) (hn : L.length ≤ 1000000000) (hl : ∀ t ∈ L, t.length ≤ 35184372088832) : Ev (fun k => laws_eqIntSS.f k L L) true := by
  have key : ∀ (d : Nat) (j : Int), 0 ≤ j → j.toNat + d = L.length → Ev (fun k => laws_eqIntSS.l0 k L L j) true := by
    intro d
    induction d with
    | zero =>
      intro j h0 hd
      refine Ev.step (fun k => by rw [laws_eqIntSS.l0]) ?_
      exact evNeg (by omega) (Ev.now _)
    | succ d ih =>
      intro j h0 hd
      refine Ev.step (fun k => by rw [laws_eqIntSS.l0]) ?_
      have hm : rd_L1 L j ∈ L := by
        unfold rd_L1
        rw [List.getD_eq_getElem?_getD, List.getElem?_eq_getElem (show j.toNat < L.length by omega)]
        exact List.getElem_mem _
      refine evPos (by omega) (evPos (by omega) (evPos (by omega) (Ev.bind (eqIntS_self _ (hl _ hm)) (evPos rfl ?_))))
      rw [wr (by omega) (by omega)]
      exact ih _ (by omega) (by omega)
  unfold laws_eqIntSS.f
  exact evPos rfl (key L.length 0 (by omega) (by simp))
/-! laws_markIntS -/
theorem markIntS_l0 : ∀ (d : Nat) (xs : List Int) (m j : Int), 0 ≤ j → j.toNat + d = xs.length → xs.length ≤ 35184372088832 → 0 ≤ m → m + d ≤ 70368744177664 →
    Ev (fun k => laws_markIntS.l0 k xs m j) (m + d, xs.take j.toNat ++ iotaI m d) := by
  intro d
  induction d with
  | zero =>
    intro xs m j h0 hd hn hm hk
    refine Ev.step (fun k => by rw [laws_markIntS.l0]) ?_
    refine evNeg (by omega) (evEq ?_)
    rw [take_end xs j (by omega)]
    simp [iotaI]
  | succ d ih =>
    intro xs m j h0 hd hn hm hk
    refine Ev.step (fun k => by rw [laws_markIntS.l0]) ?_
    refine evPos (by omega) (evPos (by omega) ?_)
    rw [wr (by omega) (by omega), wr (by omega) (by omega)]
    refine evTo (ih (xs.set j.toNat m) (m + 1) (j + 1) (by omega) (by simp; omega) (by simpa using hn) (by omega) (by omega)) ?_
    rw [set_takeI xs j m h0 (by omega)]
    simp [iotaI]
    omega
theorem markIntS_ev (xs : List Int) (m : Int) (hn : xs.length ≤ 35184372088832) (hm : 0 ≤ m) (hk : m + xs.length ≤ 70368744177664) :
    Ev (fun k => laws_markIntS.f k xs m) (m + xs.length, iotaI m xs.length) := by
  unfold laws_markIntS.f
  refine evTo (markIntS_l0 xs.length xs m 0 (by omega) (by simp) hn hm hk) (by simp)
/-! laws_markIntSS -/
theorem markIntSS_l0 (B : Nat) (hB : B ≤ 1100000) : ∀ (d : Nat) (L : List (List Int)) (m j : Int), 0 ≤ j → j.toNat + d = L.length → L.length ≤ 1100000 → (∀ t ∈ L, t.length ≤ B) → 0 ≤ m → m + d * B ≤ 70368744177664 →
    Ev (fun k => laws_markIntSS.l0 k L m j) (m + sumLen (L.drop j.toNat), L.take j.toNat ++ iotaSS m (L.drop j.toNat)) := by
  intro d
  induction d with
  | zero =>
    intro L m j h0 hd hn hl hm hk
    refine Ev.step (fun k => by rw [laws_markIntSS.l0]) ?_
    refine evNeg (by omega) (evEq ?_)
    rw [take_end L j (by omega), drop_end L j (by omega)]
    simp [sumLen, iotaSS]
  | succ d ih =>
    intro L m j h0 hd hn hl hm hk
    refine Ev.step (fun k => by rw [laws_markIntSS.l0]) ?_
    have hm1 : rd_L1 L j ∈ L := by
      unfold rd_L1
      rw [List.getD_eq_getElem?_getD, List.getElem?_eq_getElem (show j.toNat < L.length by omega)]
      exact List.getElem_mem _
    have hb := hl _ hm1
    have hmul : (d + 1) * B = d * B + B := Nat.succ_mul d B
    have hk2 : ((d + 1 : Nat) : Int) * (B : Int) = d * B + B := by exact_mod_cast hmul
    have hnn : 0 ≤ (d : Int) * (B : Int) := Int.mul_nonneg (by omega) (by omega)
    refine evPos (by omega) (evPos (by omega) (Ev.bind (markIntS_ev _ m (by omega) hm (by omega)) ?_))
    rw [wr (by omega) (by omega)]
    refine evTo (ih (L.set j.toNat (iotaI m (rd_L1 L j).length)) (m + (rd_L1 L j).length) (j + 1) (by omega) (by simp; omega) (by simpa using hn) (fun t ht => ?_) (by omega) (by omega)) ?_
    · rcases List.mem_or_eq_of_mem_set ht with ht | rfl
      · exact hl t ht
      · rw [iotaI_length]; exact hb
    · have hdrop : (L.set j.toNat (iotaI m (rd_L1 L j).length)).drop (j + 1).toNat = L.drop (j + 1).toNat := by
        rw [List.drop_set, if_pos (by omega)]
      have htake : (L.set j.toNat (iotaI m (rd_L1 L j).length)).take (j + 1).toNat = L.take j.toNat ++ [iotaI m (rd_L1 L j).length] := by
        have hjl : j.toNat < L.length := by omega
        rw [show (j + 1).toNat = j.toNat + 1 from by omega, List.take_succ_eq_append_getElem (by simpa using hjl)]
        simp [List.take_set_of_le]
      have hcons : L.drop j.toNat = rd_L1 L j :: L.drop (j + 1).toNat := dropD [] L j h0 (by omega)
      rw [hdrop, htake, hcons]
      simp only [sumLen, iotaSS, List.append_assoc, List.singleton_append]
      congr 1; omega
theorem markIntSS_ev (L : List (List Int)) (m : Int) (B : Nat) (hB : B ≤ 1100000) (hn : L.length ≤ 1100000) (hl : ∀ t ∈ L, t.length ≤ B) (hm : 0 ≤ m) (hm2 : m ≤ 2200000) :
    Ev (fun k => laws_markIntSS.f k L m) (m + sumLen L, iotaSS m L) := by
  unfold laws_markIntSS.f
  have h1 : L.length * B ≤ 1210000000000 := Nat.le_trans (Nat.mul_le_mul hn hB) (by decide)
  have h2 : ((L.length * B : Nat) : Int) ≤ 1210000000000 := by omega
  rw [Int.natCast_mul] at h2
  exact evTo (markIntSS_l0 B hB L.length L m 0 (by omega) (by simp) hn hl hm (by omega)) (by simp)
/-! laws_heldIntS -/
theorem heldIntS_l0 (xs : List Int) (hn : xs.length ≤ 35184372088832) : ∀ (d : Nat) (m j : Int), 0 ≤ j → j.toNat + d = xs.length → 0 ≤ m → m + d ≤ 70368744177664 → (∀ i : Int, j ≤ i → i < xs.length → rd xs i = m + (i - j)) →
    Ev (fun k => laws_heldIntS.l0 k xs m j) (m + d) := by
  intro d
  induction d with
  | zero =>
    intro m j h0 hd hm hk h
    refine Ev.step (fun k => by rw [laws_heldIntS.l0]) ?_
    exact evNeg (by omega) (evEq (by simp))
  | succ d ih =>
    intro m j h0 hd hm hk h
    refine Ev.step (fun k => by rw [laws_heldIntS.l0]) ?_
    have hr := h j (by omega) (by omega)
    refine evPos (by omega) (evPos (by omega) (evPos (by omega) ?_))
    rw [wr (by omega) (by omega), wr (by omega) (by omega)]
    refine evTo (ih (m + 1) (j + 1) (by omega) (by omega) (by omega) (by omega) (fun i h1 h2 => ?_)) (by omega)
    rw [h i (by omega) h2]; omega
theorem heldIntS_ev (n : Nat) (m : Int) (hn : n ≤ 35184372088832) (hm : 0 ≤ m) (hk : m + n ≤ 70368744177664) :
    Ev (fun k => laws_heldIntS.f k (iotaI m n) m) (m + n) := by
  unfold laws_heldIntS.f
  have hl := iotaI_length m n
  refine heldIntS_l0 (iotaI m n) (by omega) n m 0 (by omega) (by omega) hm hk (fun i h1 h2 => ?_)
  rw [iotaI_rd n m i h1 (by omega)]; omega
/-! laws_heldIntSS -/
theorem heldIntSS_l0 (B : Nat) (hB : B ≤ 1100000) (L0 : List (List Int)) (hn : L0.length ≤ 1100000) : ∀ (d : Nat) (T : List (List Int)) (m j : Int), 0 ≤ j → j.toNat + d = L0.length → T.length = d → L0.drop j.toNat = iotaSS m T → (∀ t ∈ T, t.length ≤ B) → 0 ≤ m → m + d * B ≤ 70368744177664 →
    Ev (fun k => laws_heldIntSS.l0 k L0 m j) (m + sumLen T) := by
  intro d
  induction d with
  | zero =>
    intro T m j h0 hd hT hL hl hm hk
    refine Ev.step (fun k => by rw [laws_heldIntSS.l0]) ?_
    refine evNeg (by omega) (evEq ?_)
    rw [List.length_eq_zero_iff.1 hT]; simp [sumLen]
  | succ d ih =>
    intro T m j h0 hd hT hL hl hm hk
    refine Ev.step (fun k => by rw [laws_heldIntSS.l0]) ?_
    cases T with
    | nil => simp at hT
    | cons t T =>
      have hcons : L0.drop j.toNat = rd_L1 L0 j :: L0.drop (j + 1).toNat := dropD [] L0 j h0 (by omega)
      rw [hcons] at hL
      simp only [iotaSS, List.cons.injEq] at hL
      have hb := hl t (by simp)
      have hmul : (d + 1) * B = d * B + B := Nat.succ_mul d B
      have hk2 : ((d + 1 : Nat) : Int) * (B : Int) = d * B + B := by exact_mod_cast hmul
      have hnn : 0 ≤ (d : Int) * (B : Int) := Int.mul_nonneg (by omega) (by omega)
      refine evPos (by omega) (evPos (by omega) ?_)
      rw [hL.1]
      refine Ev.bind (heldIntS_ev t.length m (by omega) hm (by omega)) (evNeg (by omega) ?_)
      rw [wr (by omega) (by omega)]
      refine evTo (ih T (m + t.length) (j + 1) (by omega) (by omega) (by simpa using hT) hL.2 (fun t' ht => hl t' (by simp [ht])) (by omega) (by omega)) ?_
      simp only [sumLen]; omega
theorem heldIntSS_ev (L : List (List Int)) (m : Int) (B : Nat) (hB : B ≤ 1100000) (hn : L.length ≤ 1100000) (hl : ∀ t ∈ L, t.length ≤ B) (hm : 0 ≤ m) (hm2 : m ≤ 2200000) :
    Ev (fun k => laws_heldIntSS.f k (iotaSS m L) m) (m + sumLen L) := by
  unfold laws_heldIntSS.f
  have h1 : L.length * B ≤ 1210000000000 := Nat.le_trans (Nat.mul_le_mul hn hB) (by decide)
  have h2 : ((L.length * B : Nat) : Int) ≤ 1210000000000 := by omega
  rw [Int.natCast_mul] at h2
  have h3 := iotaSS_length m L
  exact heldIntSS_l0 B hB (iotaSS m L) (by omega) L.length L m 0 (by omega) (by omega) rfl (by simp) hl hm (by omega)
/-- The law's own functions go through a list of lists. -/
theorem markSS_all (L : List (List Int)) (B : Nat) (hB : B ≤ 1100000) (hn : L.length ≤ 1100000) (hl : ∀ t ∈ L, t.length ≤ B) :
    ∃ (L' : List (List Int)) (m : Int), Ev (fun k => laws_eqIntSS.f k L L) true ∧ Ev (fun k => laws_markIntSS.f k L 1) (m, L') ∧ Ev (fun k => laws_heldIntSS.f k L' 1) m ∧ 0 ≤ m ∧ L'.length = L.length :=
  ⟨iotaSS 1 L, 1 + sumLen L, eqIntSS_self L (by omega) (fun t ht => by have := hl t ht; omega), markIntSS_ev L 1 B hB hn hl (by omega) (by omega), heldIntSS_ev L 1 B hB hn hl (by omega) (by omega), by have := sumLen_nonneg L; omega, iotaSS_length 1 L⟩
/-- What is to be shown of the law. -/
def FnExactRevolvingList_Pure : Prop := ∀ (n k : Int), (Lit.int .i64 n).wf = true → (Lit.int .i64 k).wf = true → ∃ q, laws_FnExactRevolvingList.Fine q n k
theorem FnExactRevolvingList : FnExactRevolvingList_Pure := by
  intro n k wn wk
  have h1 := spec_RevolvingList_ev n k
  have h2 := RevolvingList_ev n k
  have hg : ∃ g b, (if 0 ≤ n ∧ n ≤ 12 ∧ 0 ≤ k ∧ k ≤ n then (rev n.toNat k.toNat, true) else ([], false)) = (g, b) ∧ g.length ≤ 1100000 ∧ ∀ t ∈ g, t.length ≤ 12 := by
    by_cases h : 0 ≤ n ∧ n ≤ 12 ∧ 0 ≤ k ∧ k ≤ n
    · rw [if_pos h]
      have hs := rev_small n.toNat k.toNat (by omega) (by omega)
      exact ⟨_, _, rfl, by omega, hs.2⟩
    · rw [if_neg h]; exact ⟨_, _, rfl, by simp, by simp⟩
  obtain ⟨g, b, he, hgl, hgt⟩ := hg
  rw [he] at h1 h2
  obtain ⟨L', m, ⟨K3, h3⟩, ⟨K4, h4⟩, ⟨K5, h5⟩, h6, h7⟩ := markSS_all g 12 (by omega) hgl hgt
  obtain ⟨K1, h1⟩ := h1
  obtain ⟨K2, h2⟩ := h2
  exact ⟨K1 + K2 + K3 + K4 + K5, g, L', b, m, h1 _ (by omega), h2 _ (by omega), h3 _ (by omega), h4 _ (by omega), h5 _ (by omega), h6, h7⟩

end Go.Proofs.Ytcohdpmdgplgfaa.Pure
