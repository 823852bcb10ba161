/- The pure statement of FnExactNextRevolving: for all arguments that fit, the printed law answers true after enough rounds. -/
import Derived.Test.YtcohdpmdgplgfaaPFnExactNextRevolvingx5
import Derived.Test.YtcohdpmdgplgfaaBase
import Derived.Test.YtcohdpmdgplgfaaComb
namespace Go.Proofs.Ytcohdpmdgplgfaa.Pure
open Go.RowKit Go.Proofs.Ytcohdpmdgplgfaa.PFnExactNextRevolving Go.Proofs.YtcohdpmdgplgfaaW.PrintWords Go.Proofs.YtcohdpmdgplgfaaW.PrintLast Go.Proofs.Ytcohdpmdgplgfaa.Base Go.Proofs.Ytcohdpmdgplgfaa.Comb
set_option linter.unusedVariables false
set_option linter.unusedSimpArgs false

/-! laws_toIntS -/
theorem toIntS_l0 (x0 : List Int) (hn : x0.length ≤ 35184372088832) : ∀ (d : Nat) (x3 : List Int) (j : Int), 0 ≤ j → j.toNat + d = x0.length → x3.length = x0.length → x3.take j.toNat = x0.take j.toNat →
    Ev (fun k => laws_toIntS.l0 k x0 x3 j) x0 := by
  intro d
  induction d with
  | zero =>
    intro x3 j h0 hd hl ht
    refine Ev.step (fun k => by rw [laws_toIntS.l0]) ?_
    refine evNeg (by omega) ?_
    rw [take_end x0 j (by omega), take_end x3 j (by omega)] at ht
    exact evEq ht
  | succ d ih =>
    intro x3 j h0 hd hl ht
    refine Ev.step (fun k => by rw [laws_toIntS.l0]) ?_
    refine evPos (by omega) (evPos (by omega) (evPos (by omega) ?_))
    rw [wr (by omega) (by omega)]
    refine ih _ _ (by omega) (by omega) (by simpa using hl) ?_
    rw [set_takeI x3 j _ h0 (by omega), take_rd x0 j h0 (by omega), ht]
theorem toIntS_ev (l : List Int) (hn : l.length ≤ 35184372088832) : Ev (fun k => laws_toIntS.f k l) l := by
  unfold laws_toIntS.f
  refine evPos (by omega) (evPos (by simpa using hn) ?_)
  exact toIntS_l0 l hn l.length _ 0 (by omega) (by simp) (by simp) (by simp)
/-! laws_eqIntS -/
theorem eqIntS_l0 (a b : List Int) (hn : a.length ≤ 35184372088832) (hb : a.length = b.length) : ∀ (d : Nat) (j : Int), 0 ≤ j → j.toNat + d = a.length →
    Ev (fun k => laws_eqIntS.l0 k a b j) (decide (a.drop j.toNat = b.drop j.toNat)) := by
  intro d
  induction d with
  | zero =>
    intro j h0 hd
    refine Ev.step (fun k => by rw [laws_eqIntS.l0]) ?_
    refine evNeg (by omega) ?_
    rw [drop_end a j (by omega), drop_end b j (by omega)]
    exact evEq rfl
  | succ d ih =>
    intro j h0 hd
    refine Ev.step (fun k => by rw [laws_eqIntS.l0]) ?_
    refine evPos (by omega) (evPos (by omega) (evPos (by omega) ?_))
    rw [wr (by omega) (by omega), drop_rd a j h0 (by omega), drop_rd b j h0 (by omega)]
    by_cases c : rd a j = rd b j
    · refine evPos c (evTo (ih _ (by omega) (by omega)) ?_)
      simp [c]
    · refine evNeg c (evEq ?_)
      simp [c]
theorem eqIntS_ev (a b : List Int) (hn : a.length ≤ 35184372088832) : Ev (fun k => laws_eqIntS.f k a b) (decide (a = b)) := by
  unfold laws_eqIntS.f
  by_cases hb : a.length = b.length
  · exact evPos (by omega) (eqIntS_l0 a b hn hb a.length 0 (by omega) (by simp))
  · refine evNeg (by omega) (evEq ?_)
    exact (decide_eq_false (fun e => hb (by rw [e]))).symm
theorem eqIntS_self (a : List Int) (hn : a.length ≤ 35184372088832) : Ev (fun k => laws_eqIntS.f k a a) true := evTo (eqIntS_ev a a hn) (by simp)
/-! laws_markIntS -/
theorem markIntS_l0 : ∀ (d : Nat) (xs : List Int) (m j : Int), 0 ≤ j → j.toNat + d = xs.length → xs.length ≤ 35184372088832 → 0 ≤ m → m + d ≤ 70368744177664 →
    Ev (fun k => laws_markIntS.l0 k xs m j) (m + d, xs.take j.toNat ++ iotaI m d) := by
  intro d
  induction d with
  | zero =>
    intro xs m j h0 hd hn hm hk
    refine Ev.step (fun k => by rw [laws_markIntS.l0]) ?_
    refine evNeg (by omega) (evEq ?_)
    rw [take_end xs j (by omega)]
    simp [iotaI]
  | succ d ih =>
    intro xs m j h0 hd hn hm hk
    refine Ev.step (fun k => by rw [laws_markIntS.l0]) ?_
    refine evPos (by omega) (evPos (by omega) ?_)
    rw [wr (by omega) (by omega), wr (by omega) (by omega)]
    refine evTo (ih (xs.set j.toNat m) (m + 1) (j + 1) (by omega) (by simp; omega) (by simpa using hn) (by omega) (by omega)) ?_
    rw [set_takeI xs j m h0 (by omega)]
    simp [iotaI]
    omega
theorem markIntS_ev (xs : List Int) (m : Int) (hn : xs.length ≤ 35184372088832) (hm : 0 ≤ m) (hk : m + xs.length ≤ 70368744177664) :
    Ev (fun k => laws_markIntS.f k xs m) (m + xs.length, iotaI m xs.length) := by
  unfold laws_markIntS.f
  refine evTo (markIntS_l0 xs.length xs m 0 (by omega) (by simp) hn hm hk) (by simp)
/-! laws_heldIntS -/
theorem heldIntS_l0 (xs : List Int) (hn : xs.length ≤ 35184372088832) : ∀ (d : Nat) (m j : Int), 0 ≤ j → j.toNat + d = xs.length → 0 ≤ m → m + d ≤ 70368744177664 → (∀ i : Int, j ≤ i → i < xs.length → rd xs i = m + (i - j)) →
    Ev (fun k => laws_heldIntS.l0 k xs m j) (m + d) := by
  intro d
  induction d with
  | zero =>
    intro m j h0 hd hm hk h
    refine Ev.step (fun k => by rw [laws_heldIntS.l0]) ?_
    exact evNeg (by omega) (evEq (by simp))
  | succ d ih =>
    intro m j h0 hd hm hk h
    refine Ev.step (fun k => by rw [laws_heldIntS.l0]) ?_
    have hr := h j (by omega) (by omega)
    refine evPos (by omega) (evPos (by omega) (evPos (by omega) ?_))
    rw [wr (by omega) (by omega), wr (by omega) (by omega)]
    refine evTo (ih (m + 1) (j + 1) (by omega) (by omega) (by omega) (by omega) (fun i h1 h2 => ?_)) (by omega)
    rw [h i (by omega) h2]; omega
theorem heldIntS_ev (n : Nat) (m : Int) (hn : n ≤ 35184372088832) (hm : 0 ≤ m) (hk : m + n ≤ 70368744177664) :
    Ev (fun k => laws_heldIntS.f k (iotaI m n) m) (m + n) := by
  unfold laws_heldIntS.f
  have hl := iotaI_length m n
  refine heldIntS_l0 (iotaI m n) (by omega) n m 0 (by omega) (by omega) hm hk (fun i h1 h2 => ?_)
  rw [iotaI_rd n m i h1 (by omega)]; omega
/-! spec_l1In -/
theorem l1In_eq (x a b : Int) : spec_l1In.f x a b = some (decide (a ≤ x ∧ x ≤ b)) := by
  unfold spec_l1In.f
  by_cases h : x ≥ a
  · rw [if_pos h]; have h' : a ≤ x := h; simp [h']
  · rw [if_neg h]; have h' : ¬ a ≤ x := h; simp [h']
/-! spec_raItems -/
theorem raItems_eq (x : Int) : spec_raItems.f x = some (decide (0 ≤ x ∧ x ≤ 12)) := by
  unfold spec_raItems.f; rw [l1In_eq]; rfl
/-! spec_l1Rising -/
theorem l1Rising_l0 (xs : List Int) (a b : Int) (hn : xs.length ≤ 35184372088832) : ∀ (d : Nat) (j : Int), 1 ≤ j → j.toNat + d = xs.length →
    Ev (fun k => spec_l1Rising.l0 k xs a b xs (xs.length : Int) j) (((xs.drop j.toNat).all fun x => decide (a ≤ x ∧ x ≤ b)) && incrFrom (rd xs (j - 1) + 1) (xs.drop j.toNat)) := by
  intro d
  induction d with
  | zero =>
    intro j h0 hd
    refine Ev.step (fun k => by rw [spec_l1Rising.l0]) ?_
    refine evNeg (by omega) (evEq ?_)
    rw [drop_end _ _ (by omega)]; rfl
  | succ d ih =>
    intro j h0 hd
    refine Ev.step (fun k => by rw [spec_l1Rising.l0]) ?_
    rw [wr (x := j - 1) (by omega) (by omega), wr (x := j + 1) (by omega) (by omega), drop_rd xs j (by omega) (by omega)]
    simp only [l1In_eq, Option.bind_some, List.all_cons, incrFrom]
    refine evPos (by omega) (evPos (by omega) (evPos (by omega) ?_))
    by_cases c1 : a ≤ rd xs j ∧ rd xs j ≤ b
    · refine evPos (by simpa using c1) (evPos (by omega) (evPos (by omega) (evPos (by omega) ?_)))
      rw [decide_eq_true c1, Bool.true_and]
      by_cases c : rd xs (j - 1) ≥ rd xs j
      · refine evPos c (evEq ?_)
        rw [decide_eq_false (show ¬ (rd xs (j - 1) + 1 ≤ rd xs j) by omega)]; simp
      · refine evNeg c (evTo (ih (j + 1) (by omega) (by omega)) ?_)
        rw [decide_eq_true (show rd xs (j - 1) + 1 ≤ rd xs j by omega), Bool.true_and, show j + 1 - 1 = j from by omega]
    · refine evNeg (by simpa using c1) (evEq ?_)
      rw [decide_eq_false c1]; rfl
theorem l1Rising_ev (xs : List Int) (a b : Int) (hn : xs.length ≤ 35184372088832) : Ev (fun k => spec_l1Rising.f k xs a b) ((xs.all fun x => decide (a ≤ x ∧ x ≤ b)) && incr xs) := by
  unfold spec_l1Rising.f
  cases xs with
  | nil =>
    refine Ev.step (fun k => by rw [spec_l1Rising.l0]) ?_
    exact evNeg (by simp) (Ev.now _)
  | cons x t =>
    refine Ev.step (fun k => by rw [spec_l1Rising.l0]) ?_
    simp only [l1In_eq, Option.bind_some]
    refine evPos (by simp) (evPos (by omega) (evPos (by simp) ?_))
    have hx : rd (x :: t) 0 = x := rfl
    rw [hx]
    by_cases c1 : a ≤ x ∧ x ≤ b
    · refine evPos (by simpa using c1) (evNeg (by omega) ?_)
      rw [wr (by omega) (by omega)]
      refine evTo (l1Rising_l0 (x :: t) a b hn t.length 1 (by omega) (by simp; omega)) ?_
      rw [List.all_cons, decide_eq_true c1, Bool.true_and]
      simp [incr, rd]
    · refine evNeg (by simpa using c1) (evEq ?_)
      rw [List.all_cons, decide_eq_false c1]; rfl
/-! spec_raCombination -/
theorem raCombination_ev (n : Int) (l : List Int) (hn : l.length ≤ 35184372088832) : Ev (fun k => spec_raCombination.f k n l) (isComb n l) := by
  unfold spec_raCombination.f
  simp only [raItems_eq, Option.bind_some]
  by_cases h : 0 ≤ n ∧ n ≤ 12
  · refine evPos (by simpa using h) ?_
    rw [wr (by omega) (by omega), isComb, decide_eq_true h, Bool.true_and]
    by_cases c : (l.length : Int) ≤ n
    · refine evPos c (Ev.bind (l1Rising_ev l 0 (n - 1) hn) (evEq ?_))
      rw [comb_all]
    · refine evNeg c (evEq ?_)
      symm
      rw [Bool.eq_false_iff]
      intro hc
      obtain ⟨m, rfl⟩ := Int.eq_ofNat_of_zero_le h.1
      have := comb_length hc
      omega
  · refine evNeg (by simpa using h) (evEq ?_)
    rw [isComb, decide_eq_false h, Bool.false_and]
/-! spec_l1Own -/
theorem l1Own_eq (l : List Int) (hn : l.length ≤ 10000000000000) : spec_l1Own.f l = some l := by
  unfold spec_l1Own.f
  simp only [Option.bind_some, List.nil_append, List.length_nil, Nat.zero_add]
  rw [if_pos (by omega)]
/-! spec_raOf -/
theorem raOf_eq (L : List (List Int)) (i : Int) (hL : L.length ≤ 1000000) (hl : ∀ t ∈ L, t.length ≤ 1000000) : spec_raOf.f L i = some (if 0 ≤ i ∧ i < L.length then (L.getD i.toNat [], true) else ([], false)) := by
  unfold spec_raOf.f
  rw [wr (by omega) (by omega)]
  simp only [l1In_eq, Option.bind_some]
  by_cases c : 0 ≤ i ∧ i < L.length
  · rw [if_pos c, if_pos (by simp; omega), if_pos c.1, if_pos c.2]
    have hm : rd_L1 L i ∈ L := by
      unfold rd_L1
      rw [List.getD_eq_getElem?_getD, List.getElem?_eq_getElem (show i.toNat < L.length by omega)]
      exact List.getElem_mem _
    have := hl _ hm
    rw [l1Own_eq _ (by omega)]; rfl
  · rw [if_neg c, if_neg (by simp; omega)]
/-! spec_raUpTo -/
theorem raUpTo_l0 (n : Nat) (hn : n ≤ 1000000000) : ∀ (d : Nat) (j : Int), 0 ≤ j → j.toNat + d = n → Ev (fun k => spec_raUpTo.l0 k (n : Int) (upTo j.toNat) j) (upTo n) := by
  intro d
  induction d with
  | zero =>
    intro j h0 hd
    refine Ev.step (fun k => by rw [spec_raUpTo.l0]) ?_
    exact evNeg (by omega) (evEq (by rw [show j.toNat = n from by omega]))
  | succ d ih =>
    intro j h0 hd
    refine Ev.step (fun k => by rw [spec_raUpTo.l0]) ?_
    refine evPos (by omega) (evPos (by rw [upTo_length]; omega) ?_)
    have h := ih (j + 1) (by omega) (by omega)
    rw [show (j + 1).toNat = j.toNat + 1 from by omega, upTo_succ, Int.toNat_of_nonneg h0] at h
    rw [wr (by omega) (by omega)]
    exact h
theorem raUpTo_ev (n : Nat) (hn : n ≤ 1000000000) : Ev (fun k => spec_raUpTo.f k (n : Int)) (upTo n) := by
  unfold spec_raUpTo.f
  exact raUpTo_l0 n hn n 0 (by omega) (by simp)
/-! spec_chRevolving -/
theorem chRevolving_l0 (n : Int) (hn : 1 ≤ n) (hn' : n ≤ 12) (L : List (List Int)) (hL : L.length ≤ 4096) (hl : ∀ t ∈ L, t.length ≤ 12) : ∀ (d : Nat) (out : List (List Int)) (j : Int), j + 1 = d → d ≤ L.length → out.length + d ≤ 100000 →
    Ev (fun k => spec_chRevolving.l0 k n out L j) (out ++ (L.take d).reverse.map (· ++ [n - 1])) := by
  intro d
  induction d with
  | zero =>
    intro out j hj hd ho
    refine Ev.step (fun k => by rw [spec_chRevolving.l0]) ?_
    exact evNeg (by omega) (evEq (by simp))
  | succ d ih =>
    intro out j hj hd ho
    refine Ev.step (fun k => by rw [spec_chRevolving.l0]) ?_
    have hm : rd_L1 L j ∈ L := by
      unfold rd_L1
      rw [List.getD_eq_getElem?_getD, List.getElem?_eq_getElem (show j.toNat < L.length by omega)]
      exact List.getElem_mem _
    have := hl _ hm
    rw [l1Own_eq _ (by omega)]
    refine evPos (by omega) (evPos (by omega) (evPos (by omega) (evSome (evPos (by omega) (evPos (by omega) ?_)))))
    rw [wr (x := n - 1) (by omega) (by omega), wr (x := j - 1) (by omega) (by omega)]
    refine evTo (ih _ (j - 1) (by omega) (by omega) (by simp; omega)) ?_
    have ht := takeD [] L j (by omega) (by omega)
    rw [show (j + 1).toNat = d + 1 from by omega, show j.toNat = d from by omega] at ht
    rw [ht]
    simp only [List.reverse_append, List.reverse_cons, List.reverse_nil, List.nil_append, List.map_append, List.map_cons, List.map_nil, List.cons_append, List.append_assoc]
    unfold rd_L1
    rw [show j.toNat = d from by omega]
theorem chRevolving_ev : ∀ (n k : Nat), n ≤ 12 → k ≤ n → Ev (fun q => spec_chRevolving.f q (n : Int) (k : Int)) (rev n k) := by
  intro n
  induction n with
  | zero =>
    intro k hn hk
    obtain rfl : k = 0 := by omega
    refine Ev.step (fun q => by rw [spec_chRevolving.f]) ?_
    refine evPos (by simp) (Ev.step (fun q => by rw [spec_chRevolving.j0]) ?_)
    exact evPos rfl (Ev.bind (raUpTo_ev 0 (by omega)) (Ev.now _))
  | succ n ih =>
    intro k hn hk
    refine Ev.step (fun q => by rw [spec_chRevolving.f]) ?_
    cases k with
    | zero =>
      refine evPos (by simp) (Ev.step (fun q => by rw [spec_chRevolving.j0]) ?_)
      exact evPos rfl (Ev.bind (raUpTo_ev 0 (by omega)) (Ev.now _))
    | succ k =>
      refine evNeg (by omega) (Ev.step (fun q => by rw [spec_chRevolving.j0]) ?_)
      by_cases e : k = n
      · subst e
        refine evPos (by simp) (Ev.bind (raUpTo_ev (k + 1) (by omega)) (evEq ?_))
        simp [rev]
      · refine evNeg (by simp; omega) ?_
        rw [wr (x := ((n + 1 : Nat) : Int) - 1) (by omega) (by omega), wr (x := ((k + 1 : Nat) : Int) - 1) (by omega) (by omega)]
        rw [show ((n + 1 : Nat) : Int) - 1 = (n : Int) from by omega, show ((k + 1 : Nat) : Int) - 1 = (k : Int) from by omega]
        refine Ev.bind (ih (k + 1) (by omega) (by omega)) (Ev.bind (ih k (by omega) (by omega)) ?_)
        have hl1 := rev_length n (k + 1) (by omega)
        have hl2 := rev_length n k (by omega)
        have hc1 := C_le12 n (k + 1) (by omega)
        have hc2 := C_le12 n k (by omega)
        rw [wr (by omega) (by omega)]
        refine evTo (chRevolving_l0 ((n + 1 : Nat) : Int) (by omega) (by omega) (rev n k) (by omega) (fun t ht => by have := (rev_mem n k t (by omega) ht).2; omega) (rev n k).length _ _ (by omega) (by omega) (by omega)) ?_
        rw [List.take_of_length_le (by omega)]
        simp only [rev, if_neg e]
        rw [show ((n + 1 : Nat) : Int) - 1 = (n : Int) from by omega]
/-! spec_l1Same -/
theorem l1Same_l0 (a b : List Int) (hn : a.length ≤ 35184372088832) (hb : a.length = b.length) : ∀ (d : Nat) (j : Int), 0 ≤ j → j.toNat + d = a.length →
    Ev (fun k => spec_l1Same.l0 k a b (a.length : Int) j) (decide (a.drop j.toNat = b.drop j.toNat)) := by
  intro d
  induction d with
  | zero =>
    intro j h0 hd
    refine Ev.step (fun k => by rw [spec_l1Same.l0]) ?_
    refine evNeg (by omega) ?_
    rw [drop_end a j (by omega), drop_end b j (by omega)]
    exact evEq rfl
  | succ d ih =>
    intro j h0 hd
    refine Ev.step (fun k => by rw [spec_l1Same.l0]) ?_
    refine evPos (by omega) (evPos (by omega) (evPos (by omega) (evPos (by omega) ?_)))
    rw [wr (by omega) (by omega), drop_rd a j h0 (by omega), drop_rd b j h0 (by omega)]
    by_cases c : rd a j = rd b j
    · refine evPos c (evTo (ih _ (by omega) (by omega)) ?_)
      simp [c]
    · refine evNeg c (evEq ?_)
      simp [c]
theorem l1Same_ev (a b : List Int) (hn : a.length ≤ 35184372088832) : Ev (fun k => spec_l1Same.f k a b) (decide (a = b)) := by
  unfold spec_l1Same.f
  by_cases hb : a.length = b.length
  · exact evPos (by omega) (l1Same_l0 a b hn hb a.length 0 (by omega) (by simp))
  · refine evNeg (by omega) (evEq ?_)
    exact (decide_eq_false (fun e => hb (by rw [e]))).symm
/-! spec_raPlace -/
theorem raPlace_l0 (l : List Int) (L : List (List Int)) (hL : L.length ≤ 1000000000) (hl : ∀ t ∈ L, t.length ≤ 35184372088832) : ∀ (d : Nat) (j : Int), 0 ≤ j → j.toNat + d = L.length →
    Ev (fun k => spec_raPlace.l0 k l L (L.length : Int) j) (placeI l j (L.drop j.toNat)) := by
  intro d
  induction d with
  | zero =>
    intro j h0 hd
    refine Ev.step (fun k => by rw [spec_raPlace.l0]) ?_
    refine evNeg (by omega) ?_
    rw [drop_end L j (by omega)]
    exact evEq rfl
  | succ d ih =>
    intro j h0 hd
    refine Ev.step (fun k => by rw [spec_raPlace.l0]) ?_
    have hm : rd_L1 L j ∈ L := by
      unfold rd_L1
      rw [List.getD_eq_getElem?_getD, List.getElem?_eq_getElem (show j.toNat < L.length by omega)]
      exact List.getElem_mem _
    refine evPos (by omega) (evPos (by omega) (evPos (by omega) (Ev.bind (l1Same_ev _ l (hl _ hm)) ?_)))
    have hcons : L.drop j.toNat = rd_L1 L j :: L.drop (j + 1).toNat := dropD [] L j h0 (by omega)
    rw [wr (by omega) (by omega), hcons, placeI]
    by_cases c : rd_L1 L j = l
    · rw [if_pos c]; exact evPos (decide_eq_true c) (Ev.now _)
    · rw [if_neg c]; exact evNeg (by simpa using c) (ih _ (by omega) (by omega))
theorem raPlace_ev (L : List (List Int)) (l : List Int) (hL : L.length ≤ 1000000000) (hl : ∀ t ∈ L, t.length ≤ 35184372088832) : Ev (fun k => spec_raPlace.f k L l) (placeI l 0 L) := by
  unfold spec_raPlace.f
  exact evTo (raPlace_l0 l L hL hl L.length 0 (by omega) (by simp)) (by simp)
/-! spec_NextRevolving -/
/-- The next combination of the revolving list. -/
def nextRev (n : Int) (l : List Int) : List Int × Bool :=
  if isComb n l = true then (if 0 ≤ rk n.toNat l + 1 ∧ rk n.toNat l + 1 < C n.toNat l.length then ((rev n.toNat l.length).getD (rk n.toNat l + 1).toNat [], true) else ([], false)) else ([], false)
theorem nextRev_length (n : Int) (l : List Int) : (nextRev n l).1.length ≤ 1000 := by
  unfold nextRev
  by_cases c : isComb n l = true
  · obtain ⟨h0, h1, hc⟩ := isComb_parts c
    obtain ⟨m, rfl⟩ := Int.eq_ofNat_of_zero_le h0
    have hk := comb_length hc
    rw [if_pos c]
    by_cases c2 : 0 ≤ rk (m : Int).toNat l + 1 ∧ rk (m : Int).toNat l + 1 < C (m : Int).toNat l.length
    · rw [if_pos c2]
      rw [Int.toNat_natCast] at c2 ⊢
      have hs := rev_small m l.length (by omega) hk
      have hm : (rev m l.length).getD (rk m l + 1).toNat [] ∈ rev m l.length := by
        rw [List.getD_eq_getElem?_getD, List.getElem?_eq_getElem (show (rk m l + 1).toNat < (rev m l.length).length by rw [rev_length m _ hk]; omega)]
        exact List.getElem_mem _
      have := hs.2 _ hm
      show ((rev m l.length).getD (rk m l + 1).toNat []).length ≤ 1000
      omega
    · rw [if_neg c2]; simp
  · rw [if_neg c]; simp
theorem spec_NextRevolving_ev (n : Int) (l : List Int) (hl : l.length ≤ 35184372088832) : Ev (fun q => spec_NextRevolving.f q n l) (nextRev n l) := by
  unfold spec_NextRevolving.f nextRev
  refine Ev.bind (raCombination_ev n l hl) ?_
  by_cases c : isComb n l = true
  · obtain ⟨h0, h1, hc⟩ := isComb_parts c
    obtain ⟨m, rfl⟩ := Int.eq_ofNat_of_zero_le h0
    have hk := comb_length hc
    have hs := rev_small m l.length (by omega) hk
    have hb := rk_bound m l hc
    have hcc := C_le12 m l.length (by omega)
    refine evPos c (Ev.bind (chRevolving_ev m l.length (by omega) hk) (Ev.bind (raPlace_ev _ _ (by omega) (fun t ht => by have := hs.2 t ht; omega)) ?_))
    rw [placeI_rev m l hc, wr (by omega) (by omega), raOf_eq _ _ (by omega) (fun t ht => by have := hs.2 t ht; omega), rev_length m _ hk]
    refine evSome (evEq ?_)
    rw [if_pos c, Int.toNat_natCast]
  · exact evNeg c (evEq (by rw [if_neg c]))
/-! impl_within -/
theorem within_eq (x a b : Int) : impl_within.f x a b = some (decide (a ≤ x ∧ x ≤ b)) := by
  unfold impl_within.f
  by_cases h : x ≥ a
  · rw [if_pos h]; have h' : a ≤ x := h; simp [h']
  · rw [if_neg h]; have h' : ¬ a ≤ x := h; simp [h']
/-! impl_binomial -/
theorem binomial_tab : ((List.range 13).all fun n => (List.range 13).all fun k => impl_binomial.f 20 (n : Int) (k : Int) == some (C n k : Int)) = true := by decide +kernel
theorem binomial_ev (n k : Nat) (hn : n ≤ 12) (hk : k ≤ 12) : Ev (fun r => impl_binomial.f r (n : Int) (k : Int)) (C n k : Int) := by
  refine evTab (g := fun r => impl_binomial.f r (n : Int) (k : Int)) (impl_binomial.mono _ _) 20 ?_
  have h := List.all_eq_true.1 (List.all_eq_true.1 binomial_tab n (List.mem_range.2 (by omega))) k (List.mem_range.2 (by omega))
  exact beq_iff_eq.1 h
theorem binomial_evI (n k : Int) (hn : 0 ≤ n) (hn' : n ≤ 12) (hk : 0 ≤ k) (hk' : k ≤ 12) : Ev (fun r => impl_binomial.f r n k) (C n.toNat k.toNat : Int) := by
  have := binomial_ev n.toNat k.toNat (by omega) (by omega)
  rwa [Int.toNat_of_nonneg hn, Int.toNat_of_nonneg hk] at this
/-! impl_isRank -/
theorem isRank_ev (n k r : Int) : Ev (fun q => impl_isRank.f q n k r) (decide (0 ≤ n ∧ n ≤ 12 ∧ 0 ≤ k ∧ k ≤ n ∧ 0 ≤ r ∧ r < C n.toNat k.toNat)) := by
  unfold impl_isRank.f
  simp only [within_eq, Option.bind_some]
  by_cases h : 0 ≤ n ∧ n ≤ 12
  · refine evPos (by simpa using h) ?_
    by_cases h2 : 0 ≤ k ∧ k ≤ n
    · refine evPos (by simpa using h2) (Ev.bind (binomial_evI n k (by omega) (by omega) (by omega) (by omega)) ?_)
      have := C_le12 n.toNat k.toNat (by omega)
      rw [wr (by omega) (by omega)]
      refine evEq ?_
      apply decide_eq_decide.2
      omega
    · exact evNeg (by simpa using h2) (evEq (decide_eq_false (by omega)).symm)
  · exact evNeg (by simpa using h) (evEq (decide_eq_false (by omega)).symm)
/-! impl_identity -/
theorem identity_l0 (n : Nat) (hn : n ≤ 1000000000) : ∀ (d : Nat) (j : Int), 0 ≤ j → j.toNat + d = n → Ev (fun k => impl_identity.l0 k (upTo j.toNat) (n : Int) j) (upTo n) := by
  intro d
  induction d with
  | zero =>
    intro j h0 hd
    refine Ev.step (fun k => by rw [impl_identity.l0]) ?_
    exact evNeg (by omega) (evEq (by rw [show j.toNat = n from by omega]))
  | succ d ih =>
    intro j h0 hd
    refine Ev.step (fun k => by rw [impl_identity.l0]) ?_
    refine evPos (by omega) (evPos (by rw [upTo_length]; omega) ?_)
    have h := ih (j + 1) (by omega) (by omega)
    rw [show (j + 1).toNat = j.toNat + 1 from by omega, upTo_succ, Int.toNat_of_nonneg h0] at h
    rw [wr (by omega) (by omega)]
    exact h
theorem identity_ev (n : Nat) (hn : n ≤ 1000000000) : Ev (fun k => impl_identity.f k (n : Int)) (upTo n) := by
  unfold impl_identity.f
  exact identity_l0 n hn n 0 (by omega) (by simp)
/-! impl_revolvingAt -/
theorem revolvingAt_ev : ∀ (n k : Nat) (r : Int), n ≤ 12 → k ≤ n → 0 ≤ r → r < C n k → Ev (fun q => impl_revolvingAt.f q (n : Int) (k : Int) r) ((rev n k).getD r.toNat []) := by
  intro n
  induction n with
  | zero =>
    intro k r hn hk h0 hr
    obtain rfl : k = 0 := by omega
    refine Ev.step (fun q => by rw [impl_revolvingAt.f]) ?_
    refine evPos (by simp) (evEq ?_)
    simp at hr
    obtain rfl : r = 0 := by omega
    rfl
  | succ n ih =>
    intro k r hn hk h0 hr
    refine Ev.step (fun q => by rw [impl_revolvingAt.f]) ?_
    cases k with
    | zero =>
      refine evPos (by simp) (evEq ?_)
      simp at hr
      obtain rfl : r = 0 := by omega
      rfl
    | succ k =>
      refine evNeg (by omega) ?_
      by_cases e : k = n
      · subst e
        refine evPos rfl (Ev.bind (identity_ev (k + 1) (by omega)) (evEq ?_))
        simp at hr
        obtain rfl : r = 0 := by omega
        simp [rev]
      · refine evNeg (by omega) ?_
        have hc1 := C_le12 n (k + 1) (by omega)
        have hc2 := C_le12 n k (by omega)
        have hl1 := rev_length n (k + 1) (by omega)
        have hl2 := rev_length n k (by omega)
        rw [wr (x := ((n + 1 : Nat) : Int) - 1) (by omega) (by omega), wr (x := ((k + 1 : Nat) : Int) - 1) (by omega) (by omega)]
        rw [show ((n + 1 : Nat) : Int) - 1 = (n : Int) from by omega, show ((k + 1 : Nat) : Int) - 1 = (k : Int) from by omega]
        refine Ev.bind (binomial_ev n (k + 1) (by omega) (by omega)) ?_
        have hrv : rev (n + 1) (k + 1) = rev n (k + 1) ++ (rev n k).reverse.map (· ++ [(n : Int)]) := by simp [rev, e]
        rw [hrv, List.getD_eq_getElem?_getD]
        by_cases c : r < C n (k + 1)
        · refine evPos c (Ev.bind (ih (k + 1) r (by omega) (by omega) h0 c) (evEq ?_))
          rw [List.getElem?_append_left (by omega), List.getD_eq_getElem?_getD]
        · refine evNeg c (Ev.bind (binomial_ev (n + 1) (k + 1) (by omega) (by omega)) ?_)
          rw [C_succ] at hr ⊢
          simp (disch := omega) only [wr]
          have h := ih k (((C n (k + 1) + C n k : Nat) : Int) - 1 - r) (by omega) (by omega) (by omega) (by omega)
          refine Ev.bind h ?_
          have hi : r.toNat - (rev n (k + 1)).length < (rev n k).length := by omega
          have hm : (rev n k).getD (((C n (k + 1) + C n k : Nat) : Int) - 1 - r).toNat [] ∈ rev n k := by
            rw [List.getD_eq_getElem?_getD, List.getElem?_eq_getElem (show (((C n (k + 1) + C n k : Nat) : Int) - 1 - r).toNat < (rev n k).length by omega)]
            exact List.getElem_mem _
          have hlen := (rev_mem n k _ (by omega) hm).2
          refine evPos (by omega) (evEq ?_)
          rw [List.getElem?_append_right (by omega), List.getElem?_map, List.getElem?_reverse (by omega)]
          rw [show (rev n k).length - 1 - (r.toNat - (rev n (k + 1)).length) = (((C n (k + 1) + C n k : Nat) : Int) - 1 - r).toNat from by omega]
          rw [List.getD_eq_getElem?_getD, List.getElem?_eq_getElem (show (((C n (k + 1) + C n k : Nat) : Int) - 1 - r).toNat < (rev n k).length by omega)]
          rfl
/-! impl_RevolvingAt -/
theorem RevolvingAt_ev (n k : Nat) (hn : n ≤ 12) (hk : k ≤ n) (r : Int) :
    Ev (fun q => impl_RevolvingAt.f q (n : Int) (k : Int) r) (if 0 ≤ r ∧ r < C n k then ((rev n k).getD r.toNat [], true) else ([], false)) := by
  unfold impl_RevolvingAt.f
  refine Ev.bind (isRank_ev n k r) ?_
  rw [Int.toNat_natCast, Int.toNat_natCast]
  by_cases c : 0 ≤ r ∧ r < C n k
  · exact evPos (by simp; omega) (Ev.bind (revolvingAt_ev n k r hn hk c.1 c.2) (evEq (by rw [if_pos c])))
  · exact evNeg (by simp; omega) (evEq (by rw [if_neg c]))
theorem RevolvingAt_no (n k r : Int) (h : ¬ (0 ≤ n ∧ n ≤ 12 ∧ 0 ≤ k ∧ k ≤ n)) : Ev (fun q => impl_RevolvingAt.f q n k r) ([], false) := by
  unfold impl_RevolvingAt.f
  refine Ev.bind (isRank_ev n k r) (evNeg ?_ (Ev.now _))
  intro hd
  have := of_decide_eq_true hd
  omega
/-! impl_allWithin -/
theorem allWithin_l0 (a b : Int) (xs : List Int) (hn : xs.length ≤ 35184372088832) : ∀ (d : Nat) (j : Int), 0 ≤ j → j.toNat + d = xs.length →
    Ev (fun k => impl_allWithin.l0 k a b xs (xs.length : Int) j) ((xs.drop j.toNat).all fun x => decide (a ≤ x ∧ x ≤ b)) := by
  intro d
  induction d with
  | zero =>
    intro j h0 hd
    refine Ev.step (fun k => by rw [impl_allWithin.l0]) ?_
    refine evNeg (by omega) (evEq ?_)
    rw [drop_end _ _ (by omega)]; rfl
  | succ d ih =>
    intro j h0 hd
    refine Ev.step (fun k => by rw [impl_allWithin.l0]) ?_
    refine evPos (by omega) (evPos (by omega) (evPos (by omega) ?_))
    simp only [within_eq, Option.bind_some]
    rw [wr (by omega) (by omega), drop_rd xs j h0 (by omega), List.all_cons]
    by_cases c : a ≤ rd xs j ∧ rd xs j ≤ b
    · exact evPos (by simpa using c) (evTo (ih _ (by omega) (by omega)) (by simp [c]))
    · exact evNeg (by simpa using c) (evEq (by rw [decide_eq_false c]; rfl))
theorem allWithin_ev (xs : List Int) (a b : Int) (hn : xs.length ≤ 35184372088832) : Ev (fun k => impl_allWithin.f k xs a b) (xs.all fun x => decide (a ≤ x ∧ x ≤ b)) := by
  unfold impl_allWithin.f
  exact evTo (allWithin_l0 a b xs hn xs.length 0 (by omega) (by simp)) (by simp)
/-! impl_increasing -/
theorem increasing_l0 (xs : List Int) (hn : xs.length ≤ 35184372088832) : ∀ (d : Nat) (j : Int), 1 ≤ j → j.toNat + d = xs.length →
    Ev (fun k => impl_increasing.l0 k xs j) (incrFrom (rd xs (j - 1) + 1) (xs.drop j.toNat)) := by
  intro d
  induction d with
  | zero =>
    intro j h0 hd
    refine Ev.step (fun k => by rw [impl_increasing.l0]) ?_
    refine evNeg (by omega) (evEq ?_)
    rw [drop_end _ _ (by omega)]; rfl
  | succ d ih =>
    intro j h0 hd
    refine Ev.step (fun k => by rw [impl_increasing.l0]) ?_
    rw [wr (x := j - 1) (by omega) (by omega), wr (x := j + 1) (by omega) (by omega), drop_rd xs j (by omega) (by omega)]
    refine evPos (by omega) (evPos (by omega) (evPos (by omega) (evPos (by omega) ?_)))
    by_cases c : rd xs (j - 1) ≥ rd xs j
    · refine evPos c (evEq ?_)
      simp only [incrFrom]
      rw [decide_eq_false (by omega)]; rfl
    · refine evNeg c (evTo (ih (j + 1) (by omega) (by omega)) ?_)
      simp only [incrFrom]
      rw [decide_eq_true (by omega), Bool.true_and, show j + 1 - 1 = j from by omega]
theorem increasing_ev (xs : List Int) (hn : xs.length ≤ 35184372088832) : Ev (fun k => impl_increasing.f k xs) (incr xs) := by
  unfold impl_increasing.f
  cases xs with
  | nil =>
    refine Ev.step (fun k => by rw [impl_increasing.l0]) ?_
    exact evNeg (by simp) (Ev.now _)
  | cons x t =>
    refine evTo (increasing_l0 (x :: t) hn t.length 1 (by omega) (by simp; omega)) ?_
    simp [incr, rd]
/-! impl_IsCombination -/
theorem IsCombination_ev (n : Int) (l : List Int) (hn : l.length ≤ 35184372088832) : Ev (fun k => impl_IsCombination.f k n l) (isComb n l) := by
  unfold impl_IsCombination.f
  simp only [within_eq, Option.bind_some]
  by_cases h : 0 ≤ n ∧ n ≤ 12
  · refine evPos (by simpa using h) ?_
    rw [wr (by omega) (by omega)]
    refine Ev.bind (allWithin_ev l 0 (n - 1) hn) ?_
    rw [isComb, decide_eq_true h, Bool.true_and, ← comb_all]
    by_cases c : (l.all fun x => decide (0 ≤ x ∧ x ≤ n - 1)) = true
    · refine evPos c (Ev.bind (increasing_ev l hn) (evEq ?_))
      rw [c, Bool.true_and]
    · refine evNeg c (evEq ?_)
      rw [Bool.eq_false_iff.2 c, Bool.false_and]
  · refine evNeg (by simpa using h) (evEq ?_)
    rw [isComb, decide_eq_false h, Bool.false_and]
/-! impl_revolvingRank -/
theorem revolvingRank_ev : ∀ (n : Nat) (l : List Int), n ≤ 12 → comb n l = true → Ev (fun q => impl_revolvingRank.f q (n : Int) l) (rk n l) := by
  intro n
  induction n with
  | zero =>
    intro l hn hc
    have := comb_length hc
    have h0 : l = [] := List.length_eq_zero_iff.1 (by omega)
    subst h0
    refine Ev.step (fun q => by rw [impl_revolvingRank.f]) ?_
    refine evPos (by simp) (Ev.step (fun q => by rw [impl_revolvingRank.j0]) ?_)
    exact evPos rfl (Ev.now _)
  | succ n ih =>
    intro l hn hc
    have hlen := comb_length hc
    refine Ev.step (fun q => by rw [impl_revolvingRank.f]) ?_
    by_cases e0 : l.length = 0
    · refine evPos (by omega) (Ev.step (fun q => by rw [impl_revolvingRank.j0]) ?_)
      exact evPos rfl (evEq (by rw [rk, if_pos (Or.inl e0)]))
    · refine evNeg (by omega) (Ev.step (fun q => by rw [impl_revolvingRank.j0]) ?_)
      by_cases e1 : l.length = n + 1
      · exact evPos (by simp; omega) (evEq (by rw [rk, if_pos (Or.inr e1)]))
      · refine evNeg (by simp; omega) ?_
        rw [wr (x := (l.length : Int) - 1) (by omega) (by omega), wr (x := ((n + 1 : Nat) : Int) - 1) (by omega) (by omega)]
        rw [show ((n + 1 : Nat) : Int) - 1 = (n : Int) from by omega]
        rcases List.eq_nil_or_concat l with rfl | ⟨t, a, rfl⟩
        · simp at e0
        · rw [List.concat_eq_append] at *
          have hlt : (t ++ [a]).length = t.length + 1 := by simp
          have h2 := (comb_snoc _ _ _).1 hc
          have hr : rd (t ++ [a]) (((t ++ [a]).length : Int) - 1) = a := by
            rw [rd_get _ _ (by omega)]
            simp only [show (((t ++ [a]).length : Int) - 1).toNat = t.length from by omega]
            simp
          refine evPos (by omega) (evPos (by omega) ?_)
          have hbd := rk_bound n
          by_cases ea : a = n
          · subst ea
            have hrk := hbd t h2.1
            have htl := comb_length h2.1
            have hcc := C_le12 (n + 1) (t.length + 1) (by omega)
            have hcc2 := C_le12 n t.length (by omega)
            refine evPos hr ?_
            rw [hlt]
            refine Ev.bind (binomial_ev (n + 1) (t.length + 1) (by omega) (by omega)) (evPos (by omega) ?_)
            rw [show (((t.length + 1 : Nat) : Int) - 1).toNat = t.length from by omega]
            rw [show (t ++ [(n : Int)]).take t.length = t from by simp]
            refine Ev.bind (ih t (by omega) h2.1) (evEq ?_)
            simp (disch := omega) only [wr]
            rw [rk, if_neg (by omega), if_pos (by simp), hlt]
            simp
          · refine evNeg (by rw [hr]; exact ea) ?_
            have h3 : comb n (t ++ [a]) = true := (comb_snoc _ _ _).2 ⟨h2.1, h2.2.1, by omega⟩
            refine Ev.bind (ih _ (by omega) h3) (evEq ?_)
            rw [rk, if_neg (by omega), if_neg (by simp; exact ea)]
/-! impl_RevolvingRank -/
theorem RevolvingRank_ev (n : Int) (l : List Int) (hl : l.length ≤ 35184372088832) :
    Ev (fun q => impl_RevolvingRank.f q n l) (if isComb n l = true then (rk n.toNat l, true) else (0, false)) := by
  unfold impl_RevolvingRank.f
  refine Ev.bind (IsCombination_ev n l hl) ?_
  by_cases c : isComb n l = true
  · obtain ⟨h0, h1, hc⟩ := isComb_parts c
    obtain ⟨m, rfl⟩ := Int.eq_ofNat_of_zero_le h0
    refine evPos c (Ev.bind (revolvingRank_ev m l (by omega) hc) (evEq ?_))
    rw [if_pos c, Int.toNat_natCast]
  · exact evNeg c (evEq (by rw [if_neg c]))
/-! impl_NextRevolving -/
theorem NextRevolving_ev (n : Int) (l : List Int) (hl : l.length ≤ 35184372088832) : Ev (fun q => impl_NextRevolving.f q n l) (nextRev n l) := by
  unfold impl_NextRevolving.f
  refine Ev.bind (RevolvingRank_ev n l hl) ?_
  by_cases c : isComb n l = true
  · obtain ⟨h0, h1, hc⟩ := isComb_parts c
    obtain ⟨m, rfl⟩ := Int.eq_ofNat_of_zero_le h0
    have hk := comb_length hc
    have hb := rk_bound m l hc
    have hcc := C_le12 m l.length (by omega)
    simp only [if_pos c, Int.toNat_natCast]
    refine evPos (by simp) ?_
    rw [wr (by omega) (by omega)]
    refine Ev.bind (RevolvingAt_ev m l.length (by omega) hk (rk m l + 1)) (evEq ?_)
    unfold nextRev
    rw [if_pos c, Int.toNat_natCast]
  · simp only [if_neg c]
    exact evNeg (by simp) (evEq (by unfold nextRev; rw [if_neg c]))
theorem FnExactNextRevolving : laws_FnExactNextRevolving.Pure := by
  intro n l wn _ hl8 _
  refine Ev.rounds (g := fun q => laws_FnExactNextRevolving.f q n l) ?_
  unfold laws_FnExactNextRevolving.f
  by_cases hbig : (l.length : Int) > 1048576
  · exact evPos hbig (Ev.now _)
  refine evNeg hbig ?_
  have hs := spec_NextRevolving_ev n l (by omega)
  have hi := NextRevolving_ev n l (by omega)
  have hgl := nextRev_length n l
  generalize nextRev n l = r at hs hi hgl
  obtain ⟨g, b⟩ := r
  replace hgl : g.length ≤ 1000 := hgl
  repeat (first
    | (with_reducible exact Ev.now _)
    | (with_reducible refine Ev.bind hs ?_)
    | (with_reducible refine Ev.bind hi ?_)
    | (with_reducible refine Ev.bind (toIntS_ev _ (by omega)) ?_)
    | (with_reducible refine Ev.bind (eqIntS_self _ (by omega)) ?_)
    | (with_reducible refine Ev.bind (markIntS_ev _ 1 (by omega) (by omega) (by omega)) ?_)
    | (with_reducible refine Ev.bind (heldIntS_ev _ 1 (by omega) (by omega) (by omega)) ?_)
    | (with_reducible refine evPos rfl ?_)
    | (with_reducible refine evNeg (by omega) ?_)
    | (rw [bne_self_eq_false])
    | (simp only [bne_self_eq_false])
    | (refine evNeg (by decide) ?_)
    | (refine Ev.step (fun k => by rw [laws_FnExactNextRevolving.j0]) ?_)
    | (refine Ev.step (fun k => by rw [laws_FnExactNextRevolving.j1]) ?_)
    | (refine Ev.step (fun k => by rw [laws_FnExactNextRevolving.j2]) ?_))

end Go.Proofs.Ytcohdpmdgplgfaa.Pure
