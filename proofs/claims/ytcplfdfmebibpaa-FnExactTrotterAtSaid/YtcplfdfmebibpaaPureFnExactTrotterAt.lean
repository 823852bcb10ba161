/- The pure statement of FnExactTrotterAt: for all arguments that fit, the law as a Lean function answers true after enough rounds. -/
import Derived.Test.YtcplfdfmebibpaaMFnExactTrotterAtx1
import Derived.Test.YtcplfdfmebibpaaMFnExactTrotterAtx2
import Derived.Test.YtcplfdfmebibpaaMFnExactTrotterAtx3
import Derived.Test.YtcplfdfmebibpaaBase
import Derived.Test.YtcplfdfmebibpaaComb
import Derived.Test.YtcplfdfmebibpaaTrot
namespace Go.Proofs.Ytcplfdfmebibpaa.Pure
open Go.RowKit Go.Proofs.Ytcplfdfmebibpaa.MFnExactTrotterAt Go.Proofs.YtcplfdfmebibpaaW.PrintWords Go.Proofs.YtcplfdfmebibpaaW.PrintLast Go.Proofs.Ytcplfdfmebibpaa.Base Go.Proofs.Ytcplfdfmebibpaa.Comb Go.Proofs.Ytcplfdfmebibpaa.Trot
set_option linter.unusedVariables false
set_option linter.unusedSimpArgs false

/-! spec_l1In -/
theorem l1In_eq (x a b : Int) : spec_l1In.f x a b = some (decide (a ≤ x ∧ x ≤ b)) := by
  unfold spec_l1In.f
  by_cases h : x ≥ a
  · rw [if_pos h]; have h' : a ≤ x := h; simp [h']
  · rw [if_neg h]; have h' : ¬ a ≤ x := h; simp [h']
/-! spec_raItems -/
theorem raItems_eq (x : Int) : spec_raItems.f x = some (decide (0 ≤ x ∧ x ≤ 12)) := by
  unfold spec_raItems.f; rw [l1In_eq]; rfl
/-! spec_raFactorial -/
theorem raFactorial_tab : ((List.range 13).all fun n => spec_raFactorial.f 20 (n : Int) == some (fac n : Int)) = true := by decide +kernel
theorem raFactorial_ev (n : Nat) (hn : n ≤ 12) : Ev (fun r => spec_raFactorial.f r (n : Int)) (fac n : Int) := by
  refine evTab (g := fun r => spec_raFactorial.f r (n : Int)) (spec_raFactorial.mono _) 20 ?_
  exact beq_iff_eq.1 (List.all_eq_true.1 raFactorial_tab n (List.mem_range.2 (by omega)))
/-! spec_l1Own -/
theorem l1Own_eq (l : List Int) (hn : l.length ≤ 10000000000000) : spec_l1Own.f l = some l := by
  unfold spec_l1Own.f
  simp only [Option.bind_some, List.nil_append, List.length_nil, Nat.zero_add]
  rw [if_pos (by omega)]
/-! spec_moTrotter -/
theorem moTrotter_ev : ∀ (n : Nat) (r : Int), n ≤ 12 → 0 ≤ r → r < (fac n : Nat) → Ev (fun q => spec_moTrotter.f q (n : Int) r) (trot n r) := by
  intro n
  induction n with
  | zero =>
    intro r _ _ _
    refine Ev.step (fun q => by rw [spec_moTrotter.f]) ?_
    exact evPos rfl (Ev.now _)
  | succ n ih =>
    intro r hn h0 hr
    refine Ev.step (fun q => by rw [spec_moTrotter.f]) ?_
    have hf := fac_le12 (n + 1) hn
    have hd := div_range n r h0 hr
    have hp := place_range n r
    have hl := trot_length n (r / ((n : Int) + 1))
    have hm1 := Int.emod_nonneg r (show ((n : Int) + 1) ≠ 0 by omega)
    have hm2 := Int.emod_lt_of_pos r (show 0 < ((n : Int) + 1) by omega)
    have hfn := fac_le12 n (by omega)
    refine evNeg (by omega) ?_
    rw [show ((n + 1 : Nat) : Int) = (n : Int) + 1 from by omega, Int.tdiv_eq_ediv_of_nonneg h0, Int.tmod_eq_emod_of_nonneg h0]
    simp (disch := omega) only [wr]
    rw [show (n : Int) + 1 - 1 = (n : Int) from by omega]
    refine Ev.bind (ih _ (by omega) hd.1 hd.2) ?_
    rw [Int.tmod_eq_emod_of_nonneg hd.1]
    have hlt (i : Nat) (hi : i ≤ n) : ((trot n (r / ((n : Int) + 1))).take i).length = i := by rw [List.length_take]; omega
    by_cases c : r / ((n : Int) + 1) % 2 = 0
    · have he : place n r = n - r % ((n : Int) + 1) := if_pos c
      have h1 := hlt (n - r % ((n : Int) + 1)).toNat (by omega)
      refine evPos c (evPos (by omega) (evPos (by omega) ?_))
      rw [l1Own_eq _ (by omega)]
      refine evSome (evPos (by omega) (evSome (evSome (evPos (by simp; omega) (evEq ?_)))))
      rw [trot, he, insertIdx_take _ _ _ (by omega)]
    · have he : place n r = r % ((n : Int) + 1) := if_neg c
      have h1 := hlt (r % ((n : Int) + 1)).toNat (by omega)
      refine evNeg c (evPos (by omega) (evPos (by omega) ?_))
      rw [l1Own_eq _ (by omega)]
      refine evSome (evPos (by omega) (evSome (evSome (evPos (by simp; omega) (evEq ?_)))))
      rw [trot, he, insertIdx_take _ _ _ (by omega)]
/-! spec_TrotterAt -/
theorem spec_TrotterAt_ev (n r : Int) : Ev (fun q => spec_TrotterAt.f q n r) (if 0 ≤ n ∧ n ≤ 12 ∧ 0 ≤ r ∧ r < (fac n.toNat : Nat) then (trot n.toNat r, true) else ([], false)) := by
  unfold spec_TrotterAt.f
  simp only [raItems_eq, l1In_eq, Option.bind_some]
  by_cases h : 0 ≤ n ∧ n ≤ 12
  · obtain ⟨N, rfl⟩ := Int.eq_ofNat_of_zero_le h.1
    have hf := fac_le12 N (by omega)
    rw [Int.toNat_natCast]
    refine evPos (by simp; omega) (Ev.bind (raFactorial_ev N (by omega)) ?_)
    rw [wr (by omega) (by omega)]
    by_cases c : 0 ≤ r ∧ r < (fac N : Nat)
    · refine evPos (by simp; omega) (Ev.bind (moTrotter_ev N r (by omega) c.1 c.2) (evEq ?_))
      rw [if_pos (by omega)]
    · refine evNeg (by simp; omega) (evEq ?_)
      rw [if_neg (by omega)]
  · refine evNeg (by simp; omega) (evEq ?_)
    rw [if_neg (by omega)]
/-! impl_within -/
theorem within_eq (x a b : Int) : impl_within.f x a b = some (decide (a ≤ x ∧ x ≤ b)) := by
  unfold impl_within.f
  by_cases h : x ≥ a
  · rw [if_pos h]; have h' : a ≤ x := h; simp [h']
  · rw [if_neg h]; have h' : ¬ a ≤ x := h; simp [h']
/-! impl_factorial -/
theorem factorial_tab : ((List.range 13).all fun n => impl_factorial.f 20 (n : Int) == some (fac n : Int)) = true := by decide +kernel
theorem factorial_ev (n : Nat) (hn : n ≤ 12) : Ev (fun r => impl_factorial.f r (n : Int)) (fac n : Int) := by
  refine evTab (g := fun r => impl_factorial.f r (n : Int)) (impl_factorial.mono _) 20 ?_
  exact beq_iff_eq.1 (List.all_eq_true.1 factorial_tab n (List.mem_range.2 (by omega)))
/-! impl_trotterAt -/
theorem trotterAt_ev : ∀ (n : Nat) (r : Int), n ≤ 12 → 0 ≤ r → r < (fac n : Nat) → Ev (fun q => impl_trotterAt.f q (n : Int) r) (trot n r) := by
  intro n
  induction n with
  | zero =>
    intro r _ _ _
    refine Ev.step (fun q => by rw [impl_trotterAt.f]) ?_
    exact evPos rfl (Ev.now _)
  | succ n ih =>
    intro r hn h0 hr
    refine Ev.step (fun q => by rw [impl_trotterAt.f]) ?_
    have hf := fac_le12 (n + 1) hn
    have hd := div_range n r h0 hr
    have hp := place_range n r
    have hl := trot_length n (r / ((n : Int) + 1))
    have hm1 := Int.emod_nonneg r (show ((n : Int) + 1) ≠ 0 by omega)
    have hm2 := Int.emod_lt_of_pos r (show 0 < ((n : Int) + 1) by omega)
    have hfn := fac_le12 n (by omega)
    refine evNeg (by omega) ?_
    rw [show ((n + 1 : Nat) : Int) = (n : Int) + 1 from by omega, Int.tdiv_eq_ediv_of_nonneg h0, Int.tmod_eq_emod_of_nonneg h0]
    simp (disch := omega) only [wr]
    rw [show (n : Int) + 1 - 1 = (n : Int) from by omega]
    refine Ev.bind (ih _ (by omega) hd.1 hd.2) ?_
    rw [Int.tmod_eq_emod_of_nonneg hd.1]
    unfold slices_Insert_int_int.f
    by_cases c : r / ((n : Int) + 1) % 2 = 0
    · have he : place n r = n - r % ((n : Int) + 1) := if_pos c
      refine evPos c (evPos (by omega) (evPos (by omega) (evPos (by omega) (evEq ?_))))
      rw [trot, he]
    · have he : place n r = r % ((n : Int) + 1) := if_neg c
      refine evNeg c (evPos (by omega) (evPos (by omega) (evPos (by omega) (evEq ?_))))
      rw [trot, he]
/-! impl_TrotterAt -/
theorem TrotterAt_ev (n r : Int) : Ev (fun q => impl_TrotterAt.f q n r) (if 0 ≤ n ∧ n ≤ 12 ∧ 0 ≤ r ∧ r < (fac n.toNat : Nat) then (trot n.toNat r, true) else ([], false)) := by
  unfold impl_TrotterAt.f
  simp only [within_eq, Option.bind_some]
  by_cases h : 0 ≤ n ∧ n ≤ 12
  · obtain ⟨N, rfl⟩ := Int.eq_ofNat_of_zero_le h.1
    have hf := fac_le12 N (by omega)
    rw [Int.toNat_natCast]
    refine evPos (by simp; omega) (Ev.bind (factorial_ev N (by omega)) ?_)
    rw [wr (by omega) (by omega)]
    by_cases c : 0 ≤ r ∧ r < (fac N : Nat)
    · refine evPos (by simp; omega) (Ev.bind (trotterAt_ev N r (by omega) c.1 c.2) (evEq ?_))
      rw [if_pos (by omega)]
    · refine evNeg (by simp; omega) (evEq ?_)
      rw [if_neg (by omega)]
  · refine evNeg (by simp; omega) (evEq ?_)
    rw [if_neg (by omega)]
/-! laws_eqIntS -/
theorem eqIntS_l0 (a b : List Int) (hn : a.length ≤ 35184372088832) (hb : a.length = b.length) : ∀ (d : Nat) (j : Int), 0 ≤ j → j.toNat + d = a.length →
    Ev (fun k => laws_eqIntS.l0 k a b j) (decide (a.drop j.toNat = b.drop j.toNat)) := by
  intro d
  induction d with
  | zero =>
    intro j h0 hd
    refine Ev.step (fun k => by rw [laws_eqIntS.l0]) ?_
    refine evNeg (by omega) ?_
    rw [drop_end a j (by omega), drop_end b j (by omega)]
    exact evEq rfl
  | succ d ih =>
    intro j h0 hd
    refine Ev.step (fun k => by rw [laws_eqIntS.l0]) ?_
    refine evPos (by omega) (evPos (by omega) (evPos (by omega) ?_))
    rw [wr (by omega) (by omega), drop_rd a j h0 (by omega), drop_rd b j h0 (by omega)]
    by_cases c : rd a j = rd b j
    · refine evPos c (evTo (ih _ (by omega) (by omega)) ?_)
      simp [c]
    · refine evNeg c (evEq ?_)
      simp [c]
theorem eqIntS_ev (a b : List Int) (hn : a.length ≤ 35184372088832) : Ev (fun k => laws_eqIntS.f k a b) (decide (a = b)) := by
  unfold laws_eqIntS.f
  by_cases hb : a.length = b.length
  · exact evPos (by omega) (eqIntS_l0 a b hn hb a.length 0 (by omega) (by simp))
  · refine evNeg (by omega) (evEq ?_)
    exact (decide_eq_false (fun e => hb (by rw [e]))).symm
theorem eqIntS_self (a : List Int) (hn : a.length ≤ 35184372088832) : Ev (fun k => laws_eqIntS.f k a a) true := evTo (eqIntS_ev a a hn) (by simp)
/-! laws_markIntS -/
theorem markIntS_l0 : ∀ (d : Nat) (xs : List Int) (m j : Int), 0 ≤ j → j.toNat + d = xs.length → xs.length ≤ 35184372088832 → 0 ≤ m → m + d ≤ 70368744177664 →
    Ev (fun k => laws_markIntS.l0 k xs m j) (m + d, xs.take j.toNat ++ iotaI m d) := by
  intro d
  induction d with
  | zero =>
    intro xs m j h0 hd hn hm hk
    refine Ev.step (fun k => by rw [laws_markIntS.l0]) ?_
    refine evNeg (by omega) (evEq ?_)
    rw [take_end xs j (by omega)]
    simp [iotaI]
  | succ d ih =>
    intro xs m j h0 hd hn hm hk
    refine Ev.step (fun k => by rw [laws_markIntS.l0]) ?_
    refine evPos (by omega) (evPos (by omega) ?_)
    rw [wr (by omega) (by omega), wr (by omega) (by omega)]
    refine evTo (ih (xs.set j.toNat m) (m + 1) (j + 1) (by omega) (by simp; omega) (by simpa using hn) (by omega) (by omega)) ?_
    rw [set_takeI xs j m h0 (by omega)]
    simp [iotaI]
    omega
theorem markIntS_ev (xs : List Int) (m : Int) (hn : xs.length ≤ 35184372088832) (hm : 0 ≤ m) (hk : m + xs.length ≤ 70368744177664) :
    Ev (fun k => laws_markIntS.f k xs m) (m + xs.length, iotaI m xs.length) := by
  unfold laws_markIntS.f
  refine evTo (markIntS_l0 xs.length xs m 0 (by omega) (by simp) hn hm hk) (by simp)
/-! laws_heldIntS -/
theorem heldIntS_l0 (xs : List Int) (hn : xs.length ≤ 35184372088832) : ∀ (d : Nat) (m j : Int), 0 ≤ j → j.toNat + d = xs.length → 0 ≤ m → m + d ≤ 70368744177664 → (∀ i : Int, j ≤ i → i < xs.length → rd xs i = m + (i - j)) →
    Ev (fun k => laws_heldIntS.l0 k xs m j) (m + d) := by
  intro d
  induction d with
  | zero =>
    intro m j h0 hd hm hk h
    refine Ev.step (fun k => by rw [laws_heldIntS.l0]) ?_
    exact evNeg (by omega) (evEq (by simp))
  | succ d ih =>
    intro m j h0 hd hm hk h
    refine Ev.step (fun k => by rw [laws_heldIntS.l0]) ?_
    have hr := h j (by omega) (by omega)
    refine evPos (by omega) (evPos (by omega) (evPos (by omega) ?_))
    rw [wr (by omega) (by omega), wr (by omega) (by omega)]
    refine evTo (ih (m + 1) (j + 1) (by omega) (by omega) (by omega) (by omega) (fun i h1 h2 => ?_)) (by omega)
    rw [h i (by omega) h2]; omega
theorem heldIntS_ev (n : Nat) (m : Int) (hn : n ≤ 35184372088832) (hm : 0 ≤ m) (hk : m + n ≤ 70368744177664) :
    Ev (fun k => laws_heldIntS.f k (iotaI m n) m) (m + n) := by
  unfold laws_heldIntS.f
  have hl := iotaI_length m n
  refine heldIntS_l0 (iotaI m n) (by omega) n m 0 (by omega) (by omega) hm hk (fun i h1 h2 => ?_)
  rw [iotaI_rd n m i h1 (by omega)]; omega
theorem FnExactTrotterAt : laws_FnExactTrotterAt.Pure := by
  intro n r wn wr'
  refine Ev.rounds (g := fun q => laws_FnExactTrotterAt.f q n r) ?_
  unfold laws_FnExactTrotterAt.f
  have key : ∃ g b, Ev (fun q => spec_TrotterAt.f q n r) (g, b) ∧ Ev (fun q => impl_TrotterAt.f q n r) (g, b) ∧ g.length ≤ 1000 := by
    have h1 := spec_TrotterAt_ev n r
    have h2 := TrotterAt_ev n r
    by_cases c : 0 ≤ n ∧ n ≤ 12 ∧ 0 ≤ r ∧ r < (fac n.toNat : Nat)
    · rw [if_pos c] at h1 h2
      exact ⟨_, _, h1, h2, by rw [trot_length]; omega⟩
    · rw [if_neg c] at h1 h2
      exact ⟨_, _, h1, h2, by simp⟩
  obtain ⟨g, b, hs, hi, hgl⟩ := key
  repeat (first
    | (with_reducible exact Ev.now _)
    | (with_reducible refine Ev.bind hs ?_)
    | (with_reducible refine Ev.bind hi ?_)
    | (with_reducible refine Ev.bind (toIntS_ev _ (by omega)) ?_)
    | (with_reducible refine Ev.bind (eqIntS_self _ (by omega)) ?_)
    | (with_reducible refine Ev.bind (markIntS_ev _ 1 (by omega) (by omega) (by omega)) ?_)
    | (with_reducible refine Ev.bind (heldIntS_ev _ 1 (by omega) (by omega) (by omega)) ?_)
    | (with_reducible refine evPos rfl ?_)
    | (with_reducible refine evNeg (by omega) ?_)
    | (rw [bne_self_eq_false])
    | (simp only [bne_self_eq_false])
    | (refine evNeg (by decide) ?_)
    | (refine Ev.step (fun k => by rw [laws_FnExactTrotterAt.j0]) ?_)
    | (refine Ev.step (fun k => by rw [laws_FnExactTrotterAt.j1]) ?_)
    | (refine Ev.step (fun k => by rw [laws_FnExactTrotterAt.j2]) ?_))

end Go.Proofs.Ytcplfdfmebibpaa.Pure
