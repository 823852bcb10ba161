import Derived.Test.YtedijkelbdpcdaaMFnExactStartSwapperx1
import Derived.Test.YtedijkelbdpcdaaMFnExactStartSwapperx2
import Derived.Test.YtedijkelbdpcdaaMFnExactStartSwapperx3
import Derived.Test.YtedijkelbdpcdaaMFnExactStartSwapperx4
import Derived.Test.YtedijkelbdpcdaaMFnExactStartSwapperx5
import Derived.Test.YtedijkelbdpcdaaMFnExactStartSwapperx6
import Derived.Test.YtedijkelbdpcdaaMFnExactStartSwapperx7
import Derived.Test.YtedijkelbdpcdaaBase
import Derived.Test.YtedijkelbdpcdaaFoc
import Derived.Test.YtedijkelbdpcdaaFocB
import Derived.Test.YtedijkelbdpcdaaFocR
import Derived.Test.YtedijkelbdpcdaaSwp
namespace Go.Proofs.Ytedijkelbdpcdaa.Pure
open Go.RowKit Go.Proofs.Ytedijkelbdpcdaa.MFnExactStartSwapper Go.Proofs.YtedijkelbdpcdaaW.PrintWords Go.Proofs.YtedijkelbdpcdaaW.PrintLast Go.Proofs.Ytedijkelbdpcdaa.Base Go.Proofs.Ytedijkelbdpcdaa.Foc Go.Proofs.Ytedijkelbdpcdaa.FocB Go.Proofs.Ytedijkelbdpcdaa.FocR Go.Proofs.Ytedijkelbdpcdaa.Swp
set_option linter.unusedVariables false
set_option linter.unusedSimpArgs false
theorem l1In_eq (x a b : Int) : spec_l1In.f x a b = some (decide (a ≤ x ∧ x ≤ b)) := by
  unfold spec_l1In.f
  by_cases h : x ≥ a
  · rw [if_pos h]; have h' : a ≤ x := h; simp [h']
  · rw [if_neg h]; have h' : ¬ a ≤ x := h; simp [h']
theorem raUpTo_l0 (n : Nat) (hn : n ≤ 1000000000) : ∀ (d : Nat) (j : Int), 0 ≤ j → j.toNat + d = n → Ev (fun k => spec_raUpTo.l0 k (n : Int) (upTo j.toNat) j) (upTo n) := by
  intro d
  induction d with
  | zero =>
    intro j h0 hd
    refine Ev.step (fun k => by rw [spec_raUpTo.l0]) ?_
    exact evNeg (by omega) (evEq (by rw [show j.toNat = n from by omega]))
  | succ d ih =>
    intro j h0 hd
    refine Ev.step (fun k => by rw [spec_raUpTo.l0]) ?_
    refine evPos (by omega) (evPos (by rw [upTo_length]; omega) ?_)
    have h := ih (j + 1) (by omega) (by omega)
    rw [show (j + 1).toNat = j.toNat + 1 from by omega, upTo_succ, Int.toNat_of_nonneg h0] at h
    rw [wr (by omega) (by omega)]
    exact h
theorem raUpTo_ev (n : Nat) (hn : n ≤ 1000000000) : Ev (fun k => spec_raUpTo.f k (n : Int)) (upTo n) := by
  unfold spec_raUpTo.f
  exact raUpTo_l0 n hn n 0 (by omega) (by simp)
theorem l1Own_eq (l : List Int) (hn : l.length ≤ 10000000000000) : spec_l1Own.f l = some l := by
  unfold spec_l1Own.f
  simp only [Option.bind_some, List.nil_append, List.length_nil, Nat.zero_add]
  rw [if_pos (by omega)]
theorem foStart_l0 (n : Nat) (hn : n ≤ 1000000) (a b c : List Int) : ∀ (d : Nat) (j : Int), 0 ≤ j → j.toNat + d = n → Ev (fun k => spec_foStart.l0 k (n : Int) j a b (List.replicate j.toNat true) c) (a, b, List.replicate n true, c) := by
  intro d
  induction d with
  | zero =>
    intro j h0 hd
    refine Ev.step (fun k => by rw [spec_foStart.l0]) ?_
    exact evNeg (by omega) (evEq (by rw [show j.toNat = n from by omega]))
  | succ d ih =>
    intro j h0 hd
    refine Ev.step (fun k => by rw [spec_foStart.l0]) ?_
    refine evPos (by omega) (evPos (by rw [List.length_replicate]; omega) ?_)
    rw [wr (by omega) (by omega), rep_snoc j h0]
    exact ih (j + 1) (by omega) (by omega)
theorem foStart_ev (l : List Int) (hn : l.length ≤ 1000) : Ev (fun k => spec_foStart.f k l) (stF l) := by
  unfold spec_foStart.f stF
  rw [l1Own_eq l (by omega)]
  refine evSome (evPos (by omega) (evPos (by omega) ?_))
  rw [wr (by omega) (by omega), show (l.length : Int) + 1 = ((l.length + 1 : Nat) : Int) from by omega, Int.toNat_natCast]
  refine Ev.bind (raUpTo_ev (l.length + 1) (by omega)) ?_
  exact foStart_l0 l.length (by omega) _ _ _ l.length 0 (by omega) (by simp)
theorem foSwapper_l0 (n : Nat) (hn : n ≤ 7) : ∀ (d j : Nat), 1 ≤ j → j + d = n →
    Ev (fun k => spec_foSwapper.l0 k (n : Int) (bs (cn j)) ((j : Int) + 1)) (bs (cn n), (st (cn n) 0).d, (st (cn n) 0).u, (st (cn n) 0).p, upTo n, upTo n) := by
  intro d
  induction d with
  | zero =>
    intro j h1 hd
    obtain rfl : j = n := by omega
    refine Ev.step (fun k => by rw [spec_foSwapper.l0]) ?_
    refine evNeg (by omega) ?_
    have hs := foStart_ev (bs (cn j)) (by rw [bs_length, cn_length]; omega)
    rw [stF_st _ (cn_ok j hn)] at hs
    exact Ev.bind hs (Ev.bind (raUpTo_ev j (by omega)) (Ev.bind (raUpTo_ev j (by omega)) (Ev.now _)))
  | succ d ih =>
    intro j h1 hd
    refine Ev.step (fun k => by rw [spec_foSwapper.l0]) ?_
    refine evPos (by omega) (evPos (by rw [bs_length, cn_length]; omega) ?_)
    rw [wr (by omega) (by omega), bs_cn j h1]
    exact ih (j + 1) (by omega) (by omega)
theorem foSwapper_ev (n : Nat) (h1 : 1 ≤ n) (hn : n ≤ 7) : Ev (fun k => spec_foSwapper.f k (n : Int)) (bs (cn n), (st (cn n) 0).d, (st (cn n) 0).u, (st (cn n) 0).p, upTo n, upTo n) := by
  unfold spec_foSwapper.f
  exact foSwapper_l0 n hn (n - 1) 1 (by omega) (by omega)
theorem within_eq (x a b : Int) : impl_within.f x a b = some (decide (a ≤ x ∧ x ≤ b)) := by
  unfold impl_within.f
  by_cases h : x ≥ a
  · rw [if_pos h]; have h' : a ≤ x := h; simp [h']
  · rw [if_neg h]; have h' : ¬ a ≤ x := h; simp [h']
theorem copied_eq (l : List Int) (hn : l.length ≤ 10000000000000) : impl_copied.f l = some l := by
  unfold impl_copied.f
  simp only [Option.bind_some, List.nil_append, List.length_nil, Nat.zero_add]
  rw [if_pos (by omega)]
theorem identity_l0 (n : Nat) (hn : n ≤ 1000000000) : ∀ (d : Nat) (j : Int), 0 ≤ j → j.toNat + d = n → Ev (fun k => impl_identity.l0 k (upTo j.toNat) (n : Int) j) (upTo n) := by
  intro d
  induction d with
  | zero =>
    intro j h0 hd
    refine Ev.step (fun k => by rw [impl_identity.l0]) ?_
    exact evNeg (by omega) (evEq (by rw [show j.toNat = n from by omega]))
  | succ d ih =>
    intro j h0 hd
    refine Ev.step (fun k => by rw [impl_identity.l0]) ?_
    refine evPos (by omega) (evPos (by rw [upTo_length]; omega) ?_)
    have h := ih (j + 1) (by omega) (by omega)
    rw [show (j + 1).toNat = j.toNat + 1 from by omega, upTo_succ, Int.toNat_of_nonneg h0] at h
    rw [wr (by omega) (by omega)]
    exact h
theorem identity_ev (n : Nat) (hn : n ≤ 1000000000) : Ev (fun k => impl_identity.f k (n : Int)) (upTo n) := by
  unfold impl_identity.f
  exact identity_l0 n hn n 0 (by omega) (by simp)
theorem startFocus_l0 (n : Nat) (hn : n ≤ 1000000) (a b c : List Int) : ∀ (d : Nat) (j : Int), 0 ≤ j → j.toNat + d = n → Ev (fun k => impl_startFocus.l0 k (n : Int) j a b (List.replicate j.toNat true) c) (a, b, List.replicate n true, c) := by
  intro d
  induction d with
  | zero =>
    intro j h0 hd
    refine Ev.step (fun k => by rw [impl_startFocus.l0]) ?_
    exact evNeg (by omega) (evEq (by rw [show j.toNat = n from by omega]))
  | succ d ih =>
    intro j h0 hd
    refine Ev.step (fun k => by rw [impl_startFocus.l0]) ?_
    refine evPos (by omega) (evPos (by rw [List.length_replicate]; omega) ?_)
    rw [wr (by omega) (by omega), rep_snoc j h0]
    exact ih (j + 1) (by omega) (by omega)
theorem startFocus_ev (l : List Int) (hn : l.length ≤ 1000) : Ev (fun k => impl_startFocus.f k l) (stF l) := by
  unfold impl_startFocus.f stF
  rw [copied_eq l (by omega)]
  refine evSome (evPos (by omega) (evPos (by omega) ?_))
  rw [wr (by omega) (by omega), show (l.length : Int) + 1 = ((l.length + 1 : Nat) : Int) from by omega, Int.toNat_natCast]
  refine Ev.bind (identity_ev (l.length + 1) (by omega)) ?_
  exact startFocus_l0 l.length (by omega) _ _ _ l.length 0 (by omega) (by simp)
theorem startSwapper_l0 (n : Nat) (hn : n ≤ 7) : ∀ (d j : Nat), 1 ≤ j → j + d = n →
    Ev (fun k => impl_startSwapper.l0 k (n : Int) (bs (cn j)) ((j : Int) + 1)) (bs (cn n), (st (cn n) 0).d, (st (cn n) 0).u, (st (cn n) 0).p, upTo n, upTo n) := by
  intro d
  induction d with
  | zero =>
    intro j h1 hd
    obtain rfl : j = n := by omega
    refine Ev.step (fun k => by rw [impl_startSwapper.l0]) ?_
    refine evNeg (by omega) ?_
    have hs := startFocus_ev (bs (cn j)) (by rw [bs_length, cn_length]; omega)
    rw [stF_st _ (cn_ok j hn)] at hs
    exact Ev.bind hs (Ev.bind (identity_ev j (by omega)) (Ev.bind (identity_ev j (by omega)) (Ev.now _)))
  | succ d ih =>
    intro j h1 hd
    refine Ev.step (fun k => by rw [impl_startSwapper.l0]) ?_
    refine evPos (by omega) (evPos (by rw [bs_length, cn_length]; omega) ?_)
    rw [wr (by omega) (by omega), bs_cn j h1]
    exact ih (j + 1) (by omega) (by omega)
theorem startSwapper_ev (n : Nat) (h1 : 1 ≤ n) (hn : n ≤ 7) : Ev (fun k => impl_startSwapper.f k (n : Int)) (bs (cn n), (st (cn n) 0).d, (st (cn n) 0).u, (st (cn n) 0).p, upTo n, upTo n) := by
  unfold impl_startSwapper.f
  exact startSwapper_l0 n hn (n - 1) 1 (by omega) (by omega)
theorem eqIntS_l0 (a b : List Int) (hn : a.length ≤ 35184372088832) (hb : a.length = b.length) : ∀ (d : Nat) (j : Int), 0 ≤ j → j.toNat + d = a.length →
    Ev (fun k => laws_eqIntS.l0 k a b j) (decide (a.drop j.toNat = b.drop j.toNat)) := by
  intro d
  induction d with
  | zero =>
    intro j h0 hd
    refine Ev.step (fun k => by rw [laws_eqIntS.l0]) ?_
    refine evNeg (by omega) ?_
    rw [drop_end a j (by omega), drop_end b j (by omega)]
    exact evEq rfl
  | succ d ih =>
    intro j h0 hd
    refine Ev.step (fun k => by rw [laws_eqIntS.l0]) ?_
    refine evPos (by omega) (evPos (by omega) (evPos (by omega) ?_))
    rw [wr (by omega) (by omega), drop_rd a j h0 (by omega), drop_rd b j h0 (by omega)]
    by_cases c : rd a j = rd b j
    · refine evPos c (evTo (ih _ (by omega) (by omega)) ?_)
      simp [c]
    · refine evNeg c (evEq ?_)
      simp [c]
theorem eqIntS_ev (a b : List Int) (hn : a.length ≤ 35184372088832) : Ev (fun k => laws_eqIntS.f k a b) (decide (a = b)) := by
  unfold laws_eqIntS.f
  by_cases hb : a.length = b.length
  · exact evPos (by omega) (eqIntS_l0 a b hn hb a.length 0 (by omega) (by simp))
  · refine evNeg (by omega) (evEq ?_)
    exact (decide_eq_false (fun e => hb (by rw [e]))).symm
theorem eqIntS_self (a : List Int) (hn : a.length ≤ 35184372088832) : Ev (fun k => laws_eqIntS.f k a a) true := evTo (eqIntS_ev a a hn) (by simp)
theorem eqBoolS_l0 (a : List Bool) (hn : a.length ≤ 35184372088832) : ∀ (d : Nat) (j : Int), 0 ≤ j → j.toNat + d = a.length → Ev (fun k => laws_eqBoolS.l0 k a a j) true := by
  intro d
  induction d with
  | zero =>
    intro j h0 hd
    refine Ev.step (fun k => by rw [laws_eqBoolS.l0]) ?_
    exact evNeg (by omega) (evEq rfl)
  | succ d ih =>
    intro j h0 hd
    refine Ev.step (fun k => by rw [laws_eqBoolS.l0]) ?_
    refine evPos (by omega) (evPos (by omega) (evPos (by omega) (evNeg (by simp) ?_)))
    rw [wr (by omega) (by omega)]
    exact ih _ (by omega) (by omega)
theorem eqBoolS_self (a : List Bool) (hn : a.length ≤ 35184372088832) : Ev (fun k => laws_eqBoolS.f k a a) true := by
  unfold laws_eqBoolS.f
  exact evPos rfl (eqBoolS_l0 a hn a.length 0 (by omega) (by simp))
theorem eqFocus_self (a b d : List Int) (c : List Bool) (ha : a.length ≤ 2000000) (hb : b.length ≤ 2000000) (hc : c.length ≤ 2000000) (hd : d.length ≤ 2000000) : Ev (fun k => laws_eqFocus.f k a b c d a b c d) true := by
  unfold laws_eqFocus.f
  exact Ev.bind (eqIntS_self a (by omega)) (evPos rfl (Ev.bind (eqIntS_self b (by omega)) (evPos rfl (Ev.bind (eqBoolS_self c (by omega)) (evPos rfl (Ev.bind (eqIntS_self d (by omega)) (evPos rfl (Ev.now _))))))))
theorem eqSwapper_self (a b d : List Int) (c : List Bool) (e f : List Int) (ha : a.length ≤ 2000000) (hb : b.length ≤ 2000000) (hc : c.length ≤ 2000000) (hd : d.length ≤ 2000000) (he : e.length ≤ 2000000) (hf : f.length ≤ 2000000) : Ev (fun k => laws_eqSwapper.f k a b c d e f a b c d e f) true := by
  unfold laws_eqSwapper.f
  exact Ev.bind (eqFocus_self a b d c ha hb hc hd) (evPos rfl (Ev.bind (eqIntS_self e (by omega)) (evPos rfl (Ev.bind (eqIntS_self f (by omega)) (evPos rfl (Ev.now _))))))
theorem markIntS_l0 : ∀ (d : Nat) (xs : List Int) (m j : Int), 0 ≤ j → j.toNat + d = xs.length → xs.length ≤ 35184372088832 → 0 ≤ m → m + d ≤ 70368744177664 →
    Ev (fun k => laws_markIntS.l0 k xs m j) (m + d, xs.take j.toNat ++ iotaI m d) := by
  intro d
  induction d with
  | zero =>
    intro xs m j h0 hd hn hm hk
    refine Ev.step (fun k => by rw [laws_markIntS.l0]) ?_
    refine evNeg (by omega) (evEq ?_)
    rw [take_end xs j (by omega)]
    simp [iotaI]
  | succ d ih =>
    intro xs m j h0 hd hn hm hk
    refine Ev.step (fun k => by rw [laws_markIntS.l0]) ?_
    refine evPos (by omega) (evPos (by omega) ?_)
    rw [wr (by omega) (by omega), wr (by omega) (by omega)]
    refine evTo (ih (xs.set j.toNat m) (m + 1) (j + 1) (by omega) (by simp; omega) (by simpa using hn) (by omega) (by omega)) ?_
    rw [set_takeI xs j m h0 (by omega)]
    simp [iotaI]
    omega
theorem markIntS_ev (xs : List Int) (m : Int) (hn : xs.length ≤ 35184372088832) (hm : 0 ≤ m) (hk : m + xs.length ≤ 70368744177664) :
    Ev (fun k => laws_markIntS.f k xs m) (m + xs.length, iotaI m xs.length) := by
  unfold laws_markIntS.f
  refine evTo (markIntS_l0 xs.length xs m 0 (by omega) (by simp) hn hm hk) (by simp)
theorem markBoolS_l0 : ∀ (d : Nat) (xs : List Bool) (m j : Int), 0 ≤ j → j.toNat + d = xs.length → xs.length ≤ 35184372088832 → 0 ≤ m → m + d ≤ 70368744177664 →
    Ev (fun k => laws_markBoolS.l0 k xs m j) (m + d, xs.take j.toNat ++ bM m d) := by
  intro d
  induction d with
  | zero =>
    intro xs m j h0 hd hn hm hk
    refine Ev.step (fun k => by rw [laws_markBoolS.l0]) ?_
    refine evNeg (by omega) (evEq ?_)
    rw [take_end xs j (by omega)]
    simp [bM]
  | succ d ih =>
    intro xs m j h0 hd hn hm hk
    refine Ev.step (fun k => by rw [laws_markBoolS.l0]) ?_
    refine evPos (by omega) (evPos (by omega) ?_)
    rw [wr (by omega) (by omega), wr (by omega) (by omega)]
    refine evTo (ih (xs.set j.toNat (Int.tmod m 3 == 0)) (m + 1) (j + 1) (by omega) (by simp; omega) (by simpa using hn) (by omega) (by omega)) ?_
    rw [set_takeB xs j _ h0 (by omega)]
    simp [bM]
    omega
theorem markBoolS_ev (xs : List Bool) (m : Int) (hn : xs.length ≤ 35184372088832) (hm : 0 ≤ m) (hk : m + xs.length ≤ 70368744177664) :
    Ev (fun k => laws_markBoolS.f k xs m) (m + xs.length, bM m xs.length) := by
  unfold laws_markBoolS.f
  refine evTo (markBoolS_l0 xs.length xs m 0 (by omega) (by simp) hn hm hk) (by simp)
theorem markFocus_ev (a b d : List Int) (c : List Bool) (ha : a.length ≤ 2000000) (hb : b.length ≤ 2000000) (hc : c.length ≤ 2000000) (hd : d.length ≤ 2000000) :
    Ev (fun k => laws_markFocus.f k a b c d 1) (1 + a.length + b.length + c.length + d.length, iotaI 1 a.length, iotaI (1 + a.length) b.length, bM (1 + a.length + b.length) c.length, iotaI (1 + a.length + b.length + c.length) d.length) := by
  unfold laws_markFocus.f
  exact Ev.bind (markIntS_ev a 1 (by omega) (by omega) (by omega)) (Ev.bind (markIntS_ev b (1 + a.length) (by omega) (by omega) (by omega)) (Ev.bind (markBoolS_ev c (1 + a.length + b.length) (by omega) (by omega) (by omega)) (Ev.bind (markIntS_ev d (1 + a.length + b.length + c.length) (by omega) (by omega) (by omega)) (Ev.now _))))
theorem markSwapper_ev (a b d : List Int) (c : List Bool) (e f : List Int) (ha : a.length ≤ 2000000) (hb : b.length ≤ 2000000) (hc : c.length ≤ 2000000) (hd : d.length ≤ 2000000) (he : e.length ≤ 2000000) (hf : f.length ≤ 2000000) :
    Ev (fun k => laws_markSwapper.f k a b c d e f 1) (1 + a.length + b.length + c.length + d.length + e.length + f.length, iotaI 1 a.length, iotaI (1 + a.length) b.length, bM (1 + a.length + b.length) c.length, iotaI (1 + a.length + b.length + c.length) d.length, iotaI (1 + a.length + b.length + c.length + d.length) e.length, iotaI (1 + a.length + b.length + c.length + d.length + e.length) f.length) := by
  unfold laws_markSwapper.f
  exact Ev.bind (markFocus_ev a b d c ha hb hc hd) (Ev.bind (markIntS_ev e (1 + a.length + b.length + c.length + d.length) (by omega) (by omega) (by omega)) (Ev.bind (markIntS_ev f (1 + a.length + b.length + c.length + d.length + e.length) (by omega) (by omega) (by omega)) (Ev.now _)))
theorem heldIntS_l0 (xs : List Int) (hn : xs.length ≤ 35184372088832) : ∀ (d : Nat) (m j : Int), 0 ≤ j → j.toNat + d = xs.length → 0 ≤ m → m + d ≤ 70368744177664 → (∀ i : Int, j ≤ i → i < xs.length → rd xs i = m + (i - j)) →
    Ev (fun k => laws_heldIntS.l0 k xs m j) (m + d) := by
  intro d
  induction d with
  | zero =>
    intro m j h0 hd hm hk h
    refine Ev.step (fun k => by rw [laws_heldIntS.l0]) ?_
    exact evNeg (by omega) (evEq (by simp))
  | succ d ih =>
    intro m j h0 hd hm hk h
    refine Ev.step (fun k => by rw [laws_heldIntS.l0]) ?_
    have hr := h j (by omega) (by omega)
    refine evPos (by omega) (evPos (by omega) (evPos (by omega) ?_))
    rw [wr (by omega) (by omega), wr (by omega) (by omega)]
    refine evTo (ih (m + 1) (j + 1) (by omega) (by omega) (by omega) (by omega) (fun i h1 h2 => ?_)) (by omega)
    rw [h i (by omega) h2]; omega
theorem heldIntS_ev (n : Nat) (m : Int) (hn : n ≤ 35184372088832) (hm : 0 ≤ m) (hk : m + n ≤ 70368744177664) :
    Ev (fun k => laws_heldIntS.f k (iotaI m n) m) (m + n) := by
  unfold laws_heldIntS.f
  have hl := iotaI_length m n
  refine heldIntS_l0 (iotaI m n) (by omega) n m 0 (by omega) (by omega) hm hk (fun i h1 h2 => ?_)
  rw [iotaI_rd n m i h1 (by omega)]; omega
theorem heldBoolS_l0 (xs : List Bool) (hn : xs.length ≤ 35184372088832) : ∀ (d : Nat) (m j : Int), 0 ≤ j → j.toNat + d = xs.length → 0 ≤ m → m + d ≤ 70368744177664 → xs.drop j.toNat = bM m d →
    Ev (fun k => laws_heldBoolS.l0 k xs m j) (m + d) := by
  intro d
  induction d with
  | zero =>
    intro m j h0 hd hm hk h
    refine Ev.step (fun k => by rw [laws_heldBoolS.l0]) ?_
    exact evNeg (by omega) (evEq (by simp))
  | succ d ih =>
    intro m j h0 hd hm hk h
    refine Ev.step (fun k => by rw [laws_heldBoolS.l0]) ?_
    rw [dropD false xs j h0 (by omega), bM, List.cons.injEq] at h
    refine evPos (by omega) (evPos (by omega) (evNeg ?_ ?_))
    · rw [show rdOf false xs j = (Int.tmod m 3 == 0) from h.1]; simp
    rw [wr (by omega) (by omega), wr (by omega) (by omega)]
    exact evTo (ih (m + 1) (j + 1) (by omega) (by omega) (by omega) (by omega) h.2) (by omega)
theorem heldBoolS_ev (n : Nat) (m : Int) (hn : n ≤ 35184372088832) (hm : 0 ≤ m) (hk : m + n ≤ 70368744177664) :
    Ev (fun k => laws_heldBoolS.f k (bM m n) m) (m + n) := by
  unfold laws_heldBoolS.f
  have hl := bM_length n m
  exact heldBoolS_l0 (bM m n) (by omega) n m 0 (by omega) (by omega) hm hk rfl
theorem heldFocus_ev (na nb nc nd : Nat) (ha : na ≤ 2000000) (hb : nb ≤ 2000000) (hc : nc ≤ 2000000) (hd : nd ≤ 2000000) :
    Ev (fun k => laws_heldFocus.f k (iotaI 1 na) (iotaI (1 + na) nb) (bM (1 + na + nb) nc) (iotaI (1 + na + nb + nc) nd) 1) (1 + na + nb + nc + nd) := by
  unfold laws_heldFocus.f
  exact Ev.bind (heldIntS_ev na 1 (by omega) (by omega) (by omega)) (evNeg (by omega) (Ev.bind (heldIntS_ev nb (1 + na) (by omega) (by omega) (by omega)) (evNeg (by omega) (Ev.bind (heldBoolS_ev nc (1 + na + nb) (by omega) (by omega) (by omega)) (evNeg (by omega) (Ev.bind (heldIntS_ev nd (1 + na + nb + nc) (by omega) (by omega) (by omega)) (evNeg (by omega) (Ev.now _))))))))
theorem heldSwapper_ev (na nb nc nd ne nf : Nat) (ha : na ≤ 2000000) (hb : nb ≤ 2000000) (hc : nc ≤ 2000000) (hd : nd ≤ 2000000) (he : ne ≤ 2000000) (hf : nf ≤ 2000000) :
    Ev (fun k => laws_heldSwapper.f k (iotaI 1 na) (iotaI (1 + na) nb) (bM (1 + na + nb) nc) (iotaI (1 + na + nb + nc) nd) (iotaI (1 + na + nb + nc + nd) ne) (iotaI (1 + na + nb + nc + nd + ne) nf) 1) (1 + na + nb + nc + nd + ne + nf) := by
  unfold laws_heldSwapper.f
  exact Ev.bind (heldFocus_ev na nb nc nd ha hb hc hd) (evNeg (by omega) (Ev.bind (heldIntS_ev ne (1 + na + nb + nc + nd) (by omega) (by omega) (by omega)) (evNeg (by omega) (Ev.bind (heldIntS_ev nf (1 + na + nb + nc + nd + ne) (by omega) (by omega) (by omega)) (evNeg (by omega) (Ev.now _))))))
theorem FnExactStartSwapper : laws_FnExactStartSwapper.Pure := by
  intro x wx
  refine Ev.rounds (g := fun q => laws_FnExactStartSwapper.f q x) ?_
  unfold laws_FnExactStartSwapper.f
  have key : ∃ (a b d : List Int) (c : List Bool) (e f : List Int) (o : Bool), a.length ≤ 2000000 ∧ b.length ≤ 2000000 ∧ c.length ≤ 2000000 ∧ d.length ≤ 2000000 ∧ e.length ≤ 2000000 ∧ f.length ≤ 2000000 ∧ Ev (fun q => spec_StartSwapper.f q x) (a, b, c, d, e, f, o) ∧ Ev (fun q => impl_StartSwapper.f q x) (a, b, c, d, e, f, o) := by
    unfold spec_StartSwapper.f impl_StartSwapper.f spec_foSize.f impl_isSwapperSize.f
    simp only [l1In_eq, within_eq, Option.bind_some]
    by_cases c : 1 ≤ x ∧ x ≤ 7
    · obtain ⟨n, rfl⟩ := Int.eq_ofNat_of_zero_le (show 0 ≤ x by omega)
      have hn : n ≤ 7 := by omega
      have l3 := st_lens (cn n) 0
      have lc := cn_length n
      refine ⟨_, _, _, _, _, _, true, ?_, ?_, ?_, ?_, ?_, ?_, evPos (by simpa using c) (Ev.bind (foSwapper_ev n (by omega) hn) (Ev.now _)), evPos (by simpa using c) (Ev.bind (startSwapper_ev n (by omega) hn) (Ev.now _))⟩
      · show (bs (cn n)).length ≤ _; rw [bs_length]; omega
      · show (st (cn n) 0).d.length ≤ _; omega
      · show (st (cn n) 0).u.length ≤ _; omega
      · show (st (cn n) 0).p.length ≤ _; omega
      · show (upTo n).length ≤ _; rw [upTo_length]; omega
      · show (upTo n).length ≤ _; rw [upTo_length]; omega
    · exact ⟨[], [], [], [], [], [], false, by simp, by simp, by simp, by simp, by simp, by simp, evNeg (by simpa using c) (Ev.now _), evNeg (by simpa using c) (Ev.now _)⟩
  obtain ⟨a, b, d, c, e, f, o, ha, hb, hc, hd, he, hf, hs, hi⟩ := key
  have hq := eqSwapper_self a b d c e f ha hb hc hd he hf
  have hm := markSwapper_ev a b d c e f ha hb hc hd he hf
  have hh := heldSwapper_ev a.length b.length c.length d.length e.length f.length ha hb hc hd he hf
  refine Ev.bind hs (Ev.bind hi (Ev.bind hq (evPos rfl ?_)))
  refine Ev.step (fun k => by rw [laws_FnExactStartSwapper.j0]) ?_
  refine evNeg (by simp) (Ev.bind hm (Ev.bind hh (evNeg (by omega) (evPos rfl (Ev.bind hi (Ev.bind hq (evPos rfl ?_)))))))
  refine Ev.step (fun k => by rw [laws_FnExactStartSwapper.j1]) ?_
  exact evNeg (by simp) (Ev.bind hh (evNeg (by omega) (evPos rfl (Ev.now _))))
end Go.Proofs.Ytedijkelbdpcdaa.Pure
