/- The pure statement of FnExactFocusAt: for all arguments that fit, the law as a Lean function answers true after enough rounds. -/
import Derived.Test.YtaogaigpnmpdcaaMFnExactFocusAtx1
import Derived.Test.YtaogaigpnmpdcaaMFnExactFocusAtx2
import Derived.Test.YtaogaigpnmpdcaaMFnExactFocusAtx3
import Derived.Test.YtaogaigpnmpdcaaMFnExactFocusAtx4
import Derived.Test.YtaogaigpnmpdcaaMFnExactFocusAtx5
import Derived.Test.YtaogaigpnmpdcaaMFnExactFocusAtx6
import Derived.Test.YtaogaigpnmpdcaaMFnExactFocusAtx7
import Derived.Test.YtaogaigpnmpdcaaMFnExactFocusAtx8
import Derived.Test.YtaogaigpnmpdcaaMFnExactFocusAtx9
import Derived.Test.YtaogaigpnmpdcaaMFnExactFocusAtx10
import Derived.Test.YtaogaigpnmpdcaaBase
import Derived.Test.YtaogaigpnmpdcaaFoc
import Derived.Test.YtaogaigpnmpdcaaFocB
import Derived.Test.YtaogaigpnmpdcaaFocR
namespace Go.Proofs.Ytaogaigpnmpdcaa.Pure
open Go.RowKit Go.Proofs.Ytaogaigpnmpdcaa.MFnExactFocusAt Go.Proofs.YtaogaigpnmpdcaaW.PrintWords Go.Proofs.YtaogaigpnmpdcaaW.PrintLast Go.Proofs.Ytaogaigpnmpdcaa.Base Go.Proofs.Ytaogaigpnmpdcaa.Foc Go.Proofs.Ytaogaigpnmpdcaa.FocB Go.Proofs.Ytaogaigpnmpdcaa.FocR
set_option linter.unusedVariables false
set_option linter.unusedSimpArgs false

/-! laws_toIntS -/
theorem toIntS_l0 (x0 : List Int) (hn : x0.length ≤ 35184372088832) : ∀ (d : Nat) (x3 : List Int) (j : Int), 0 ≤ j → j.toNat + d = x0.length → x3.length = x0.length → x3.take j.toNat = x0.take j.toNat →
    Ev (fun k => laws_toIntS.l0 k x0 x3 j) x0 := by
  intro d
  induction d with
  | zero =>
    intro x3 j h0 hd hl ht
    refine Ev.step (fun k => by rw [laws_toIntS.l0]) ?_
    refine evNeg (by omega) ?_
    rw [take_end x0 j (by omega), take_end x3 j (by omega)] at ht
    exact evEq ht
  | succ d ih =>
    intro x3 j h0 hd hl ht
    refine Ev.step (fun k => by rw [laws_toIntS.l0]) ?_
    refine evPos (by omega) (evPos (by omega) (evPos (by omega) ?_))
    rw [wr (by omega) (by omega)]
    refine ih _ _ (by omega) (by omega) (by simpa using hl) ?_
    rw [set_takeI x3 j _ h0 (by omega), take_rd x0 j h0 (by omega), ht]
theorem toIntS_ev (l : List Int) (hn : l.length ≤ 35184372088832) : Ev (fun k => laws_toIntS.f k l) l := by
  unfold laws_toIntS.f
  refine evPos (by omega) (evPos (by simpa using hn) ?_)
  exact toIntS_l0 l hn l.length _ 0 (by omega) (by simp) (by simp) (by simp)
/-! laws_eqIntS -/
theorem eqIntS_l0 (a b : List Int) (hn : a.length ≤ 35184372088832) (hb : a.length = b.length) : ∀ (d : Nat) (j : Int), 0 ≤ j → j.toNat + d = a.length →
    Ev (fun k => laws_eqIntS.l0 k a b j) (decide (a.drop j.toNat = b.drop j.toNat)) := by
  intro d
  induction d with
  | zero =>
    intro j h0 hd
    refine Ev.step (fun k => by rw [laws_eqIntS.l0]) ?_
    refine evNeg (by omega) ?_
    rw [drop_end a j (by omega), drop_end b j (by omega)]
    exact evEq rfl
  | succ d ih =>
    intro j h0 hd
    refine Ev.step (fun k => by rw [laws_eqIntS.l0]) ?_
    refine evPos (by omega) (evPos (by omega) (evPos (by omega) ?_))
    rw [wr (by omega) (by omega), drop_rd a j h0 (by omega), drop_rd b j h0 (by omega)]
    by_cases c : rd a j = rd b j
    · refine evPos c (evTo (ih _ (by omega) (by omega)) ?_)
      simp [c]
    · refine evNeg c (evEq ?_)
      simp [c]
theorem eqIntS_ev (a b : List Int) (hn : a.length ≤ 35184372088832) : Ev (fun k => laws_eqIntS.f k a b) (decide (a = b)) := by
  unfold laws_eqIntS.f
  by_cases hb : a.length = b.length
  · exact evPos (by omega) (eqIntS_l0 a b hn hb a.length 0 (by omega) (by simp))
  · refine evNeg (by omega) (evEq ?_)
    exact (decide_eq_false (fun e => hb (by rw [e]))).symm
theorem eqIntS_self (a : List Int) (hn : a.length ≤ 35184372088832) : Ev (fun k => laws_eqIntS.f k a a) true := evTo (eqIntS_ev a a hn) (by simp)
/-! laws_markIntS -/
theorem markIntS_l0 : ∀ (d : Nat) (xs : List Int) (m j : Int), 0 ≤ j → j.toNat + d = xs.length → xs.length ≤ 35184372088832 → 0 ≤ m → m + d ≤ 70368744177664 →
    Ev (fun k => laws_markIntS.l0 k xs m j) (m + d, xs.take j.toNat ++ iotaI m d) := by
  intro d
  induction d with
  | zero =>
    intro xs m j h0 hd hn hm hk
    refine Ev.step (fun k => by rw [laws_markIntS.l0]) ?_
    refine evNeg (by omega) (evEq ?_)
    rw [take_end xs j (by omega)]
    simp [iotaI]
  | succ d ih =>
    intro xs m j h0 hd hn hm hk
    refine Ev.step (fun k => by rw [laws_markIntS.l0]) ?_
    refine evPos (by omega) (evPos (by omega) ?_)
    rw [wr (by omega) (by omega), wr (by omega) (by omega)]
    refine evTo (ih (xs.set j.toNat m) (m + 1) (j + 1) (by omega) (by simp; omega) (by simpa using hn) (by omega) (by omega)) ?_
    rw [set_takeI xs j m h0 (by omega)]
    simp [iotaI]
    omega
theorem markIntS_ev (xs : List Int) (m : Int) (hn : xs.length ≤ 35184372088832) (hm : 0 ≤ m) (hk : m + xs.length ≤ 70368744177664) :
    Ev (fun k => laws_markIntS.f k xs m) (m + xs.length, iotaI m xs.length) := by
  unfold laws_markIntS.f
  refine evTo (markIntS_l0 xs.length xs m 0 (by omega) (by simp) hn hm hk) (by simp)
/-! laws_eqBoolS -/
theorem eqBoolS_l0 (a : List Bool) (hn : a.length ≤ 35184372088832) : ∀ (d : Nat) (j : Int), 0 ≤ j → j.toNat + d = a.length → Ev (fun k => laws_eqBoolS.l0 k a a j) true := by
  intro d
  induction d with
  | zero =>
    intro j h0 hd
    refine Ev.step (fun k => by rw [laws_eqBoolS.l0]) ?_
    exact evNeg (by omega) (evEq rfl)
  | succ d ih =>
    intro j h0 hd
    refine Ev.step (fun k => by rw [laws_eqBoolS.l0]) ?_
    refine evPos (by omega) (evPos (by omega) (evPos (by omega) (evNeg (by simp) ?_)))
    rw [wr (by omega) (by omega)]
    exact ih _ (by omega) (by omega)
theorem eqBoolS_self (a : List Bool) (hn : a.length ≤ 35184372088832) : Ev (fun k => laws_eqBoolS.f k a a) true := by
  unfold laws_eqBoolS.f
  exact evPos rfl (eqBoolS_l0 a hn a.length 0 (by omega) (by simp))
/-! laws_eqFocus -/
theorem eqFocus_self (a b d : List Int) (c : List Bool) (ha : a.length ≤ 2000000) (hb : b.length ≤ 2000000) (hc : c.length ≤ 2000000) (hd : d.length ≤ 2000000) : Ev (fun k => laws_eqFocus.f k a b c d a b c d) true := by
  unfold laws_eqFocus.f
  exact Ev.bind (eqIntS_self a (by omega)) (evPos rfl (Ev.bind (eqIntS_self b (by omega)) (evPos rfl (Ev.bind (eqBoolS_self c (by omega)) (evPos rfl (Ev.bind (eqIntS_self d (by omega)) (evPos rfl (Ev.now _))))))))
/-! laws_markBoolS -/
theorem markBoolS_l0 : ∀ (d : Nat) (xs : List Bool) (m j : Int), 0 ≤ j → j.toNat + d = xs.length → xs.length ≤ 35184372088832 → 0 ≤ m → m + d ≤ 70368744177664 →
    Ev (fun k => laws_markBoolS.l0 k xs m j) (m + d, xs.take j.toNat ++ bM m d) := by
  intro d
  induction d with
  | zero =>
    intro xs m j h0 hd hn hm hk
    refine Ev.step (fun k => by rw [laws_markBoolS.l0]) ?_
    refine evNeg (by omega) (evEq ?_)
    rw [take_end xs j (by omega)]
    simp [bM]
  | succ d ih =>
    intro xs m j h0 hd hn hm hk
    refine Ev.step (fun k => by rw [laws_markBoolS.l0]) ?_
    refine evPos (by omega) (evPos (by omega) ?_)
    rw [wr (by omega) (by omega), wr (by omega) (by omega)]
    refine evTo (ih (xs.set j.toNat (Int.tmod m 3 == 0)) (m + 1) (j + 1) (by omega) (by simp; omega) (by simpa using hn) (by omega) (by omega)) ?_
    rw [set_takeB xs j _ h0 (by omega)]
    simp [bM]
    omega
theorem markBoolS_ev (xs : List Bool) (m : Int) (hn : xs.length ≤ 35184372088832) (hm : 0 ≤ m) (hk : m + xs.length ≤ 70368744177664) :
    Ev (fun k => laws_markBoolS.f k xs m) (m + xs.length, bM m xs.length) := by
  unfold laws_markBoolS.f
  refine evTo (markBoolS_l0 xs.length xs m 0 (by omega) (by simp) hn hm hk) (by simp)
/-! laws_markFocus -/
theorem markFocus_ev (a b d : List Int) (c : List Bool) (ha : a.length ≤ 2000000) (hb : b.length ≤ 2000000) (hc : c.length ≤ 2000000) (hd : d.length ≤ 2000000) :
    Ev (fun k => laws_markFocus.f k a b c d 1) (1 + a.length + b.length + c.length + d.length, iotaI 1 a.length, iotaI (1 + a.length) b.length, bM (1 + a.length + b.length) c.length, iotaI (1 + a.length + b.length + c.length) d.length) := by
  unfold laws_markFocus.f
  exact Ev.bind (markIntS_ev a 1 (by omega) (by omega) (by omega)) (Ev.bind (markIntS_ev b (1 + a.length) (by omega) (by omega) (by omega)) (Ev.bind (markBoolS_ev c (1 + a.length + b.length) (by omega) (by omega) (by omega)) (Ev.bind (markIntS_ev d (1 + a.length + b.length + c.length) (by omega) (by omega) (by omega)) (Ev.now _))))
/-! laws_heldIntS -/
theorem heldIntS_l0 (xs : List Int) (hn : xs.length ≤ 35184372088832) : ∀ (d : Nat) (m j : Int), 0 ≤ j → j.toNat + d = xs.length → 0 ≤ m → m + d ≤ 70368744177664 → (∀ i : Int, j ≤ i → i < xs.length → rd xs i = m + (i - j)) →
    Ev (fun k => laws_heldIntS.l0 k xs m j) (m + d) := by
  intro d
  induction d with
  | zero =>
    intro m j h0 hd hm hk h
    refine Ev.step (fun k => by rw [laws_heldIntS.l0]) ?_
    exact evNeg (by omega) (evEq (by simp))
  | succ d ih =>
    intro m j h0 hd hm hk h
    refine Ev.step (fun k => by rw [laws_heldIntS.l0]) ?_
    have hr := h j (by omega) (by omega)
    refine evPos (by omega) (evPos (by omega) (evPos (by omega) ?_))
    rw [wr (by omega) (by omega), wr (by omega) (by omega)]
    refine evTo (ih (m + 1) (j + 1) (by omega) (by omega) (by omega) (by omega) (fun i h1 h2 => ?_)) (by omega)
    rw [h i (by omega) h2]; omega
theorem heldIntS_ev (n : Nat) (m : Int) (hn : n ≤ 35184372088832) (hm : 0 ≤ m) (hk : m + n ≤ 70368744177664) :
    Ev (fun k => laws_heldIntS.f k (iotaI m n) m) (m + n) := by
  unfold laws_heldIntS.f
  have hl := iotaI_length m n
  refine heldIntS_l0 (iotaI m n) (by omega) n m 0 (by omega) (by omega) hm hk (fun i h1 h2 => ?_)
  rw [iotaI_rd n m i h1 (by omega)]; omega
/-! laws_heldBoolS -/
theorem heldBoolS_l0 (xs : List Bool) (hn : xs.length ≤ 35184372088832) : ∀ (d : Nat) (m j : Int), 0 ≤ j → j.toNat + d = xs.length → 0 ≤ m → m + d ≤ 70368744177664 → xs.drop j.toNat = bM m d →
    Ev (fun k => laws_heldBoolS.l0 k xs m j) (m + d) := by
  intro d
  induction d with
  | zero =>
    intro m j h0 hd hm hk h
    refine Ev.step (fun k => by rw [laws_heldBoolS.l0]) ?_
    exact evNeg (by omega) (evEq (by simp))
  | succ d ih =>
    intro m j h0 hd hm hk h
    refine Ev.step (fun k => by rw [laws_heldBoolS.l0]) ?_
    rw [dropD false xs j h0 (by omega), bM, List.cons.injEq] at h
    refine evPos (by omega) (evPos (by omega) (evNeg ?_ ?_))
    · rw [show rdOf false xs j = (Int.tmod m 3 == 0) from h.1]; simp
    rw [wr (by omega) (by omega), wr (by omega) (by omega)]
    exact evTo (ih (m + 1) (j + 1) (by omega) (by omega) (by omega) (by omega) h.2) (by omega)
theorem heldBoolS_ev (n : Nat) (m : Int) (hn : n ≤ 35184372088832) (hm : 0 ≤ m) (hk : m + n ≤ 70368744177664) :
    Ev (fun k => laws_heldBoolS.f k (bM m n) m) (m + n) := by
  unfold laws_heldBoolS.f
  have hl := bM_length n m
  exact heldBoolS_l0 (bM m n) (by omega) n m 0 (by omega) (by omega) hm hk rfl
/-! laws_heldFocus -/
theorem heldFocus_ev (na nb nc nd : Nat) (ha : na ≤ 2000000) (hb : nb ≤ 2000000) (hc : nc ≤ 2000000) (hd : nd ≤ 2000000) :
    Ev (fun k => laws_heldFocus.f k (iotaI 1 na) (iotaI (1 + na) nb) (bM (1 + na + nb) nc) (iotaI (1 + na + nb + nc) nd) 1) (1 + na + nb + nc + nd) := by
  unfold laws_heldFocus.f
  exact Ev.bind (heldIntS_ev na 1 (by omega) (by omega) (by omega)) (evNeg (by omega) (Ev.bind (heldIntS_ev nb (1 + na) (by omega) (by omega) (by omega)) (evNeg (by omega) (Ev.bind (heldBoolS_ev nc (1 + na + nb) (by omega) (by omega) (by omega)) (evNeg (by omega) (Ev.bind (heldIntS_ev nd (1 + na + nb + nc) (by omega) (by omega) (by omega)) (evNeg (by omega) (Ev.now _))))))))
/-! spec_raProduct -/
theorem raProduct_l0 (xs : List Int) (hn : xs.length ≤ 35184372088832) (hx : ∀ x ∈ xs, 2 ≤ x ∧ x ≤ 12) : ∀ (d : Nat) (j n : Int), 0 ≤ j → j.toNat + d = xs.length → 1 ≤ n → n ≤ 1000000 →
    Ev (fun k => spec_raProduct.l0 k n xs (xs.length : Int) j) (prS n (xs.drop j.toNat)) := by
  intro d
  induction d with
  | zero =>
    intro j n h0 hd h1 h2
    refine Ev.step (fun k => by rw [spec_raProduct.l0]) ?_
    refine evNeg (by omega) (evEq ?_)
    rw [drop_end _ _ (by omega)]; rfl
  | succ d ih =>
    intro j n h0 hd h1 h2
    refine Ev.step (fun k => by rw [spec_raProduct.l0]) ?_
    refine evPos (by omega) (evPos (by omega) (evPos (by omega) ?_))
    have hb := hx (rd xs j) (by rw [rd_get xs j (by omega)]; exact List.getElem_mem _)
    have q1 : n * rd xs j ≤ n * 12 := Int.mul_le_mul_of_nonneg_left hb.2 (by omega)
    have q2 : n * 2 ≤ n * rd xs j := Int.mul_le_mul_of_nonneg_left hb.1 (by omega)
    rw [drop_rd xs j h0 (by omega), prS]
    generalize n * rd xs j = p at q1 q2 ⊢
    rw [wr (by omega) (by omega), wr (by omega) (by omega)]
    by_cases c : p > 1000000
    · exact evPos c (evEq (by rw [if_pos c]))
    · refine evNeg c ?_
      rw [if_neg c]
      exact ih _ _ (by omega) (by omega) (by omega) (by omega)
theorem raProduct_ev (xs : List Int) (hn : xs.length ≤ 35184372088832) (hx : ∀ x ∈ xs, 2 ≤ x ∧ x ≤ 12) : Ev (fun k => spec_raProduct.f k xs) (prS 1 xs) := by
  unfold spec_raProduct.f
  exact raProduct_l0 xs hn hx xs.length 0 1 (by omega) (by simp) (by omega) (by omega)
/-! spec_l1In -/
theorem l1In_eq (x a b : Int) : spec_l1In.f x a b = some (decide (a ≤ x ∧ x ≤ b)) := by
  unfold spec_l1In.f
  by_cases h : x ≥ a
  · rw [if_pos h]; have h' : a ≤ x := h; simp [h']
  · rw [if_neg h]; have h' : ¬ a ≤ x := h; simp [h']
/-! spec_l1All -/
theorem l1All_l0 (a b : Int) (xs : List Int) (hn : xs.length ≤ 35184372088832) : ∀ (d : Nat) (j : Int), 0 ≤ j → j.toNat + d = xs.length →
    Ev (fun k => spec_l1All.l0 k a b xs (xs.length : Int) j) ((xs.drop j.toNat).all fun x => decide (a ≤ x ∧ x ≤ b)) := by
  intro d
  induction d with
  | zero =>
    intro j h0 hd
    refine Ev.step (fun k => by rw [spec_l1All.l0]) ?_
    refine evNeg (by omega) (evEq ?_)
    rw [drop_end _ _ (by omega)]; rfl
  | succ d ih =>
    intro j h0 hd
    refine Ev.step (fun k => by rw [spec_l1All.l0]) ?_
    refine evPos (by omega) (evPos (by omega) (evPos (by omega) ?_))
    simp only [l1In_eq, Option.bind_some]
    rw [wr (by omega) (by omega), drop_rd xs j h0 (by omega), List.all_cons]
    by_cases c : a ≤ rd xs j ∧ rd xs j ≤ b
    · exact evPos (by simpa using c) (evTo (ih _ (by omega) (by omega)) (by simp [c]))
    · exact evNeg (by simpa using c) (evEq (by rw [decide_eq_false c]; rfl))
theorem l1All_ev (xs : List Int) (a b : Int) (hn : xs.length ≤ 35184372088832) : Ev (fun k => spec_l1All.f k xs a b) (xs.all fun x => decide (a ≤ x ∧ x ≤ b)) := by
  unfold spec_l1All.f
  exact evTo (l1All_l0 a b xs hn xs.length 0 (by omega) (by simp)) (by simp)
/-! spec_foBases -/
theorem foBases_ev (xs : List Int) (hn : xs.length ≤ 35184372088832) : Ev (fun k => spec_foBases.f k xs) (fob xs) := by
  unfold spec_foBases.f spec_raBases.f
  by_cases c1 : xs.length ≤ 12
  rotate_left
  · refine Ev.bind (evNeg (by omega) (Ev.now _)) (evNeg (by simp) (evEq ?_))
    simp [fob, c1]
  by_cases c2 : (xs.all fun x => decide (2 ≤ x ∧ x ≤ 12)) = true
  rotate_left
  · have h2 := l1All_ev xs 2 12 hn
    simp only [Bool.not_eq_true] at c2
    rw [c2] at h2
    refine Ev.bind (evPos (by omega) (Ev.bind h2 (evNeg (by simp) (Ev.now _)))) (evNeg (by simp) (evEq ?_))
    unfold fob; rw [c2]; simp
  have hx : ∀ x ∈ xs, 2 ≤ x ∧ x ≤ 12 := fun x hx => by simpa using List.all_eq_true.1 c2 x hx
  have h2 := l1All_ev xs 2 12 hn
  rw [c2] at h2
  have hp := raProduct_ev xs hn hx
  refine Ev.bind (evPos (by omega) (Ev.bind h2 (evPos rfl (Ev.bind hp (Ev.now _))))) ?_
  by_cases c3 : prS 1 xs ≤ 1000000
  · refine evPos (by simpa using c3) (Ev.bind hp (evEq ?_))
    unfold fob; rw [c2]; simp [c1]
  · refine evNeg (by simpa using c3) (evEq ?_)
    unfold fob; rw [c2]; simp [c1]; omega
/-! spec_l1Own -/
theorem l1Own_eq (l : List Int) (hn : l.length ≤ 10000000000000) : spec_l1Own.f l = some l := by
  unfold spec_l1Own.f
  simp only [Option.bind_some, List.nil_append, List.length_nil, Nat.zero_add]
  rw [if_pos (by omega)]
/-! spec_raUpTo -/
theorem raUpTo_l0 (n : Nat) (hn : n ≤ 1000000000) : ∀ (d : Nat) (j : Int), 0 ≤ j → j.toNat + d = n → Ev (fun k => spec_raUpTo.l0 k (n : Int) (upTo j.toNat) j) (upTo n) := by
  intro d
  induction d with
  | zero =>
    intro j h0 hd
    refine Ev.step (fun k => by rw [spec_raUpTo.l0]) ?_
    exact evNeg (by omega) (evEq (by rw [show j.toNat = n from by omega]))
  | succ d ih =>
    intro j h0 hd
    refine Ev.step (fun k => by rw [spec_raUpTo.l0]) ?_
    refine evPos (by omega) (evPos (by rw [upTo_length]; omega) ?_)
    have h := ih (j + 1) (by omega) (by omega)
    rw [show (j + 1).toNat = j.toNat + 1 from by omega, upTo_succ, Int.toNat_of_nonneg h0] at h
    rw [wr (by omega) (by omega)]
    exact h
theorem raUpTo_ev (n : Nat) (hn : n ≤ 1000000000) : Ev (fun k => spec_raUpTo.f k (n : Int)) (upTo n) := by
  unfold spec_raUpTo.f
  exact raUpTo_l0 n hn n 0 (by omega) (by simp)
/-! spec_foStart -/
theorem foStart_l0 (n : Nat) (hn : n ≤ 1000000) (a b c : List Int) : ∀ (d : Nat) (j : Int), 0 ≤ j → j.toNat + d = n → Ev (fun k => spec_foStart.l0 k (n : Int) j a b (List.replicate j.toNat true) c) (a, b, List.replicate n true, c) := by
  intro d
  induction d with
  | zero =>
    intro j h0 hd
    refine Ev.step (fun k => by rw [spec_foStart.l0]) ?_
    exact evNeg (by omega) (evEq (by rw [show j.toNat = n from by omega]))
  | succ d ih =>
    intro j h0 hd
    refine Ev.step (fun k => by rw [spec_foStart.l0]) ?_
    refine evPos (by omega) (evPos (by rw [List.length_replicate]; omega) ?_)
    rw [wr (by omega) (by omega), rep_snoc j h0]
    exact ih (j + 1) (by omega) (by omega)
theorem foStart_ev (l : List Int) (hn : l.length ≤ 1000) : Ev (fun k => spec_foStart.f k l) (stF l) := by
  unfold spec_foStart.f stF
  rw [l1Own_eq l (by omega)]
  refine evSome (evPos (by omega) (evPos (by omega) ?_))
  rw [wr (by omega) (by omega), show (l.length : Int) + 1 = ((l.length + 1 : Nat) : Int) from by omega, Int.toNat_natCast]
  refine Ev.bind (raUpTo_ev (l.length + 1) (by omega)) ?_
  exact foStart_l0 l.length (by omega) _ _ _ l.length 0 (by omega) (by simp)
/-! spec_foStep -/
theorem foStep_go (cs : List Nat) (h : Ok cs) (r : Nat) (hf : fa cs r < cs.length) : spec_foStep.f (bs cs) (st cs r).d (st cs r).u (st cs r).p = some (bs cs, (st cs (r + 1)).d, (st cs (r + 1)).u, (st cs (r + 1)).p, (cs.length : Int) - 1 - ((fa cs r : Nat) : Int)) := by
  unfold spec_foStep.f
  have hl := (st_lens cs r).2.2
  have hj : rd (st cs r).p 0 = ((fa cs r : Nat) : Int) := st_head cs r
  rw [if_pos (by omega), hj, bs_length, if_neg (by omega), stepF_st cs h r hf]
  rfl
/-! spec_foAt -/
theorem foAt_l0 (cs : List Nat) (h : Ok cs) : ∀ (m r : Nat), r + m < prod cs → m ≤ 10000 →
    Ev (fun k => spec_foAt.l0 k (m : Int) (bs cs) (st cs r).d (st cs r).u (st cs r).p) (bs cs, (st cs (r + m)).d, (st cs (r + m)).u, (st cs (r + m)).p, true) := by
  intro m
  induction m with
  | zero =>
    intro r hr hm
    refine Ev.step (fun k => by rw [spec_foAt.l0]) ?_
    exact evNeg (by omega) (Ev.now _)
  | succ m ih =>
    intro r hr hm
    refine Ev.step (fun k => by rw [spec_foAt.l0]) ?_
    refine evPos (by omega) ?_
    have c := (last_rank cs h r (by omega)).2 (by omega)
    rw [foStep_go cs h r c]
    refine evSome (evNeg (by dsimp only; omega) ?_)
    dsimp only
    rw [wr (by omega) (by omega), show ((m + 1 : Nat) : Int) - 1 = (m : Int) from by omega, show r + (m + 1) = r + 1 + m from by omega]
    exact ih (r + 1) (by omega) (by omega)
theorem foAt_ev (cs : List Nat) (h : Ok cs) (m : Nat) (hm : m ≤ 10000) (hp : m < prod cs) : Ev (fun k => spec_foAt.f k (bs cs) (m : Int)) (bs cs, (st cs m).d, (st cs m).u, (st cs m).p, true) := by
  unfold spec_foAt.f
  have hs := foStart_ev (bs cs) (by rw [bs_length]; have := h.len; omega)
  rw [stF_st cs h] at hs
  have := foAt_l0 cs h m 0 (by omega) hm
  rw [Nat.zero_add] at this
  exact Ev.bind hs this
/-! impl_size -/
theorem size_l0 (xs : List Int) (hn : xs.length ≤ 35184372088832) (hx : ∀ x ∈ xs, 2 ≤ x ∧ x ≤ 12) : ∀ (d : Nat) (j n : Int), 0 ≤ j → j.toNat + d = xs.length → 1 ≤ n → n ≤ 1000001 →
    Ev (fun k => impl_size.l0 k n xs (xs.length : Int) j) (capI n (xs.drop j.toNat)) := by
  intro d
  induction d with
  | zero =>
    intro j n h0 hd h1 h2
    refine Ev.step (fun k => by rw [impl_size.l0]) ?_
    refine evNeg (by omega) (evEq ?_)
    rw [drop_end _ _ (by omega)]; rfl
  | succ d ih =>
    intro j n h0 hd h1 h2
    refine Ev.step (fun k => by rw [impl_size.l0]) ?_
    refine evPos (by omega) (evPos (by omega) (evPos (by omega) ?_))
    have hb := hx (rd xs j) (by rw [rd_get xs j (by omega)]; exact List.getElem_mem _)
    have q1 : n * rd xs j ≤ n * 12 := Int.mul_le_mul_of_nonneg_left hb.2 (by omega)
    have q2 : n * 2 ≤ n * rd xs j := Int.mul_le_mul_of_nonneg_left hb.1 (by omega)
    rw [drop_rd xs j h0 (by omega), capI]
    generalize n * rd xs j = p at q1 q2 ⊢
    rw [wr (by omega) (by omega), wr (by omega) (by omega), show mn p 1000001 = (if p ≤ 1000001 then p else 1000001) from by simp only [mn]; split <;> split <;> omega]
    exact ih _ _ (by omega) (by omega) (by split <;> omega) (by split <;> omega)
theorem size_ev (xs : List Int) (hn : xs.length ≤ 35184372088832) (hx : ∀ x ∈ xs, 2 ≤ x ∧ x ≤ 12) : Ev (fun k => impl_size.f k xs) (capI 1 xs) := by
  unfold impl_size.f
  exact size_l0 xs hn hx xs.length 0 1 (by omega) (by simp) (by omega) (by omega)
/-! impl_within -/
theorem within_eq (x a b : Int) : impl_within.f x a b = some (decide (a ≤ x ∧ x ≤ b)) := by
  unfold impl_within.f
  by_cases h : x ≥ a
  · rw [if_pos h]; have h' : a ≤ x := h; simp [h']
  · rw [if_neg h]; have h' : ¬ a ≤ x := h; simp [h']
/-! impl_allWithin -/
theorem allWithin_l0 (a b : Int) (xs : List Int) (hn : xs.length ≤ 35184372088832) : ∀ (d : Nat) (j : Int), 0 ≤ j → j.toNat + d = xs.length →
    Ev (fun k => impl_allWithin.l0 k a b xs (xs.length : Int) j) ((xs.drop j.toNat).all fun x => decide (a ≤ x ∧ x ≤ b)) := by
  intro d
  induction d with
  | zero =>
    intro j h0 hd
    refine Ev.step (fun k => by rw [impl_allWithin.l0]) ?_
    refine evNeg (by omega) (evEq ?_)
    rw [drop_end _ _ (by omega)]; rfl
  | succ d ih =>
    intro j h0 hd
    refine Ev.step (fun k => by rw [impl_allWithin.l0]) ?_
    refine evPos (by omega) (evPos (by omega) (evPos (by omega) ?_))
    simp only [within_eq, Option.bind_some]
    rw [wr (by omega) (by omega), drop_rd xs j h0 (by omega), List.all_cons]
    by_cases c : a ≤ rd xs j ∧ rd xs j ≤ b
    · exact evPos (by simpa using c) (evTo (ih _ (by omega) (by omega)) (by simp [c]))
    · exact evNeg (by simpa using c) (evEq (by rw [decide_eq_false c]; rfl))
theorem allWithin_ev (xs : List Int) (a b : Int) (hn : xs.length ≤ 35184372088832) : Ev (fun k => impl_allWithin.f k xs a b) (xs.all fun x => decide (a ≤ x ∧ x ≤ b)) := by
  unfold impl_allWithin.f
  exact evTo (allWithin_l0 a b xs hn xs.length 0 (by omega) (by simp)) (by simp)
/-! impl_areFocusBases -/
theorem areFocusBases_ev (xs : List Int) (hn : xs.length ≤ 35184372088832) : Ev (fun k => impl_areFocusBases.f k xs) (fob xs) := by
  unfold impl_areFocusBases.f impl_areBases.f
  by_cases c1 : xs.length ≤ 12
  rotate_left
  · refine Ev.bind (evNeg (by omega) (Ev.now _)) (evNeg (by simp) (evEq ?_))
    simp [fob, c1]
  by_cases c2 : (xs.all fun x => decide (2 ≤ x ∧ x ≤ 12)) = true
  rotate_left
  · have h2 := allWithin_ev xs 2 12 hn
    simp only [Bool.not_eq_true] at c2
    rw [c2] at h2
    refine Ev.bind (evPos (by omega) (Ev.bind h2 (evNeg (by simp) (Ev.now _)))) (evNeg (by simp) (evEq ?_))
    unfold fob; rw [c2]; simp
  have hx : ∀ x ∈ xs, 2 ≤ x ∧ x ≤ 12 := fun x hx => by simpa using List.all_eq_true.1 c2 x hx
  have h2 := allWithin_ev xs 2 12 hn
  rw [c2] at h2
  have hp := size_ev xs hn hx
  have hc := pr_cap xs 1 hx (by omega) (by omega)
  refine Ev.bind (evPos (by omega) (Ev.bind h2 (evPos rfl (Ev.bind hp (Ev.now _))))) ?_
  by_cases c3 : capI 1 xs ≤ 1000000
  · refine evPos (by simpa using c3) (Ev.bind hp (evEq ?_))
    unfold fob; rw [c2]; simp [c1]; omega
  · refine evNeg (by simpa using c3) (evEq ?_)
    unfold fob; rw [c2]; simp [c1]; omega
/-! impl_copied -/
theorem copied_eq (l : List Int) (hn : l.length ≤ 10000000000000) : impl_copied.f l = some l := by
  unfold impl_copied.f
  simp only [Option.bind_some, List.nil_append, List.length_nil, Nat.zero_add]
  rw [if_pos (by omega)]
/-! impl_identity -/
theorem identity_l0 (n : Nat) (hn : n ≤ 1000000000) : ∀ (d : Nat) (j : Int), 0 ≤ j → j.toNat + d = n → Ev (fun k => impl_identity.l0 k (upTo j.toNat) (n : Int) j) (upTo n) := by
  intro d
  induction d with
  | zero =>
    intro j h0 hd
    refine Ev.step (fun k => by rw [impl_identity.l0]) ?_
    exact evNeg (by omega) (evEq (by rw [show j.toNat = n from by omega]))
  | succ d ih =>
    intro j h0 hd
    refine Ev.step (fun k => by rw [impl_identity.l0]) ?_
    refine evPos (by omega) (evPos (by rw [upTo_length]; omega) ?_)
    have h := ih (j + 1) (by omega) (by omega)
    rw [show (j + 1).toNat = j.toNat + 1 from by omega, upTo_succ, Int.toNat_of_nonneg h0] at h
    rw [wr (by omega) (by omega)]
    exact h
theorem identity_ev (n : Nat) (hn : n ≤ 1000000000) : Ev (fun k => impl_identity.f k (n : Int)) (upTo n) := by
  unfold impl_identity.f
  exact identity_l0 n hn n 0 (by omega) (by simp)
/-! impl_startFocus -/
theorem startFocus_l0 (n : Nat) (hn : n ≤ 1000000) (a b c : List Int) : ∀ (d : Nat) (j : Int), 0 ≤ j → j.toNat + d = n → Ev (fun k => impl_startFocus.l0 k (n : Int) j a b (List.replicate j.toNat true) c) (a, b, List.replicate n true, c) := by
  intro d
  induction d with
  | zero =>
    intro j h0 hd
    refine Ev.step (fun k => by rw [impl_startFocus.l0]) ?_
    exact evNeg (by omega) (evEq (by rw [show j.toNat = n from by omega]))
  | succ d ih =>
    intro j h0 hd
    refine Ev.step (fun k => by rw [impl_startFocus.l0]) ?_
    refine evPos (by omega) (evPos (by rw [List.length_replicate]; omega) ?_)
    rw [wr (by omega) (by omega), rep_snoc j h0]
    exact ih (j + 1) (by omega) (by omega)
theorem startFocus_ev (l : List Int) (hn : l.length ≤ 1000) : Ev (fun k => impl_startFocus.f k l) (stF l) := by
  unfold impl_startFocus.f stF
  rw [copied_eq l (by omega)]
  refine evSome (evPos (by omega) (evPos (by omega) ?_))
  rw [wr (by omega) (by omega), show (l.length : Int) + 1 = ((l.length + 1 : Nat) : Int) from by omega, Int.toNat_natCast]
  refine Ev.bind (identity_ev (l.length + 1) (by omega)) ?_
  exact startFocus_l0 l.length (by omega) _ _ _ l.length 0 (by omega) (by simp)
/-! impl_focusAt -/
theorem focusAt_l0 (cs : List Nat) (h : Ok cs) : ∀ (m r : Nat) (i n : Int), r + m < prod cs → n ≤ 10000 → 0 ≤ i → i + m = n →
    Ev (fun k => impl_focusAt.l0 k n i (bs cs) (st cs r).d (st cs r).u (st cs r).p) (bs cs, (st cs (r + m)).d, (st cs (r + m)).u, (st cs (r + m)).p) := by
  intro m
  induction m with
  | zero =>
    intro r i n hr hm h0 hi
    refine Ev.step (fun k => by rw [impl_focusAt.l0]) ?_
    exact evNeg (by omega) (Ev.now _)
  | succ m ih =>
    intro r i n hr hm h0 hi
    refine Ev.step (fun k => by rw [impl_focusAt.l0]) ?_
    refine evPos (by omega) ?_
    have c := (last_rank cs h r (by omega)).2 (by omega)
    rw [stepF_st cs h r c]
    refine evSome ?_
    dsimp only
    rw [wr (by omega) (by omega), show r + (m + 1) = r + 1 + m from by omega]
    exact ih (r + 1) (i + 1) n (by omega) hm (by omega) (by omega)
theorem focusAt_ev (cs : List Nat) (h : Ok cs) (m : Nat) (hm : m ≤ 10000) (hp : m < prod cs) : Ev (fun k => impl_focusAt.f k (bs cs) (m : Int)) (bs cs, (st cs m).d, (st cs m).u, (st cs m).p) := by
  unfold impl_focusAt.f
  have hs := startFocus_ev (bs cs) (by rw [bs_length]; have := h.len; omega)
  rw [stF_st cs h] at hs
  have := focusAt_l0 cs h m 0 0 (m : Int) (by omega) (by omega) (by omega) (by omega)
  rw [Nat.zero_add] at this
  exact Ev.bind hs this
-- NOLIB Comb
theorem prS_prodI : ∀ (t : List Int) (n : Int), prS n t ≤ 1000000 → prS n t = n * prodI t
  | [], n, _ => by simp [prS, prodI]
  | b :: t, n, h => by
    rw [prS] at h ⊢
    by_cases c : n * b > 1000000
    · rw [if_pos c] at h; omega
    · rw [if_neg c] at h ⊢
      rw [prS_prodI t _ h, prodI, Int.mul_assoc]
theorem FnExactFocusAt : laws_FnExactFocusAt.Pure := by
  intro l x hm hb hw wx
  refine Ev.rounds (g := fun q => laws_FnExactFocusAt.f q l x) ?_
  unfold laws_FnExactFocusAt.f
  by_cases hc : (l.length : Int) > 1048576
  · exact evPos hc (Ev.now _)
  refine evNeg hc ?_
  have hl : l.length ≤ 1048576 := by omega
  have ht := toIntS_ev l (by omega)
  have key : ∃ (a b d : List Int) (c : List Bool) (o : Bool), a.length ≤ 2000000 ∧ b.length ≤ 2000000 ∧ c.length ≤ 2000000 ∧ d.length ≤ 2000000 ∧ Ev (fun q => spec_FocusAt.f q l x) (a, b, c, d, o) ∧ Ev (fun q => impl_FocusAt.f q l x) (a, b, c, d, o) := by
    have h1 := foBases_ev l (by omega)
    have h2 := areFocusBases_ev l (by omega)
    unfold spec_FocusAt.f impl_FocusAt.f
    simp only [l1In_eq, within_eq]
    by_cases c : fob l = true
    · have c' := c
      simp only [fob, Bool.and_eq_true, decide_eq_true_eq, List.all_eq_true] at c'
      obtain ⟨q1, q2, q3⟩ := c'
      have h3 := raProduct_ev l (by omega) q2
      have h4 := size_ev l (by omega) q2
      have e4 : capI 1 l = prS 1 l := by
        rcases pr_cap l 1 q2 (by omega) (by omega) with h | h
        · exact h.2
        · omega
      rw [e4] at h4
      have e5 := prS_prodI l 1 (by omega)
      obtain ⟨cs, hk, hb2⟩ := ok_of c
      rw [← hb2, prodI_bs, hb2] at e5
      have hlen := hk.len
      have hpp := prod_pos cs hk.rad
      rw [show prS 1 l = ((prod cs : Nat) : Int) from by omega] at h3 h4 q3
      by_cases ca : 0 ≤ x ∧ x ≤ (prod cs : Int) - 1
      · obtain ⟨m, rfl⟩ := Int.eq_ofNat_of_zero_le ca.1
        have l3 := st_lens cs m
        refine ⟨bs cs, (st cs m).d, (st cs m).p, (st cs m).u, true, ?_, ?_, ?_, ?_, Ev.bind h1 (evPos c (Ev.bind h3 (evSome (evPos (by rw [wr (by omega) (by omega)]; simpa using ca) (Ev.bind (by rw [← hb2]; exact foAt_ev cs hk m (by omega) (by omega)) (Ev.now _)))))), Ev.bind h2 (evPos c (Ev.bind h4 (evSome (evPos (by rw [wr (by omega) (by omega)]; simpa using ca) (Ev.bind (by rw [← hb2]; exact focusAt_ev cs hk m (by omega) (by omega)) (Ev.now _))))))⟩
        · rw [bs_length]; omega
        · omega
        · omega
        · omega
      · exact ⟨[], [], [], [], false, by simp, by simp, by simp, by simp, Ev.bind h1 (evPos c (Ev.bind h3 (evSome (evNeg (by rw [wr (by omega) (by omega)]; simpa using ca) (Ev.now _))))), Ev.bind h2 (evPos c (Ev.bind h4 (evSome (evNeg (by rw [wr (by omega) (by omega)]; simpa using ca) (Ev.now _)))))⟩
    · exact ⟨[], [], [], [], false, by simp, by simp, by simp, by simp, Ev.bind h1 (evNeg c (Ev.now _)), Ev.bind h2 (evNeg c (Ev.now _))⟩
  obtain ⟨a, b, d, c, o, ha, hb', hc', hd, hs, hi⟩ := key
  have he := eqFocus_self a b d c ha hb' hc' hd
  have hmk := markFocus_ev a b d c ha hb' hc' hd
  have hh := heldFocus_ev a.length b.length c.length d.length ha hb' hc' hd
  refine Ev.bind ht (Ev.bind hs (Ev.bind ht (Ev.bind hi (Ev.bind he (evPos rfl ?_)))))
  refine Ev.step (fun k => by rw [laws_FnExactFocusAt.j0]) ?_
  refine evNeg (by simp) (Ev.bind ht (Ev.bind (eqIntS_self l (by omega)) (evPos rfl (Ev.bind (markIntS_ev l 1 (by omega) (by omega) (by omega)) (evNeg (by omega) (Ev.bind he (evPos rfl ?_)))))))
  refine Ev.step (fun k => by rw [laws_FnExactFocusAt.j1]) ?_
  refine evNeg (by simp) (Ev.bind hmk (Ev.bind hh (evNeg (by omega) (evPos rfl (Ev.bind ht (Ev.bind hi (Ev.bind he (evPos rfl ?_))))))))
  refine Ev.step (fun k => by rw [laws_FnExactFocusAt.j2]) ?_
  exact evNeg (by simp) (Ev.bind hh (evNeg (by omega) (evPos rfl (Ev.now _))))

end Go.Proofs.Ytaogaigpnmpdcaa.Pure
