import Derived.Test.YtpfakdhfffehaaaMFnExactStepSwapperx1
import Derived.Test.YtpfakdhfffehaaaMFnExactStepSwapperx2
import Derived.Test.YtpfakdhfffehaaaMFnExactStepSwapperx3
import Derived.Test.YtpfakdhfffehaaaMFnExactStepSwapperx4
import Derived.Test.YtpfakdhfffehaaaMFnExactStepSwapperx5
import Derived.Test.YtpfakdhfffehaaaMFnExactStepSwapperx6
import Derived.Test.YtpfakdhfffehaaaMFnExactStepSwapperx7
import Derived.Test.YtpfakdhfffehaaaMFnExactStepSwapperx8
import Derived.Test.YtpfakdhfffehaaaMFnExactStepSwapperx9
import Derived.Test.YtpfakdhfffehaaaMFnExactStepSwapperx10
import Derived.Test.YtpfakdhfffehaaaMFnExactStepSwapperx11
import Derived.Test.YtpfakdhfffehaaaMFnExactStepSwapperx12
import Derived.Test.YtpfakdhfffehaaaBase
import Derived.Test.YtpfakdhfffehaaaTrot
import Derived.Test.YtpfakdhfffehaaaMoves
import Derived.Test.YtpfakdhfffehaaaPerms
import Derived.Test.YtpfakdhfffehaaaFoc
import Derived.Test.YtpfakdhfffehaaaFocB
import Derived.Test.YtpfakdhfffehaaaFocR
import Derived.Test.YtpfakdhfffehaaaFocG
import Derived.Test.YtpfakdhfffehaaaSwp
import Derived.Test.YtpfakdhfffehaaaSwpS
import Derived.Test.YtpfakdhfffehaaaSwpG
namespace Go.Proofs.Ytpfakdhfffehaaa.Pure
open Go.RowKit Go.Proofs.Ytpfakdhfffehaaa.MFnExactStepSwapper Go.Proofs.YtpfakdhfffehaaaW.PrintWords Go.Proofs.YtpfakdhfffehaaaW.PrintLast Go.Proofs.Ytpfakdhfffehaaa.Base Go.Proofs.Ytpfakdhfffehaaa.Trot Go.Proofs.Ytpfakdhfffehaaa.Moves Go.Proofs.Ytpfakdhfffehaaa.Perms Go.Proofs.Ytpfakdhfffehaaa.Foc Go.Proofs.Ytpfakdhfffehaaa.FocB Go.Proofs.Ytpfakdhfffehaaa.FocR Go.Proofs.Ytpfakdhfffehaaa.FocG Go.Proofs.Ytpfakdhfffehaaa.Swp Go.Proofs.Ytpfakdhfffehaaa.SwpS Go.Proofs.Ytpfakdhfffehaaa.SwpG
set_option linter.unusedVariables false
set_option linter.unusedSimpArgs false
theorem eqIntS_l0 (a b : List Int) (hn : a.length ≤ 35184372088832) (hb : a.length = b.length) : ∀ (d : Nat) (j : Int), 0 ≤ j → j.toNat + d = a.length →
    Ev (fun k => laws_eqIntS.l0 k a b j) (decide (a.drop j.toNat = b.drop j.toNat)) := by
  intro d
  induction d with
  | zero =>
    intro j h0 hd
    refine Ev.step (fun k => by rw [laws_eqIntS.l0]) ?_
    refine evNeg (by omega) ?_
    rw [drop_end a j (by omega), drop_end b j (by omega)]
    exact evEq rfl
  | succ d ih =>
    intro j h0 hd
    refine Ev.step (fun k => by rw [laws_eqIntS.l0]) ?_
    refine evPos (by omega) (evPos (by omega) (evPos (by omega) ?_))
    rw [wr (by omega) (by omega), drop_rd a j h0 (by omega), drop_rd b j h0 (by omega)]
    by_cases c : rd a j = rd b j
    · refine evPos c (evTo (ih _ (by omega) (by omega)) ?_)
      simp [c]
    · refine evNeg c (evEq ?_)
      simp [c]
theorem eqIntS_ev (a b : List Int) (hn : a.length ≤ 35184372088832) : Ev (fun k => laws_eqIntS.f k a b) (decide (a = b)) := by
  unfold laws_eqIntS.f
  by_cases hb : a.length = b.length
  · exact evPos (by omega) (eqIntS_l0 a b hn hb a.length 0 (by omega) (by simp))
  · refine evNeg (by omega) (evEq ?_)
    exact (decide_eq_false (fun e => hb (by rw [e]))).symm
theorem eqIntS_self (a : List Int) (hn : a.length ≤ 35184372088832) : Ev (fun k => laws_eqIntS.f k a a) true := evTo (eqIntS_ev a a hn) (by simp)
theorem eqBoolS_l0 (a : List Bool) (hn : a.length ≤ 35184372088832) : ∀ (d : Nat) (j : Int), 0 ≤ j → j.toNat + d = a.length → Ev (fun k => laws_eqBoolS.l0 k a a j) true := by
  intro d
  induction d with
  | zero =>
    intro j h0 hd
    refine Ev.step (fun k => by rw [laws_eqBoolS.l0]) ?_
    exact evNeg (by omega) (evEq rfl)
  | succ d ih =>
    intro j h0 hd
    refine Ev.step (fun k => by rw [laws_eqBoolS.l0]) ?_
    refine evPos (by omega) (evPos (by omega) (evPos (by omega) (evNeg (by simp) ?_)))
    rw [wr (by omega) (by omega)]
    exact ih _ (by omega) (by omega)
theorem eqBoolS_self (a : List Bool) (hn : a.length ≤ 35184372088832) : Ev (fun k => laws_eqBoolS.f k a a) true := by
  unfold laws_eqBoolS.f
  exact evPos rfl (eqBoolS_l0 a hn a.length 0 (by omega) (by simp))
theorem eqFocus_self (a b d : List Int) (c : List Bool) (ha : a.length ≤ 2000000) (hb : b.length ≤ 2000000) (hc : c.length ≤ 2000000) (hd : d.length ≤ 2000000) : Ev (fun k => laws_eqFocus.f k a b c d a b c d) true := by
  unfold laws_eqFocus.f
  exact Ev.bind (eqIntS_self a (by omega)) (evPos rfl (Ev.bind (eqIntS_self b (by omega)) (evPos rfl (Ev.bind (eqBoolS_self c (by omega)) (evPos rfl (Ev.bind (eqIntS_self d (by omega)) (evPos rfl (Ev.now _))))))))
theorem eqSwapper_self (a b d : List Int) (c : List Bool) (e f : List Int) (ha : a.length ≤ 2000000) (hb : b.length ≤ 2000000) (hc : c.length ≤ 2000000) (hd : d.length ≤ 2000000) (he : e.length ≤ 2000000) (hf : f.length ≤ 2000000) : Ev (fun k => laws_eqSwapper.f k a b c d e f a b c d e f) true := by
  unfold laws_eqSwapper.f
  exact Ev.bind (eqFocus_self a b d c ha hb hc hd) (evPos rfl (Ev.bind (eqIntS_self e (by omega)) (evPos rfl (Ev.bind (eqIntS_self f (by omega)) (evPos rfl (Ev.now _))))))
theorem markIntS_l0 : ∀ (d : Nat) (xs : List Int) (m j : Int), 0 ≤ j → j.toNat + d = xs.length → xs.length ≤ 35184372088832 → 0 ≤ m → m + d ≤ 70368744177664 →
    Ev (fun k => laws_markIntS.l0 k xs m j) (m + d, xs.take j.toNat ++ iotaI m d) := by
  intro d
  induction d with
  | zero =>
    intro xs m j h0 hd hn hm hk
    refine Ev.step (fun k => by rw [laws_markIntS.l0]) ?_
    refine evNeg (by omega) (evEq ?_)
    rw [take_end xs j (by omega)]
    simp [iotaI]
  | succ d ih =>
    intro xs m j h0 hd hn hm hk
    refine Ev.step (fun k => by rw [laws_markIntS.l0]) ?_
    refine evPos (by omega) (evPos (by omega) ?_)
    rw [wr (by omega) (by omega), wr (by omega) (by omega)]
    refine evTo (ih (xs.set j.toNat m) (m + 1) (j + 1) (by omega) (by simp; omega) (by simpa using hn) (by omega) (by omega)) ?_
    rw [set_takeI xs j m h0 (by omega)]
    simp [iotaI]
    omega
theorem markIntS_ev (xs : List Int) (m : Int) (hn : xs.length ≤ 35184372088832) (hm : 0 ≤ m) (hk : m + xs.length ≤ 70368744177664) :
    Ev (fun k => laws_markIntS.f k xs m) (m + xs.length, iotaI m xs.length) := by
  unfold laws_markIntS.f
  refine evTo (markIntS_l0 xs.length xs m 0 (by omega) (by simp) hn hm hk) (by simp)
theorem markBoolS_l0 : ∀ (d : Nat) (xs : List Bool) (m j : Int), 0 ≤ j → j.toNat + d = xs.length → xs.length ≤ 35184372088832 → 0 ≤ m → m + d ≤ 70368744177664 →
    Ev (fun k => laws_markBoolS.l0 k xs m j) (m + d, xs.take j.toNat ++ bM m d) := by
  intro d
  induction d with
  | zero =>
    intro xs m j h0 hd hn hm hk
    refine Ev.step (fun k => by rw [laws_markBoolS.l0]) ?_
    refine evNeg (by omega) (evEq ?_)
    rw [take_end xs j (by omega)]
    simp [bM]
  | succ d ih =>
    intro xs m j h0 hd hn hm hk
    refine Ev.step (fun k => by rw [laws_markBoolS.l0]) ?_
    refine evPos (by omega) (evPos (by omega) ?_)
    rw [wr (by omega) (by omega), wr (by omega) (by omega)]
    refine evTo (ih (xs.set j.toNat (Int.tmod m 3 == 0)) (m + 1) (j + 1) (by omega) (by simp; omega) (by simpa using hn) (by omega) (by omega)) ?_
    rw [set_takeB xs j _ h0 (by omega)]
    simp [bM]
    omega
theorem markBoolS_ev (xs : List Bool) (m : Int) (hn : xs.length ≤ 35184372088832) (hm : 0 ≤ m) (hk : m + xs.length ≤ 70368744177664) :
    Ev (fun k => laws_markBoolS.f k xs m) (m + xs.length, bM m xs.length) := by
  unfold laws_markBoolS.f
  refine evTo (markBoolS_l0 xs.length xs m 0 (by omega) (by simp) hn hm hk) (by simp)
theorem markFocus_ev (a b d : List Int) (c : List Bool) (ha : a.length ≤ 2000000) (hb : b.length ≤ 2000000) (hc : c.length ≤ 2000000) (hd : d.length ≤ 2000000) :
    Ev (fun k => laws_markFocus.f k a b c d 1) (1 + a.length + b.length + c.length + d.length, iotaI 1 a.length, iotaI (1 + a.length) b.length, bM (1 + a.length + b.length) c.length, iotaI (1 + a.length + b.length + c.length) d.length) := by
  unfold laws_markFocus.f
  exact Ev.bind (markIntS_ev a 1 (by omega) (by omega) (by omega)) (Ev.bind (markIntS_ev b (1 + a.length) (by omega) (by omega) (by omega)) (Ev.bind (markBoolS_ev c (1 + a.length + b.length) (by omega) (by omega) (by omega)) (Ev.bind (markIntS_ev d (1 + a.length + b.length + c.length) (by omega) (by omega) (by omega)) (Ev.now _))))
theorem markSwapper_ev (a b d : List Int) (c : List Bool) (e f : List Int) (ha : a.length ≤ 2000000) (hb : b.length ≤ 2000000) (hc : c.length ≤ 2000000) (hd : d.length ≤ 2000000) (he : e.length ≤ 2000000) (hf : f.length ≤ 2000000) :
    Ev (fun k => laws_markSwapper.f k a b c d e f 1) (1 + a.length + b.length + c.length + d.length + e.length + f.length, iotaI 1 a.length, iotaI (1 + a.length) b.length, bM (1 + a.length + b.length) c.length, iotaI (1 + a.length + b.length + c.length) d.length, iotaI (1 + a.length + b.length + c.length + d.length) e.length, iotaI (1 + a.length + b.length + c.length + d.length + e.length) f.length) := by
  unfold laws_markSwapper.f
  exact Ev.bind (markFocus_ev a b d c ha hb hc hd) (Ev.bind (markIntS_ev e (1 + a.length + b.length + c.length + d.length) (by omega) (by omega) (by omega)) (Ev.bind (markIntS_ev f (1 + a.length + b.length + c.length + d.length + e.length) (by omega) (by omega) (by omega)) (Ev.now _)))
theorem heldIntS_l0 (xs : List Int) (hn : xs.length ≤ 35184372088832) : ∀ (d : Nat) (m j : Int), 0 ≤ j → j.toNat + d = xs.length → 0 ≤ m → m + d ≤ 70368744177664 → (∀ i : Int, j ≤ i → i < xs.length → rd xs i = m + (i - j)) →
    Ev (fun k => laws_heldIntS.l0 k xs m j) (m + d) := by
  intro d
  induction d with
  | zero =>
    intro m j h0 hd hm hk h
    refine Ev.step (fun k => by rw [laws_heldIntS.l0]) ?_
    exact evNeg (by omega) (evEq (by simp))
  | succ d ih =>
    intro m j h0 hd hm hk h
    refine Ev.step (fun k => by rw [laws_heldIntS.l0]) ?_
    have hr := h j (by omega) (by omega)
    refine evPos (by omega) (evPos (by omega) (evPos (by omega) ?_))
    rw [wr (by omega) (by omega), wr (by omega) (by omega)]
    refine evTo (ih (m + 1) (j + 1) (by omega) (by omega) (by omega) (by omega) (fun i h1 h2 => ?_)) (by omega)
    rw [h i (by omega) h2]; omega
theorem heldIntS_ev (n : Nat) (m : Int) (hn : n ≤ 35184372088832) (hm : 0 ≤ m) (hk : m + n ≤ 70368744177664) :
    Ev (fun k => laws_heldIntS.f k (iotaI m n) m) (m + n) := by
  unfold laws_heldIntS.f
  have hl := iotaI_length m n
  refine heldIntS_l0 (iotaI m n) (by omega) n m 0 (by omega) (by omega) hm hk (fun i h1 h2 => ?_)
  rw [iotaI_rd n m i h1 (by omega)]; omega
theorem heldBoolS_l0 (xs : List Bool) (hn : xs.length ≤ 35184372088832) : ∀ (d : Nat) (m j : Int), 0 ≤ j → j.toNat + d = xs.length → 0 ≤ m → m + d ≤ 70368744177664 → xs.drop j.toNat = bM m d →
    Ev (fun k => laws_heldBoolS.l0 k xs m j) (m + d) := by
  intro d
  induction d with
  | zero =>
    intro m j h0 hd hm hk h
    refine Ev.step (fun k => by rw [laws_heldBoolS.l0]) ?_
    exact evNeg (by omega) (evEq (by simp))
  | succ d ih =>
    intro m j h0 hd hm hk h
    refine Ev.step (fun k => by rw [laws_heldBoolS.l0]) ?_
    rw [dropD false xs j h0 (by omega), bM, List.cons.injEq] at h
    refine evPos (by omega) (evPos (by omega) (evNeg ?_ ?_))
    · rw [show rdOf false xs j = (Int.tmod m 3 == 0) from h.1]; simp
    rw [wr (by omega) (by omega), wr (by omega) (by omega)]
    exact evTo (ih (m + 1) (j + 1) (by omega) (by omega) (by omega) (by omega) h.2) (by omega)
theorem heldBoolS_ev (n : Nat) (m : Int) (hn : n ≤ 35184372088832) (hm : 0 ≤ m) (hk : m + n ≤ 70368744177664) :
    Ev (fun k => laws_heldBoolS.f k (bM m n) m) (m + n) := by
  unfold laws_heldBoolS.f
  have hl := bM_length n m
  exact heldBoolS_l0 (bM m n) (by omega) n m 0 (by omega) (by omega) hm hk rfl
theorem heldFocus_ev (na nb nc nd : Nat) (ha : na ≤ 2000000) (hb : nb ≤ 2000000) (hc : nc ≤ 2000000) (hd : nd ≤ 2000000) :
    Ev (fun k => laws_heldFocus.f k (iotaI 1 na) (iotaI (1 + na) nb) (bM (1 + na + nb) nc) (iotaI (1 + na + nb + nc) nd) 1) (1 + na + nb + nc + nd) := by
  unfold laws_heldFocus.f
  exact Ev.bind (heldIntS_ev na 1 (by omega) (by omega) (by omega)) (evNeg (by omega) (Ev.bind (heldIntS_ev nb (1 + na) (by omega) (by omega) (by omega)) (evNeg (by omega) (Ev.bind (heldBoolS_ev nc (1 + na + nb) (by omega) (by omega) (by omega)) (evNeg (by omega) (Ev.bind (heldIntS_ev nd (1 + na + nb + nc) (by omega) (by omega) (by omega)) (evNeg (by omega) (Ev.now _))))))))
theorem heldSwapper_ev (na nb nc nd ne nf : Nat) (ha : na ≤ 2000000) (hb : nb ≤ 2000000) (hc : nc ≤ 2000000) (hd : nd ≤ 2000000) (he : ne ≤ 2000000) (hf : nf ≤ 2000000) :
    Ev (fun k => laws_heldSwapper.f k (iotaI 1 na) (iotaI (1 + na) nb) (bM (1 + na + nb) nc) (iotaI (1 + na + nb + nc) nd) (iotaI (1 + na + nb + nc + nd) ne) (iotaI (1 + na + nb + nc + nd + ne) nf) 1) (1 + na + nb + nc + nd + ne + nf) := by
  unfold laws_heldSwapper.f
  exact Ev.bind (heldFocus_ev na nb nc nd ha hb hc hd) (evNeg (by omega) (Ev.bind (heldIntS_ev ne (1 + na + nb + nc + nd) (by omega) (by omega) (by omega)) (evNeg (by omega) (Ev.bind (heldIntS_ev nf (1 + na + nb + nc + nd + ne) (by omega) (by omega) (by omega)) (evNeg (by omega) (Ev.now _))))))
theorem szFocus_eq2 (a b : List Int) (u : List Bool) (p : List Int) (h0 : a.length ≤ 9223372036854775807) (h1 : b.length ≤ 9223372036854775807) (h2 : u.length ≤ 9223372036854775807) (h3 : p.length ≤ 9223372036854775807) : ∃ t, laws_szFocus.f a b u p 1048576 = some t ∧ -1 ≤ t ∧ t ≤ 1048576 ∧ (0 ≤ t → a.length ≤ 1048576 ∧ b.length ≤ 1048576 ∧ u.length ≤ 1048576 ∧ p.length ≤ 1048576) := by
  unfold laws_szFocus.f laws_szIntS.f laws_szBoolS.f
  rw [wr (by omega) (by omega)]
  by_cases c0 : 1048576 - (a.length : Int) < 0
  · rw [if_pos c0, Option.bind_some, if_pos (by omega)]; exact ⟨_, rfl, by omega, by omega, fun h => absurd h (by omega)⟩
  rw [if_neg c0, Option.bind_some, if_neg c0, wr (x := 1048576 - (a.length : Int) - (b.length : Int)) (by omega) (by omega)]
  by_cases c1 : 1048576 - (a.length : Int) - (b.length : Int) < 0
  · rw [if_pos c1, Option.bind_some, if_pos (by omega)]; exact ⟨_, rfl, by omega, by omega, fun h => absurd h (by omega)⟩
  rw [if_neg c1, Option.bind_some, if_neg c1, wr (x := 1048576 - (a.length : Int) - (b.length : Int) - (u.length : Int)) (by omega) (by omega)]
  by_cases c2 : 1048576 - (a.length : Int) - (b.length : Int) - (u.length : Int) < 0
  · rw [if_pos c2, Option.bind_some, if_pos (by omega)]; exact ⟨_, rfl, by omega, by omega, fun h => absurd h (by omega)⟩
  rw [if_neg c2, Option.bind_some, if_neg c2, wr (x := 1048576 - (a.length : Int) - (b.length : Int) - (u.length : Int) - (p.length : Int)) (by omega) (by omega)]
  by_cases c3 : 1048576 - (a.length : Int) - (b.length : Int) - (u.length : Int) - (p.length : Int) < 0
  · rw [if_pos c3, Option.bind_some, if_pos (by omega)]; exact ⟨_, rfl, by omega, by omega, fun h => absurd h (by omega)⟩
  rw [if_neg c3, Option.bind_some, if_neg c3]
  exact ⟨_, rfl, by omega, by omega, fun _ => by omega⟩
theorem szSwapper_eq (a b : List Int) (u : List Bool) (p e f : List Int) (h0 : a.length ≤ 9223372036854775807) (h1 : b.length ≤ 9223372036854775807) (h2 : u.length ≤ 9223372036854775807) (h3 : p.length ≤ 9223372036854775807) (h4 : e.length ≤ 9223372036854775807) (h5 : f.length ≤ 9223372036854775807) : ∃ t, laws_szSwapper.f a b u p e f 1048576 = some t ∧ (0 ≤ t → (a.length ≤ 1048576 ∧ b.length ≤ 1048576 ∧ u.length ≤ 1048576 ∧ p.length ≤ 1048576) ∧ e.length ≤ 1048576 ∧ f.length ≤ 1048576) := by
  unfold laws_szSwapper.f
  obtain ⟨t, ht, hlo, hhi, hr⟩ := szFocus_eq2 a b u p h0 h1 h2 h3
  rw [ht, Option.bind_some]
  by_cases c : t < 0
  · exact ⟨-1, by rw [if_pos c], fun h => by omega⟩
  rw [if_neg c]
  unfold laws_szIntS.f
  rw [wr (by omega) (by omega)]
  by_cases c1 : t - (e.length : Int) < 0
  · exact ⟨-1, by rw [if_pos c1]; rfl, fun h => by omega⟩
  rw [if_neg c1, Option.bind_some, if_neg c1, wr (by omega) (by omega)]
  by_cases c2 : t - (e.length : Int) - (f.length : Int) < 0
  · exact ⟨-1, by rw [if_pos c2]; rfl, fun h => by omega⟩
  rw [if_neg c2, Option.bind_some, if_neg c2]
  exact ⟨_, rfl, fun _ => ⟨hr (by omega), by omega, by omega⟩⟩
theorem toIntS_l0 (x0 : List Int) (hn : x0.length ≤ 35184372088832) : ∀ (d : Nat) (x3 : List Int) (j : Int), 0 ≤ j → j.toNat + d = x0.length → x3.length = x0.length → x3.take j.toNat = x0.take j.toNat →
    Ev (fun k => laws_toIntS.l0 k x0 x3 j) x0 := by
  intro d
  induction d with
  | zero =>
    intro x3 j h0 hd hl ht
    refine Ev.step (fun k => by rw [laws_toIntS.l0]) ?_
    refine evNeg (by omega) ?_
    rw [take_end x0 j (by omega), take_end x3 j (by omega)] at ht
    exact evEq ht
  | succ d ih =>
    intro x3 j h0 hd hl ht
    refine Ev.step (fun k => by rw [laws_toIntS.l0]) ?_
    refine evPos (by omega) (evPos (by omega) (evPos (by omega) ?_))
    rw [wr (by omega) (by omega)]
    refine ih _ _ (by omega) (by omega) (by simpa using hl) ?_
    rw [set_takeI x3 j _ h0 (by omega), take_rd x0 j h0 (by omega), ht]
theorem toIntS_ev (l : List Int) (hn : l.length ≤ 35184372088832) : Ev (fun k => laws_toIntS.f k l) l := by
  unfold laws_toIntS.f
  refine evPos (by omega) (evPos (by simpa using hn) ?_)
  exact toIntS_l0 l hn l.length _ 0 (by omega) (by simp) (by simp) (by simp)
theorem toBoolS_l0 (x0 : List Bool) (hn : x0.length ≤ 35184372088832) : ∀ (d : Nat) (x3 : List Bool) (j : Int), 0 ≤ j → j.toNat + d = x0.length → x3.length = x0.length → x3.take j.toNat = x0.take j.toNat →
    Ev (fun k => laws_toBoolS.l0 k x0 x3 j) x0 := by
  intro d
  induction d with
  | zero =>
    intro x3 j h0 hd hl ht
    refine Ev.step (fun k => by rw [laws_toBoolS.l0]) ?_
    refine evNeg (by omega) ?_
    rw [take_end x0 j (by omega), take_end x3 j (by omega)] at ht
    exact evEq ht
  | succ d ih =>
    intro x3 j h0 hd hl ht
    refine Ev.step (fun k => by rw [laws_toBoolS.l0]) ?_
    refine evPos (by omega) (evPos (by omega) (evPos (by omega) ?_))
    rw [wr (by omega) (by omega)]
    refine ih _ _ (by omega) (by omega) (by simpa using hl) ?_
    have hj : j.toNat < x0.length := by omega
    rw [set_takeB x3 j _ h0 (by omega), ht, show (j + 1).toNat = j.toNat + 1 from by omega, List.take_succ_eq_append_getElem hj, show rdOf false x0 j = x0.getD j.toNat false from rfl, List.getD_eq_getElem?_getD, List.getElem?_eq_getElem hj]
    rfl
theorem toBoolS_ev (l : List Bool) (hn : l.length ≤ 35184372088832) : Ev (fun k => laws_toBoolS.f k l) l := by
  unfold laws_toBoolS.f
  refine evPos (by omega) (evPos (by rw [Int.toNat_natCast]; omega) ?_)
  exact toBoolS_l0 l hn l.length _ 0 (by omega) (by simp) (by simp) (by simp)
theorem toFocus_ev (a b : List Int) (u : List Bool) (p : List Int) (h0 : a.length ≤ 35184372088832) (h1 : b.length ≤ 35184372088832) (h2 : u.length ≤ 35184372088832) (h3 : p.length ≤ 35184372088832) : Ev (fun k => laws_toFocus.f k a b u p) (a, b, u, p) := by
  unfold laws_toFocus.f
  exact Ev.bind (toIntS_ev a h0) (Ev.bind (toIntS_ev b h1) (Ev.bind (toBoolS_ev u h2) (Ev.bind (toIntS_ev p h3) (Ev.now _))))
theorem toSwapper_ev (a b : List Int) (u : List Bool) (p e f : List Int) (h0 : a.length ≤ 35184372088832) (h1 : b.length ≤ 35184372088832) (h2 : u.length ≤ 35184372088832) (h3 : p.length ≤ 35184372088832) (h4 : e.length ≤ 35184372088832) (h5 : f.length ≤ 35184372088832) : Ev (fun k => laws_toSwapper.f k a b u p e f) (a, b, u, p, e, f) := by
  unfold laws_toSwapper.f
  exact Ev.bind (toFocus_ev a b u p h0 h1 h2 h3) (Ev.bind (toIntS_ev e h4) (Ev.bind (toIntS_ev f h5) (Ev.now _)))
theorem raProduct_l0 (xs : List Int) (hn : xs.length ≤ 35184372088832) (hx : ∀ x ∈ xs, 2 ≤ x ∧ x ≤ 12) : ∀ (d : Nat) (j n : Int), 0 ≤ j → j.toNat + d = xs.length → 1 ≤ n → n ≤ 1000000 →
    Ev (fun k => spec_raProduct.l0 k n xs (xs.length : Int) j) (prS n (xs.drop j.toNat)) := by
  intro d
  induction d with
  | zero =>
    intro j n h0 hd h1 h2
    refine Ev.step (fun k => by rw [spec_raProduct.l0]) ?_
    refine evNeg (by omega) (evEq ?_)
    rw [drop_end _ _ (by omega)]; rfl
  | succ d ih =>
    intro j n h0 hd h1 h2
    refine Ev.step (fun k => by rw [spec_raProduct.l0]) ?_
    refine evPos (by omega) (evPos (by omega) (evPos (by omega) ?_))
    have hb := hx (rd xs j) (by rw [rd_get xs j (by omega)]; exact List.getElem_mem _)
    have q1 : n * rd xs j ≤ n * 12 := Int.mul_le_mul_of_nonneg_left hb.2 (by omega)
    have q2 : n * 2 ≤ n * rd xs j := Int.mul_le_mul_of_nonneg_left hb.1 (by omega)
    rw [drop_rd xs j h0 (by omega), prS]
    generalize n * rd xs j = p at q1 q2 ⊢
    rw [wr (by omega) (by omega), wr (by omega) (by omega)]
    by_cases c : p > 1000000
    · exact evPos c (evEq (by rw [if_pos c]))
    · refine evNeg c ?_
      rw [if_neg c]
      exact ih _ _ (by omega) (by omega) (by omega) (by omega)
theorem raProduct_ev (xs : List Int) (hn : xs.length ≤ 35184372088832) (hx : ∀ x ∈ xs, 2 ≤ x ∧ x ≤ 12) : Ev (fun k => spec_raProduct.f k xs) (prS 1 xs) := by
  unfold spec_raProduct.f
  exact raProduct_l0 xs hn hx xs.length 0 1 (by omega) (by simp) (by omega) (by omega)
theorem l1In_eq (x a b : Int) : spec_l1In.f x a b = some (decide (a ≤ x ∧ x ≤ b)) := by
  unfold spec_l1In.f
  by_cases h : x ≥ a
  · rw [if_pos h]; have h' : a ≤ x := h; simp [h']
  · rw [if_neg h]; have h' : ¬ a ≤ x := h; simp [h']
theorem l1All_l0 (a b : Int) (xs : List Int) (hn : xs.length ≤ 35184372088832) : ∀ (d : Nat) (j : Int), 0 ≤ j → j.toNat + d = xs.length →
    Ev (fun k => spec_l1All.l0 k a b xs (xs.length : Int) j) ((xs.drop j.toNat).all fun x => decide (a ≤ x ∧ x ≤ b)) := by
  intro d
  induction d with
  | zero =>
    intro j h0 hd
    refine Ev.step (fun k => by rw [spec_l1All.l0]) ?_
    refine evNeg (by omega) (evEq ?_)
    rw [drop_end _ _ (by omega)]; rfl
  | succ d ih =>
    intro j h0 hd
    refine Ev.step (fun k => by rw [spec_l1All.l0]) ?_
    refine evPos (by omega) (evPos (by omega) (evPos (by omega) ?_))
    simp only [l1In_eq, Option.bind_some]
    rw [wr (by omega) (by omega), drop_rd xs j h0 (by omega), List.all_cons]
    by_cases c : a ≤ rd xs j ∧ rd xs j ≤ b
    · exact evPos (by simpa using c) (evTo (ih _ (by omega) (by omega)) (by simp [c]))
    · exact evNeg (by simpa using c) (evEq (by rw [decide_eq_false c]; rfl))
theorem l1All_ev (xs : List Int) (a b : Int) (hn : xs.length ≤ 35184372088832) : Ev (fun k => spec_l1All.f k xs a b) (xs.all fun x => decide (a ≤ x ∧ x ≤ b)) := by
  unfold spec_l1All.f
  exact evTo (l1All_l0 a b xs hn xs.length 0 (by omega) (by simp)) (by simp)
theorem foBases_ev (xs : List Int) (hn : xs.length ≤ 35184372088832) : Ev (fun k => spec_foBases.f k xs) (fob xs) := by
  unfold spec_foBases.f spec_raBases.f
  by_cases c1 : xs.length ≤ 12
  rotate_left
  · refine Ev.bind (evNeg (by omega) (Ev.now _)) (evNeg (by simp) (evEq ?_))
    simp [fob, c1]
  by_cases c2 : (xs.all fun x => decide (2 ≤ x ∧ x ≤ 12)) = true
  rotate_left
  · have h2 := l1All_ev xs 2 12 hn
    simp only [Bool.not_eq_true] at c2
    rw [c2] at h2
    refine Ev.bind (evPos (by omega) (Ev.bind h2 (evNeg (by simp) (Ev.now _)))) (evNeg (by simp) (evEq ?_))
    unfold fob; rw [c2]; simp
  have hx : ∀ x ∈ xs, 2 ≤ x ∧ x ≤ 12 := fun x hx => by simpa using List.all_eq_true.1 c2 x hx
  have h2 := l1All_ev xs 2 12 hn
  rw [c2] at h2
  have hp := raProduct_ev xs hn hx
  refine Ev.bind (evPos (by omega) (Ev.bind h2 (evPos rfl (Ev.bind hp (Ev.now _))))) ?_
  by_cases c3 : prS 1 xs ≤ 1000000
  · refine evPos (by simpa using c3) (Ev.bind hp (evEq ?_))
    unfold fob; rw [c2]; simp [c1]
  · refine evNeg (by simpa using c3) (evEq ?_)
    unfold fob; rw [c2]; simp [c1]; omega
theorem raAreDigits_l0 (b d : List Int) (hb : ∀ x ∈ b, 2 ≤ x ∧ x ≤ 12) (hn : d.length ≤ 12) (hl : d.length = b.length) : ∀ (n : Nat) (j : Int), 0 ≤ j → j.toNat + n = d.length →
    Ev (fun k => spec_raAreDigits.l0 k b d (d.length : Int) j) (all2 (b.drop j.toNat) (d.drop j.toNat)) := by
  intro n
  induction n with
  | zero =>
    intro j h0 hd
    refine Ev.step (fun k => by rw [spec_raAreDigits.l0]) ?_
    refine evNeg (by omega) (evEq ?_)
    rw [drop_end b j (by omega), drop_end d j (by omega)]; rfl
  | succ n ih =>
    intro j h0 hd
    refine Ev.step (fun k => by rw [spec_raAreDigits.l0]) ?_
    have hbj := hb (rd b j) (by rw [rd_get b j (by omega)]; exact List.getElem_mem _)
    refine evPos (by omega) (evPos (by omega) (evPos (by omega) (evPos (by omega) ?_)))
    rw [l1In_eq]
    refine evSome ?_
    rw [wr (x := rd b j - 1) (by omega) (by omega), wr (by omega) (by omega), drop_rd b j h0 (by omega), drop_rd d j h0 (by omega), all2]
    by_cases c : 0 ≤ rd d j ∧ rd d j ≤ rd b j - 1
    · refine evPos (decide_eq_true c) (evTo (ih _ (by omega) (by omega)) ?_)
      simp [c]
    · refine evNeg (by simpa using c) (evEq ?_)
      rw [decide_eq_false c]; rfl
theorem raAreDigits_ev (b d : List Int) (hb : ∀ x ∈ b, 2 ≤ x ∧ x ≤ 12) (hn : b.length ≤ 12) : Ev (fun k => spec_raAreDigits.f k b d) (all2 b d) := by
  unfold spec_raAreDigits.f
  by_cases c : d.length = b.length
  · exact evPos (by omega) (raAreDigits_l0 b d hb (by omega) c d.length 0 (by omega) (by simp))
  · refine evNeg (by omega) (evEq ?_)
    cases e : all2 b d
    · rfl
    · exact absurd (all2_len b d e) c
theorem l1Own_eq (l : List Int) (hn : l.length ≤ 10000000000000) : spec_l1Own.f l = some l := by
  unfold spec_l1Own.f
  simp only [Option.bind_some, List.nil_append, List.length_nil, Nat.zero_add]
  rw [if_pos (by omega)]
theorem foStep_go (cs : List Nat) (h : Ok cs) (r : Nat) (hf : fa cs r < cs.length) : spec_foStep.f (bs cs) (st cs r).d (st cs r).u (st cs r).p = some (bs cs, (st cs (r + 1)).d, (st cs (r + 1)).u, (st cs (r + 1)).p, (cs.length : Int) - 1 - ((fa cs r : Nat) : Int)) := by
  unfold spec_foStep.f
  have hl := (st_lens cs r).2.2
  have hj : rd (st cs r).p 0 = ((fa cs r : Nat) : Int) := st_head cs r
  rw [if_pos (by omega), hj, bs_length, if_neg (by omega), stepF_st cs h r hf]
  rfl
theorem foStep_end (cs : List Nat) (r : Nat) (hf : fa cs r = cs.length) : spec_foStep.f (bs cs) (st cs r).d (st cs r).u (st cs r).p = some ([], [], [], [], -1) := by
  unfold spec_foStep.f
  have hl := (st_lens cs r).2.2
  have hj : rd (st cs r).p 0 = ((fa cs r : Nat) : Int) := st_head cs r
  rw [if_pos (by omega), hj, bs_length, if_pos (by omega)]
theorem raUpTo_l0 (n : Nat) (hn : n ≤ 1000000000) : ∀ (d : Nat) (j : Int), 0 ≤ j → j.toNat + d = n → Ev (fun k => spec_raUpTo.l0 k (n : Int) (upTo j.toNat) j) (upTo n) := by
  intro d
  induction d with
  | zero =>
    intro j h0 hd
    refine Ev.step (fun k => by rw [spec_raUpTo.l0]) ?_
    exact evNeg (by omega) (evEq (by rw [show j.toNat = n from by omega]))
  | succ d ih =>
    intro j h0 hd
    refine Ev.step (fun k => by rw [spec_raUpTo.l0]) ?_
    refine evPos (by omega) (evPos (by rw [upTo_length]; omega) ?_)
    have h := ih (j + 1) (by omega) (by omega)
    rw [show (j + 1).toNat = j.toNat + 1 from by omega, upTo_succ, Int.toNat_of_nonneg h0] at h
    rw [wr (by omega) (by omega)]
    exact h
theorem raUpTo_ev (n : Nat) (hn : n ≤ 1000000000) : Ev (fun k => spec_raUpTo.f k (n : Int)) (upTo n) := by
  unfold spec_raUpTo.f
  exact raUpTo_l0 n hn n 0 (by omega) (by simp)
theorem foStart_l0 (n : Nat) (hn : n ≤ 1000000) (a b c : List Int) : ∀ (d : Nat) (j : Int), 0 ≤ j → j.toNat + d = n → Ev (fun k => spec_foStart.l0 k (n : Int) j a b (List.replicate j.toNat true) c) (a, b, List.replicate n true, c) := by
  intro d
  induction d with
  | zero =>
    intro j h0 hd
    refine Ev.step (fun k => by rw [spec_foStart.l0]) ?_
    exact evNeg (by omega) (evEq (by rw [show j.toNat = n from by omega]))
  | succ d ih =>
    intro j h0 hd
    refine Ev.step (fun k => by rw [spec_foStart.l0]) ?_
    refine evPos (by omega) (evPos (by rw [List.length_replicate]; omega) ?_)
    rw [wr (by omega) (by omega), rep_snoc j h0]
    exact ih (j + 1) (by omega) (by omega)
theorem foStart_ev (l : List Int) (hn : l.length ≤ 1000) : Ev (fun k => spec_foStart.f k l) (stF l) := by
  unfold spec_foStart.f stF
  rw [l1Own_eq l (by omega)]
  refine evSome (evPos (by omega) (evPos (by omega) ?_))
  rw [wr (by omega) (by omega), show (l.length : Int) + 1 = ((l.length + 1 : Nat) : Int) from by omega, Int.toNat_natCast]
  refine Ev.bind (raUpTo_ev (l.length + 1) (by omega)) ?_
  exact foStart_l0 l.length (by omega) _ _ _ l.length 0 (by omega) (by simp)
theorem foAt_l0 (cs : List Nat) (h : Ok cs) : ∀ (m r : Nat), r + m < prod cs → m ≤ 10000 →
    Ev (fun k => spec_foAt.l0 k (m : Int) (bs cs) (st cs r).d (st cs r).u (st cs r).p) (bs cs, (st cs (r + m)).d, (st cs (r + m)).u, (st cs (r + m)).p, true) := by
  intro m
  induction m with
  | zero =>
    intro r hr hm
    refine Ev.step (fun k => by rw [spec_foAt.l0]) ?_
    exact evNeg (by omega) (Ev.now _)
  | succ m ih =>
    intro r hr hm
    refine Ev.step (fun k => by rw [spec_foAt.l0]) ?_
    refine evPos (by omega) ?_
    have c := (last_rank cs h r (by omega)).2 (by omega)
    rw [foStep_go cs h r c]
    refine evSome (evNeg (by dsimp only; omega) ?_)
    dsimp only
    rw [wr (by omega) (by omega), show ((m + 1 : Nat) : Int) - 1 = (m : Int) from by omega, show r + (m + 1) = r + 1 + m from by omega]
    exact ih (r + 1) (by omega) (by omega)
theorem foAt_ev (cs : List Nat) (h : Ok cs) (m : Nat) (hm : m ≤ 10000) (hp : m < prod cs) : Ev (fun k => spec_foAt.f k (bs cs) (m : Int)) (bs cs, (st cs m).d, (st cs m).u, (st cs m).p, true) := by
  unfold spec_foAt.f
  have hs := foStart_ev (bs cs) (by rw [bs_length]; have := h.len; omega)
  rw [stF_st cs h] at hs
  have := foAt_l0 cs h m 0 (by omega) hm
  rw [Nat.zero_add] at this
  exact Ev.bind hs this
theorem gcMixedRank_ev : ∀ (b d : List Int), (∀ x ∈ b, 2 ≤ x ∧ x ≤ 12) → b.length ≤ 12 → prodI b ≤ 5040 → all2 b d = true → Ev (fun k => spec_gcMixedRank.f k b d) (mr b d)
  | [], d, _, _, _, _ => Ev.step (fun k => by rw [spec_gcMixedRank.f]) (evPos (by simp) (evEq (by simp [mr])))
  | b :: B, [], _, _, _, h => by simp [all2] at h
  | b :: B, d :: D, hx, hl, hp, h => by
    rw [all2, Bool.and_eq_true, decide_eq_true_eq] at h
    have hb := hx b (by simp)
    have hB : ∀ x ∈ B, 2 ≤ x ∧ x ≤ 12 := fun x hx' => hx x (by simp [hx'])
    have hP := prodI_pos B hB
    rw [prodI] at hp
    rw [List.length_cons] at hl
    have t := tail_le hb.1 hP
    obtain ⟨q1, q2⟩ := dig_le h.1.1 h.1.2 hP
    obtain ⟨m1, m2⟩ := mr_range B D (all2_len B D h.2) (all2_at B D h.2)
    have ih := gcMixedRank_ev B D hB (by omega) (by omega) h.2
    have hr := raProduct_ev B (by omega) hB
    rw [prS_of B 1 hB (by omega) (by omega), Int.one_mul] at hr
    refine Ev.step (fun k => by rw [spec_gcMixedRank.f]) ?_
    simp only [List.drop_succ_cons, List.drop_zero, List.length_cons]
    refine evNeg (by omega) (evPos (by omega) (Ev.bind hr (evPos (by omega) (Ev.bind ih (evPos (by omega) ?_)))))
    rw [show rd (d :: D) 0 = d from rfl]
    have e : mr (b :: B) (d :: D) = d * prodI B + (if d % 2 = 1 then prodI B - 1 - mr B D else mr B D) := by simp [mr]
    rw [e]
    have hm := Int.tmod_eq_emod_of_nonneg (b := 2) h.1.1
    generalize b * prodI B = Y at hp t q2
    generalize d * prodI B = X at q1 q2 ⊢
    generalize mr B D = M at m1 m2 ⊢
    generalize prodI B = P at *
    by_cases c : Int.tmod d 2 = 1
    · refine evPos c (evEq ?_)
      rw [if_pos (by omega), wr (x := X) (by omega) (by omega), wr (x := P - 1) (by omega) (by omega), wr (x := P - 1 - M) (by omega) (by omega), wr (by omega) (by omega)]
    · refine evNeg c (evEq ?_)
      rw [if_neg (by omega), wr (x := X) (by omega) (by omega), wr (by omega) (by omega)]
theorem l1Same_l0 (a b : List Int) (hn : a.length ≤ 35184372088832) (hb : a.length = b.length) : ∀ (d : Nat) (j : Int), 0 ≤ j → j.toNat + d = a.length →
    Ev (fun k => spec_l1Same.l0 k a b (a.length : Int) j) (decide (a.drop j.toNat = b.drop j.toNat)) := by
  intro d
  induction d with
  | zero =>
    intro j h0 hd
    refine Ev.step (fun k => by rw [spec_l1Same.l0]) ?_
    refine evNeg (by omega) ?_
    rw [drop_end a j (by omega), drop_end b j (by omega)]
    exact evEq rfl
  | succ d ih =>
    intro j h0 hd
    refine Ev.step (fun k => by rw [spec_l1Same.l0]) ?_
    refine evPos (by omega) (evPos (by omega) (evPos (by omega) (evPos (by omega) ?_)))
    rw [wr (by omega) (by omega), drop_rd a j h0 (by omega), drop_rd b j h0 (by omega)]
    by_cases c : rd a j = rd b j
    · refine evPos c (evTo (ih _ (by omega) (by omega)) ?_)
      simp [c]
    · refine evNeg c (evEq ?_)
      simp [c]
theorem l1Same_ev (a b : List Int) (hn : a.length ≤ 35184372088832) : Ev (fun k => spec_l1Same.f k a b) (decide (a = b)) := by
  unfold spec_l1Same.f
  by_cases hb : a.length = b.length
  · exact evPos (by omega) (l1Same_l0 a b hn hb a.length 0 (by omega) (by simp))
  · refine evNeg (by omega) (evEq ?_)
    exact (decide_eq_false (fun e => hb (by rw [e]))).symm
theorem foSame_l0 (u : List Bool) (a' b' : List Int) (u' : List Bool) (p' : List Int) (hn : u.length ≤ 35184372088832) (hb : u.length = u'.length) : ∀ (d : Nat) (j : Int), 0 ≤ j → j.toNat + d = u.length →
    Ev (fun k => spec_foSame.l0 k u (u.length : Int) j a' b' u' p') (decide (u.drop j.toNat = u'.drop j.toNat)) := by
  intro d
  induction d with
  | zero =>
    intro j h0 hd
    refine Ev.step (fun k => by rw [spec_foSame.l0]) ?_
    refine evNeg (by omega) ?_
    rw [drop_end u j (by omega), drop_end u' j (by omega)]
    exact evEq rfl
  | succ d ih =>
    intro j h0 hd
    refine Ev.step (fun k => by rw [spec_foSame.l0]) ?_
    refine evPos (by omega) (evPos (by omega) (evPos (by omega) (evPos (by omega) ?_)))
    rw [wr (by omega) (by omega), dropD false u j h0 (by omega), dropD false u' j h0 (by omega), show rdOf false u j = u.getD j.toNat false from rfl, show rdOf false u' j = u'.getD j.toNat false from rfl]
    by_cases c : u.getD j.toNat false = u'.getD j.toNat false
    · refine evNeg (by rw [c]; simp) (evTo (ih _ (by omega) (by omega)) ?_)
      simp only [c, List.cons.injEq, true_and]
    · refine evPos (by simpa using c) (evEq ?_)
      simp only [List.cons.injEq, c, false_and, decide_false]
theorem foSame_end (a b : List Int) (u : List Bool) (p a' b' : List Int) (u' : List Bool) (p' : List Int) : Ev (fun k => spec_foSame.j0 k true a b u p a' b' u' p') false :=
  Ev.step (fun k => by rw [spec_foSame.j0]) (evPos rfl (evEq rfl))
theorem foSame_ev (a b : List Int) (u : List Bool) (p a' b' : List Int) (u' : List Bool) (p' : List Int) (h0 : a.length ≤ 35184372088832) (h1 : b.length ≤ 35184372088832) (h2 : u.length ≤ 35184372088832) (h3 : p.length ≤ 35184372088832) :
    Ev (fun k => spec_foSame.f k a b u p a' b' u' p') (decide ((a, b, u, p) = (a', b', u', p'))) := by
  unfold spec_foSame.f
  refine Ev.bind (l1Same_ev a a' h0) ?_
  by_cases c0 : a = a'
  · refine evPos (decide_eq_true c0) (Ev.bind (l1Same_ev b b' h1) ?_)
    by_cases c1 : b = b'
    · refine evPos (decide_eq_true c1) (Ev.bind (l1Same_ev p p' h3) ?_)
      by_cases c2 : p = p'
      · refine evPos (decide_eq_true c2) ?_
        subst c0 c1 c2
        refine Ev.step (fun k => by rw [spec_foSame.j0]) ?_
        by_cases c3 : u.length = u'.length
        · refine evNeg (by rw [c3]; simp) (evTo (foSame_l0 u _ _ u' _ h2 c3 u.length 0 (by omega) (by simp)) ?_)
          simp only [Int.toNat_zero, List.drop_zero, Prod.mk.injEq, true_and, and_true]
        · refine evPos (by simp only [bne_iff_ne, ne_eq]; omega) (evEq ?_)
          exact (decide_eq_false (fun e => c3 (by injection e with _ e; injection e with _ e; injection e with e _; rw [e]))).symm
      · refine evNeg (by simpa using c2) (evTo (foSame_end ..) ?_)
        exact (decide_eq_false (fun e => c2 (by injection e with _ e; injection e with _ e; injection e))).symm
    · refine evNeg (by simpa using c1) (evTo (foSame_end ..) ?_)
      exact (decide_eq_false (fun e => c1 (by injection e with _ e; injection e))).symm
  · refine evNeg (by simpa using c0) (evTo (foSame_end ..) ?_)
    exact (decide_eq_false (fun e => c0 (by injection e))).symm
theorem foGood_ev (b d : List Int) (u : List Bool) (p : List Int) (h0 : b.length ≤ 1048576) (h1 : d.length ≤ 1048576) (h2 : u.length ≤ 1048576) (h3 : p.length ≤ 1048576) : Ev (fun k => spec_foGood.f k b d u p) (gF b d u p) := by
  unfold spec_foGood.f gF
  refine Ev.bind (foBases_ev b (by omega)) ?_
  by_cases c : fob b = true
  · obtain ⟨q1, q2, q3⟩ := fob_of c
    refine evPos c (Ev.bind (raAreDigits_ev b d q2 q1) ?_)
    refine Ev.step (fun k => by rw [spec_foGood.j0]) ?_
    rw [c, Bool.true_and]
    by_cases ca : all2 b d = true
    · obtain ⟨hk, hb⟩ := csOf_ok c
      obtain ⟨m1, m2⟩ := mr_range b d (all2_len b d ca) (all2_at b d ca)
      have hm := gcMixedRank_ev b d q2 q1 q3 ca
      have hp := prodI_bs (csOf b)
      rw [hb] at hp
      have hf := foAt_ev (csOf b) hk (mr b d).toNat (by omega) (by omega)
      rw [hb, Int.toNat_of_nonneg m1] at hf
      rw [ca, Bool.true_and]
      refine evNeg (by simp) (Ev.bind hm (Ev.bind hf (evPos rfl (Ev.bind (foSame_ev b d u p _ _ _ _ (by omega) (by omega) (by omega) (by omega)) (evEq ?_)))))
      simp only [Prod.mk.injEq, true_and]
    · refine evPos (by simpa using ca) (evEq ?_)
      simp [ca]
  · refine evNeg c (Ev.step (fun k => by rw [spec_foGood.j0]) (evPos rfl (evEq ?_)))
    simp [c]
theorem moApply_l0 (l : List Int) (hl : l.length ≤ 1000) (b : Int) (hb : b ≤ l.length) (a c : Int) : ∀ (d : Nat) (x5 : List Int) (i : Int), 0 ≤ i → i + d = b → x5.length = l.length → x5.take i.toNat = (l.take b.toNat).reverse.take i.toNat → x5.drop i.toNat = l.drop i.toNat →
    Ev (fun k => spec_moApply.l0 k l x5 i a b c) ((l.take b.toNat).reverse ++ l.drop b.toNat) := by
  intro d
  induction d with
  | zero =>
    intro x5 i h0 hi h5 ht hd
    refine Ev.step (fun k => by rw [spec_moApply.l0]) ?_
    refine evNeg (by omega) (evEq ?_)
    obtain rfl : i = b := by omega
    rw [← List.take_append_drop i.toNat x5, ht, hd, List.take_of_length_le (by rw [List.length_reverse, List.length_take]; omega)]
  | succ d ih =>
    intro x5 i h0 hi h5 ht hd
    refine Ev.step (fun k => by rw [spec_moApply.l0]) ?_
    simp (disch := omega) only [wr]
    refine evPos (by omega) (evPos (by omega) (evPos (by omega) (evPos (by omega) (evPos (by omega) ?_))))
    refine ih _ (i + 1) (by omega) (by omega) (by simpa using h5) ?_ ?_
    · rw [set_takeI _ _ _ h0 (by omega), ht, show (i + 1).toNat = i.toNat + 1 by omega, List.take_add_one, List.getElem?_reverse (by rw [List.length_take]; omega), List.length_take, show min b.toNat l.length - 1 - i.toNat = (b - 1 - i).toNat by omega, List.getElem?_take, if_pos (by omega)]
      unfold rd
      rw [List.getD_eq_getElem?_getD, List.getElem?_eq_getElem (show (b - 1 - i).toNat < l.length by omega)]
      rfl
    · rw [show (i + 1).toNat = i.toNat + 1 by omega, List.drop_set_of_lt (by omega), ← List.drop_drop, ← List.drop_drop, hd]
theorem moApply_l1 (l : List Int) (hl : l.length ≤ 1000) (b : Int) (hb0 : 1 ≤ b) (hb : b ≤ l.length) (a c : Int) : ∀ (d : Nat) (x5 : List Int) (i : Int), 0 ≤ i → i + d = b → x5.length = l.length → x5.take i.toNat = ((l.take b.toNat).drop 1 ++ (l.take b.toNat).take 1).take i.toNat → x5.drop i.toNat = l.drop i.toNat →
    Ev (fun k => spec_moApply.l1 k l x5 i a b c) ((l.take b.toNat).drop 1 ++ (l.take b.toNat).take 1 ++ l.drop b.toNat) := by
  intro d
  have hlen : ((l.take b.toNat).drop 1 ++ (l.take b.toNat).take 1).length = b.toNat := by
    simp; omega
  induction d with
  | zero =>
    intro x5 i h0 hi h5 ht hd
    refine Ev.step (fun k => by rw [spec_moApply.l1]) ?_
    refine evNeg (by omega) (evEq ?_)
    obtain rfl : i = b := by omega
    rw [← List.take_append_drop i.toNat x5, ht, hd, List.take_of_length_le (by omega)]
  | succ d ih =>
    intro x5 i h0 hi h5 ht hd
    refine Ev.step (fun k => by rw [spec_moApply.l1]) ?_
    simp (disch := omega) only [wr]
    rw [Int.tmod_eq_emod_of_nonneg (by omega)]
    have hm : (i + 1) % b = if i + 1 < b then i + 1 else 0 := by
      split
      · exact Int.emod_eq_of_lt (by omega) (by omega)
      · rw [show i + 1 = b by omega, Int.emod_self]
    rw [hm]
    refine evPos (by omega) (evNeg (by omega) (evPos (by split <;> omega) (evPos (by split <;> omega) (evPos (by omega) (evPos (by omega) ?_)))))
    refine ih _ (i + 1) (by omega) (by omega) (by simpa using h5) ?_ ?_
    · rw [set_takeI _ _ _ h0 (by omega), ht, show (i + 1).toNat = i.toNat + 1 by omega, List.take_add_one (l := _ ++ _)]
      congr 1
      unfold rd
      by_cases c : i + 1 < b
      · rw [if_pos c, List.getElem?_append_left (by simp; omega), List.getElem?_drop, List.getElem?_take, if_pos (by omega), show 1 + i.toNat = (i + 1).toNat by omega, List.getD_eq_getElem?_getD, List.getElem?_eq_getElem (by omega)]
        rfl
      · rw [if_neg c, List.getElem?_append_right (by simp; omega)]
        have e : i.toNat - ((l.take b.toNat).drop 1).length = 0 := by simp; omega
        rw [e, List.getElem?_take, if_pos (by omega), List.getElem?_take, if_pos (by omega), List.getD_eq_getElem?_getD, show (0 : Int).toNat = 0 from rfl, List.getElem?_eq_getElem (show 0 < l.length by omega)]
        rfl
    · rw [show (i + 1).toNat = i.toNat + 1 by omega, List.drop_set_of_lt (by omega), ← List.drop_drop, ← List.drop_drop, hd]
theorem moApply_ev (l : List Int) (hl : l.length ≤ 1000) (a b c : Int) (hg : Mgood l.length a b c) : Ev (fun q => spec_moApply.f q l a b c) (mv l a b c) := by
  unfold spec_moApply.f
  rw [l1Own_eq l (by omega)]
  refine evSome ?_
  rcases hg with ⟨rfl, h1, h2, h3⟩ | ⟨rfl, h1, h2, rfl⟩ | ⟨rfl, h1, h2, rfl⟩
  · exact evPos rfl (evPos (by omega) (evPos (by omega) (evPos (by omega) (evPos (by omega) (evPos (by omega) (evPos (by omega) (evEq rfl)))))))
  · refine evNeg (by decide) (evPos rfl ?_)
    refine evTo (moApply_l0 l hl b h2 1 0 b.toNat l 0 (by omega) (by omega) rfl (by simp) (by simp)) (by simp [mv])
  · refine evNeg (by decide) (evNeg (by decide) ?_)
    refine evTo (moApply_l1 l hl b (by omega) h2 2 0 b.toNat l 0 (by omega) (by omega) rfl (by simp) (by simp)) (by simp [mv])
theorem raInverse_l0 (l : List Int) (hn : l.length ≤ 1000) (hp : l.Perm (upTo l.length)) (hI : ∀ q : Nat, q < l.length → 0 ≤ rd l q ∧ rd l q < l.length) : ∀ (d : Nat) (j : Nat) (x : List Int), x.length = l.length → j + d = l.length → (∀ q : Nat, q < j → rd x (rd l q) = q) →
    Ev (fun k => spec_raInverse.l0 k x l (l.length : Int) (j : Int)) (invL l) := by
  have hnd : l.Nodup := hp.nodup_iff.2 (nodup_upTo _)
  intro d
  induction d with
  | zero =>
    intro j x hx hj hq
    refine Ev.step (fun k => by rw [spec_raInverse.l0]) ?_
    exact evNeg (by omega) (evEq (isI_invL hp ⟨hx, fun q h => ⟨(hI q h).1, (hI q h).2, hq q (by omega)⟩⟩))
  | succ d ih =>
    intro j x hx hj hq
    have hj' : j < l.length := by omega
    obtain ⟨i1, i2⟩ := hI j hj'
    refine Ev.step (fun k => by rw [spec_raInverse.l0]) ?_
    refine evPos (by omega) (evPos (by omega) (evPos (by omega) (evPos i1 (evPos (by omega) ?_))))
    rw [wr (by omega) (by omega), show (j : Int) + 1 = ((j + 1 : Nat) : Int) from by omega]
    refine ih (j + 1) _ (by rw [List.length_set]; exact hx) (by omega) (fun q h => ?_)
    by_cases e : q = j
    · rw [e, rd_set_eq _ _ _ (by omega)]
    · have i3 := hI q (by omega)
      rw [rd_set_ne _ _ _ _ (fun h_ => e (rd_inj hnd (by omega) hj' (by omega)))]
      exact hq q (by omega)
theorem raInverse_ev (l : List Int) (hn : l.length ≤ 1000) (hp : l.Perm (upTo l.length)) : Ev (fun k => spec_raInverse.f k l) (invL l) := by
  unfold spec_raInverse.f
  refine evPos (by omega) (evPos (by omega) ?_)
  refine raInverse_l0 l hn hp (fun q h => ?_) l.length 0 _ (by simp) (by omega) (fun q h => by omega)
  have hm : rd l q ∈ l := by rw [rd_get l q (by omega)]; exact List.getElem_mem _
  exact mem_upTo.1 (hp.mem_iff.1 hm)
theorem st_dig (cs : List Nat) (r : Nat) (h : Ok cs) (hf : fa cs r < cs.length) : decide (rd (st cs (r + 1)).d ((cs.length : Int) - 1 - (fa cs r : Int)) > rd (st cs r).d ((cs.length : Int) - 1 - (fa cs r : Int))) = rdOf false (st cs r).u ((cs.length : Int) - 1 - (fa cs r : Int)) := by
  have l3 := st_lens cs r
  have lb := bs_length cs
  have e := st_step cs r h.rad hf
  have hi : ((cs.length : Int) - 1 - (fa cs r : Int)).toNat = cs.length - 1 - fa cs r := by omega
  have ed : (Foc.step (bs cs) (st cs r) (fa cs r)).d = (st cs r).d.set ((bs cs).length - 1 - fa cs r) (if (st cs r).u.getD ((bs cs).length - 1 - fa cs r) false then (st cs r).d.getD ((bs cs).length - 1 - fa cs r) 0 + 1 else (st cs r).d.getD ((bs cs).length - 1 - fa cs r) 0 - 1) := by
    unfold Foc.step
    dsimp only
    rw [apply_ite Fo.d]
    simp only [ite_self]
  rw [e, ed, lb]
  unfold rd rdOf
  rw [hi, List.getD_eq_getElem?_getD, List.getElem?_set_self (by omega)]
  cases (st cs r).u.getD (cs.length - 1 - fa cs r) false
  · simp; omega
  · simp; omega
theorem foSwap_go (n r : Nat) (hn : n ≤ 7) (hr : r + 1 < fac n) : Ev (fun k => spec_foSwap.f k (bs (cn n)) (st (cn n) r).d (st (cn n) r).u (st (cn n) r).p (it n r) (wh n r)) (bs (cn n), (st (cn n) (r + 1)).d, (st (cn n) (r + 1)).u, (st (cn n) (r + 1)).p, it n (r + 1), wh n (r + 1), atS n r) := by
  have hok := cn_ok n hn
  have hf := fa_cn n r hn hr
  have hl := cn_length n
  obtain ⟨e1, e2, e3, e4, e5⟩ := at_eq n r hn hr
  obtain ⟨h0, h1, h2⟩ := at_range n r hn hr
  have l1 := it_length n r
  have l2 := wh_length n r
  have l3 := st_lens (cn n) r
  have l4 := st_lens (cn n) (r + 1)
  have hd := st_dig (cn n) r hok hf
  unfold spec_foSwap.f
  rw [foStep_go (cn n) hok r hf]
  refine evSome (evNeg (by dsimp only; omega) ?_)
  dsimp only
  have hx : ((cn n).length : Int) - 1 - ((fa (cn n) r : Nat) : Int) + 1 = (n : Int) - 1 - (fa (cn n) r : Int) := by omega
  rw [wr (x := ((cn n).length : Int) - 1 - ((fa (cn n) r : Nat) : Int) + 1) (by omega) (by omega), hx]
  have hmv : mv (it n r) 0 (atS n r) (atS n r + 1) = it n (r + 1) := by
    unfold mv
    rw [if_pos rfl]
    exact h2
  have hg : Mgood (it n r).length 0 (atS n r) (atS n r + 1) := by unfold Mgood; omega
  have ha := moApply_ev (it n r) (by omega) 0 (atS n r) (atS n r + 1) hg
  rw [hmv] at ha
  have hi := raInverse_ev (it n (r + 1)) (by rw [it_length]; omega) (trot_perm' n _)
  refine evPos (by omega) (evPos (by omega) (evPos (by omega) (evPos (by omega) (evPos (by omega) ?_))))
  by_cases c : rdOf false (st (cn n) r).u (((cn n).length : Int) - 1 - (fa (cn n) r : Int)) = true
  · rw [if_pos c] at e1
    rw [c, decide_eq_true_eq] at hd
    refine evPos hd ?_
    rw [e1, wr (x := atS n r) (by omega) (by omega), wr (x := atS n r + 1) (by omega) (by omega)]
    exact Ev.bind ha (Ev.bind hi (Ev.now _))
  · rw [if_neg c] at e1
    simp only [Bool.not_eq_true] at c
    rw [c, decide_eq_false_iff_not] at hd
    refine evNeg hd ?_
    rw [e1, wr (x := atS n r + 1) (by omega) (by omega)]
    exact Ev.bind ha (Ev.bind hi (Ev.now _))
theorem foSwap_end (n r : Nat) (hf : fa (cn n) r = (cn n).length) (x y : List Int) : Ev (fun k => spec_foSwap.f k (bs (cn n)) (st (cn n) r).d (st (cn n) r).u (st (cn n) r).p x y) ([], [], [], [], [], [], -1) := by
  unfold spec_foSwap.f
  rw [foStep_end (cn n) r hf]
  exact evSome (evPos (by decide) (Ev.now _))
theorem foSwapper_l0 (n : Nat) (hn : n ≤ 7) : ∀ (d j : Nat), 1 ≤ j → j + d = n →
    Ev (fun k => spec_foSwapper.l0 k (n : Int) (bs (cn j)) ((j : Int) + 1)) (bs (cn n), (st (cn n) 0).d, (st (cn n) 0).u, (st (cn n) 0).p, upTo n, upTo n) := by
  intro d
  induction d with
  | zero =>
    intro j h1 hd
    obtain rfl : j = n := by omega
    refine Ev.step (fun k => by rw [spec_foSwapper.l0]) ?_
    refine evNeg (by omega) ?_
    have hs := foStart_ev (bs (cn j)) (by rw [bs_length, cn_length]; omega)
    rw [stF_st _ (cn_ok j hn)] at hs
    exact Ev.bind hs (Ev.bind (raUpTo_ev j (by omega)) (Ev.bind (raUpTo_ev j (by omega)) (Ev.now _)))
  | succ d ih =>
    intro j h1 hd
    refine Ev.step (fun k => by rw [spec_foSwapper.l0]) ?_
    refine evPos (by omega) (evPos (by rw [bs_length, cn_length]; omega) ?_)
    rw [wr (by omega) (by omega), bs_cn j h1]
    exact ih (j + 1) (by omega) (by omega)
theorem foSwapper_ev (n : Nat) (h1 : 1 ≤ n) (hn : n ≤ 7) : Ev (fun k => spec_foSwapper.f k (n : Int)) (bs (cn n), (st (cn n) 0).d, (st (cn n) 0).u, (st (cn n) 0).p, upTo n, upTo n) := by
  unfold spec_foSwapper.f
  exact foSwapper_l0 n hn (n - 1) 1 (by omega) (by omega)
theorem foSwapperAt_l0 (n : Nat) (hn : n ≤ 7) : ∀ (c r : Nat), r + c < fac n → c ≤ 10000 →
    Ev (fun k => spec_foSwapperAt.l0 k (c : Int) (bs (cn n)) (st (cn n) r).d (st (cn n) r).u (st (cn n) r).p (it n r) (wh n r)) (bs (cn n), (st (cn n) (r + c)).d, (st (cn n) (r + c)).u, (st (cn n) (r + c)).p, it n (r + c), wh n (r + c), true) := by
  intro c
  induction c with
  | zero =>
    intro r hr hm
    refine Ev.step (fun k => by rw [spec_foSwapperAt.l0]) ?_
    exact evNeg (by omega) (Ev.now _)
  | succ c ih =>
    intro r hr hm
    refine Ev.step (fun k => by rw [spec_foSwapperAt.l0]) ?_
    have c1 : r + 1 < fac n := by omega
    obtain ⟨h0, h1, h2⟩ := at_range n r hn c1
    refine evPos (by omega) (Ev.bind (foSwap_go n r hn c1) (evNeg (by dsimp only; omega) ?_))
    dsimp only
    rw [wr (by omega) (by omega), show ((c + 1 : Nat) : Int) - 1 = (c : Int) from by omega, show r + (c + 1) = r + 1 + c from by omega]
    exact ih (r + 1) (by omega) (by omega)
theorem foSwapperAt_ev (n : Nat) (h1 : 1 ≤ n) (hn : n ≤ 7) (m : Nat) (hm : m < fac n) (hb : m ≤ 10000) : Ev (fun k => spec_foSwapperAt.f k (n : Int) (m : Int)) (bs (cn n), (st (cn n) m).d, (st (cn n) m).u, (st (cn n) m).p, it n m, wh n m, true) := by
  unfold spec_foSwapperAt.f
  have h := foSwapperAt_l0 n hn m 0 (by omega) hb
  have h0 : it n 0 = upTo n := trot_zero n
  have h2 : wh n 0 = upTo n := by unfold wh; rw [h0, invL_upTo]
  rw [h0, h2, Nat.zero_add] at h
  exact Ev.bind (foSwapper_ev n h1 hn) h
theorem l1Has_l0 (x : Int) (xs : List Int) (hn : xs.length ≤ 35184372088832) : ∀ (d : Nat) (j : Int), 0 ≤ j → j.toNat + d = xs.length →
    Ev (fun k => spec_l1Has.l0 k x xs (xs.length : Int) j) (decide (x ∈ xs.drop j.toNat)) := by
  intro d
  induction d with
  | zero =>
    intro j h0 hd
    refine Ev.step (fun k => by rw [spec_l1Has.l0]) ?_
    refine evNeg (by omega) (evEq ?_)
    rw [drop_end _ _ (by omega)]; simp
  | succ d ih =>
    intro j h0 hd
    refine Ev.step (fun k => by rw [spec_l1Has.l0]) ?_
    refine evPos (by omega) (evPos (by omega) (evPos (by omega) ?_))
    rw [wr (by omega) (by omega), drop_rd xs j h0 (by omega)]
    by_cases c : rd xs j = x
    · exact evPos c (evEq (by simp [c]))
    · exact evNeg c (evTo (ih _ (by omega) (by omega)) (by simp [List.mem_cons, Ne.symm c]))
theorem l1Has_ev (xs : List Int) (x : Int) (hn : xs.length ≤ 35184372088832) : Ev (fun k => spec_l1Has.f k xs x) (decide (x ∈ xs)) := by
  unfold spec_l1Has.f
  exact evTo (l1Has_l0 x xs hn xs.length 0 (by omega) (by simp)) (by simp)
theorem raPermutation_l0 (l : List Int) (hl : l.length ≤ 1048576) : ∀ (d : Nat) (i : Int), 0 ≤ i → i.toNat + d = l.length →
    Ev (fun q => spec_raPermutation.l0 q l l (l.length : Int) i) (decide (∀ j (h : j < l.length), i.toNat ≤ j → j < 12 ∧ (0 ≤ l[j] ∧ l[j] ≤ (l.length : Int) - 1) ∧ l[j] ∉ l.take j)) := by
  intro d
  induction d with
  | zero =>
    intro i h0 hd
    refine Ev.step (fun k => by rw [spec_raPermutation.l0]) ?_
    refine evNeg (by omega) (evEq (decide_eq_true ?_).symm)
    intro j h hj; omega
  | succ d ih =>
    intro i h0 hd
    refine Ev.step (fun k => by rw [spec_raPermutation.l0]) ?_
    have hil : i.toNat < l.length := by omega
    have e : rd l i = l[i.toNat] := by unfold rd; rw [List.getD_eq_getElem?_getD, List.getElem?_eq_getElem hil]; rfl
    refine evPos (by omega) (evPos h0 (evPos (by omega) ?_))
    by_cases c1 : i ≥ 12
    · refine evPos c1 (evEq (decide_eq_false ?_).symm)
      intro h
      have := (h i.toNat hil (Nat.le_refl _)).1
      omega
    · refine evNeg c1 ?_
      rw [l1In_eq, wr (by omega) (by omega), wr (by omega) (by omega)]
      refine evSome ?_
      by_cases c2 : 0 ≤ rd l i ∧ rd l i ≤ (l.length : Int) - 1
      · refine evPos (by simpa using c2) (evPos (by omega) (Ev.bind (l1Has_ev _ _ (by rw [List.length_take]; omega)) ?_))
        by_cases c3 : rd l i ∈ l.take i.toNat
        · refine evPos (decide_eq_true c3) (evEq (decide_eq_false ?_).symm)
          intro h
          rw [e] at c3
          exact (h i.toNat hil (Nat.le_refl _)).2.2 c3
        · refine evNeg (by simpa using c3) (evTo (ih (i + 1) (by omega) (by omega)) ?_)
          apply decide_eq_decide.2
          constructor
          · intro h j hj hij
            by_cases ej : j = i.toNat
            · subst ej
              rw [e] at c2 c3
              exact ⟨by omega, c2, c3⟩
            · exact h j hj (by omega)
          · intro h j hj hij
            exact h j hj (by omega)
      · refine evNeg (by simpa using c2) (evEq (decide_eq_false ?_).symm)
        intro h
        rw [e] at c2
        exact c2 (h i.toNat hil (Nat.le_refl _)).2.1
theorem raPermutation_ev (l : List Int) (hl : l.length ≤ 1048576) : Ev (fun q => spec_raPermutation.f q l) (isPm l) := by
  unfold spec_raPermutation.f
  refine evTo (raPermutation_l0 l hl l.length 0 (by omega) (by simp)) ?_
  rw [Bool.eq_iff_iff, isPm_iff, decide_eq_true_eq]
  constructor
  · intro h j hj; exact h j hj (by simp)
  · intro h j hj _; exact h j hj
theorem foSwapperAt_l1 (n : Nat) (hn : n ≤ 7) : ∀ (c r : Nat), r < fac n → fac n ≤ r + c → c ≤ 10000 →
    Ev (fun k => spec_foSwapperAt.l0 k (c : Int) (bs (cn n)) (st (cn n) r).d (st (cn n) r).u (st (cn n) r).p (it n r) (wh n r)) ([], [], [], [], [], [], false) := by
  intro c
  induction c with
  | zero =>
    intro r hr hc hm
    omega
  | succ c ih =>
    intro r hr hc hm
    refine Ev.step (fun k => by rw [spec_foSwapperAt.l0]) ?_
    by_cases c1 : r + 1 < fac n
    · obtain ⟨h0, h1, h2⟩ := at_range n r hn c1
      refine evPos (by omega) (Ev.bind (foSwap_go n r hn c1) (evNeg (by dsimp only; omega) ?_))
      dsimp only
      rw [wr (by omega) (by omega), show ((c + 1 : Nat) : Int) - 1 = (c : Int) from by omega]
      exact ih (r + 1) c1 (by omega) (by omega)
    · have hf : fa (cn n) r = (cn n).length := fa_full (cn n) r (cn_ok n hn).rad (by rw [cn_prod]; omega)
      exact evPos (by omega) (Ev.bind (foSwap_end n r hf _ _) (evPos (by decide) (Ev.now _)))
theorem foSwapperAt_out (n : Nat) (h1 : 1 ≤ n) (hn : n ≤ 7) (m : Nat) (hm : fac n ≤ m) (hb : m ≤ 10000) : Ev (fun k => spec_foSwapperAt.f k (n : Int) (m : Int)) ([], [], [], [], [], [], false) := by
  unfold spec_foSwapperAt.f
  have h := foSwapperAt_l1 n hn m 0 (fac_pos n) (by omega) hb
  have h0 : it n 0 = upTo n := trot_zero n
  have h2 : wh n 0 = upTo n := by unfold wh; rw [h0, invL_upTo]
  rw [h0, h2] at h
  exact Ev.bind (foSwapper_ev n h1 hn) h
theorem foRank_end (b d : List Int) (u : List Bool) (p l v : List Int) : Ev (fun k => spec_foRank.j0 k true b d u p l v) (-1) :=
  Ev.step (fun k => by rw [spec_foRank.j0]) (evPos rfl (evEq rfl))
theorem foRank_ev (b d : List Int) (u : List Bool) (p l v : List Int) (h0 : b.length ≤ 1048576) (h1 : d.length ≤ 1048576) (h2 : u.length ≤ 1048576) (h3 : p.length ≤ 1048576) (h4 : l.length ≤ 1048576) (h5 : v.length ≤ 1048576) : Ev (fun k => spec_foRank.f k b d u p l v) (if gS b d u p l v = true then mr b d else -1) := by
  unfold spec_foRank.f spec_foSize.f
  simp only [l1In_eq, Option.bind_some]
  have no : ¬ (b = bs (cn l.length) ∧ l = it l.length (mr b d).toNat ∧ v = wh l.length (mr b d).toNat) → gS b d u p l v = false := by
    intro h
    unfold gS
    rw [decide_eq_false h, Bool.and_false, Bool.and_false]
  by_cases c : 1 ≤ l.length ∧ l.length ≤ 7
  rotate_left
  · refine evNeg (by simp; omega) (evTo (foRank_end b d u p l v) ?_)
    rw [if_neg]
    unfold gS
    rw [decide_eq_false c]; simp
  refine evPos (by simp; omega) (Ev.bind (raPermutation_ev l h4) ?_)
  by_cases ci : isPm l = true
  rotate_left
  · refine evNeg (by simpa using ci) (evTo (foRank_end b d u p l v) ?_)
    rw [no (fun q => ci (by rw [q.2.1]; exact isPm_it _ _ (by omega)))]
    rfl
  refine evPos (by simpa using ci) (Ev.bind (foGood_ev b d u p h0 h1 h2 h3) ?_)
  by_cases g : gF b d u p = true
  rotate_left
  · have g' : gF b d u p = false := by simpa using g
    have q : gS b d u p l v = false := by unfold gS; rw [g', Bool.false_and, Bool.and_false]
    rw [g', q]
    exact foRank_end b d u p l v
  rw [g]
  obtain ⟨⟨q1, q2, q3, q4⟩, m1, m2, m3⟩ := gF_rank g
  refine Ev.step (fun k => by rw [spec_foRank.j0]) (evNeg (by simp) (Ev.bind (gcMixedRank_ev b d q2 q1 q3 q4) ?_))
  by_cases cr : (mr b d).toNat < fac l.length
  rotate_left
  · have hf := foSwapperAt_out l.length c.1 c.2 (mr b d).toNat (by omega) (by omega)
    rw [Int.toNat_of_nonneg m1] at hf
    refine Ev.bind hf (evNeg (by simp) (evEq ?_))
    rw [no (fun q => cr (gF_cn c.2 g q.1).1)]
    rfl
  have hf := foSwapperAt_ev l.length c.1 c.2 (mr b d).toNat cr (by omega)
  rw [Int.toNat_of_nonneg m1] at hf
  refine Ev.bind hf (evPos rfl (Ev.bind (foSame_ev b d u p _ _ _ _ (by omega) (by omega) (by omega) (by omega)) ?_))
  (try dsimp only)
  by_cases e : b = bs (cn l.length)
  rotate_left
  · refine evNeg (by simp; intro q; exact absurd q e) (evEq ?_)
    rw [no (fun q => e q.1)]
    rfl
  have k2 := (gF_cn c.2 g e).2
  refine evPos (by rw [decide_eq_true_eq, Prod.mk.injEq]; exact ⟨e, k2⟩) (Ev.bind (l1Same_ev l _ (by omega)) ?_)
  by_cases e1 : l = it l.length (mr b d).toNat
  rotate_left
  · refine evNeg (by simpa using e1) (evEq ?_)
    rw [no (fun q => e1 q.2.1)]
    rfl
  refine evPos (by simpa using e1) (Ev.bind (l1Same_ev v _ (by omega)) ?_)
  by_cases e2 : v = wh l.length (mr b d).toNat
  rotate_left
  · refine evNeg (by simpa using e2) (evEq ?_)
    rw [no (fun q => e2 q.2.2)]
    rfl
  refine evPos (by simpa using e2) (evEq ?_)
  rw [if_pos]
  unfold gS
  rw [decide_eq_true c, g, decide_eq_true ⟨e, e1, e2⟩]
  rfl
theorem size_l0 (xs : List Int) (hn : xs.length ≤ 35184372088832) (hx : ∀ x ∈ xs, 2 ≤ x ∧ x ≤ 12) : ∀ (d : Nat) (j n : Int), 0 ≤ j → j.toNat + d = xs.length → 1 ≤ n → n ≤ 1000001 →
    Ev (fun k => impl_size.l0 k n xs (xs.length : Int) j) (capI n (xs.drop j.toNat)) := by
  intro d
  induction d with
  | zero =>
    intro j n h0 hd h1 h2
    refine Ev.step (fun k => by rw [impl_size.l0]) ?_
    refine evNeg (by omega) (evEq ?_)
    rw [drop_end _ _ (by omega)]; rfl
  | succ d ih =>
    intro j n h0 hd h1 h2
    refine Ev.step (fun k => by rw [impl_size.l0]) ?_
    refine evPos (by omega) (evPos (by omega) (evPos (by omega) ?_))
    have hb := hx (rd xs j) (by rw [rd_get xs j (by omega)]; exact List.getElem_mem _)
    have q1 : n * rd xs j ≤ n * 12 := Int.mul_le_mul_of_nonneg_left hb.2 (by omega)
    have q2 : n * 2 ≤ n * rd xs j := Int.mul_le_mul_of_nonneg_left hb.1 (by omega)
    rw [drop_rd xs j h0 (by omega), capI]
    generalize n * rd xs j = p at q1 q2 ⊢
    rw [wr (by omega) (by omega), wr (by omega) (by omega), show mn p 1000001 = (if p ≤ 1000001 then p else 1000001) from by simp only [mn]; split <;> split <;> omega]
    exact ih _ _ (by omega) (by omega) (by split <;> omega) (by split <;> omega)
theorem size_ev (xs : List Int) (hn : xs.length ≤ 35184372088832) (hx : ∀ x ∈ xs, 2 ≤ x ∧ x ≤ 12) : Ev (fun k => impl_size.f k xs) (capI 1 xs) := by
  unfold impl_size.f
  exact size_l0 xs hn hx xs.length 0 1 (by omega) (by simp) (by omega) (by omega)
theorem mixedRank_ev : ∀ (b d : List Int), (∀ x ∈ b, 2 ≤ x ∧ x ≤ 12) → b.length ≤ 12 → prodI b ≤ 5040 → all2 b d = true → Ev (fun k => impl_mixedRank.f k b d) (mr b d)
  | [], [], _, _, _, _ => Ev.step (fun k => by rw [impl_mixedRank.f]) (evPos (by simp) (evEq (by simp [mr])))
  | [], _ :: _, _, _, _, h => by simp [all2] at h
  | b :: B, [], _, _, _, h => by simp [all2] at h
  | b :: B, d :: D, hx, hl, hp, h => by
    rw [all2, Bool.and_eq_true, decide_eq_true_eq] at h
    have hb := hx b (by simp)
    have hB : ∀ x ∈ B, 2 ≤ x ∧ x ≤ 12 := fun x hx' => hx x (by simp [hx'])
    have hP := prodI_pos B hB
    rw [prodI] at hp
    rw [List.length_cons] at hl
    have t := tail_le hb.1 hP
    obtain ⟨q1, q2⟩ := dig_le h.1.1 h.1.2 hP
    obtain ⟨m1, m2⟩ := mr_range B D (all2_len B D h.2) (all2_at B D h.2)
    have ih := mixedRank_ev B D hB (by omega) (by omega) h.2
    have hr := size_ev B (by omega) hB
    rw [capI_of B hB (by omega)] at hr
    refine Ev.step (fun k => by rw [impl_mixedRank.f]) ?_
    simp only [List.drop_succ_cons, List.drop_zero, List.length_cons]
    refine evNeg (by omega) (evPos (by omega) (Ev.bind hr (evPos (by omega) (Ev.bind ih (evPos (by omega) ?_)))))
    rw [show rd (d :: D) 0 = d from rfl]
    have e : mr (b :: B) (d :: D) = d * prodI B + (if d % 2 = 1 then prodI B - 1 - mr B D else mr B D) := by simp [mr]
    rw [e]
    have hm := Int.tmod_eq_emod_of_nonneg (b := 2) h.1.1
    generalize b * prodI B = Y at hp t q2
    generalize d * prodI B = X at q1 q2 ⊢
    generalize mr B D = M at m1 m2 ⊢
    generalize prodI B = P at *
    by_cases c : Int.tmod d 2 = 1
    · refine evPos c (evEq ?_)
      rw [if_pos (by omega), wr (x := X) (by omega) (by omega), wr (x := P - 1) (by omega) (by omega), wr (x := P - 1 - M) (by omega) (by omega), wr (by omega) (by omega)]
    · refine evNeg c (evEq ?_)
      rw [if_neg (by omega), wr (x := X) (by omega) (by omega), wr (by omega) (by omega)]
theorem within_eq (x a b : Int) : impl_within.f x a b = some (decide (a ≤ x ∧ x ≤ b)) := by
  unfold impl_within.f
  by_cases h : x ≥ a
  · rw [if_pos h]; have h' : a ≤ x := h; simp [h']
  · rw [if_neg h]; have h' : ¬ a ≤ x := h; simp [h']
theorem allWithin_l0 (a b : Int) (xs : List Int) (hn : xs.length ≤ 35184372088832) : ∀ (d : Nat) (j : Int), 0 ≤ j → j.toNat + d = xs.length →
    Ev (fun k => impl_allWithin.l0 k a b xs (xs.length : Int) j) ((xs.drop j.toNat).all fun x => decide (a ≤ x ∧ x ≤ b)) := by
  intro d
  induction d with
  | zero =>
    intro j h0 hd
    refine Ev.step (fun k => by rw [impl_allWithin.l0]) ?_
    refine evNeg (by omega) (evEq ?_)
    rw [drop_end _ _ (by omega)]; rfl
  | succ d ih =>
    intro j h0 hd
    refine Ev.step (fun k => by rw [impl_allWithin.l0]) ?_
    refine evPos (by omega) (evPos (by omega) (evPos (by omega) ?_))
    simp only [within_eq, Option.bind_some]
    rw [wr (by omega) (by omega), drop_rd xs j h0 (by omega), List.all_cons]
    by_cases c : a ≤ rd xs j ∧ rd xs j ≤ b
    · exact evPos (by simpa using c) (evTo (ih _ (by omega) (by omega)) (by simp [c]))
    · exact evNeg (by simpa using c) (evEq (by rw [decide_eq_false c]; rfl))
theorem allWithin_ev (xs : List Int) (a b : Int) (hn : xs.length ≤ 35184372088832) : Ev (fun k => impl_allWithin.f k xs a b) (xs.all fun x => decide (a ≤ x ∧ x ≤ b)) := by
  unfold impl_allWithin.f
  exact evTo (allWithin_l0 a b xs hn xs.length 0 (by omega) (by simp)) (by simp)
theorem areFocusBases_ev (xs : List Int) (hn : xs.length ≤ 35184372088832) : Ev (fun k => impl_areFocusBases.f k xs) (fob xs) := by
  unfold impl_areFocusBases.f impl_areBases.f
  by_cases c1 : xs.length ≤ 12
  rotate_left
  · refine Ev.bind (evNeg (by omega) (Ev.now _)) (evNeg (by simp) (evEq ?_))
    simp [fob, c1]
  by_cases c2 : (xs.all fun x => decide (2 ≤ x ∧ x ≤ 12)) = true
  rotate_left
  · have h2 := allWithin_ev xs 2 12 hn
    simp only [Bool.not_eq_true] at c2
    rw [c2] at h2
    refine Ev.bind (evPos (by omega) (Ev.bind h2 (evNeg (by simp) (Ev.now _)))) (evNeg (by simp) (evEq ?_))
    unfold fob; rw [c2]; simp
  have hx : ∀ x ∈ xs, 2 ≤ x ∧ x ≤ 12 := fun x hx => by simpa using List.all_eq_true.1 c2 x hx
  have h2 := allWithin_ev xs 2 12 hn
  rw [c2] at h2
  have hp := size_ev xs hn hx
  have hc := pr_cap xs 1 hx (by omega) (by omega)
  refine Ev.bind (evPos (by omega) (Ev.bind h2 (evPos rfl (Ev.bind hp (Ev.now _))))) ?_
  by_cases c3 : capI 1 xs ≤ 1000000
  · refine evPos (by simpa using c3) (Ev.bind hp (evEq ?_))
    unfold fob; rw [c2]; simp [c1]; omega
  · refine evNeg (by simpa using c3) (evEq ?_)
    unfold fob; rw [c2]; simp [c1]; omega
theorem areDigits_l0 (b d : List Int) (hb : ∀ x ∈ b, 2 ≤ x ∧ x ≤ 12) (hn : b.length ≤ 12) (hm : d.length ≤ 35184372088832) : ∀ (n : Nat) (j : Int), 0 ≤ j → j.toNat + n = d.length → j.toNat ≤ b.length →
    Ev (fun k => impl_areDigits.l0 k b d d (d.length : Int) j) (all2 (b.drop j.toNat) (d.drop j.toNat)) := by
  intro n
  induction n with
  | zero =>
    intro j h0 hd hj
    refine Ev.step (fun k => by rw [impl_areDigits.l0]) ?_
    refine evNeg (by omega) (evEq ?_)
    rw [drop_end d j (by omega)]
    by_cases c : b.length = j.toNat
    · rw [drop_end b j (by omega), show (d.length : Int) = (b.length : Int) from by omega]
      simp [all2]
    · rw [drop_rd b j h0 (by omega), all2]
      have : (d.length : Int) ≠ (b.length : Int) := by omega
      · simp [beq_eq_false_iff_ne, this]
      all_goals simp
  | succ n ih =>
    intro j h0 hd hj
    refine Ev.step (fun k => by rw [impl_areDigits.l0]) ?_
    refine evPos (by omega) (evPos (by omega) (evPos (by omega) ?_))
    by_cases cj : b.length = j.toNat
    · refine evPos (by omega) (evEq ?_)
      rw [drop_end b j (by omega), drop_rd d j h0 (by omega)]
      simp [all2]
    have hbj := hb (rd b j) (by rw [rd_get b j (by omega)]; exact List.getElem_mem _)
    refine evNeg (by omega) (evPos (by omega) ?_)
    rw [within_eq]
    refine evSome ?_
    rw [wr (x := rd b j - 1) (by omega) (by omega), wr (by omega) (by omega), drop_rd b j h0 (by omega), drop_rd d j h0 (by omega), all2]
    by_cases c : 0 ≤ rd d j ∧ rd d j ≤ rd b j - 1
    · refine evPos (decide_eq_true c) (evTo (ih _ (by omega) (by omega) (by omega)) ?_)
      simp [c]
    · refine evNeg (by simpa using c) (evEq ?_)
      rw [decide_eq_false c]; rfl
theorem areDigits_ev (b d : List Int) (hb : ∀ x ∈ b, 2 ≤ x ∧ x ≤ 12) (hn : b.length ≤ 12) (hm : d.length ≤ 35184372088832) : Ev (fun k => impl_areDigits.f k b d) (all2 b d) := by
  unfold impl_areDigits.f
  exact areDigits_l0 b d hb hn hm d.length 0 (by omega) (by simp) (by simp)
theorem slicesEqual_l0 (a b : List Int) (hn : a.length ≤ 35184372088832) (hb : a.length = b.length) : ∀ (d : Nat) (j : Int), 0 ≤ j → j.toNat + d = a.length →
    Ev (fun k => slices_Equal_int_int.l0 k a b (a.length : Int) j) (decide (a.drop j.toNat = b.drop j.toNat)) := by
  intro d
  induction d with
  | zero =>
    intro j h0 hd
    refine Ev.step (fun k => by rw [slices_Equal_int_int.l0]) ?_
    refine evNeg (by omega) ?_
    rw [drop_end a j (by omega), drop_end b j (by omega)]
    exact evEq rfl
  | succ d ih =>
    intro j h0 hd
    refine Ev.step (fun k => by rw [slices_Equal_int_int.l0]) ?_
    refine evPos (by omega) (evPos (by omega) (evPos (by omega) (evPos (by omega) ?_)))
    rw [wr (by omega) (by omega), drop_rd a j h0 (by omega), drop_rd b j h0 (by omega)]
    by_cases c : rd a j = rd b j
    · refine evPos c (evTo (ih _ (by omega) (by omega)) ?_)
      simp [c]
    · refine evNeg c (evEq ?_)
      simp [c]
theorem slicesEqual_ev (a b : List Int) (hn : a.length ≤ 35184372088832) : Ev (fun k => slices_Equal_int_int.f k a b) (decide (a = b)) := by
  unfold slices_Equal_int_int.f
  by_cases hb : a.length = b.length
  · exact evPos (by omega) (slicesEqual_l0 a b hn hb a.length 0 (by omega) (by simp))
  · refine evNeg (by omega) (evEq ?_)
    exact (decide_eq_false (fun e => hb (by rw [e]))).symm
theorem slicesEqualB_l0 (a b : List Bool) (hn : a.length ≤ 35184372088832) (hb : a.length = b.length) : ∀ (d : Nat) (j : Int), 0 ≤ j → j.toNat + d = a.length →
    Ev (fun k => slices_Equal_bool_bool.l0 k a b (a.length : Int) j) (decide (a.drop j.toNat = b.drop j.toNat)) := by
  intro d
  induction d with
  | zero =>
    intro j h0 hd
    refine Ev.step (fun k => by rw [slices_Equal_bool_bool.l0]) ?_
    refine evNeg (by omega) ?_
    rw [drop_end a j (by omega), drop_end b j (by omega)]
    exact evEq rfl
  | succ d ih =>
    intro j h0 hd
    refine Ev.step (fun k => by rw [slices_Equal_bool_bool.l0]) ?_
    refine evPos (by omega) (evPos (by omega) (evPos (by omega) (evPos (by omega) ?_)))
    rw [wr (by omega) (by omega), dropD false a j h0 (by omega), dropD false b j h0 (by omega), show rdOf false a j = a.getD j.toNat false from rfl, show rdOf false b j = b.getD j.toNat false from rfl]
    by_cases c : a.getD j.toNat false = b.getD j.toNat false
    · refine evNeg (by rw [c]; simp) (evTo (ih _ (by omega) (by omega)) ?_)
      simp only [c, List.cons.injEq, true_and]
    · refine evPos (by simpa using c) (evEq ?_)
      simp only [List.cons.injEq, c, false_and, decide_false]
theorem slicesEqualB_ev (a b : List Bool) (hn : a.length ≤ 35184372088832) : Ev (fun k => slices_Equal_bool_bool.f k a b) (decide (a = b)) := by
  unfold slices_Equal_bool_bool.f
  by_cases hb : a.length = b.length
  · exact evPos (by omega) (slicesEqualB_l0 a b hn hb a.length 0 (by omega) (by simp))
  · refine evNeg (by omega) (evEq ?_)
    exact (decide_eq_false (fun e => hb (by rw [e]))).symm
theorem Focus_same_ev (a b : List Int) (u : List Bool) (p a' b' : List Int) (u' : List Bool) (p' : List Int) (h0 : a.length ≤ 35184372088832) (h1 : b.length ≤ 35184372088832) (h2 : u.length ≤ 35184372088832) (h3 : p.length ≤ 35184372088832) :
    Ev (fun k => impl_Focus_same.f k a b u p a' b' u' p') (decide ((a, b, u, p) = (a', b', u', p'))) := by
  unfold impl_Focus_same.f
  refine Ev.bind (slicesEqual_ev a a' h0) ?_
  by_cases c0 : a = a'
  · refine evPos (decide_eq_true c0) (Ev.bind (slicesEqual_ev b b' h1) ?_)
    by_cases c1 : b = b'
    · refine evPos (decide_eq_true c1) (Ev.bind (slicesEqualB_ev u u' h2) ?_)
      by_cases c2 : u = u'
      · refine evPos (decide_eq_true c2) (Ev.bind (slicesEqual_ev p p' h3) (evEq ?_))
        subst c0 c1 c2
        simp only [Prod.mk.injEq, true_and]
      · refine evNeg (by simpa using c2) (evEq ?_)
        exact (decide_eq_false (fun e => c2 (by injection e with _ e; injection e with _ e; injection e))).symm
    · refine evNeg (by simpa using c1) (evEq ?_)
      exact (decide_eq_false (fun e => c1 (by injection e with _ e; injection e))).symm
  · refine evNeg (by simpa using c0) (evEq ?_)
    exact (decide_eq_false (fun e => c0 (by injection e))).symm
theorem copied_eq (l : List Int) (hn : l.length ≤ 10000000000000) : impl_copied.f l = some l := by
  unfold impl_copied.f
  simp only [Option.bind_some, List.nil_append, List.length_nil, Nat.zero_add]
  rw [if_pos (by omega)]
theorem identity_l0 (n : Nat) (hn : n ≤ 1000000000) : ∀ (d : Nat) (j : Int), 0 ≤ j → j.toNat + d = n → Ev (fun k => impl_identity.l0 k (upTo j.toNat) (n : Int) j) (upTo n) := by
  intro d
  induction d with
  | zero =>
    intro j h0 hd
    refine Ev.step (fun k => by rw [impl_identity.l0]) ?_
    exact evNeg (by omega) (evEq (by rw [show j.toNat = n from by omega]))
  | succ d ih =>
    intro j h0 hd
    refine Ev.step (fun k => by rw [impl_identity.l0]) ?_
    refine evPos (by omega) (evPos (by rw [upTo_length]; omega) ?_)
    have h := ih (j + 1) (by omega) (by omega)
    rw [show (j + 1).toNat = j.toNat + 1 from by omega, upTo_succ, Int.toNat_of_nonneg h0] at h
    rw [wr (by omega) (by omega)]
    exact h
theorem identity_ev (n : Nat) (hn : n ≤ 1000000000) : Ev (fun k => impl_identity.f k (n : Int)) (upTo n) := by
  unfold impl_identity.f
  exact identity_l0 n hn n 0 (by omega) (by simp)
theorem startFocus_l0 (n : Nat) (hn : n ≤ 1000000) (a b c : List Int) : ∀ (d : Nat) (j : Int), 0 ≤ j → j.toNat + d = n → Ev (fun k => impl_startFocus.l0 k (n : Int) j a b (List.replicate j.toNat true) c) (a, b, List.replicate n true, c) := by
  intro d
  induction d with
  | zero =>
    intro j h0 hd
    refine Ev.step (fun k => by rw [impl_startFocus.l0]) ?_
    exact evNeg (by omega) (evEq (by rw [show j.toNat = n from by omega]))
  | succ d ih =>
    intro j h0 hd
    refine Ev.step (fun k => by rw [impl_startFocus.l0]) ?_
    refine evPos (by omega) (evPos (by rw [List.length_replicate]; omega) ?_)
    rw [wr (by omega) (by omega), rep_snoc j h0]
    exact ih (j + 1) (by omega) (by omega)
theorem startFocus_ev (l : List Int) (hn : l.length ≤ 1000) : Ev (fun k => impl_startFocus.f k l) (stF l) := by
  unfold impl_startFocus.f stF
  rw [copied_eq l (by omega)]
  refine evSome (evPos (by omega) (evPos (by omega) ?_))
  rw [wr (by omega) (by omega), show (l.length : Int) + 1 = ((l.length + 1 : Nat) : Int) from by omega, Int.toNat_natCast]
  refine Ev.bind (identity_ev (l.length + 1) (by omega)) ?_
  exact startFocus_l0 l.length (by omega) _ _ _ l.length 0 (by omega) (by simp)
theorem focusAt_l0 (cs : List Nat) (h : Ok cs) : ∀ (m r : Nat) (i n : Int), r + m < prod cs → n ≤ 10000 → 0 ≤ i → i + m = n →
    Ev (fun k => impl_focusAt.l0 k n i (bs cs) (st cs r).d (st cs r).u (st cs r).p) (bs cs, (st cs (r + m)).d, (st cs (r + m)).u, (st cs (r + m)).p) := by
  intro m
  induction m with
  | zero =>
    intro r i n hr hm h0 hi
    refine Ev.step (fun k => by rw [impl_focusAt.l0]) ?_
    exact evNeg (by omega) (Ev.now _)
  | succ m ih =>
    intro r i n hr hm h0 hi
    refine Ev.step (fun k => by rw [impl_focusAt.l0]) ?_
    refine evPos (by omega) ?_
    have c := (last_rank cs h r (by omega)).2 (by omega)
    rw [stepF_st cs h r c]
    refine evSome ?_
    dsimp only
    rw [wr (by omega) (by omega), show r + (m + 1) = r + 1 + m from by omega]
    exact ih (r + 1) (i + 1) n (by omega) hm (by omega) (by omega)
theorem focusAt_ev (cs : List Nat) (h : Ok cs) (m : Nat) (hm : m ≤ 10000) (hp : m < prod cs) : Ev (fun k => impl_focusAt.f k (bs cs) (m : Int)) (bs cs, (st cs m).d, (st cs m).u, (st cs m).p) := by
  unfold impl_focusAt.f
  have hs := startFocus_ev (bs cs) (by rw [bs_length]; have := h.len; omega)
  rw [stF_st cs h] at hs
  have := focusAt_l0 cs h m 0 0 (m : Int) (by omega) (by omega) (by omega) (by omega)
  rw [Nat.zero_add] at this
  exact Ev.bind hs this
theorem IsFocus_ev (b d : List Int) (u : List Bool) (p : List Int) (h0 : b.length ≤ 1048576) (h1 : d.length ≤ 1048576) (h2 : u.length ≤ 1048576) (h3 : p.length ≤ 1048576) : Ev (fun k => impl_IsFocus.f k b d u p) (gF b d u p) := by
  unfold impl_IsFocus.f gF
  refine Ev.bind (areFocusBases_ev b (by omega)) ?_
  by_cases c : fob b = true
  · obtain ⟨q1, q2, q3⟩ := fob_of c
    refine evPos c (Ev.bind (areDigits_ev b d q2 q1 (by omega)) ?_)
    rw [c, Bool.true_and]
    by_cases ca : all2 b d = true
    · obtain ⟨hk, hb⟩ := csOf_ok c
      obtain ⟨m1, m2⟩ := mr_range b d (all2_len b d ca) (all2_at b d ca)
      have hm := mixedRank_ev b d q2 q1 q3 ca
      have hp := prodI_bs (csOf b)
      rw [hb] at hp
      have hf := focusAt_ev (csOf b) hk (mr b d).toNat (by omega) (by omega)
      rw [hb, Int.toNat_of_nonneg m1] at hf
      rw [ca, Bool.true_and]
      refine evPos rfl (Ev.bind hm (Ev.bind hf (Ev.bind (Focus_same_ev b d u p _ _ _ _ (by omega) (by omega) (by omega) (by omega)) (evEq ?_))))
      simp only [Prod.mk.injEq, true_and]
    · refine evNeg ca (evEq ?_)
      simp [ca]
  · refine evNeg c (evEq ?_)
    simp [c]
theorem startSwapper_l0 (n : Nat) (hn : n ≤ 7) : ∀ (d j : Nat), 1 ≤ j → j + d = n →
    Ev (fun k => impl_startSwapper.l0 k (n : Int) (bs (cn j)) ((j : Int) + 1)) (bs (cn n), (st (cn n) 0).d, (st (cn n) 0).u, (st (cn n) 0).p, upTo n, upTo n) := by
  intro d
  induction d with
  | zero =>
    intro j h1 hd
    obtain rfl : j = n := by omega
    refine Ev.step (fun k => by rw [impl_startSwapper.l0]) ?_
    refine evNeg (by omega) ?_
    have hs := startFocus_ev (bs (cn j)) (by rw [bs_length, cn_length]; omega)
    rw [stF_st _ (cn_ok j hn)] at hs
    exact Ev.bind hs (Ev.bind (identity_ev j (by omega)) (Ev.bind (identity_ev j (by omega)) (Ev.now _)))
  | succ d ih =>
    intro j h1 hd
    refine Ev.step (fun k => by rw [impl_startSwapper.l0]) ?_
    refine evPos (by omega) (evPos (by rw [bs_length, cn_length]; omega) ?_)
    rw [wr (by omega) (by omega), bs_cn j h1]
    exact ih (j + 1) (by omega) (by omega)
theorem startSwapper_ev (n : Nat) (h1 : 1 ≤ n) (hn : n ≤ 7) : Ev (fun k => impl_startSwapper.f k (n : Int)) (bs (cn n), (st (cn n) 0).d, (st (cn n) 0).u, (st (cn n) 0).p, upTo n, upTo n) := by
  unfold impl_startSwapper.f
  exact startSwapper_l0 n hn (n - 1) 1 (by omega) (by omega)
theorem swapperAt_l0 (n : Nat) (hn : n ≤ 7) : ∀ (c r : Nat) (i m : Int), r + c < fac n → m ≤ 10000 → 0 ≤ i → i + c = m →
    Ev (fun k => impl_swapperAt.l0 k m i (bs (cn n)) (st (cn n) r).d (st (cn n) r).u (st (cn n) r).p (it n r) (wh n r)) (bs (cn n), (st (cn n) (r + c)).d, (st (cn n) (r + c)).u, (st (cn n) (r + c)).p, it n (r + c), wh n (r + c)) := by
  intro c
  induction c with
  | zero =>
    intro r i m hr hm h0 hi
    refine Ev.step (fun k => by rw [impl_swapperAt.l0]) ?_
    exact evNeg (by omega) (Ev.now _)
  | succ c ih =>
    intro r i m hr hm h0 hi
    refine Ev.step (fun k => by rw [impl_swapperAt.l0]) ?_
    rw [stepS_sq n r hn (by omega)]
    refine evPos (by omega) (evSome ?_)
    dsimp only
    rw [wr (by omega) (by omega), show r + (c + 1) = r + 1 + c from by omega]
    exact ih (r + 1) (i + 1) m (by omega) hm (by omega) (by omega)
theorem swapperAt_ev (n : Nat) (h1 : 1 ≤ n) (hn : n ≤ 7) (m : Nat) (hm : m < fac n) (hb : m ≤ 10000) : Ev (fun k => impl_swapperAt.f k (n : Int) (m : Int)) (bs (cn n), (st (cn n) m).d, (st (cn n) m).u, (st (cn n) m).p, it n m, wh n m) := by
  unfold impl_swapperAt.f
  have h := swapperAt_l0 n hn m 0 0 (m : Int) (by omega) (by omega) (by omega) (by omega)
  have h0 : it n 0 = upTo n := trot_zero n
  have h2 : wh n 0 = upTo n := by unfold wh; rw [h0, invL_upTo]
  rw [h0, h2, Nat.zero_add] at h
  exact Ev.bind (startSwapper_ev n h1 hn) h
theorem IsSwapper_end (k0 : Int) (b d : List Int) (u : List Bool) (p l v : List Int) : Ev (fun k => impl_IsSwapper.j0 k k0 true b d u p l v) false :=
  Ev.step (fun k => by rw [impl_IsSwapper.j0]) (evPos rfl (evEq rfl))
theorem IsSwapper_ev (b d : List Int) (u : List Bool) (p l v : List Int) (h0 : b.length ≤ 1048576) (h1 : d.length ≤ 1048576) (h2 : u.length ≤ 1048576) (h3 : p.length ≤ 1048576) (h4 : l.length ≤ 1048576) (h5 : v.length ≤ 1048576) : Ev (fun k => impl_IsSwapper.f k b d u p l v) (gS b d u p l v) := by
  unfold impl_IsSwapper.f impl_isSwapperSize.f gS
  simp only [within_eq, Option.bind_some]
  by_cases c : 1 ≤ l.length ∧ l.length ≤ 7
  rotate_left
  · refine evNeg (by simp; omega) (evTo (IsSwapper_end _ b d u p l v) ?_)
    rw [decide_eq_false c]; rfl
  refine evPos (by simp; omega) (Ev.bind (IsFocus_ev b d u p h0 h1 h2 h3) ?_)
  rw [decide_eq_true c, Bool.true_and]
  by_cases g : gF b d u p = true
  rotate_left
  · have g' : gF b d u p = false := by simpa using g
    rw [g']
    exact IsSwapper_end _ b d u p l v
  rw [g, Bool.true_and]
  refine Ev.step (fun k => by rw [impl_IsSwapper.j0]) (evNeg (by simp) (Ev.bind (startSwapper_ev l.length c.1 c.2) (Ev.bind (slicesEqual_ev _ b (by show (bs (cn l.length)).length ≤ _; rw [bs_length, cn_length]; omega)) ?_)))
  (try dsimp only)
  by_cases e : b = bs (cn l.length)
  rotate_left
  · refine evNeg (by simpa using fun q => e q.symm) (evEq ?_)
    rw [decide_eq_false (fun q => e q.1)]
  obtain ⟨⟨q1, q2, q3, q4⟩, m1, m2, m3⟩ := gF_rank g
  obtain ⟨k1, k2⟩ := gF_cn c.2 g e
  have hf := swapperAt_ev l.length c.1 c.2 (mr b d).toNat k1 (by omega)
  rw [Int.toNat_of_nonneg m1] at hf
  refine evPos (by simpa using e.symm) (Ev.bind (mixedRank_ev b d q2 q1 q3 q4) (Ev.bind hf (Ev.bind (slicesEqual_ev l _ (by omega)) ?_)))
  (try dsimp only)
  by_cases e1 : l = it l.length (mr b d).toNat
  rotate_left
  · refine evNeg (by simpa using e1) (evEq ?_)
    rw [decide_eq_false (fun q => e1 q.2.1)]
  refine evPos (by simpa using e1) (Ev.bind (slicesEqual_ev v _ (by omega)) (evEq ?_))
  rw [Bool.eq_iff_iff, decide_eq_true_eq, decide_eq_true_eq]
  exact ⟨fun q => ⟨e, e1, q⟩, fun q => q.2.2⟩
theorem Focus_own_eq (b d : List Int) (u : List Bool) (p : List Int) (hu : u.length ≤ 1048576) (hb : b.length ≤ 1048576) (hd : d.length ≤ 1048576) (hp : p.length ≤ 1048576) : impl_Focus_own.f b d u p = some (b, d, u, p) := by
  unfold impl_Focus_own.f
  rw [copied_eq b (by omega), copied_eq d (by omega), copied_eq p (by omega)]
  simp only [Option.bind_some]
  rw [if_pos (by simp; omega)]
  rfl
theorem evGot {α : Type} {o : Option α} {x : α} (h : o = some x) : Ev (fun _ => o) x := h ▸ Ev.now x
theorem FnExactStepSwapper (b d : List Int) (u : List Bool) (p e f : List Int) (m0 : b.length ≤ maxLen) (_ : ∀ x ∈ b, (Lit.int .i64 x).wf = true) (m1 : d.length ≤ maxLen) (_ : ∀ x ∈ d, (Lit.int .i64 x).wf = true) (m2 : u.length ≤ maxLen) (m3 : p.length ≤ maxLen) (_ : ∀ x ∈ p, (Lit.int .i64 x).wf = true) (m4 : e.length ≤ maxLen) (_ : ∀ x ∈ e, (Lit.int .i64 x).wf = true) (m5 : f.length ≤ maxLen) (_ : ∀ x ∈ f, (Lit.int .i64 x).wf = true) :
    ∃ q, laws_FnExactStepSwapper.Fine q b d u p e f := by
  have hM : maxLen ≤ 9223372036854775807 := by decide
  obtain ⟨t, ht, hr⟩ := szSwapper_eq b d u p e f (by omega) (by omega) (by omega) (by omega) (by omega) (by omega)
  by_cases c : t < 0
  · exact ⟨0, t, ht, .inl c⟩
  obtain ⟨⟨h0, h1, h2, h3⟩, h4, h5⟩ := hr (by omega)
  obtain ⟨K0, hto⟩ := toSwapper_ev b d u p e f (by omega) (by omega) (by omega) (by omega) (by omega) (by omega)
  obtain ⟨K1, hqa⟩ := eqSwapper_self b d p u e f (by omega) (by omega) (by omega) (by omega) (by omega) (by omega)
  obtain ⟨K2, hma⟩ := markSwapper_ev b d p u e f (by omega) (by omega) (by omega) (by omega) (by omega) (by omega)
  have key : ∃ (a1 a2 a4 a5 a6 : List Int) (a3 : List Bool) (r : Int) (o : Bool), (a1.length ≤ 2000000 ∧ a2.length ≤ 2000000 ∧ a3.length ≤ 2000000 ∧ a4.length ≤ 2000000 ∧ a5.length ≤ 2000000 ∧ a6.length ≤ 2000000) ∧ Ev (fun k => spec_StepSwapper.f k b d u p e f) (a1, a2, a3, a4, a5, a6, r, o) ∧ Ev (fun k => impl_StepSwapper.f k b d u p e f) (a1, a2, a3, a4, a5, a6, r, o) := by
    have hg := foRank_ev b d u p e f h0 h1 h2 h3 h4 h5
    have hi := IsSwapper_ev b d u p e f h0 h1 h2 h3 h4 h5
    have hw := Focus_own_eq b d u p h2 h0 h1 h3
    have hw4 := copied_eq e (by omega)
    have hw5 := copied_eq f (by omega)
    unfold spec_StepSwapper.f impl_StepSwapper.f
    by_cases c : gS b d u p e f = true
    rotate_left
    · rw [if_neg c] at hg
      exact ⟨[], [], [], [], [], [], 0, false, by simp, Ev.bind hg (evPos (by decide) (Ev.now _)), Ev.bind hi (evNeg c (Ev.now _))⟩
    rw [if_pos c] at hg
    have c' := c
    simp only [gS, Bool.and_eq_true, decide_eq_true_eq] at c'
    obtain ⟨⟨n1, n7⟩, f1, f2, f3, f4⟩ := c'
    obtain ⟨-, g1, g2, g3⟩ := gF_rank f1
    obtain ⟨k1, k2⟩ := gF_cn n7 f1 f2
    simp only [Prod.mk.injEq] at k2
    obtain ⟨k2, k3, k4⟩ := k2
    generalize hrr : (mr b d).toNat = r at *
    generalize hnn : e.length = n at *
    have l3 := st_lens (cn n) r
    have l4 := st_lens (cn n) (r + 1)
    have hl := bs_length (cn n)
    have hcl := cn_length n
    have hj : rd (st (cn n) r).p 0 = ((fa (cn n) r : Nat) : Int) := st_head (cn n) r
    rw [f2, k2, k3, k4] at hw
    rw [f2, k2, k3, k4, f3, f4] at hi c ⊢
    rw [f3] at hw4
    rw [f4] at hw5
    by_cases hf : r + 1 < fac n
    · have hgo := foSwap_go n r n7 hf
      obtain ⟨a0, a1, a2⟩ := at_range n r n7 hf
      have hfa := fa_cn n r n7 hf
      refine ⟨bs (cn n), (st (cn n) (r + 1)).d, (st (cn n) (r + 1)).p, it n (r + 1), wh n (r + 1), (st (cn n) (r + 1)).u, atS n r, true, ⟨by omega, by omega, by omega, by omega, by rw [it_length]; omega, by rw [wh_length]; omega⟩, ?_, ?_⟩
      · have hg' := hg
        rw [f2, k2, k3, k4, f3, f4] at hg'
        have g1' := g1
        rw [f2, k2] at g1'
        exact Ev.bind hg' (evNeg (by omega) (Ev.bind hgo (evNeg (by dsimp only; omega) (Ev.now _))))
      · exact Ev.bind hi (evPos c (Ev.bind (evGot hw) (Ev.bind (evGot hw4) (Ev.bind (evGot hw5) (evNeg (by dsimp only; rw [hj]; omega) (Ev.bind (evGot (stepS_sq n r n7 hf)) (Ev.now _)))))))
    · have hfe : fa (cn n) r = (cn n).length := fa_full (cn n) r (cn_ok n n7).rad (by rw [cn_prod]; omega)
      refine ⟨[], [], [], [], [], [], 0, false, by simp, ?_, ?_⟩
      · have hg' := hg
        rw [f2, k2, k3, k4, f3, f4] at hg'
        have g1' := g1
        rw [f2, k2] at g1'
        exact Ev.bind hg' (evNeg (by omega) (Ev.bind (foSwap_end n r hfe _ _) (evPos (by decide) (Ev.now _))))
      · exact Ev.bind hi (evPos c (Ev.bind (evGot hw) (Ev.bind (evGot hw4) (Ev.bind (evGot hw5) (evPos (by dsimp only; rw [hj]; omega) (Ev.now _))))))
  obtain ⟨a1, a2, a4, a5, a6, a3, r, o, ⟨k1, k2, k3, k4, k5, k6⟩, ⟨K3, hs⟩, ⟨K4, hi⟩⟩ := key
  obtain ⟨K5, hq⟩ := eqSwapper_self a1 a2 a4 a3 a5 a6 k1 k2 k3 k4 k5 k6
  obtain ⟨K6, hm⟩ := markSwapper_ev a1 a2 a4 a3 a5 a6 k1 k2 k3 k4 k5 k6
  obtain ⟨K7, hh⟩ := heldSwapper_ev a1.length a2.length a3.length a4.length a5.length a6.length k1 k2 k3 k4 k5 k6
  exact ⟨K0 + K1 + K2 + K3 + K4 + K5 + K6 + K7, t, ht, .inr ⟨by omega, hto _ (by omega), hqa _ (by omega), a1, a2, a3, a4, a5, a6, r, o, _, _, _, _, _, _, _, _, _, _, _, _, _, _, hs _ (by omega), hi _ (by omega), hq _ (by omega), hma _ (by omega), by omega, hm _ (by omega), by omega, hh _ (by omega)⟩⟩
end Go.Proofs.Ytpfakdhfffehaaa.Pure
