/- The pure statement of FnExactCountTurns: for all arguments that fit, the law as a Lean function answers true after enough rounds. -/
import Derived.Test.YtaogaigpnmpdcaaMFnExactCountTurnsx1
import Derived.Test.YtaogaigpnmpdcaaMFnExactCountTurnsx2
import Derived.Test.YtaogaigpnmpdcaaMFnExactCountTurnsx3
import Derived.Test.YtaogaigpnmpdcaaMFnExactCountTurnsx4
import Derived.Test.YtaogaigpnmpdcaaMFnExactCountTurnsx5
import Derived.Test.YtaogaigpnmpdcaaMFnExactCountTurnsx6
import Derived.Test.YtaogaigpnmpdcaaMFnExactCountTurnsx7
import Derived.Test.YtaogaigpnmpdcaaMFnExactCountTurnsx8
import Derived.Test.YtaogaigpnmpdcaaMFnExactCountTurnsx9
import Derived.Test.YtaogaigpnmpdcaaMFnExactCountTurnsx10
import Derived.Test.YtaogaigpnmpdcaaMFnExactCountTurnsx11
import Derived.Test.YtaogaigpnmpdcaaBase
import Derived.Test.YtaogaigpnmpdcaaFoc
import Derived.Test.YtaogaigpnmpdcaaFocB
import Derived.Test.YtaogaigpnmpdcaaFocR
namespace Go.Proofs.Ytaogaigpnmpdcaa.Pure
open Go.RowKit Go.Proofs.Ytaogaigpnmpdcaa.MFnExactCountTurns Go.Proofs.YtaogaigpnmpdcaaW.PrintWords Go.Proofs.YtaogaigpnmpdcaaW.PrintLast Go.Proofs.Ytaogaigpnmpdcaa.Base Go.Proofs.Ytaogaigpnmpdcaa.Foc Go.Proofs.Ytaogaigpnmpdcaa.FocB Go.Proofs.Ytaogaigpnmpdcaa.FocR
set_option linter.unusedVariables false
set_option linter.unusedSimpArgs false

/-! laws_toIntS -/
theorem toIntS_l0 (x0 : List Int) (hn : x0.length ≤ 35184372088832) : ∀ (d : Nat) (x3 : List Int) (j : Int), 0 ≤ j → j.toNat + d = x0.length → x3.length = x0.length → x3.take j.toNat = x0.take j.toNat →
    Ev (fun k => laws_toIntS.l0 k x0 x3 j) x0 := by
  intro d
  induction d with
  | zero =>
    intro x3 j h0 hd hl ht
    refine Ev.step (fun k => by rw [laws_toIntS.l0]) ?_
    refine evNeg (by omega) ?_
    rw [take_end x0 j (by omega), take_end x3 j (by omega)] at ht
    exact evEq ht
  | succ d ih =>
    intro x3 j h0 hd hl ht
    refine Ev.step (fun k => by rw [laws_toIntS.l0]) ?_
    refine evPos (by omega) (evPos (by omega) (evPos (by omega) ?_))
    rw [wr (by omega) (by omega)]
    refine ih _ _ (by omega) (by omega) (by simpa using hl) ?_
    rw [set_takeI x3 j _ h0 (by omega), take_rd x0 j h0 (by omega), ht]
theorem toIntS_ev (l : List Int) (hn : l.length ≤ 35184372088832) : Ev (fun k => laws_toIntS.f k l) l := by
  unfold laws_toIntS.f
  refine evPos (by omega) (evPos (by simpa using hn) ?_)
  exact toIntS_l0 l hn l.length _ 0 (by omega) (by simp) (by simp) (by simp)
/-! laws_eqIntS -/
theorem eqIntS_l0 (a b : List Int) (hn : a.length ≤ 35184372088832) (hb : a.length = b.length) : ∀ (d : Nat) (j : Int), 0 ≤ j → j.toNat + d = a.length →
    Ev (fun k => laws_eqIntS.l0 k a b j) (decide (a.drop j.toNat = b.drop j.toNat)) := by
  intro d
  induction d with
  | zero =>
    intro j h0 hd
    refine Ev.step (fun k => by rw [laws_eqIntS.l0]) ?_
    refine evNeg (by omega) ?_
    rw [drop_end a j (by omega), drop_end b j (by omega)]
    exact evEq rfl
  | succ d ih =>
    intro j h0 hd
    refine Ev.step (fun k => by rw [laws_eqIntS.l0]) ?_
    refine evPos (by omega) (evPos (by omega) (evPos (by omega) ?_))
    rw [wr (by omega) (by omega), drop_rd a j h0 (by omega), drop_rd b j h0 (by omega)]
    by_cases c : rd a j = rd b j
    · refine evPos c (evTo (ih _ (by omega) (by omega)) ?_)
      simp [c]
    · refine evNeg c (evEq ?_)
      simp [c]
theorem eqIntS_ev (a b : List Int) (hn : a.length ≤ 35184372088832) : Ev (fun k => laws_eqIntS.f k a b) (decide (a = b)) := by
  unfold laws_eqIntS.f
  by_cases hb : a.length = b.length
  · exact evPos (by omega) (eqIntS_l0 a b hn hb a.length 0 (by omega) (by simp))
  · refine evNeg (by omega) (evEq ?_)
    exact (decide_eq_false (fun e => hb (by rw [e]))).symm
theorem eqIntS_self (a : List Int) (hn : a.length ≤ 35184372088832) : Ev (fun k => laws_eqIntS.f k a a) true := evTo (eqIntS_ev a a hn) (by simp)
/-! laws_markIntS -/
theorem markIntS_l0 : ∀ (d : Nat) (xs : List Int) (m j : Int), 0 ≤ j → j.toNat + d = xs.length → xs.length ≤ 35184372088832 → 0 ≤ m → m + d ≤ 70368744177664 →
    Ev (fun k => laws_markIntS.l0 k xs m j) (m + d, xs.take j.toNat ++ iotaI m d) := by
  intro d
  induction d with
  | zero =>
    intro xs m j h0 hd hn hm hk
    refine Ev.step (fun k => by rw [laws_markIntS.l0]) ?_
    refine evNeg (by omega) (evEq ?_)
    rw [take_end xs j (by omega)]
    simp [iotaI]
  | succ d ih =>
    intro xs m j h0 hd hn hm hk
    refine Ev.step (fun k => by rw [laws_markIntS.l0]) ?_
    refine evPos (by omega) (evPos (by omega) ?_)
    rw [wr (by omega) (by omega), wr (by omega) (by omega)]
    refine evTo (ih (xs.set j.toNat m) (m + 1) (j + 1) (by omega) (by simp; omega) (by simpa using hn) (by omega) (by omega)) ?_
    rw [set_takeI xs j m h0 (by omega)]
    simp [iotaI]
    omega
theorem markIntS_ev (xs : List Int) (m : Int) (hn : xs.length ≤ 35184372088832) (hm : 0 ≤ m) (hk : m + xs.length ≤ 70368744177664) :
    Ev (fun k => laws_markIntS.f k xs m) (m + xs.length, iotaI m xs.length) := by
  unfold laws_markIntS.f
  refine evTo (markIntS_l0 xs.length xs m 0 (by omega) (by simp) hn hm hk) (by simp)
/-! laws_heldIntS -/
theorem heldIntS_l0 (xs : List Int) (hn : xs.length ≤ 35184372088832) : ∀ (d : Nat) (m j : Int), 0 ≤ j → j.toNat + d = xs.length → 0 ≤ m → m + d ≤ 70368744177664 → (∀ i : Int, j ≤ i → i < xs.length → rd xs i = m + (i - j)) →
    Ev (fun k => laws_heldIntS.l0 k xs m j) (m + d) := by
  intro d
  induction d with
  | zero =>
    intro m j h0 hd hm hk h
    refine Ev.step (fun k => by rw [laws_heldIntS.l0]) ?_
    exact evNeg (by omega) (evEq (by simp))
  | succ d ih =>
    intro m j h0 hd hm hk h
    refine Ev.step (fun k => by rw [laws_heldIntS.l0]) ?_
    have hr := h j (by omega) (by omega)
    refine evPos (by omega) (evPos (by omega) (evPos (by omega) ?_))
    rw [wr (by omega) (by omega), wr (by omega) (by omega)]
    refine evTo (ih (m + 1) (j + 1) (by omega) (by omega) (by omega) (by omega) (fun i h1 h2 => ?_)) (by omega)
    rw [h i (by omega) h2]; omega
theorem heldIntS_ev (n : Nat) (m : Int) (hn : n ≤ 35184372088832) (hm : 0 ≤ m) (hk : m + n ≤ 70368744177664) :
    Ev (fun k => laws_heldIntS.f k (iotaI m n) m) (m + n) := by
  unfold laws_heldIntS.f
  have hl := iotaI_length m n
  refine heldIntS_l0 (iotaI m n) (by omega) n m 0 (by omega) (by omega) hm hk (fun i h1 h2 => ?_)
  rw [iotaI_rd n m i h1 (by omega)]; omega
/-! spec_raProduct -/
theorem raProduct_l0 (xs : List Int) (hn : xs.length ≤ 35184372088832) (hx : ∀ x ∈ xs, 2 ≤ x ∧ x ≤ 12) : ∀ (d : Nat) (j n : Int), 0 ≤ j → j.toNat + d = xs.length → 1 ≤ n → n ≤ 1000000 →
    Ev (fun k => spec_raProduct.l0 k n xs (xs.length : Int) j) (prS n (xs.drop j.toNat)) := by
  intro d
  induction d with
  | zero =>
    intro j n h0 hd h1 h2
    refine Ev.step (fun k => by rw [spec_raProduct.l0]) ?_
    refine evNeg (by omega) (evEq ?_)
    rw [drop_end _ _ (by omega)]; rfl
  | succ d ih =>
    intro j n h0 hd h1 h2
    refine Ev.step (fun k => by rw [spec_raProduct.l0]) ?_
    refine evPos (by omega) (evPos (by omega) (evPos (by omega) ?_))
    have hb := hx (rd xs j) (by rw [rd_get xs j (by omega)]; exact List.getElem_mem _)
    have q1 : n * rd xs j ≤ n * 12 := Int.mul_le_mul_of_nonneg_left hb.2 (by omega)
    have q2 : n * 2 ≤ n * rd xs j := Int.mul_le_mul_of_nonneg_left hb.1 (by omega)
    rw [drop_rd xs j h0 (by omega), prS]
    generalize n * rd xs j = p at q1 q2 ⊢
    rw [wr (by omega) (by omega), wr (by omega) (by omega)]
    by_cases c : p > 1000000
    · exact evPos c (evEq (by rw [if_pos c]))
    · refine evNeg c ?_
      rw [if_neg c]
      exact ih _ _ (by omega) (by omega) (by omega) (by omega)
theorem raProduct_ev (xs : List Int) (hn : xs.length ≤ 35184372088832) (hx : ∀ x ∈ xs, 2 ≤ x ∧ x ≤ 12) : Ev (fun k => spec_raProduct.f k xs) (prS 1 xs) := by
  unfold spec_raProduct.f
  exact raProduct_l0 xs hn hx xs.length 0 1 (by omega) (by simp) (by omega) (by omega)
/-! spec_l1In -/
theorem l1In_eq (x a b : Int) : spec_l1In.f x a b = some (decide (a ≤ x ∧ x ≤ b)) := by
  unfold spec_l1In.f
  by_cases h : x ≥ a
  · rw [if_pos h]; have h' : a ≤ x := h; simp [h']
  · rw [if_neg h]; have h' : ¬ a ≤ x := h; simp [h']
/-! spec_l1All -/
theorem l1All_l0 (a b : Int) (xs : List Int) (hn : xs.length ≤ 35184372088832) : ∀ (d : Nat) (j : Int), 0 ≤ j → j.toNat + d = xs.length →
    Ev (fun k => spec_l1All.l0 k a b xs (xs.length : Int) j) ((xs.drop j.toNat).all fun x => decide (a ≤ x ∧ x ≤ b)) := by
  intro d
  induction d with
  | zero =>
    intro j h0 hd
    refine Ev.step (fun k => by rw [spec_l1All.l0]) ?_
    refine evNeg (by omega) (evEq ?_)
    rw [drop_end _ _ (by omega)]; rfl
  | succ d ih =>
    intro j h0 hd
    refine Ev.step (fun k => by rw [spec_l1All.l0]) ?_
    refine evPos (by omega) (evPos (by omega) (evPos (by omega) ?_))
    simp only [l1In_eq, Option.bind_some]
    rw [wr (by omega) (by omega), drop_rd xs j h0 (by omega), List.all_cons]
    by_cases c : a ≤ rd xs j ∧ rd xs j ≤ b
    · exact evPos (by simpa using c) (evTo (ih _ (by omega) (by omega)) (by simp [c]))
    · exact evNeg (by simpa using c) (evEq (by rw [decide_eq_false c]; rfl))
theorem l1All_ev (xs : List Int) (a b : Int) (hn : xs.length ≤ 35184372088832) : Ev (fun k => spec_l1All.f k xs a b) (xs.all fun x => decide (a ≤ x ∧ x ≤ b)) := by
  unfold spec_l1All.f
  exact evTo (l1All_l0 a b xs hn xs.length 0 (by omega) (by simp)) (by simp)
/-! spec_foBases -/
theorem foBases_ev (xs : List Int) (hn : xs.length ≤ 35184372088832) : Ev (fun k => spec_foBases.f k xs) (fob xs) := by
  unfold spec_foBases.f spec_raBases.f
  by_cases c1 : xs.length ≤ 12
  rotate_left
  · refine Ev.bind (evNeg (by omega) (Ev.now _)) (evNeg (by simp) (evEq ?_))
    simp [fob, c1]
  by_cases c2 : (xs.all fun x => decide (2 ≤ x ∧ x ≤ 12)) = true
  rotate_left
  · have h2 := l1All_ev xs 2 12 hn
    simp only [Bool.not_eq_true] at c2
    rw [c2] at h2
    refine Ev.bind (evPos (by omega) (Ev.bind h2 (evNeg (by simp) (Ev.now _)))) (evNeg (by simp) (evEq ?_))
    unfold fob; rw [c2]; simp
  have hx : ∀ x ∈ xs, 2 ≤ x ∧ x ≤ 12 := fun x hx => by simpa using List.all_eq_true.1 c2 x hx
  have h2 := l1All_ev xs 2 12 hn
  rw [c2] at h2
  have hp := raProduct_ev xs hn hx
  refine Ev.bind (evPos (by omega) (Ev.bind h2 (evPos rfl (Ev.bind hp (Ev.now _))))) ?_
  by_cases c3 : prS 1 xs ≤ 1000000
  · refine evPos (by simpa using c3) (Ev.bind hp (evEq ?_))
    unfold fob; rw [c2]; simp [c1]
  · refine evNeg (by simpa using c3) (evEq ?_)
    unfold fob; rw [c2]; simp [c1]; omega
/-! spec_l1Own -/
theorem l1Own_eq (l : List Int) (hn : l.length ≤ 10000000000000) : spec_l1Own.f l = some l := by
  unfold spec_l1Own.f
  simp only [Option.bind_some, List.nil_append, List.length_nil, Nat.zero_add]
  rw [if_pos (by omega)]
/-! spec_raUpTo -/
theorem raUpTo_l0 (n : Nat) (hn : n ≤ 1000000000) : ∀ (d : Nat) (j : Int), 0 ≤ j → j.toNat + d = n → Ev (fun k => spec_raUpTo.l0 k (n : Int) (upTo j.toNat) j) (upTo n) := by
  intro d
  induction d with
  | zero =>
    intro j h0 hd
    refine Ev.step (fun k => by rw [spec_raUpTo.l0]) ?_
    exact evNeg (by omega) (evEq (by rw [show j.toNat = n from by omega]))
  | succ d ih =>
    intro j h0 hd
    refine Ev.step (fun k => by rw [spec_raUpTo.l0]) ?_
    refine evPos (by omega) (evPos (by rw [upTo_length]; omega) ?_)
    have h := ih (j + 1) (by omega) (by omega)
    rw [show (j + 1).toNat = j.toNat + 1 from by omega, upTo_succ, Int.toNat_of_nonneg h0] at h
    rw [wr (by omega) (by omega)]
    exact h
theorem raUpTo_ev (n : Nat) (hn : n ≤ 1000000000) : Ev (fun k => spec_raUpTo.f k (n : Int)) (upTo n) := by
  unfold spec_raUpTo.f
  exact raUpTo_l0 n hn n 0 (by omega) (by simp)
/-! spec_foStart -/
theorem foStart_l0 (n : Nat) (hn : n ≤ 1000000) (a b c : List Int) : ∀ (d : Nat) (j : Int), 0 ≤ j → j.toNat + d = n → Ev (fun k => spec_foStart.l0 k (n : Int) j a b (List.replicate j.toNat true) c) (a, b, List.replicate n true, c) := by
  intro d
  induction d with
  | zero =>
    intro j h0 hd
    refine Ev.step (fun k => by rw [spec_foStart.l0]) ?_
    exact evNeg (by omega) (evEq (by rw [show j.toNat = n from by omega]))
  | succ d ih =>
    intro j h0 hd
    refine Ev.step (fun k => by rw [spec_foStart.l0]) ?_
    refine evPos (by omega) (evPos (by rw [List.length_replicate]; omega) ?_)
    rw [wr (by omega) (by omega), rep_snoc j h0]
    exact ih (j + 1) (by omega) (by omega)
theorem foStart_ev (l : List Int) (hn : l.length ≤ 1000) : Ev (fun k => spec_foStart.f k l) (stF l) := by
  unfold spec_foStart.f stF
  rw [l1Own_eq l (by omega)]
  refine evSome (evPos (by omega) (evPos (by omega) ?_))
  rw [wr (by omega) (by omega), show (l.length : Int) + 1 = ((l.length + 1 : Nat) : Int) from by omega, Int.toNat_natCast]
  refine Ev.bind (raUpTo_ev (l.length + 1) (by omega)) ?_
  exact foStart_l0 l.length (by omega) _ _ _ l.length 0 (by omega) (by simp)
/-! spec_foStep -/
theorem foStep_go (cs : List Nat) (h : Ok cs) (r : Nat) (hf : fa cs r < cs.length) : spec_foStep.f (bs cs) (st cs r).d (st cs r).u (st cs r).p = some (bs cs, (st cs (r + 1)).d, (st cs (r + 1)).u, (st cs (r + 1)).p, (cs.length : Int) - 1 - ((fa cs r : Nat) : Int)) := by
  unfold spec_foStep.f
  have hl := (st_lens cs r).2.2
  have hj : rd (st cs r).p 0 = ((fa cs r : Nat) : Int) := st_head cs r
  rw [if_pos (by omega), hj, bs_length, if_neg (by omega), stepF_st cs h r hf]
  rfl
theorem foStep_end (cs : List Nat) (r : Nat) (hf : fa cs r = cs.length) : spec_foStep.f (bs cs) (st cs r).d (st cs r).u (st cs r).p = some ([], [], [], [], -1) := by
  unfold spec_foStep.f
  have hl := (st_lens cs r).2.2
  have hj : rd (st cs r).p 0 = ((fa cs r : Nat) : Int) := st_head cs r
  rw [if_pos (by omega), hj, bs_length, if_pos (by omega)]
/-! spec_foRun -/
theorem foRun_l0 (cs : List Nat) (h : Ok cs) : ∀ (m : Nat) (out : List Int) (r : Nat), r < prod cs → m ≤ 10000 → out.length + m ≤ 10000 →
    Ev (fun k => spec_foRun.l0 k (m : Int) out (bs cs) (st cs r).d (st cs r).u (st cs r).p) (out ++ run cs r m) := by
  intro m
  induction m with
  | zero =>
    intro out r hr hm ho
    refine Ev.step (fun k => by rw [spec_foRun.l0]) ?_
    exact evNeg (by omega) (evEq (by simp [run]))
  | succ m ih =>
    intro out r hr hm ho
    refine Ev.step (fun k => by rw [spec_foRun.l0]) ?_
    refine evPos (by omega) ?_
    by_cases c : fa cs r < cs.length
    · rw [foStep_go cs h r c]
      refine evSome (evNeg (by dsimp only; omega) (evPos (by omega) ?_))
      dsimp only
      rw [wr (by omega) (by omega), show ((m + 1 : Nat) : Int) - 1 = (m : Int) from by omega]
      refine evTo (ih _ (r + 1) ((last_rank cs h r hr).1 c) (by omega) (by simp; omega)) ?_
      rw [run, if_pos c]; simp
    · have := fa_le cs h r hr
      rw [foStep_end cs r (by omega)]
      refine evSome (evPos (by dsimp only; omega) (evEq ?_))
      rw [run, if_neg c]; simp
theorem foRun_ev (cs : List Nat) (h : Ok cs) (m : Nat) (hm : m ≤ 10000) : Ev (fun k => spec_foRun.f k (bs cs) (m : Int)) (run cs 0 m) := by
  unfold spec_foRun.f
  have hs := foStart_ev (bs cs) (by rw [bs_length]; have := h.len; omega)
  rw [stF_st cs h] at hs
  exact Ev.bind hs (evTo (foRun_l0 cs h m [] 0 (prod_pos cs h.rad) hm (by simp; omega)) (by simp))
/-! spec_CountTurns -/
theorem CountTurnsS_l0 (xs : List Int) (hn : xs.length ≤ 10000) : ∀ (d : Nat) (acc : List Int) (j : Int), 0 ≤ j → j.toNat + d = xs.length → (∀ x ∈ xs, 0 ≤ x ∧ x < acc.length) → (∀ y ∈ acc, 0 ≤ y ∧ y ≤ j) →
    Ev (fun k => spec_CountTurns.l0 k acc xs (xs.length : Int) j) (tally acc (xs.drop j.toNat), true) := by
  intro d
  induction d with
  | zero =>
    intro acc j h0 hd hx ha
    refine Ev.step (fun k => by rw [spec_CountTurns.l0]) ?_
    refine evNeg (by omega) (evEq ?_)
    rw [drop_end xs j (by omega)]; rfl
  | succ d ih =>
    intro acc j h0 hd hx ha
    refine Ev.step (fun k => by rw [spec_CountTurns.l0]) ?_
    have hxj := hx (rd xs j) (by rw [rd_get xs j (by omega)]; exact List.getElem_mem _)
    have hy := ha (rd acc (rd xs j)) (by rw [rd_get acc _ (by omega)]; exact List.getElem_mem _)
    refine evPos (by omega) (evPos (by omega) (evPos (by omega) (evPos hxj.1 (evPos hxj.2 ?_))))
    rw [wr (x := rd acc (rd xs j) + 1) (by omega) (by omega), wr (x := j + 1) (by omega) (by omega), drop_rd xs j h0 (by omega), tally]
    refine ih _ (j + 1) (by omega) (by omega) (fun x hx' => by rw [List.length_set]; exact hx x hx') (fun y hy' => ?_)
    rcases List.mem_or_eq_of_mem_set hy' with h | h
    · have := ha y h; omega
    · omega
/-! impl_size -/
theorem size_l0 (xs : List Int) (hn : xs.length ≤ 35184372088832) (hx : ∀ x ∈ xs, 2 ≤ x ∧ x ≤ 12) : ∀ (d : Nat) (j n : Int), 0 ≤ j → j.toNat + d = xs.length → 1 ≤ n → n ≤ 1000001 →
    Ev (fun k => impl_size.l0 k n xs (xs.length : Int) j) (capI n (xs.drop j.toNat)) := by
  intro d
  induction d with
  | zero =>
    intro j n h0 hd h1 h2
    refine Ev.step (fun k => by rw [impl_size.l0]) ?_
    refine evNeg (by omega) (evEq ?_)
    rw [drop_end _ _ (by omega)]; rfl
  | succ d ih =>
    intro j n h0 hd h1 h2
    refine Ev.step (fun k => by rw [impl_size.l0]) ?_
    refine evPos (by omega) (evPos (by omega) (evPos (by omega) ?_))
    have hb := hx (rd xs j) (by rw [rd_get xs j (by omega)]; exact List.getElem_mem _)
    have q1 : n * rd xs j ≤ n * 12 := Int.mul_le_mul_of_nonneg_left hb.2 (by omega)
    have q2 : n * 2 ≤ n * rd xs j := Int.mul_le_mul_of_nonneg_left hb.1 (by omega)
    rw [drop_rd xs j h0 (by omega), capI]
    generalize n * rd xs j = p at q1 q2 ⊢
    rw [wr (by omega) (by omega), wr (by omega) (by omega), show mn p 1000001 = (if p ≤ 1000001 then p else 1000001) from by simp only [mn]; split <;> split <;> omega]
    exact ih _ _ (by omega) (by omega) (by split <;> omega) (by split <;> omega)
theorem size_ev (xs : List Int) (hn : xs.length ≤ 35184372088832) (hx : ∀ x ∈ xs, 2 ≤ x ∧ x ≤ 12) : Ev (fun k => impl_size.f k xs) (capI 1 xs) := by
  unfold impl_size.f
  exact size_l0 xs hn hx xs.length 0 1 (by omega) (by simp) (by omega) (by omega)
/-! impl_within -/
theorem within_eq (x a b : Int) : impl_within.f x a b = some (decide (a ≤ x ∧ x ≤ b)) := by
  unfold impl_within.f
  by_cases h : x ≥ a
  · rw [if_pos h]; have h' : a ≤ x := h; simp [h']
  · rw [if_neg h]; have h' : ¬ a ≤ x := h; simp [h']
/-! impl_allWithin -/
theorem allWithin_l0 (a b : Int) (xs : List Int) (hn : xs.length ≤ 35184372088832) : ∀ (d : Nat) (j : Int), 0 ≤ j → j.toNat + d = xs.length →
    Ev (fun k => impl_allWithin.l0 k a b xs (xs.length : Int) j) ((xs.drop j.toNat).all fun x => decide (a ≤ x ∧ x ≤ b)) := by
  intro d
  induction d with
  | zero =>
    intro j h0 hd
    refine Ev.step (fun k => by rw [impl_allWithin.l0]) ?_
    refine evNeg (by omega) (evEq ?_)
    rw [drop_end _ _ (by omega)]; rfl
  | succ d ih =>
    intro j h0 hd
    refine Ev.step (fun k => by rw [impl_allWithin.l0]) ?_
    refine evPos (by omega) (evPos (by omega) (evPos (by omega) ?_))
    simp only [within_eq, Option.bind_some]
    rw [wr (by omega) (by omega), drop_rd xs j h0 (by omega), List.all_cons]
    by_cases c : a ≤ rd xs j ∧ rd xs j ≤ b
    · exact evPos (by simpa using c) (evTo (ih _ (by omega) (by omega)) (by simp [c]))
    · exact evNeg (by simpa using c) (evEq (by rw [decide_eq_false c]; rfl))
theorem allWithin_ev (xs : List Int) (a b : Int) (hn : xs.length ≤ 35184372088832) : Ev (fun k => impl_allWithin.f k xs a b) (xs.all fun x => decide (a ≤ x ∧ x ≤ b)) := by
  unfold impl_allWithin.f
  exact evTo (allWithin_l0 a b xs hn xs.length 0 (by omega) (by simp)) (by simp)
/-! impl_areFocusBases -/
theorem areFocusBases_ev (xs : List Int) (hn : xs.length ≤ 35184372088832) : Ev (fun k => impl_areFocusBases.f k xs) (fob xs) := by
  unfold impl_areFocusBases.f impl_areBases.f
  by_cases c1 : xs.length ≤ 12
  rotate_left
  · refine Ev.bind (evNeg (by omega) (Ev.now _)) (evNeg (by simp) (evEq ?_))
    simp [fob, c1]
  by_cases c2 : (xs.all fun x => decide (2 ≤ x ∧ x ≤ 12)) = true
  rotate_left
  · have h2 := allWithin_ev xs 2 12 hn
    simp only [Bool.not_eq_true] at c2
    rw [c2] at h2
    refine Ev.bind (evPos (by omega) (Ev.bind h2 (evNeg (by simp) (Ev.now _)))) (evNeg (by simp) (evEq ?_))
    unfold fob; rw [c2]; simp
  have hx : ∀ x ∈ xs, 2 ≤ x ∧ x ≤ 12 := fun x hx => by simpa using List.all_eq_true.1 c2 x hx
  have h2 := allWithin_ev xs 2 12 hn
  rw [c2] at h2
  have hp := size_ev xs hn hx
  have hc := pr_cap xs 1 hx (by omega) (by omega)
  refine Ev.bind (evPos (by omega) (Ev.bind h2 (evPos rfl (Ev.bind hp (Ev.now _))))) ?_
  by_cases c3 : capI 1 xs ≤ 1000000
  · refine evPos (by simpa using c3) (Ev.bind hp (evEq ?_))
    unfold fob; rw [c2]; simp [c1]; omega
  · refine evNeg (by simpa using c3) (evEq ?_)
    unfold fob; rw [c2]; simp [c1]; omega
/-! impl_copied -/
theorem copied_eq (l : List Int) (hn : l.length ≤ 10000000000000) : impl_copied.f l = some l := by
  unfold impl_copied.f
  simp only [Option.bind_some, List.nil_append, List.length_nil, Nat.zero_add]
  rw [if_pos (by omega)]
/-! impl_identity -/
theorem identity_l0 (n : Nat) (hn : n ≤ 1000000000) : ∀ (d : Nat) (j : Int), 0 ≤ j → j.toNat + d = n → Ev (fun k => impl_identity.l0 k (upTo j.toNat) (n : Int) j) (upTo n) := by
  intro d
  induction d with
  | zero =>
    intro j h0 hd
    refine Ev.step (fun k => by rw [impl_identity.l0]) ?_
    exact evNeg (by omega) (evEq (by rw [show j.toNat = n from by omega]))
  | succ d ih =>
    intro j h0 hd
    refine Ev.step (fun k => by rw [impl_identity.l0]) ?_
    refine evPos (by omega) (evPos (by rw [upTo_length]; omega) ?_)
    have h := ih (j + 1) (by omega) (by omega)
    rw [show (j + 1).toNat = j.toNat + 1 from by omega, upTo_succ, Int.toNat_of_nonneg h0] at h
    rw [wr (by omega) (by omega)]
    exact h
theorem identity_ev (n : Nat) (hn : n ≤ 1000000000) : Ev (fun k => impl_identity.f k (n : Int)) (upTo n) := by
  unfold impl_identity.f
  exact identity_l0 n hn n 0 (by omega) (by simp)
/-! impl_startFocus -/
theorem startFocus_l0 (n : Nat) (hn : n ≤ 1000000) (a b c : List Int) : ∀ (d : Nat) (j : Int), 0 ≤ j → j.toNat + d = n → Ev (fun k => impl_startFocus.l0 k (n : Int) j a b (List.replicate j.toNat true) c) (a, b, List.replicate n true, c) := by
  intro d
  induction d with
  | zero =>
    intro j h0 hd
    refine Ev.step (fun k => by rw [impl_startFocus.l0]) ?_
    exact evNeg (by omega) (evEq (by rw [show j.toNat = n from by omega]))
  | succ d ih =>
    intro j h0 hd
    refine Ev.step (fun k => by rw [impl_startFocus.l0]) ?_
    refine evPos (by omega) (evPos (by rw [List.length_replicate]; omega) ?_)
    rw [wr (by omega) (by omega), rep_snoc j h0]
    exact ih (j + 1) (by omega) (by omega)
theorem startFocus_ev (l : List Int) (hn : l.length ≤ 1000) : Ev (fun k => impl_startFocus.f k l) (stF l) := by
  unfold impl_startFocus.f stF
  rw [copied_eq l (by omega)]
  refine evSome (evPos (by omega) (evPos (by omega) ?_))
  rw [wr (by omega) (by omega), show (l.length : Int) + 1 = ((l.length + 1 : Nat) : Int) from by omega, Int.toNat_natCast]
  refine Ev.bind (identity_ev (l.length + 1) (by omega)) ?_
  exact startFocus_l0 l.length (by omega) _ _ _ l.length 0 (by omega) (by simp)
/-! impl_Focus_isLast -/
theorem isLast_st (cs : List Nat) (r : Nat) : impl_Focus_isLast.f (bs cs) (st cs r).d (st cs r).u (st cs r).p = some (decide (fa cs r = cs.length)) := by
  unfold impl_Focus_isLast.f
  have hl := (st_lens cs r).2.2
  have hj : rd (st cs r).p 0 = ((fa cs r : Nat) : Int) := st_head cs r
  rw [if_pos (by omega), hj, bs_length]
  congr 1
  rw [Bool.eq_iff_iff]
  simp only [decide_eq_true_eq, beq_iff_eq]
  omega
/-! impl_runFocus -/
theorem runFocus_l0 (cs : List Nat) (h : Ok cs) : ∀ (m : Nat) (out : List Int) (r : Nat) (M : Int), r < prod cs → (out.length : Int) + m = M → M ≤ 10000 →
    Ev (fun k => impl_runFocus.l0 k ((bs cs).length : Int) M (bs cs) out (st cs r).d (st cs r).u (st cs r).p) (out ++ run cs r m) := by
  have hl := h.len
  have lb := bs_length cs
  intro m
  induction m with
  | zero =>
    intro out r M hr hm ho
    refine Ev.step (fun k => by rw [impl_runFocus.l0]) ?_
    exact evNeg (by omega) (evEq (by simp [run]))
  | succ m ih =>
    intro out r M hr hm ho
    refine Ev.step (fun k => by rw [impl_runFocus.l0]) ?_
    refine evPos (by omega) ?_
    rw [isLast_st]
    by_cases c : fa cs r < cs.length
    · refine evSome (evNeg (by simp; omega) ?_)
      rw [stepF_st cs h r c]
      refine evSome (evPos (by omega) ?_)
      dsimp only
      rw [wr (x := ((bs cs).length : Int) - 1) (by omega) (by omega), wr (by omega) (by omega)]
      refine evTo (ih _ (r + 1) M ((last_rank cs h r hr).1 c) (by simp; omega) ho) ?_
      rw [run, if_pos c, lb]; simp
    · have := fa_le cs h r hr
      refine evSome (evPos (by simp; omega) (evEq ?_))
      rw [run, if_neg c]; simp
theorem runFocus_ev (cs : List Nat) (h : Ok cs) (m : Nat) (hm : m ≤ 10000) : Ev (fun k => impl_runFocus.f k (bs cs) (m : Int)) (run cs 0 m) := by
  unfold impl_runFocus.f
  have hs := startFocus_ev (bs cs) (by rw [bs_length]; have := h.len; omega)
  rw [stF_st cs h] at hs
  exact Ev.bind hs (evTo (runFocus_l0 cs h m [] 0 (m : Int) (prod_pos cs h.rad) (by simp) (by omega)) (by simp))
/-! impl_counted -/
theorem counted_l0 (xs : List Int) (hn : xs.length ≤ 10000) : ∀ (d : Nat) (acc : List Int) (j : Int), 0 ≤ j → j.toNat + d = xs.length → (∀ x ∈ xs, 0 ≤ x ∧ x < acc.length) → (∀ y ∈ acc, 0 ≤ y ∧ y ≤ j) →
    Ev (fun k => impl_counted.l0 k acc xs (xs.length : Int) j) (tally acc (xs.drop j.toNat)) := by
  intro d
  induction d with
  | zero =>
    intro acc j h0 hd hx ha
    refine Ev.step (fun k => by rw [impl_counted.l0]) ?_
    refine evNeg (by omega) (evEq ?_)
    rw [drop_end xs j (by omega)]; rfl
  | succ d ih =>
    intro acc j h0 hd hx ha
    refine Ev.step (fun k => by rw [impl_counted.l0]) ?_
    have hxj := hx (rd xs j) (by rw [rd_get xs j (by omega)]; exact List.getElem_mem _)
    have hy := ha (rd acc (rd xs j)) (by rw [rd_get acc _ (by omega)]; exact List.getElem_mem _)
    refine evPos (by omega) (evPos (by omega) (evPos (by omega) (evPos hxj.1 (evPos hxj.2 ?_))))
    rw [wr (x := rd acc (rd xs j) + 1) (by omega) (by omega), wr (x := j + 1) (by omega) (by omega), drop_rd xs j h0 (by omega), tally]
    refine ih _ (j + 1) (by omega) (by omega) (fun x hx' => by rw [List.length_set]; exact hx x hx') (fun y hy' => ?_)
    rcases List.mem_or_eq_of_mem_set hy' with h | h
    · have := ha y h; omega
    · omega
theorem counted_ev (n : Nat) (hn : n ≤ 1000) (xs : List Int) (hl : xs.length ≤ 10000) (hx : ∀ x ∈ xs, 0 ≤ x ∧ x < (n : Int)) : Ev (fun k => impl_counted.f k (n : Int) xs) (tally (List.replicate n 0) xs) := by
  unfold impl_counted.f
  refine evPos (by omega) (evPos (by omega) ?_)
  rw [Int.toNat_natCast]
  exact counted_l0 xs hl xs.length (List.replicate n 0) 0 (by omega) (by simp) (fun x h => by rw [List.length_replicate]; exact hx x h) (fun y hy => by have := List.eq_of_mem_replicate hy; omega)
-- NOLIB Comb
theorem FnExactCountTurns : laws_FnExactCountTurns.Pure := by
  intro l _ hl8 _
  refine Ev.rounds (g := fun q => laws_FnExactCountTurns.f q l) ?_
  unfold laws_FnExactCountTurns.f
  by_cases hbig : (l.length : Int) > 1048576
  · exact evPos hbig (Ev.now _)
  refine evNeg hbig ?_
  have key : ∃ g b, Ev (fun q => spec_CountTurns.f q l) (g, b) ∧ Ev (fun q => impl_CountTurns.f q l) (g, b) ∧ g.length ≤ 10000 := by
    have h1 := foBases_ev l (by omega)
    have h2 := areFocusBases_ev l (by omega)
    unfold spec_CountTurns.f impl_CountTurns.f
    by_cases c : fob l = true
    · obtain ⟨cs, hk, hb⟩ := ok_of c
      have hr := run_length cs 5040 0
      have hm := run_mem cs 5040 0
      have hlen := hk.len
      have hll : l.length = cs.length := by rw [← hb, bs_length]
      have e1 := foRun_ev cs hk 5040 (by omega)
      have e2 := runFocus_ev cs hk 5040 (by omega)
      rw [hb] at e1 e2
      have e3 := counted_ev l.length (by omega) (run cs 0 5040) (by omega) (fun x hx => by have := hm x hx; omega)
      have e4 := CountTurnsS_l0 (run cs 0 5040) (by omega) (run cs 0 5040).length (List.replicate l.length 0) 0 (by omega) (by simp) (fun x h => by rw [List.length_replicate]; have := hm x h; omega) (fun y hy => by have := List.eq_of_mem_replicate hy; omega)
      refine ⟨tally (List.replicate l.length 0) (run cs 0 5040), true, Ev.bind h1 (evPos c (evPos (by omega) (evPos (by omega) (Ev.bind e1 ?_)))), Ev.bind h2 (evPos c (Ev.bind e2 (Ev.bind e3 (Ev.now _)))), by rw [tally_length]; simp; omega⟩
      rw [Int.toNat_natCast]
      exact e4
    · exact ⟨[], false, Ev.bind h1 (evNeg c (Ev.now _)), Ev.bind h2 (evNeg c (Ev.now _)), by simp⟩
  obtain ⟨g, b, hs, hi, hgl⟩ := key
  repeat (first
    | (with_reducible exact Ev.now _)
    | (with_reducible refine Ev.bind hs ?_)
    | (with_reducible refine Ev.bind hi ?_)
    | (with_reducible refine Ev.bind (toIntS_ev _ (by omega)) ?_)
    | (with_reducible refine Ev.bind (eqIntS_self _ (by omega)) ?_)
    | (with_reducible refine Ev.bind (markIntS_ev _ 1 (by omega) (by omega) (by omega)) ?_)
    | (with_reducible refine Ev.bind (heldIntS_ev _ 1 (by omega) (by omega) (by omega)) ?_)
    | (with_reducible refine evPos rfl ?_)
    | (with_reducible refine evPos trivial ?_)
    | (with_reducible refine evNeg (by omega) ?_)
    | (rw [bne_self_eq_false])
    | (simp only [bne_self_eq_false])
    | (refine evNeg (by decide) ?_)
    | (refine Ev.step (fun k => by rw [laws_FnExactCountTurns.j0]) ?_)
    | (refine Ev.step (fun k => by rw [laws_FnExactCountTurns.j1]) ?_)
    | (refine Ev.step (fun k => by rw [laws_FnExactCountTurns.j2]) ?_))

end Go.Proofs.Ytaogaigpnmpdcaa.Pure
