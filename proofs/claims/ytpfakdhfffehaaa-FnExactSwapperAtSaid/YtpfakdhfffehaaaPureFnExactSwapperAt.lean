/- The pure statement of FnExactSwapperAt: for all arguments that fit, the law as a Lean function answers true after enough rounds. -/
import Derived.Test.YtpfakdhfffehaaaMFnExactSwapperAtx1
import Derived.Test.YtpfakdhfffehaaaMFnExactSwapperAtx2
import Derived.Test.YtpfakdhfffehaaaMFnExactSwapperAtx3
import Derived.Test.YtpfakdhfffehaaaMFnExactSwapperAtx4
import Derived.Test.YtpfakdhfffehaaaMFnExactSwapperAtx5
import Derived.Test.YtpfakdhfffehaaaMFnExactSwapperAtx6
import Derived.Test.YtpfakdhfffehaaaMFnExactSwapperAtx7
import Derived.Test.YtpfakdhfffehaaaMFnExactSwapperAtx8
import Derived.Test.YtpfakdhfffehaaaMFnExactSwapperAtx9
import Derived.Test.YtpfakdhfffehaaaMFnExactSwapperAtx10
import Derived.Test.YtpfakdhfffehaaaMFnExactSwapperAtx11
import Derived.Test.YtpfakdhfffehaaaMFnExactSwapperAtx12
import Derived.Test.YtpfakdhfffehaaaMFnExactSwapperAtx13
import Derived.Test.YtpfakdhfffehaaaMFnExactSwapperAtx14
import Derived.Test.YtpfakdhfffehaaaBase
import Derived.Test.YtpfakdhfffehaaaTrot
import Derived.Test.YtpfakdhfffehaaaMoves
import Derived.Test.YtpfakdhfffehaaaFoc
import Derived.Test.YtpfakdhfffehaaaFocB
import Derived.Test.YtpfakdhfffehaaaFocR
import Derived.Test.YtpfakdhfffehaaaSwp
import Derived.Test.YtpfakdhfffehaaaSwpS
namespace Go.Proofs.Ytpfakdhfffehaaa.Pure
open Go.RowKit Go.Proofs.Ytpfakdhfffehaaa.MFnExactSwapperAt Go.Proofs.YtpfakdhfffehaaaW.PrintWords Go.Proofs.YtpfakdhfffehaaaW.PrintLast Go.Proofs.Ytpfakdhfffehaaa.Base Go.Proofs.Ytpfakdhfffehaaa.Trot Go.Proofs.Ytpfakdhfffehaaa.Moves Go.Proofs.Ytpfakdhfffehaaa.Foc Go.Proofs.Ytpfakdhfffehaaa.FocB Go.Proofs.Ytpfakdhfffehaaa.FocR Go.Proofs.Ytpfakdhfffehaaa.Swp Go.Proofs.Ytpfakdhfffehaaa.SwpS
set_option linter.unusedVariables false
set_option linter.unusedSimpArgs false

/-! spec_l1In -/
theorem l1In_eq (x a b : Int) : spec_l1In.f x a b = some (decide (a ≤ x ∧ x ≤ b)) := by
  unfold spec_l1In.f
  by_cases h : x ≥ a
  · rw [if_pos h]; have h' : a ≤ x := h; simp [h']
  · rw [if_neg h]; have h' : ¬ a ≤ x := h; simp [h']
/-! spec_raFactorial -/
theorem raFactorial_tab : ((List.range 13).all fun n => spec_raFactorial.f 20 (n : Int) == some (fac n : Int)) = true := by decide +kernel
theorem raFactorial_ev (n : Nat) (hn : n ≤ 12) : Ev (fun r => spec_raFactorial.f r (n : Int)) (fac n : Int) := by
  refine evTab (g := fun r => spec_raFactorial.f r (n : Int)) (spec_raFactorial.mono _) 20 ?_
  exact beq_iff_eq.1 (List.all_eq_true.1 raFactorial_tab n (List.mem_range.2 (by omega)))
/-! spec_l1Own -/
theorem l1Own_eq (l : List Int) (hn : l.length ≤ 10000000000000) : spec_l1Own.f l = some l := by
  unfold spec_l1Own.f
  simp only [Option.bind_some, List.nil_append, List.length_nil, Nat.zero_add]
  rw [if_pos (by omega)]
/-! spec_foStep -/
theorem foStep_go (cs : List Nat) (h : Ok cs) (r : Nat) (hf : fa cs r < cs.length) : spec_foStep.f (bs cs) (st cs r).d (st cs r).u (st cs r).p = some (bs cs, (st cs (r + 1)).d, (st cs (r + 1)).u, (st cs (r + 1)).p, (cs.length : Int) - 1 - ((fa cs r : Nat) : Int)) := by
  unfold spec_foStep.f
  have hl := (st_lens cs r).2.2
  have hj : rd (st cs r).p 0 = ((fa cs r : Nat) : Int) := st_head cs r
  rw [if_pos (by omega), hj, bs_length, if_neg (by omega), stepF_st cs h r hf]
  rfl
theorem foStep_end (cs : List Nat) (r : Nat) (hf : fa cs r = cs.length) : spec_foStep.f (bs cs) (st cs r).d (st cs r).u (st cs r).p = some ([], [], [], [], -1) := by
  unfold spec_foStep.f
  have hl := (st_lens cs r).2.2
  have hj : rd (st cs r).p 0 = ((fa cs r : Nat) : Int) := st_head cs r
  rw [if_pos (by omega), hj, bs_length, if_pos (by omega)]
/-! spec_moApply -/
theorem moApply_l0 (l : List Int) (hl : l.length ≤ 1000) (b : Int) (hb : b ≤ l.length) (a c : Int) : ∀ (d : Nat) (x5 : List Int) (i : Int), 0 ≤ i → i + d = b → x5.length = l.length → x5.take i.toNat = (l.take b.toNat).reverse.take i.toNat → x5.drop i.toNat = l.drop i.toNat →
    Ev (fun k => spec_moApply.l0 k l x5 i a b c) ((l.take b.toNat).reverse ++ l.drop b.toNat) := by
  intro d
  induction d with
  | zero =>
    intro x5 i h0 hi h5 ht hd
    refine Ev.step (fun k => by rw [spec_moApply.l0]) ?_
    refine evNeg (by omega) (evEq ?_)
    obtain rfl : i = b := by omega
    rw [← List.take_append_drop i.toNat x5, ht, hd, List.take_of_length_le (by rw [List.length_reverse, List.length_take]; omega)]
  | succ d ih =>
    intro x5 i h0 hi h5 ht hd
    refine Ev.step (fun k => by rw [spec_moApply.l0]) ?_
    simp (disch := omega) only [wr]
    refine evPos (by omega) (evPos (by omega) (evPos (by omega) (evPos (by omega) (evPos (by omega) ?_))))
    refine ih _ (i + 1) (by omega) (by omega) (by simpa using h5) ?_ ?_
    · rw [set_takeI _ _ _ h0 (by omega), ht, show (i + 1).toNat = i.toNat + 1 by omega, List.take_add_one, List.getElem?_reverse (by rw [List.length_take]; omega), List.length_take, show min b.toNat l.length - 1 - i.toNat = (b - 1 - i).toNat by omega, List.getElem?_take, if_pos (by omega)]
      unfold rd
      rw [List.getD_eq_getElem?_getD, List.getElem?_eq_getElem (show (b - 1 - i).toNat < l.length by omega)]
      rfl
    · rw [show (i + 1).toNat = i.toNat + 1 by omega, List.drop_set_of_lt (by omega), ← List.drop_drop, ← List.drop_drop, hd]
theorem moApply_l1 (l : List Int) (hl : l.length ≤ 1000) (b : Int) (hb0 : 1 ≤ b) (hb : b ≤ l.length) (a c : Int) : ∀ (d : Nat) (x5 : List Int) (i : Int), 0 ≤ i → i + d = b → x5.length = l.length → x5.take i.toNat = ((l.take b.toNat).drop 1 ++ (l.take b.toNat).take 1).take i.toNat → x5.drop i.toNat = l.drop i.toNat →
    Ev (fun k => spec_moApply.l1 k l x5 i a b c) ((l.take b.toNat).drop 1 ++ (l.take b.toNat).take 1 ++ l.drop b.toNat) := by
  intro d
  have hlen : ((l.take b.toNat).drop 1 ++ (l.take b.toNat).take 1).length = b.toNat := by
    simp; omega
  induction d with
  | zero =>
    intro x5 i h0 hi h5 ht hd
    refine Ev.step (fun k => by rw [spec_moApply.l1]) ?_
    refine evNeg (by omega) (evEq ?_)
    obtain rfl : i = b := by omega
    rw [← List.take_append_drop i.toNat x5, ht, hd, List.take_of_length_le (by omega)]
  | succ d ih =>
    intro x5 i h0 hi h5 ht hd
    refine Ev.step (fun k => by rw [spec_moApply.l1]) ?_
    simp (disch := omega) only [wr]
    rw [Int.tmod_eq_emod_of_nonneg (by omega)]
    have hm : (i + 1) % b = if i + 1 < b then i + 1 else 0 := by
      split
      · exact Int.emod_eq_of_lt (by omega) (by omega)
      · rw [show i + 1 = b by omega, Int.emod_self]
    rw [hm]
    refine evPos (by omega) (evNeg (by omega) (evPos (by split <;> omega) (evPos (by split <;> omega) (evPos (by omega) (evPos (by omega) ?_)))))
    refine ih _ (i + 1) (by omega) (by omega) (by simpa using h5) ?_ ?_
    · rw [set_takeI _ _ _ h0 (by omega), ht, show (i + 1).toNat = i.toNat + 1 by omega, List.take_add_one (l := _ ++ _)]
      congr 1
      unfold rd
      by_cases c : i + 1 < b
      · rw [if_pos c, List.getElem?_append_left (by simp; omega), List.getElem?_drop, List.getElem?_take, if_pos (by omega), show 1 + i.toNat = (i + 1).toNat by omega, List.getD_eq_getElem?_getD, List.getElem?_eq_getElem (by omega)]
        rfl
      · rw [if_neg c, List.getElem?_append_right (by simp; omega)]
        have e : i.toNat - ((l.take b.toNat).drop 1).length = 0 := by simp; omega
        rw [e, List.getElem?_take, if_pos (by omega), List.getElem?_take, if_pos (by omega), List.getD_eq_getElem?_getD, show (0 : Int).toNat = 0 from rfl, List.getElem?_eq_getElem (show 0 < l.length by omega)]
        rfl
    · rw [show (i + 1).toNat = i.toNat + 1 by omega, List.drop_set_of_lt (by omega), ← List.drop_drop, ← List.drop_drop, hd]
theorem moApply_ev (l : List Int) (hl : l.length ≤ 1000) (a b c : Int) (hg : Mgood l.length a b c) : Ev (fun q => spec_moApply.f q l a b c) (mv l a b c) := by
  unfold spec_moApply.f
  rw [l1Own_eq l (by omega)]
  refine evSome ?_
  rcases hg with ⟨rfl, h1, h2, h3⟩ | ⟨rfl, h1, h2, rfl⟩ | ⟨rfl, h1, h2, rfl⟩
  · exact evPos rfl (evPos (by omega) (evPos (by omega) (evPos (by omega) (evPos (by omega) (evPos (by omega) (evPos (by omega) (evEq rfl)))))))
  · refine evNeg (by decide) (evPos rfl ?_)
    refine evTo (moApply_l0 l hl b h2 1 0 b.toNat l 0 (by omega) (by omega) rfl (by simp) (by simp)) (by simp [mv])
  · refine evNeg (by decide) (evNeg (by decide) ?_)
    refine evTo (moApply_l1 l hl b (by omega) h2 2 0 b.toNat l 0 (by omega) (by omega) rfl (by simp) (by simp)) (by simp [mv])
/-! spec_raInverse -/
theorem raInverse_l0 (l : List Int) (hn : l.length ≤ 1000) (hp : l.Perm (upTo l.length)) (hI : ∀ q : Nat, q < l.length → 0 ≤ rd l q ∧ rd l q < l.length) : ∀ (d : Nat) (j : Nat) (x : List Int), x.length = l.length → j + d = l.length → (∀ q : Nat, q < j → rd x (rd l q) = q) →
    Ev (fun k => spec_raInverse.l0 k x l (l.length : Int) (j : Int)) (invL l) := by
  have hnd : l.Nodup := hp.nodup_iff.2 (nodup_upTo _)
  intro d
  induction d with
  | zero =>
    intro j x hx hj hq
    refine Ev.step (fun k => by rw [spec_raInverse.l0]) ?_
    exact evNeg (by omega) (evEq (isI_invL hp ⟨hx, fun q h => ⟨(hI q h).1, (hI q h).2, hq q (by omega)⟩⟩))
  | succ d ih =>
    intro j x hx hj hq
    have hj' : j < l.length := by omega
    obtain ⟨i1, i2⟩ := hI j hj'
    refine Ev.step (fun k => by rw [spec_raInverse.l0]) ?_
    refine evPos (by omega) (evPos (by omega) (evPos (by omega) (evPos i1 (evPos (by omega) ?_))))
    rw [wr (by omega) (by omega), show (j : Int) + 1 = ((j + 1 : Nat) : Int) from by omega]
    refine ih (j + 1) _ (by rw [List.length_set]; exact hx) (by omega) (fun q h => ?_)
    by_cases e : q = j
    · rw [e, rd_set_eq _ _ _ (by omega)]
    · have i3 := hI q (by omega)
      rw [rd_set_ne _ _ _ _ (fun h_ => e (rd_inj hnd (by omega) hj' (by omega)))]
      exact hq q (by omega)
theorem raInverse_ev (l : List Int) (hn : l.length ≤ 1000) (hp : l.Perm (upTo l.length)) : Ev (fun k => spec_raInverse.f k l) (invL l) := by
  unfold spec_raInverse.f
  refine evPos (by omega) (evPos (by omega) ?_)
  refine raInverse_l0 l hn hp (fun q h => ?_) l.length 0 _ (by simp) (by omega) (fun q h => by omega)
  have hm : rd l q ∈ l := by rw [rd_get l q (by omega)]; exact List.getElem_mem _
  exact mem_upTo.1 (hp.mem_iff.1 hm)
/-! spec_foSwap -/
theorem st_dig (cs : List Nat) (r : Nat) (h : Ok cs) (hf : fa cs r < cs.length) : decide (rd (st cs (r + 1)).d ((cs.length : Int) - 1 - (fa cs r : Int)) > rd (st cs r).d ((cs.length : Int) - 1 - (fa cs r : Int))) = rdOf false (st cs r).u ((cs.length : Int) - 1 - (fa cs r : Int)) := by
  have l3 := st_lens cs r
  have lb := bs_length cs
  have e := st_step cs r h.rad hf
  have hi : ((cs.length : Int) - 1 - (fa cs r : Int)).toNat = cs.length - 1 - fa cs r := by omega
  have ed : (Foc.step (bs cs) (st cs r) (fa cs r)).d = (st cs r).d.set ((bs cs).length - 1 - fa cs r) (if (st cs r).u.getD ((bs cs).length - 1 - fa cs r) false then (st cs r).d.getD ((bs cs).length - 1 - fa cs r) 0 + 1 else (st cs r).d.getD ((bs cs).length - 1 - fa cs r) 0 - 1) := by
    unfold Foc.step
    dsimp only
    rw [apply_ite Fo.d]
    simp only [ite_self]
  rw [e, ed, lb]
  unfold rd rdOf
  rw [hi, List.getD_eq_getElem?_getD, List.getElem?_set_self (by omega)]
  cases (st cs r).u.getD (cs.length - 1 - fa cs r) false
  · simp; omega
  · simp; omega
theorem foSwap_go (n r : Nat) (hn : n ≤ 7) (hr : r + 1 < fac n) : Ev (fun k => spec_foSwap.f k (bs (cn n)) (st (cn n) r).d (st (cn n) r).u (st (cn n) r).p (it n r) (wh n r)) (bs (cn n), (st (cn n) (r + 1)).d, (st (cn n) (r + 1)).u, (st (cn n) (r + 1)).p, it n (r + 1), wh n (r + 1), atS n r) := by
  have hok := cn_ok n hn
  have hf := fa_cn n r hn hr
  have hl := cn_length n
  obtain ⟨e1, e2, e3, e4, e5⟩ := at_eq n r hn hr
  obtain ⟨h0, h1, h2⟩ := at_range n r hn hr
  have l1 := it_length n r
  have l2 := wh_length n r
  have l3 := st_lens (cn n) r
  have l4 := st_lens (cn n) (r + 1)
  have hd := st_dig (cn n) r hok hf
  unfold spec_foSwap.f
  rw [foStep_go (cn n) hok r hf]
  refine evSome (evNeg (by dsimp only; omega) ?_)
  dsimp only
  have hx : ((cn n).length : Int) - 1 - ((fa (cn n) r : Nat) : Int) + 1 = (n : Int) - 1 - (fa (cn n) r : Int) := by omega
  rw [wr (x := ((cn n).length : Int) - 1 - ((fa (cn n) r : Nat) : Int) + 1) (by omega) (by omega), hx]
  have hmv : mv (it n r) 0 (atS n r) (atS n r + 1) = it n (r + 1) := by
    unfold mv
    rw [if_pos rfl]
    exact h2
  have hg : Mgood (it n r).length 0 (atS n r) (atS n r + 1) := by unfold Mgood; omega
  have ha := moApply_ev (it n r) (by omega) 0 (atS n r) (atS n r + 1) hg
  rw [hmv] at ha
  have hi := raInverse_ev (it n (r + 1)) (by rw [it_length]; omega) (trot_perm' n _)
  refine evPos (by omega) (evPos (by omega) (evPos (by omega) (evPos (by omega) (evPos (by omega) ?_))))
  by_cases c : rdOf false (st (cn n) r).u (((cn n).length : Int) - 1 - (fa (cn n) r : Int)) = true
  · rw [if_pos c] at e1
    rw [c, decide_eq_true_eq] at hd
    refine evPos hd ?_
    rw [e1, wr (x := atS n r) (by omega) (by omega), wr (x := atS n r + 1) (by omega) (by omega)]
    exact Ev.bind ha (Ev.bind hi (Ev.now _))
  · rw [if_neg c] at e1
    simp only [Bool.not_eq_true] at c
    rw [c, decide_eq_false_iff_not] at hd
    refine evNeg hd ?_
    rw [e1, wr (x := atS n r + 1) (by omega) (by omega)]
    exact Ev.bind ha (Ev.bind hi (Ev.now _))
theorem foSwap_end (n r : Nat) (hf : fa (cn n) r = (cn n).length) (x y : List Int) : Ev (fun k => spec_foSwap.f k (bs (cn n)) (st (cn n) r).d (st (cn n) r).u (st (cn n) r).p x y) ([], [], [], [], [], [], -1) := by
  unfold spec_foSwap.f
  rw [foStep_end (cn n) r hf]
  exact evSome (evPos (by decide) (Ev.now _))
/-! spec_raUpTo -/
theorem raUpTo_l0 (n : Nat) (hn : n ≤ 1000000000) : ∀ (d : Nat) (j : Int), 0 ≤ j → j.toNat + d = n → Ev (fun k => spec_raUpTo.l0 k (n : Int) (upTo j.toNat) j) (upTo n) := by
  intro d
  induction d with
  | zero =>
    intro j h0 hd
    refine Ev.step (fun k => by rw [spec_raUpTo.l0]) ?_
    exact evNeg (by omega) (evEq (by rw [show j.toNat = n from by omega]))
  | succ d ih =>
    intro j h0 hd
    refine Ev.step (fun k => by rw [spec_raUpTo.l0]) ?_
    refine evPos (by omega) (evPos (by rw [upTo_length]; omega) ?_)
    have h := ih (j + 1) (by omega) (by omega)
    rw [show (j + 1).toNat = j.toNat + 1 from by omega, upTo_succ, Int.toNat_of_nonneg h0] at h
    rw [wr (by omega) (by omega)]
    exact h
theorem raUpTo_ev (n : Nat) (hn : n ≤ 1000000000) : Ev (fun k => spec_raUpTo.f k (n : Int)) (upTo n) := by
  unfold spec_raUpTo.f
  exact raUpTo_l0 n hn n 0 (by omega) (by simp)
/-! spec_foStart -/
theorem foStart_l0 (n : Nat) (hn : n ≤ 1000000) (a b c : List Int) : ∀ (d : Nat) (j : Int), 0 ≤ j → j.toNat + d = n → Ev (fun k => spec_foStart.l0 k (n : Int) j a b (List.replicate j.toNat true) c) (a, b, List.replicate n true, c) := by
  intro d
  induction d with
  | zero =>
    intro j h0 hd
    refine Ev.step (fun k => by rw [spec_foStart.l0]) ?_
    exact evNeg (by omega) (evEq (by rw [show j.toNat = n from by omega]))
  | succ d ih =>
    intro j h0 hd
    refine Ev.step (fun k => by rw [spec_foStart.l0]) ?_
    refine evPos (by omega) (evPos (by rw [List.length_replicate]; omega) ?_)
    rw [wr (by omega) (by omega), rep_snoc j h0]
    exact ih (j + 1) (by omega) (by omega)
theorem foStart_ev (l : List Int) (hn : l.length ≤ 1000) : Ev (fun k => spec_foStart.f k l) (stF l) := by
  unfold spec_foStart.f stF
  rw [l1Own_eq l (by omega)]
  refine evSome (evPos (by omega) (evPos (by omega) ?_))
  rw [wr (by omega) (by omega), show (l.length : Int) + 1 = ((l.length + 1 : Nat) : Int) from by omega, Int.toNat_natCast]
  refine Ev.bind (raUpTo_ev (l.length + 1) (by omega)) ?_
  exact foStart_l0 l.length (by omega) _ _ _ l.length 0 (by omega) (by simp)
/-! spec_foSwapper -/
theorem foSwapper_l0 (n : Nat) (hn : n ≤ 7) : ∀ (d j : Nat), 1 ≤ j → j + d = n →
    Ev (fun k => spec_foSwapper.l0 k (n : Int) (bs (cn j)) ((j : Int) + 1)) (bs (cn n), (st (cn n) 0).d, (st (cn n) 0).u, (st (cn n) 0).p, upTo n, upTo n) := by
  intro d
  induction d with
  | zero =>
    intro j h1 hd
    obtain rfl : j = n := by omega
    refine Ev.step (fun k => by rw [spec_foSwapper.l0]) ?_
    refine evNeg (by omega) ?_
    have hs := foStart_ev (bs (cn j)) (by rw [bs_length, cn_length]; omega)
    rw [stF_st _ (cn_ok j hn)] at hs
    exact Ev.bind hs (Ev.bind (raUpTo_ev j (by omega)) (Ev.bind (raUpTo_ev j (by omega)) (Ev.now _)))
  | succ d ih =>
    intro j h1 hd
    refine Ev.step (fun k => by rw [spec_foSwapper.l0]) ?_
    refine evPos (by omega) (evPos (by rw [bs_length, cn_length]; omega) ?_)
    rw [wr (by omega) (by omega), bs_cn j h1]
    exact ih (j + 1) (by omega) (by omega)
theorem foSwapper_ev (n : Nat) (h1 : 1 ≤ n) (hn : n ≤ 7) : Ev (fun k => spec_foSwapper.f k (n : Int)) (bs (cn n), (st (cn n) 0).d, (st (cn n) 0).u, (st (cn n) 0).p, upTo n, upTo n) := by
  unfold spec_foSwapper.f
  exact foSwapper_l0 n hn (n - 1) 1 (by omega) (by omega)
/-! spec_foSwapperAt -/
theorem foSwapperAt_l0 (n : Nat) (hn : n ≤ 7) : ∀ (c r : Nat), r + c < fac n → c ≤ 10000 →
    Ev (fun k => spec_foSwapperAt.l0 k (c : Int) (bs (cn n)) (st (cn n) r).d (st (cn n) r).u (st (cn n) r).p (it n r) (wh n r)) (bs (cn n), (st (cn n) (r + c)).d, (st (cn n) (r + c)).u, (st (cn n) (r + c)).p, it n (r + c), wh n (r + c), true) := by
  intro c
  induction c with
  | zero =>
    intro r hr hm
    refine Ev.step (fun k => by rw [spec_foSwapperAt.l0]) ?_
    exact evNeg (by omega) (Ev.now _)
  | succ c ih =>
    intro r hr hm
    refine Ev.step (fun k => by rw [spec_foSwapperAt.l0]) ?_
    have c1 : r + 1 < fac n := by omega
    obtain ⟨h0, h1, h2⟩ := at_range n r hn c1
    refine evPos (by omega) (Ev.bind (foSwap_go n r hn c1) (evNeg (by dsimp only; omega) ?_))
    dsimp only
    rw [wr (by omega) (by omega), show ((c + 1 : Nat) : Int) - 1 = (c : Int) from by omega, show r + (c + 1) = r + 1 + c from by omega]
    exact ih (r + 1) (by omega) (by omega)
theorem foSwapperAt_ev (n : Nat) (h1 : 1 ≤ n) (hn : n ≤ 7) (m : Nat) (hm : m < fac n) (hb : m ≤ 10000) : Ev (fun k => spec_foSwapperAt.f k (n : Int) (m : Int)) (bs (cn n), (st (cn n) m).d, (st (cn n) m).u, (st (cn n) m).p, it n m, wh n m, true) := by
  unfold spec_foSwapperAt.f
  have h := foSwapperAt_l0 n hn m 0 (by omega) hb
  have h0 : it n 0 = upTo n := trot_zero n
  have h2 : wh n 0 = upTo n := by unfold wh; rw [h0, invL_upTo]
  rw [h0, h2, Nat.zero_add] at h
  exact Ev.bind (foSwapper_ev n h1 hn) h
/-! impl_within -/
theorem within_eq (x a b : Int) : impl_within.f x a b = some (decide (a ≤ x ∧ x ≤ b)) := by
  unfold impl_within.f
  by_cases h : x ≥ a
  · rw [if_pos h]; have h' : a ≤ x := h; simp [h']
  · rw [if_neg h]; have h' : ¬ a ≤ x := h; simp [h']
/-! impl_factorial -/
theorem factorial_tab : ((List.range 13).all fun n => impl_factorial.f 20 (n : Int) == some (fac n : Int)) = true := by decide +kernel
theorem factorial_ev (n : Nat) (hn : n ≤ 12) : Ev (fun r => impl_factorial.f r (n : Int)) (fac n : Int) := by
  refine evTab (g := fun r => impl_factorial.f r (n : Int)) (impl_factorial.mono _) 20 ?_
  exact beq_iff_eq.1 (List.all_eq_true.1 factorial_tab n (List.mem_range.2 (by omega)))
/-! impl_copied -/
theorem copied_eq (l : List Int) (hn : l.length ≤ 10000000000000) : impl_copied.f l = some l := by
  unfold impl_copied.f
  simp only [Option.bind_some, List.nil_append, List.length_nil, Nat.zero_add]
  rw [if_pos (by omega)]
/-! impl_identity -/
theorem identity_l0 (n : Nat) (hn : n ≤ 1000000000) : ∀ (d : Nat) (j : Int), 0 ≤ j → j.toNat + d = n → Ev (fun k => impl_identity.l0 k (upTo j.toNat) (n : Int) j) (upTo n) := by
  intro d
  induction d with
  | zero =>
    intro j h0 hd
    refine Ev.step (fun k => by rw [impl_identity.l0]) ?_
    exact evNeg (by omega) (evEq (by rw [show j.toNat = n from by omega]))
  | succ d ih =>
    intro j h0 hd
    refine Ev.step (fun k => by rw [impl_identity.l0]) ?_
    refine evPos (by omega) (evPos (by rw [upTo_length]; omega) ?_)
    have h := ih (j + 1) (by omega) (by omega)
    rw [show (j + 1).toNat = j.toNat + 1 from by omega, upTo_succ, Int.toNat_of_nonneg h0] at h
    rw [wr (by omega) (by omega)]
    exact h
theorem identity_ev (n : Nat) (hn : n ≤ 1000000000) : Ev (fun k => impl_identity.f k (n : Int)) (upTo n) := by
  unfold impl_identity.f
  exact identity_l0 n hn n 0 (by omega) (by simp)
/-! impl_startFocus -/
theorem startFocus_l0 (n : Nat) (hn : n ≤ 1000000) (a b c : List Int) : ∀ (d : Nat) (j : Int), 0 ≤ j → j.toNat + d = n → Ev (fun k => impl_startFocus.l0 k (n : Int) j a b (List.replicate j.toNat true) c) (a, b, List.replicate n true, c) := by
  intro d
  induction d with
  | zero =>
    intro j h0 hd
    refine Ev.step (fun k => by rw [impl_startFocus.l0]) ?_
    exact evNeg (by omega) (evEq (by rw [show j.toNat = n from by omega]))
  | succ d ih =>
    intro j h0 hd
    refine Ev.step (fun k => by rw [impl_startFocus.l0]) ?_
    refine evPos (by omega) (evPos (by rw [List.length_replicate]; omega) ?_)
    rw [wr (by omega) (by omega), rep_snoc j h0]
    exact ih (j + 1) (by omega) (by omega)
theorem startFocus_ev (l : List Int) (hn : l.length ≤ 1000) : Ev (fun k => impl_startFocus.f k l) (stF l) := by
  unfold impl_startFocus.f stF
  rw [copied_eq l (by omega)]
  refine evSome (evPos (by omega) (evPos (by omega) ?_))
  rw [wr (by omega) (by omega), show (l.length : Int) + 1 = ((l.length + 1 : Nat) : Int) from by omega, Int.toNat_natCast]
  refine Ev.bind (identity_ev (l.length + 1) (by omega)) ?_
  exact startFocus_l0 l.length (by omega) _ _ _ l.length 0 (by omega) (by simp)
/-! impl_startSwapper -/
theorem startSwapper_l0 (n : Nat) (hn : n ≤ 7) : ∀ (d j : Nat), 1 ≤ j → j + d = n →
    Ev (fun k => impl_startSwapper.l0 k (n : Int) (bs (cn j)) ((j : Int) + 1)) (bs (cn n), (st (cn n) 0).d, (st (cn n) 0).u, (st (cn n) 0).p, upTo n, upTo n) := by
  intro d
  induction d with
  | zero =>
    intro j h1 hd
    obtain rfl : j = n := by omega
    refine Ev.step (fun k => by rw [impl_startSwapper.l0]) ?_
    refine evNeg (by omega) ?_
    have hs := startFocus_ev (bs (cn j)) (by rw [bs_length, cn_length]; omega)
    rw [stF_st _ (cn_ok j hn)] at hs
    exact Ev.bind hs (Ev.bind (identity_ev j (by omega)) (Ev.bind (identity_ev j (by omega)) (Ev.now _)))
  | succ d ih =>
    intro j h1 hd
    refine Ev.step (fun k => by rw [impl_startSwapper.l0]) ?_
    refine evPos (by omega) (evPos (by rw [bs_length, cn_length]; omega) ?_)
    rw [wr (by omega) (by omega), bs_cn j h1]
    exact ih (j + 1) (by omega) (by omega)
theorem startSwapper_ev (n : Nat) (h1 : 1 ≤ n) (hn : n ≤ 7) : Ev (fun k => impl_startSwapper.f k (n : Int)) (bs (cn n), (st (cn n) 0).d, (st (cn n) 0).u, (st (cn n) 0).p, upTo n, upTo n) := by
  unfold impl_startSwapper.f
  exact startSwapper_l0 n hn (n - 1) 1 (by omega) (by omega)
/-! impl_swapperAt -/
theorem swapperAt_l0 (n : Nat) (hn : n ≤ 7) : ∀ (c r : Nat) (i m : Int), r + c < fac n → m ≤ 10000 → 0 ≤ i → i + c = m →
    Ev (fun k => impl_swapperAt.l0 k m i (bs (cn n)) (st (cn n) r).d (st (cn n) r).u (st (cn n) r).p (it n r) (wh n r)) (bs (cn n), (st (cn n) (r + c)).d, (st (cn n) (r + c)).u, (st (cn n) (r + c)).p, it n (r + c), wh n (r + c)) := by
  intro c
  induction c with
  | zero =>
    intro r i m hr hm h0 hi
    refine Ev.step (fun k => by rw [impl_swapperAt.l0]) ?_
    exact evNeg (by omega) (Ev.now _)
  | succ c ih =>
    intro r i m hr hm h0 hi
    refine Ev.step (fun k => by rw [impl_swapperAt.l0]) ?_
    rw [stepS_sq n r hn (by omega)]
    refine evPos (by omega) (evSome ?_)
    dsimp only
    rw [wr (by omega) (by omega), show r + (c + 1) = r + 1 + c from by omega]
    exact ih (r + 1) (i + 1) m (by omega) hm (by omega) (by omega)
theorem swapperAt_ev (n : Nat) (h1 : 1 ≤ n) (hn : n ≤ 7) (m : Nat) (hm : m < fac n) (hb : m ≤ 10000) : Ev (fun k => impl_swapperAt.f k (n : Int) (m : Int)) (bs (cn n), (st (cn n) m).d, (st (cn n) m).u, (st (cn n) m).p, it n m, wh n m) := by
  unfold impl_swapperAt.f
  have h := swapperAt_l0 n hn m 0 0 (m : Int) (by omega) (by omega) (by omega) (by omega)
  have h0 : it n 0 = upTo n := trot_zero n
  have h2 : wh n 0 = upTo n := by unfold wh; rw [h0, invL_upTo]
  rw [h0, h2, Nat.zero_add] at h
  exact Ev.bind (startSwapper_ev n h1 hn) h
/-! laws_eqIntS -/
theorem eqIntS_l0 (a b : List Int) (hn : a.length ≤ 35184372088832) (hb : a.length = b.length) : ∀ (d : Nat) (j : Int), 0 ≤ j → j.toNat + d = a.length →
    Ev (fun k => laws_eqIntS.l0 k a b j) (decide (a.drop j.toNat = b.drop j.toNat)) := by
  intro d
  induction d with
  | zero =>
    intro j h0 hd
    refine Ev.step (fun k => by rw [laws_eqIntS.l0]) ?_
    refine evNeg (by omega) ?_
    rw [drop_end a j (by omega), drop_end b j (by omega)]
    exact evEq rfl
  | succ d ih =>
    intro j h0 hd
    refine Ev.step (fun k => by rw [laws_eqIntS.l0]) ?_
    refine evPos (by omega) (evPos (by omega) (evPos (by omega) ?_))
    rw [wr (by omega) (by omega), drop_rd a j h0 (by omega), drop_rd b j h0 (by omega)]
    by_cases c : rd a j = rd b j
    · refine evPos c (evTo (ih _ (by omega) (by omega)) ?_)
      simp [c]
    · refine evNeg c (evEq ?_)
      simp [c]
theorem eqIntS_ev (a b : List Int) (hn : a.length ≤ 35184372088832) : Ev (fun k => laws_eqIntS.f k a b) (decide (a = b)) := by
  unfold laws_eqIntS.f
  by_cases hb : a.length = b.length
  · exact evPos (by omega) (eqIntS_l0 a b hn hb a.length 0 (by omega) (by simp))
  · refine evNeg (by omega) (evEq ?_)
    exact (decide_eq_false (fun e => hb (by rw [e]))).symm
theorem eqIntS_self (a : List Int) (hn : a.length ≤ 35184372088832) : Ev (fun k => laws_eqIntS.f k a a) true := evTo (eqIntS_ev a a hn) (by simp)
/-! laws_eqBoolS -/
theorem eqBoolS_l0 (a : List Bool) (hn : a.length ≤ 35184372088832) : ∀ (d : Nat) (j : Int), 0 ≤ j → j.toNat + d = a.length → Ev (fun k => laws_eqBoolS.l0 k a a j) true := by
  intro d
  induction d with
  | zero =>
    intro j h0 hd
    refine Ev.step (fun k => by rw [laws_eqBoolS.l0]) ?_
    exact evNeg (by omega) (evEq rfl)
  | succ d ih =>
    intro j h0 hd
    refine Ev.step (fun k => by rw [laws_eqBoolS.l0]) ?_
    refine evPos (by omega) (evPos (by omega) (evPos (by omega) (evNeg (by simp) ?_)))
    rw [wr (by omega) (by omega)]
    exact ih _ (by omega) (by omega)
theorem eqBoolS_self (a : List Bool) (hn : a.length ≤ 35184372088832) : Ev (fun k => laws_eqBoolS.f k a a) true := by
  unfold laws_eqBoolS.f
  exact evPos rfl (eqBoolS_l0 a hn a.length 0 (by omega) (by simp))
/-! laws_eqFocus -/
theorem eqFocus_self (a b d : List Int) (c : List Bool) (ha : a.length ≤ 2000000) (hb : b.length ≤ 2000000) (hc : c.length ≤ 2000000) (hd : d.length ≤ 2000000) : Ev (fun k => laws_eqFocus.f k a b c d a b c d) true := by
  unfold laws_eqFocus.f
  exact Ev.bind (eqIntS_self a (by omega)) (evPos rfl (Ev.bind (eqIntS_self b (by omega)) (evPos rfl (Ev.bind (eqBoolS_self c (by omega)) (evPos rfl (Ev.bind (eqIntS_self d (by omega)) (evPos rfl (Ev.now _))))))))
/-! laws_eqSwapper -/
theorem eqSwapper_self (a b d : List Int) (c : List Bool) (e f : List Int) (ha : a.length ≤ 2000000) (hb : b.length ≤ 2000000) (hc : c.length ≤ 2000000) (hd : d.length ≤ 2000000) (he : e.length ≤ 2000000) (hf : f.length ≤ 2000000) : Ev (fun k => laws_eqSwapper.f k a b c d e f a b c d e f) true := by
  unfold laws_eqSwapper.f
  exact Ev.bind (eqFocus_self a b d c ha hb hc hd) (evPos rfl (Ev.bind (eqIntS_self e (by omega)) (evPos rfl (Ev.bind (eqIntS_self f (by omega)) (evPos rfl (Ev.now _))))))
/-! laws_markIntS -/
theorem markIntS_l0 : ∀ (d : Nat) (xs : List Int) (m j : Int), 0 ≤ j → j.toNat + d = xs.length → xs.length ≤ 35184372088832 → 0 ≤ m → m + d ≤ 70368744177664 →
    Ev (fun k => laws_markIntS.l0 k xs m j) (m + d, xs.take j.toNat ++ iotaI m d) := by
  intro d
  induction d with
  | zero =>
    intro xs m j h0 hd hn hm hk
    refine Ev.step (fun k => by rw [laws_markIntS.l0]) ?_
    refine evNeg (by omega) (evEq ?_)
    rw [take_end xs j (by omega)]
    simp [iotaI]
  | succ d ih =>
    intro xs m j h0 hd hn hm hk
    refine Ev.step (fun k => by rw [laws_markIntS.l0]) ?_
    refine evPos (by omega) (evPos (by omega) ?_)
    rw [wr (by omega) (by omega), wr (by omega) (by omega)]
    refine evTo (ih (xs.set j.toNat m) (m + 1) (j + 1) (by omega) (by simp; omega) (by simpa using hn) (by omega) (by omega)) ?_
    rw [set_takeI xs j m h0 (by omega)]
    simp [iotaI]
    omega
theorem markIntS_ev (xs : List Int) (m : Int) (hn : xs.length ≤ 35184372088832) (hm : 0 ≤ m) (hk : m + xs.length ≤ 70368744177664) :
    Ev (fun k => laws_markIntS.f k xs m) (m + xs.length, iotaI m xs.length) := by
  unfold laws_markIntS.f
  refine evTo (markIntS_l0 xs.length xs m 0 (by omega) (by simp) hn hm hk) (by simp)
/-! laws_markBoolS -/
theorem markBoolS_l0 : ∀ (d : Nat) (xs : List Bool) (m j : Int), 0 ≤ j → j.toNat + d = xs.length → xs.length ≤ 35184372088832 → 0 ≤ m → m + d ≤ 70368744177664 →
    Ev (fun k => laws_markBoolS.l0 k xs m j) (m + d, xs.take j.toNat ++ bM m d) := by
  intro d
  induction d with
  | zero =>
    intro xs m j h0 hd hn hm hk
    refine Ev.step (fun k => by rw [laws_markBoolS.l0]) ?_
    refine evNeg (by omega) (evEq ?_)
    rw [take_end xs j (by omega)]
    simp [bM]
  | succ d ih =>
    intro xs m j h0 hd hn hm hk
    refine Ev.step (fun k => by rw [laws_markBoolS.l0]) ?_
    refine evPos (by omega) (evPos (by omega) ?_)
    rw [wr (by omega) (by omega), wr (by omega) (by omega)]
    refine evTo (ih (xs.set j.toNat (Int.tmod m 3 == 0)) (m + 1) (j + 1) (by omega) (by simp; omega) (by simpa using hn) (by omega) (by omega)) ?_
    rw [set_takeB xs j _ h0 (by omega)]
    simp [bM]
    omega
theorem markBoolS_ev (xs : List Bool) (m : Int) (hn : xs.length ≤ 35184372088832) (hm : 0 ≤ m) (hk : m + xs.length ≤ 70368744177664) :
    Ev (fun k => laws_markBoolS.f k xs m) (m + xs.length, bM m xs.length) := by
  unfold laws_markBoolS.f
  refine evTo (markBoolS_l0 xs.length xs m 0 (by omega) (by simp) hn hm hk) (by simp)
/-! laws_markFocus -/
theorem markFocus_ev (a b d : List Int) (c : List Bool) (ha : a.length ≤ 2000000) (hb : b.length ≤ 2000000) (hc : c.length ≤ 2000000) (hd : d.length ≤ 2000000) :
    Ev (fun k => laws_markFocus.f k a b c d 1) (1 + a.length + b.length + c.length + d.length, iotaI 1 a.length, iotaI (1 + a.length) b.length, bM (1 + a.length + b.length) c.length, iotaI (1 + a.length + b.length + c.length) d.length) := by
  unfold laws_markFocus.f
  exact Ev.bind (markIntS_ev a 1 (by omega) (by omega) (by omega)) (Ev.bind (markIntS_ev b (1 + a.length) (by omega) (by omega) (by omega)) (Ev.bind (markBoolS_ev c (1 + a.length + b.length) (by omega) (by omega) (by omega)) (Ev.bind (markIntS_ev d (1 + a.length + b.length + c.length) (by omega) (by omega) (by omega)) (Ev.now _))))
/-! laws_markSwapper -/
theorem markSwapper_ev (a b d : List Int) (c : List Bool) (e f : List Int) (ha : a.length ≤ 2000000) (hb : b.length ≤ 2000000) (hc : c.length ≤ 2000000) (hd : d.length ≤ 2000000) (he : e.length ≤ 2000000) (hf : f.length ≤ 2000000) :
    Ev (fun k => laws_markSwapper.f k a b c d e f 1) (1 + a.length + b.length + c.length + d.length + e.length + f.length, iotaI 1 a.length, iotaI (1 + a.length) b.length, bM (1 + a.length + b.length) c.length, iotaI (1 + a.length + b.length + c.length) d.length, iotaI (1 + a.length + b.length + c.length + d.length) e.length, iotaI (1 + a.length + b.length + c.length + d.length + e.length) f.length) := by
  unfold laws_markSwapper.f
  exact Ev.bind (markFocus_ev a b d c ha hb hc hd) (Ev.bind (markIntS_ev e (1 + a.length + b.length + c.length + d.length) (by omega) (by omega) (by omega)) (Ev.bind (markIntS_ev f (1 + a.length + b.length + c.length + d.length + e.length) (by omega) (by omega) (by omega)) (Ev.now _)))
/-! laws_heldIntS -/
theorem heldIntS_l0 (xs : List Int) (hn : xs.length ≤ 35184372088832) : ∀ (d : Nat) (m j : Int), 0 ≤ j → j.toNat + d = xs.length → 0 ≤ m → m + d ≤ 70368744177664 → (∀ i : Int, j ≤ i → i < xs.length → rd xs i = m + (i - j)) →
    Ev (fun k => laws_heldIntS.l0 k xs m j) (m + d) := by
  intro d
  induction d with
  | zero =>
    intro m j h0 hd hm hk h
    refine Ev.step (fun k => by rw [laws_heldIntS.l0]) ?_
    exact evNeg (by omega) (evEq (by simp))
  | succ d ih =>
    intro m j h0 hd hm hk h
    refine Ev.step (fun k => by rw [laws_heldIntS.l0]) ?_
    have hr := h j (by omega) (by omega)
    refine evPos (by omega) (evPos (by omega) (evPos (by omega) ?_))
    rw [wr (by omega) (by omega), wr (by omega) (by omega)]
    refine evTo (ih (m + 1) (j + 1) (by omega) (by omega) (by omega) (by omega) (fun i h1 h2 => ?_)) (by omega)
    rw [h i (by omega) h2]; omega
theorem heldIntS_ev (n : Nat) (m : Int) (hn : n ≤ 35184372088832) (hm : 0 ≤ m) (hk : m + n ≤ 70368744177664) :
    Ev (fun k => laws_heldIntS.f k (iotaI m n) m) (m + n) := by
  unfold laws_heldIntS.f
  have hl := iotaI_length m n
  refine heldIntS_l0 (iotaI m n) (by omega) n m 0 (by omega) (by omega) hm hk (fun i h1 h2 => ?_)
  rw [iotaI_rd n m i h1 (by omega)]; omega
/-! laws_heldBoolS -/
theorem heldBoolS_l0 (xs : List Bool) (hn : xs.length ≤ 35184372088832) : ∀ (d : Nat) (m j : Int), 0 ≤ j → j.toNat + d = xs.length → 0 ≤ m → m + d ≤ 70368744177664 → xs.drop j.toNat = bM m d →
    Ev (fun k => laws_heldBoolS.l0 k xs m j) (m + d) := by
  intro d
  induction d with
  | zero =>
    intro m j h0 hd hm hk h
    refine Ev.step (fun k => by rw [laws_heldBoolS.l0]) ?_
    exact evNeg (by omega) (evEq (by simp))
  | succ d ih =>
    intro m j h0 hd hm hk h
    refine Ev.step (fun k => by rw [laws_heldBoolS.l0]) ?_
    rw [dropD false xs j h0 (by omega), bM, List.cons.injEq] at h
    refine evPos (by omega) (evPos (by omega) (evNeg ?_ ?_))
    · rw [show rdOf false xs j = (Int.tmod m 3 == 0) from h.1]; simp
    rw [wr (by omega) (by omega), wr (by omega) (by omega)]
    exact evTo (ih (m + 1) (j + 1) (by omega) (by omega) (by omega) (by omega) h.2) (by omega)
theorem heldBoolS_ev (n : Nat) (m : Int) (hn : n ≤ 35184372088832) (hm : 0 ≤ m) (hk : m + n ≤ 70368744177664) :
    Ev (fun k => laws_heldBoolS.f k (bM m n) m) (m + n) := by
  unfold laws_heldBoolS.f
  have hl := bM_length n m
  exact heldBoolS_l0 (bM m n) (by omega) n m 0 (by omega) (by omega) hm hk rfl
/-! laws_heldFocus -/
theorem heldFocus_ev (na nb nc nd : Nat) (ha : na ≤ 2000000) (hb : nb ≤ 2000000) (hc : nc ≤ 2000000) (hd : nd ≤ 2000000) :
    Ev (fun k => laws_heldFocus.f k (iotaI 1 na) (iotaI (1 + na) nb) (bM (1 + na + nb) nc) (iotaI (1 + na + nb + nc) nd) 1) (1 + na + nb + nc + nd) := by
  unfold laws_heldFocus.f
  exact Ev.bind (heldIntS_ev na 1 (by omega) (by omega) (by omega)) (evNeg (by omega) (Ev.bind (heldIntS_ev nb (1 + na) (by omega) (by omega) (by omega)) (evNeg (by omega) (Ev.bind (heldBoolS_ev nc (1 + na + nb) (by omega) (by omega) (by omega)) (evNeg (by omega) (Ev.bind (heldIntS_ev nd (1 + na + nb + nc) (by omega) (by omega) (by omega)) (evNeg (by omega) (Ev.now _))))))))
/-! laws_heldSwapper -/
theorem heldSwapper_ev (na nb nc nd ne nf : Nat) (ha : na ≤ 2000000) (hb : nb ≤ 2000000) (hc : nc ≤ 2000000) (hd : nd ≤ 2000000) (he : ne ≤ 2000000) (hf : nf ≤ 2000000) :
    Ev (fun k => laws_heldSwapper.f k (iotaI 1 na) (iotaI (1 + na) nb) (bM (1 + na + nb) nc) (iotaI (1 + na + nb + nc) nd) (iotaI (1 + na + nb + nc + nd) ne) (iotaI (1 + na + nb + nc + nd + ne) nf) 1) (1 + na + nb + nc + nd + ne + nf) := by
  unfold laws_heldSwapper.f
  exact Ev.bind (heldFocus_ev na nb nc nd ha hb hc hd) (evNeg (by omega) (Ev.bind (heldIntS_ev ne (1 + na + nb + nc + nd) (by omega) (by omega) (by omega)) (evNeg (by omega) (Ev.bind (heldIntS_ev nf (1 + na + nb + nc + nd + ne) (by omega) (by omega) (by omega)) (evNeg (by omega) (Ev.now _))))))
-- NOLIB Comb
theorem FnExactSwapperAt (x m : Int) (wx : (Lit.int .i64 x).wf = true) (wm : (Lit.int .i64 m).wf = true) : ∃ q, laws_FnExactSwapperAt.Fine q x m := by
  have key : ∃ (a b d : List Int) (c : List Bool) (e f : List Int) (o : Bool), a.length ≤ 2000000 ∧ b.length ≤ 2000000 ∧ c.length ≤ 2000000 ∧ d.length ≤ 2000000 ∧ e.length ≤ 2000000 ∧ f.length ≤ 2000000 ∧ Ev (fun q => spec_SwapperAt.f q x m) (a, b, c, d, e, f, o) ∧ Ev (fun q => impl_SwapperAt.f q x m) (a, b, c, d, e, f, o) := by
    unfold spec_SwapperAt.f impl_SwapperAt.f spec_foSize.f impl_isSwapperSize.f
    simp only [l1In_eq, within_eq, Option.bind_some]
    by_cases c : 1 ≤ x ∧ x ≤ 7
    rotate_left
    · exact ⟨[], [], [], [], [], [], false, by simp, by simp, by simp, by simp, by simp, by simp, evNeg (by simpa using c) (Ev.now _), evNeg (by simpa using c) (Ev.now _)⟩
    obtain ⟨n, rfl⟩ := Int.eq_ofNat_of_zero_le (show 0 ≤ x by omega)
    have hn : n ≤ 7 := by omega
    have hp := fac_pos n
    have hp2 : fac n ≤ 5040 := Nat.le_trans (fac_mono hn) (by decide +kernel)
    have f1 := raFactorial_ev n (by omega)
    have f2 := factorial_ev n (by omega)
    by_cases cm : 0 ≤ m ∧ m ≤ (fac n : Int) - 1
    rotate_left
    · exact ⟨[], [], [], [], [], [], false, by simp, by simp, by simp, by simp, by simp, by simp, evPos (by simpa using c) (Ev.bind f1 (evNeg (by rw [wr (by omega) (by omega)]; simpa using cm) (Ev.now _))), evPos (by simpa using c) (Ev.bind f2 (evNeg (by rw [wr (by omega) (by omega)]; simpa using cm) (Ev.now _)))⟩
    obtain ⟨q, rfl⟩ := Int.eq_ofNat_of_zero_le cm.1
    have l3 := st_lens (cn n) q
    have lc := cn_length n
    refine ⟨_, _, _, _, _, _, true, ?_, ?_, ?_, ?_, ?_, ?_, evPos (by simpa using c) (Ev.bind f1 (evPos (by rw [wr (by omega) (by omega)]; simpa using cm) (Ev.bind (foSwapperAt_ev n (by omega) hn q (by omega) (by omega)) (Ev.now _)))), evPos (by simpa using c) (Ev.bind f2 (evPos (by rw [wr (by omega) (by omega)]; simpa using cm) (Ev.bind (swapperAt_ev n (by omega) hn q (by omega) (by omega)) (Ev.now _))))⟩
    · show (bs (cn n)).length ≤ _; rw [bs_length]; omega
    · show (st (cn n) q).d.length ≤ _; omega
    · show (st (cn n) q).u.length ≤ _; omega
    · show (st (cn n) q).p.length ≤ _; omega
    · show (it n q).length ≤ _; rw [it_length]; omega
    · show (wh n q).length ≤ _; rw [wh_length]; omega
  obtain ⟨a, b, d, c, e, f, o, ha, hb, hc, hd, he, hf, ⟨K1, hs⟩, ⟨K2, hi⟩⟩ := key
  obtain ⟨K3, hq⟩ := eqSwapper_self a b d c e f ha hb hc hd he hf
  obtain ⟨K4, hm⟩ := markSwapper_ev a b d c e f ha hb hc hd he hf
  obtain ⟨K5, hh⟩ := heldSwapper_ev a.length b.length c.length d.length e.length f.length ha hb hc hd he hf
  exact ⟨K1 + K2 + K3 + K4 + K5, a, b, c, d, e, f, _, _, _, _, _, _, o, _, hs _ (by omega), hi _ (by omega), hq _ (by omega), hm _ (by omega), hh _ (by omega), by omega⟩

end Go.Proofs.Ytpfakdhfffehaaa.Pure
