import Derived.Test.YtedijkelbdpcdaaMFnExactRunSwapperx1
import Derived.Test.YtedijkelbdpcdaaMFnExactRunSwapperx2
import Derived.Test.YtedijkelbdpcdaaMFnExactRunSwapperx3
import Derived.Test.YtedijkelbdpcdaaMFnExactRunSwapperx4
import Derived.Test.YtedijkelbdpcdaaMFnExactRunSwapperx5
import Derived.Test.YtedijkelbdpcdaaMFnExactRunSwapperx6
import Derived.Test.YtedijkelbdpcdaaMFnExactRunSwapperx7
import Derived.Test.YtedijkelbdpcdaaMFnExactRunSwapperx8
import Derived.Test.YtedijkelbdpcdaaMFnExactRunSwapperx9
import Derived.Test.YtedijkelbdpcdaaMFnExactRunSwapperx10
import Derived.Test.YtedijkelbdpcdaaMFnExactRunSwapperx11
import Derived.Test.YtedijkelbdpcdaaMFnExactRunSwapperx12
import Derived.Test.YtedijkelbdpcdaaMFnExactRunSwapperx13
import Derived.Test.YtedijkelbdpcdaaMFnExactRunSwapperx14
import Derived.Test.YtedijkelbdpcdaaBase
import Derived.Test.YtedijkelbdpcdaaTrot
import Derived.Test.YtedijkelbdpcdaaMoves
import Derived.Test.YtedijkelbdpcdaaFoc
import Derived.Test.YtedijkelbdpcdaaFocB
import Derived.Test.YtedijkelbdpcdaaFocR
import Derived.Test.YtedijkelbdpcdaaSwp
import Derived.Test.YtedijkelbdpcdaaSwpS
namespace Go.Proofs.Ytedijkelbdpcdaa.Pure
open Go.RowKit Go.Proofs.Ytedijkelbdpcdaa.MFnExactRunSwapper Go.Proofs.YtedijkelbdpcdaaW.PrintWords Go.Proofs.YtedijkelbdpcdaaW.PrintLast Go.Proofs.Ytedijkelbdpcdaa.Base Go.Proofs.Ytedijkelbdpcdaa.Trot Go.Proofs.Ytedijkelbdpcdaa.Moves Go.Proofs.Ytedijkelbdpcdaa.Foc Go.Proofs.Ytedijkelbdpcdaa.FocB Go.Proofs.Ytedijkelbdpcdaa.FocR Go.Proofs.Ytedijkelbdpcdaa.Swp Go.Proofs.Ytedijkelbdpcdaa.SwpS
set_option linter.unusedVariables false
set_option linter.unusedSimpArgs false
theorem l1In_eq (x a b : Int) : spec_l1In.f x a b = some (decide (a ≤ x ∧ x ≤ b)) := by
  unfold spec_l1In.f
  by_cases h : x ≥ a
  · rw [if_pos h]; have h' : a ≤ x := h; simp [h']
  · rw [if_neg h]; have h' : ¬ a ≤ x := h; simp [h']
theorem raUpTo_l0 (n : Nat) (hn : n ≤ 1000000000) : ∀ (d : Nat) (j : Int), 0 ≤ j → j.toNat + d = n → Ev (fun k => spec_raUpTo.l0 k (n : Int) (upTo j.toNat) j) (upTo n) := by
  intro d
  induction d with
  | zero =>
    intro j h0 hd
    refine Ev.step (fun k => by rw [spec_raUpTo.l0]) ?_
    exact evNeg (by omega) (evEq (by rw [show j.toNat = n from by omega]))
  | succ d ih =>
    intro j h0 hd
    refine Ev.step (fun k => by rw [spec_raUpTo.l0]) ?_
    refine evPos (by omega) (evPos (by rw [upTo_length]; omega) ?_)
    have h := ih (j + 1) (by omega) (by omega)
    rw [show (j + 1).toNat = j.toNat + 1 from by omega, upTo_succ, Int.toNat_of_nonneg h0] at h
    rw [wr (by omega) (by omega)]
    exact h
theorem raUpTo_ev (n : Nat) (hn : n ≤ 1000000000) : Ev (fun k => spec_raUpTo.f k (n : Int)) (upTo n) := by
  unfold spec_raUpTo.f
  exact raUpTo_l0 n hn n 0 (by omega) (by simp)
theorem l1Own_eq (l : List Int) (hn : l.length ≤ 10000000000000) : spec_l1Own.f l = some l := by
  unfold spec_l1Own.f
  simp only [Option.bind_some, List.nil_append, List.length_nil, Nat.zero_add]
  rw [if_pos (by omega)]
theorem foStart_l0 (n : Nat) (hn : n ≤ 1000000) (a b c : List Int) : ∀ (d : Nat) (j : Int), 0 ≤ j → j.toNat + d = n → Ev (fun k => spec_foStart.l0 k (n : Int) j a b (List.replicate j.toNat true) c) (a, b, List.replicate n true, c) := by
  intro d
  induction d with
  | zero =>
    intro j h0 hd
    refine Ev.step (fun k => by rw [spec_foStart.l0]) ?_
    exact evNeg (by omega) (evEq (by rw [show j.toNat = n from by omega]))
  | succ d ih =>
    intro j h0 hd
    refine Ev.step (fun k => by rw [spec_foStart.l0]) ?_
    refine evPos (by omega) (evPos (by rw [List.length_replicate]; omega) ?_)
    rw [wr (by omega) (by omega), rep_snoc j h0]
    exact ih (j + 1) (by omega) (by omega)
theorem foStart_ev (l : List Int) (hn : l.length ≤ 1000) : Ev (fun k => spec_foStart.f k l) (stF l) := by
  unfold spec_foStart.f stF
  rw [l1Own_eq l (by omega)]
  refine evSome (evPos (by omega) (evPos (by omega) ?_))
  rw [wr (by omega) (by omega), show (l.length : Int) + 1 = ((l.length + 1 : Nat) : Int) from by omega, Int.toNat_natCast]
  refine Ev.bind (raUpTo_ev (l.length + 1) (by omega)) ?_
  exact foStart_l0 l.length (by omega) _ _ _ l.length 0 (by omega) (by simp)
theorem foSwapper_l0 (n : Nat) (hn : n ≤ 7) : ∀ (d j : Nat), 1 ≤ j → j + d = n →
    Ev (fun k => spec_foSwapper.l0 k (n : Int) (bs (cn j)) ((j : Int) + 1)) (bs (cn n), (st (cn n) 0).d, (st (cn n) 0).u, (st (cn n) 0).p, upTo n, upTo n) := by
  intro d
  induction d with
  | zero =>
    intro j h1 hd
    obtain rfl : j = n := by omega
    refine Ev.step (fun k => by rw [spec_foSwapper.l0]) ?_
    refine evNeg (by omega) ?_
    have hs := foStart_ev (bs (cn j)) (by rw [bs_length, cn_length]; omega)
    rw [stF_st _ (cn_ok j hn)] at hs
    exact Ev.bind hs (Ev.bind (raUpTo_ev j (by omega)) (Ev.bind (raUpTo_ev j (by omega)) (Ev.now _)))
  | succ d ih =>
    intro j h1 hd
    refine Ev.step (fun k => by rw [spec_foSwapper.l0]) ?_
    refine evPos (by omega) (evPos (by rw [bs_length, cn_length]; omega) ?_)
    rw [wr (by omega) (by omega), bs_cn j h1]
    exact ih (j + 1) (by omega) (by omega)
theorem foSwapper_ev (n : Nat) (h1 : 1 ≤ n) (hn : n ≤ 7) : Ev (fun k => spec_foSwapper.f k (n : Int)) (bs (cn n), (st (cn n) 0).d, (st (cn n) 0).u, (st (cn n) 0).p, upTo n, upTo n) := by
  unfold spec_foSwapper.f
  exact foSwapper_l0 n hn (n - 1) 1 (by omega) (by omega)
theorem foStep_go (cs : List Nat) (h : Ok cs) (r : Nat) (hf : fa cs r < cs.length) : spec_foStep.f (bs cs) (st cs r).d (st cs r).u (st cs r).p = some (bs cs, (st cs (r + 1)).d, (st cs (r + 1)).u, (st cs (r + 1)).p, (cs.length : Int) - 1 - ((fa cs r : Nat) : Int)) := by
  unfold spec_foStep.f
  have hl := (st_lens cs r).2.2
  have hj : rd (st cs r).p 0 = ((fa cs r : Nat) : Int) := st_head cs r
  rw [if_pos (by omega), hj, bs_length, if_neg (by omega), stepF_st cs h r hf]
  rfl
theorem foStep_end (cs : List Nat) (r : Nat) (hf : fa cs r = cs.length) : spec_foStep.f (bs cs) (st cs r).d (st cs r).u (st cs r).p = some ([], [], [], [], -1) := by
  unfold spec_foStep.f
  have hl := (st_lens cs r).2.2
  have hj : rd (st cs r).p 0 = ((fa cs r : Nat) : Int) := st_head cs r
  rw [if_pos (by omega), hj, bs_length, if_pos (by omega)]
theorem moApply_l0 (l : List Int) (hl : l.length ≤ 1000) (b : Int) (hb : b ≤ l.length) (a c : Int) : ∀ (d : Nat) (x5 : List Int) (i : Int), 0 ≤ i → i + d = b → x5.length = l.length → x5.take i.toNat = (l.take b.toNat).reverse.take i.toNat → x5.drop i.toNat = l.drop i.toNat →
    Ev (fun k => spec_moApply.l0 k l x5 i a b c) ((l.take b.toNat).reverse ++ l.drop b.toNat) := by
  intro d
  induction d with
  | zero =>
    intro x5 i h0 hi h5 ht hd
    refine Ev.step (fun k => by rw [spec_moApply.l0]) ?_
    refine evNeg (by omega) (evEq ?_)
    obtain rfl : i = b := by omega
    rw [← List.take_append_drop i.toNat x5, ht, hd, List.take_of_length_le (by rw [List.length_reverse, List.length_take]; omega)]
  | succ d ih =>
    intro x5 i h0 hi h5 ht hd
    refine Ev.step (fun k => by rw [spec_moApply.l0]) ?_
    simp (disch := omega) only [wr]
    refine evPos (by omega) (evPos (by omega) (evPos (by omega) (evPos (by omega) (evPos (by omega) ?_))))
    refine ih _ (i + 1) (by omega) (by omega) (by simpa using h5) ?_ ?_
    · rw [set_takeI _ _ _ h0 (by omega), ht, show (i + 1).toNat = i.toNat + 1 by omega, List.take_add_one, List.getElem?_reverse (by rw [List.length_take]; omega), List.length_take, show min b.toNat l.length - 1 - i.toNat = (b - 1 - i).toNat by omega, List.getElem?_take, if_pos (by omega)]
      unfold rd
      rw [List.getD_eq_getElem?_getD, List.getElem?_eq_getElem (show (b - 1 - i).toNat < l.length by omega)]
      rfl
    · rw [show (i + 1).toNat = i.toNat + 1 by omega, List.drop_set_of_lt (by omega), ← List.drop_drop, ← List.drop_drop, hd]
theorem moApply_l1 (l : List Int) (hl : l.length ≤ 1000) (b : Int) (hb0 : 1 ≤ b) (hb : b ≤ l.length) (a c : Int) : ∀ (d : Nat) (x5 : List Int) (i : Int), 0 ≤ i → i + d = b → x5.length = l.length → x5.take i.toNat = ((l.take b.toNat).drop 1 ++ (l.take b.toNat).take 1).take i.toNat → x5.drop i.toNat = l.drop i.toNat →
    Ev (fun k => spec_moApply.l1 k l x5 i a b c) ((l.take b.toNat).drop 1 ++ (l.take b.toNat).take 1 ++ l.drop b.toNat) := by
  intro d
  have hlen : ((l.take b.toNat).drop 1 ++ (l.take b.toNat).take 1).length = b.toNat := by
    simp; omega
  induction d with
  | zero =>
    intro x5 i h0 hi h5 ht hd
    refine Ev.step (fun k => by rw [spec_moApply.l1]) ?_
    refine evNeg (by omega) (evEq ?_)
    obtain rfl : i = b := by omega
    rw [← List.take_append_drop i.toNat x5, ht, hd, List.take_of_length_le (by omega)]
  | succ d ih =>
    intro x5 i h0 hi h5 ht hd
    refine Ev.step (fun k => by rw [spec_moApply.l1]) ?_
    simp (disch := omega) only [wr]
    rw [Int.tmod_eq_emod_of_nonneg (by omega)]
    have hm : (i + 1) % b = if i + 1 < b then i + 1 else 0 := by
      split
      · exact Int.emod_eq_of_lt (by omega) (by omega)
      · rw [show i + 1 = b by omega, Int.emod_self]
    rw [hm]
    refine evPos (by omega) (evNeg (by omega) (evPos (by split <;> omega) (evPos (by split <;> omega) (evPos (by omega) (evPos (by omega) ?_)))))
    refine ih _ (i + 1) (by omega) (by omega) (by simpa using h5) ?_ ?_
    · rw [set_takeI _ _ _ h0 (by omega), ht, show (i + 1).toNat = i.toNat + 1 by omega, List.take_add_one (l := _ ++ _)]
      congr 1
      unfold rd
      by_cases c : i + 1 < b
      · rw [if_pos c, List.getElem?_append_left (by simp; omega), List.getElem?_drop, List.getElem?_take, if_pos (by omega), show 1 + i.toNat = (i + 1).toNat by omega, List.getD_eq_getElem?_getD, List.getElem?_eq_getElem (by omega)]
        rfl
      · rw [if_neg c, List.getElem?_append_right (by simp; omega)]
        have e : i.toNat - ((l.take b.toNat).drop 1).length = 0 := by simp; omega
        rw [e, List.getElem?_take, if_pos (by omega), List.getElem?_take, if_pos (by omega), List.getD_eq_getElem?_getD, show (0 : Int).toNat = 0 from rfl, List.getElem?_eq_getElem (show 0 < l.length by omega)]
        rfl
    · rw [show (i + 1).toNat = i.toNat + 1 by omega, List.drop_set_of_lt (by omega), ← List.drop_drop, ← List.drop_drop, hd]
theorem moApply_ev (l : List Int) (hl : l.length ≤ 1000) (a b c : Int) (hg : Mgood l.length a b c) : Ev (fun q => spec_moApply.f q l a b c) (mv l a b c) := by
  unfold spec_moApply.f
  rw [l1Own_eq l (by omega)]
  refine evSome ?_
  rcases hg with ⟨rfl, h1, h2, h3⟩ | ⟨rfl, h1, h2, rfl⟩ | ⟨rfl, h1, h2, rfl⟩
  · exact evPos rfl (evPos (by omega) (evPos (by omega) (evPos (by omega) (evPos (by omega) (evPos (by omega) (evPos (by omega) (evEq rfl)))))))
  · refine evNeg (by decide) (evPos rfl ?_)
    refine evTo (moApply_l0 l hl b h2 1 0 b.toNat l 0 (by omega) (by omega) rfl (by simp) (by simp)) (by simp [mv])
  · refine evNeg (by decide) (evNeg (by decide) ?_)
    refine evTo (moApply_l1 l hl b (by omega) h2 2 0 b.toNat l 0 (by omega) (by omega) rfl (by simp) (by simp)) (by simp [mv])
theorem raInverse_l0 (l : List Int) (hn : l.length ≤ 1000) (hp : l.Perm (upTo l.length)) (hI : ∀ q : Nat, q < l.length → 0 ≤ rd l q ∧ rd l q < l.length) : ∀ (d : Nat) (j : Nat) (x : List Int), x.length = l.length → j + d = l.length → (∀ q : Nat, q < j → rd x (rd l q) = q) →
    Ev (fun k => spec_raInverse.l0 k x l (l.length : Int) (j : Int)) (invL l) := by
  have hnd : l.Nodup := hp.nodup_iff.2 (nodup_upTo _)
  intro d
  induction d with
  | zero =>
    intro j x hx hj hq
    refine Ev.step (fun k => by rw [spec_raInverse.l0]) ?_
    exact evNeg (by omega) (evEq (isI_invL hp ⟨hx, fun q h => ⟨(hI q h).1, (hI q h).2, hq q (by omega)⟩⟩))
  | succ d ih =>
    intro j x hx hj hq
    have hj' : j < l.length := by omega
    obtain ⟨i1, i2⟩ := hI j hj'
    refine Ev.step (fun k => by rw [spec_raInverse.l0]) ?_
    refine evPos (by omega) (evPos (by omega) (evPos (by omega) (evPos i1 (evPos (by omega) ?_))))
    rw [wr (by omega) (by omega), show (j : Int) + 1 = ((j + 1 : Nat) : Int) from by omega]
    refine ih (j + 1) _ (by rw [List.length_set]; exact hx) (by omega) (fun q h => ?_)
    by_cases e : q = j
    · rw [e, rd_set_eq _ _ _ (by omega)]
    · have i3 := hI q (by omega)
      rw [rd_set_ne _ _ _ _ (fun h_ => e (rd_inj hnd (by omega) hj' (by omega)))]
      exact hq q (by omega)
theorem raInverse_ev (l : List Int) (hn : l.length ≤ 1000) (hp : l.Perm (upTo l.length)) : Ev (fun k => spec_raInverse.f k l) (invL l) := by
  unfold spec_raInverse.f
  refine evPos (by omega) (evPos (by omega) ?_)
  refine raInverse_l0 l hn hp (fun q h => ?_) l.length 0 _ (by simp) (by omega) (fun q h => by omega)
  have hm : rd l q ∈ l := by rw [rd_get l q (by omega)]; exact List.getElem_mem _
  exact mem_upTo.1 (hp.mem_iff.1 hm)
theorem st_dig (cs : List Nat) (r : Nat) (h : Ok cs) (hf : fa cs r < cs.length) : decide (rd (st cs (r + 1)).d ((cs.length : Int) - 1 - (fa cs r : Int)) > rd (st cs r).d ((cs.length : Int) - 1 - (fa cs r : Int))) = rdOf false (st cs r).u ((cs.length : Int) - 1 - (fa cs r : Int)) := by
  have l3 := st_lens cs r
  have lb := bs_length cs
  have e := st_step cs r h.rad hf
  have hi : ((cs.length : Int) - 1 - (fa cs r : Int)).toNat = cs.length - 1 - fa cs r := by omega
  have ed : (Foc.step (bs cs) (st cs r) (fa cs r)).d = (st cs r).d.set ((bs cs).length - 1 - fa cs r) (if (st cs r).u.getD ((bs cs).length - 1 - fa cs r) false then (st cs r).d.getD ((bs cs).length - 1 - fa cs r) 0 + 1 else (st cs r).d.getD ((bs cs).length - 1 - fa cs r) 0 - 1) := by
    unfold Foc.step
    dsimp only
    rw [apply_ite Fo.d]
    simp only [ite_self]
  rw [e, ed, lb]
  unfold rd rdOf
  rw [hi, List.getD_eq_getElem?_getD, List.getElem?_set_self (by omega)]
  cases (st cs r).u.getD (cs.length - 1 - fa cs r) false
  · simp; omega
  · simp; omega
theorem foSwap_go (n r : Nat) (hn : n ≤ 7) (hr : r + 1 < fac n) : Ev (fun k => spec_foSwap.f k (bs (cn n)) (st (cn n) r).d (st (cn n) r).u (st (cn n) r).p (it n r) (wh n r)) (bs (cn n), (st (cn n) (r + 1)).d, (st (cn n) (r + 1)).u, (st (cn n) (r + 1)).p, it n (r + 1), wh n (r + 1), atS n r) := by
  have hok := cn_ok n hn
  have hf := fa_cn n r hn hr
  have hl := cn_length n
  obtain ⟨e1, e2, e3, e4, e5⟩ := at_eq n r hn hr
  obtain ⟨h0, h1, h2⟩ := at_range n r hn hr
  have l1 := it_length n r
  have l2 := wh_length n r
  have l3 := st_lens (cn n) r
  have l4 := st_lens (cn n) (r + 1)
  have hd := st_dig (cn n) r hok hf
  unfold spec_foSwap.f
  rw [foStep_go (cn n) hok r hf]
  refine evSome (evNeg (by dsimp only; omega) ?_)
  dsimp only
  have hx : ((cn n).length : Int) - 1 - ((fa (cn n) r : Nat) : Int) + 1 = (n : Int) - 1 - (fa (cn n) r : Int) := by omega
  rw [wr (x := ((cn n).length : Int) - 1 - ((fa (cn n) r : Nat) : Int) + 1) (by omega) (by omega), hx]
  have hmv : mv (it n r) 0 (atS n r) (atS n r + 1) = it n (r + 1) := by
    unfold mv
    rw [if_pos rfl]
    exact h2
  have hg : Mgood (it n r).length 0 (atS n r) (atS n r + 1) := by unfold Mgood; omega
  have ha := moApply_ev (it n r) (by omega) 0 (atS n r) (atS n r + 1) hg
  rw [hmv] at ha
  have hi := raInverse_ev (it n (r + 1)) (by rw [it_length]; omega) (trot_perm' n _)
  refine evPos (by omega) (evPos (by omega) (evPos (by omega) (evPos (by omega) (evPos (by omega) ?_))))
  by_cases c : rdOf false (st (cn n) r).u (((cn n).length : Int) - 1 - (fa (cn n) r : Int)) = true
  · rw [if_pos c] at e1
    rw [c, decide_eq_true_eq] at hd
    refine evPos hd ?_
    rw [e1, wr (x := atS n r) (by omega) (by omega), wr (x := atS n r + 1) (by omega) (by omega)]
    exact Ev.bind ha (Ev.bind hi (Ev.now _))
  · rw [if_neg c] at e1
    simp only [Bool.not_eq_true] at c
    rw [c, decide_eq_false_iff_not] at hd
    refine evNeg hd ?_
    rw [e1, wr (x := atS n r + 1) (by omega) (by omega)]
    exact Ev.bind ha (Ev.bind hi (Ev.now _))
theorem foSwap_end (n r : Nat) (hf : fa (cn n) r = (cn n).length) (x y : List Int) : Ev (fun k => spec_foSwap.f k (bs (cn n)) (st (cn n) r).d (st (cn n) r).u (st (cn n) r).p x y) ([], [], [], [], [], [], -1) := by
  unfold spec_foSwap.f
  rw [foStep_end (cn n) r hf]
  exact evSome (evPos (by decide) (Ev.now _))
theorem isLast_st (cs : List Nat) (r : Nat) : impl_Focus_isLast.f (bs cs) (st cs r).d (st cs r).u (st cs r).p = some (decide (fa cs r = cs.length)) := by
  unfold impl_Focus_isLast.f
  have hl := (st_lens cs r).2.2
  have hj : rd (st cs r).p 0 = ((fa cs r : Nat) : Int) := st_head cs r
  rw [if_pos (by omega), hj, bs_length]
  congr 1
  rw [Bool.eq_iff_iff]
  simp only [decide_eq_true_eq, beq_iff_eq]
  omega
theorem within_eq (x a b : Int) : impl_within.f x a b = some (decide (a ≤ x ∧ x ≤ b)) := by
  unfold impl_within.f
  by_cases h : x ≥ a
  · rw [if_pos h]; have h' : a ≤ x := h; simp [h']
  · rw [if_neg h]; have h' : ¬ a ≤ x := h; simp [h']
theorem copied_eq (l : List Int) (hn : l.length ≤ 10000000000000) : impl_copied.f l = some l := by
  unfold impl_copied.f
  simp only [Option.bind_some, List.nil_append, List.length_nil, Nat.zero_add]
  rw [if_pos (by omega)]
theorem identity_l0 (n : Nat) (hn : n ≤ 1000000000) : ∀ (d : Nat) (j : Int), 0 ≤ j → j.toNat + d = n → Ev (fun k => impl_identity.l0 k (upTo j.toNat) (n : Int) j) (upTo n) := by
  intro d
  induction d with
  | zero =>
    intro j h0 hd
    refine Ev.step (fun k => by rw [impl_identity.l0]) ?_
    exact evNeg (by omega) (evEq (by rw [show j.toNat = n from by omega]))
  | succ d ih =>
    intro j h0 hd
    refine Ev.step (fun k => by rw [impl_identity.l0]) ?_
    refine evPos (by omega) (evPos (by rw [upTo_length]; omega) ?_)
    have h := ih (j + 1) (by omega) (by omega)
    rw [show (j + 1).toNat = j.toNat + 1 from by omega, upTo_succ, Int.toNat_of_nonneg h0] at h
    rw [wr (by omega) (by omega)]
    exact h
theorem identity_ev (n : Nat) (hn : n ≤ 1000000000) : Ev (fun k => impl_identity.f k (n : Int)) (upTo n) := by
  unfold impl_identity.f
  exact identity_l0 n hn n 0 (by omega) (by simp)
theorem startFocus_l0 (n : Nat) (hn : n ≤ 1000000) (a b c : List Int) : ∀ (d : Nat) (j : Int), 0 ≤ j → j.toNat + d = n → Ev (fun k => impl_startFocus.l0 k (n : Int) j a b (List.replicate j.toNat true) c) (a, b, List.replicate n true, c) := by
  intro d
  induction d with
  | zero =>
    intro j h0 hd
    refine Ev.step (fun k => by rw [impl_startFocus.l0]) ?_
    exact evNeg (by omega) (evEq (by rw [show j.toNat = n from by omega]))
  | succ d ih =>
    intro j h0 hd
    refine Ev.step (fun k => by rw [impl_startFocus.l0]) ?_
    refine evPos (by omega) (evPos (by rw [List.length_replicate]; omega) ?_)
    rw [wr (by omega) (by omega), rep_snoc j h0]
    exact ih (j + 1) (by omega) (by omega)
theorem startFocus_ev (l : List Int) (hn : l.length ≤ 1000) : Ev (fun k => impl_startFocus.f k l) (stF l) := by
  unfold impl_startFocus.f stF
  rw [copied_eq l (by omega)]
  refine evSome (evPos (by omega) (evPos (by omega) ?_))
  rw [wr (by omega) (by omega), show (l.length : Int) + 1 = ((l.length + 1 : Nat) : Int) from by omega, Int.toNat_natCast]
  refine Ev.bind (identity_ev (l.length + 1) (by omega)) ?_
  exact startFocus_l0 l.length (by omega) _ _ _ l.length 0 (by omega) (by simp)
theorem startSwapper_l0 (n : Nat) (hn : n ≤ 7) : ∀ (d j : Nat), 1 ≤ j → j + d = n →
    Ev (fun k => impl_startSwapper.l0 k (n : Int) (bs (cn j)) ((j : Int) + 1)) (bs (cn n), (st (cn n) 0).d, (st (cn n) 0).u, (st (cn n) 0).p, upTo n, upTo n) := by
  intro d
  induction d with
  | zero =>
    intro j h1 hd
    obtain rfl : j = n := by omega
    refine Ev.step (fun k => by rw [impl_startSwapper.l0]) ?_
    refine evNeg (by omega) ?_
    have hs := startFocus_ev (bs (cn j)) (by rw [bs_length, cn_length]; omega)
    rw [stF_st _ (cn_ok j hn)] at hs
    exact Ev.bind hs (Ev.bind (identity_ev j (by omega)) (Ev.bind (identity_ev j (by omega)) (Ev.now _)))
  | succ d ih =>
    intro j h1 hd
    refine Ev.step (fun k => by rw [impl_startSwapper.l0]) ?_
    refine evPos (by omega) (evPos (by rw [bs_length, cn_length]; omega) ?_)
    rw [wr (by omega) (by omega), bs_cn j h1]
    exact ih (j + 1) (by omega) (by omega)
theorem startSwapper_ev (n : Nat) (h1 : 1 ≤ n) (hn : n ≤ 7) : Ev (fun k => impl_startSwapper.f k (n : Int)) (bs (cn n), (st (cn n) 0).d, (st (cn n) 0).u, (st (cn n) 0).p, upTo n, upTo n) := by
  unfold impl_startSwapper.f
  exact startSwapper_l0 n hn (n - 1) 1 (by omega) (by omega)
theorem eqIntS_l0 (a b : List Int) (hn : a.length ≤ 35184372088832) (hb : a.length = b.length) : ∀ (d : Nat) (j : Int), 0 ≤ j → j.toNat + d = a.length →
    Ev (fun k => laws_eqIntS.l0 k a b j) (decide (a.drop j.toNat = b.drop j.toNat)) := by
  intro d
  induction d with
  | zero =>
    intro j h0 hd
    refine Ev.step (fun k => by rw [laws_eqIntS.l0]) ?_
    refine evNeg (by omega) ?_
    rw [drop_end a j (by omega), drop_end b j (by omega)]
    exact evEq rfl
  | succ d ih =>
    intro j h0 hd
    refine Ev.step (fun k => by rw [laws_eqIntS.l0]) ?_
    refine evPos (by omega) (evPos (by omega) (evPos (by omega) ?_))
    rw [wr (by omega) (by omega), drop_rd a j h0 (by omega), drop_rd b j h0 (by omega)]
    by_cases c : rd a j = rd b j
    · refine evPos c (evTo (ih _ (by omega) (by omega)) ?_)
      simp [c]
    · refine evNeg c (evEq ?_)
      simp [c]
theorem eqIntS_ev (a b : List Int) (hn : a.length ≤ 35184372088832) : Ev (fun k => laws_eqIntS.f k a b) (decide (a = b)) := by
  unfold laws_eqIntS.f
  by_cases hb : a.length = b.length
  · exact evPos (by omega) (eqIntS_l0 a b hn hb a.length 0 (by omega) (by simp))
  · refine evNeg (by omega) (evEq ?_)
    exact (decide_eq_false (fun e => hb (by rw [e]))).symm
theorem eqIntS_self (a : List Int) (hn : a.length ≤ 35184372088832) : Ev (fun k => laws_eqIntS.f k a a) true := evTo (eqIntS_ev a a hn) (by simp)
theorem markIntS_l0 : ∀ (d : Nat) (xs : List Int) (m j : Int), 0 ≤ j → j.toNat + d = xs.length → xs.length ≤ 35184372088832 → 0 ≤ m → m + d ≤ 70368744177664 →
    Ev (fun k => laws_markIntS.l0 k xs m j) (m + d, xs.take j.toNat ++ iotaI m d) := by
  intro d
  induction d with
  | zero =>
    intro xs m j h0 hd hn hm hk
    refine Ev.step (fun k => by rw [laws_markIntS.l0]) ?_
    refine evNeg (by omega) (evEq ?_)
    rw [take_end xs j (by omega)]
    simp [iotaI]
  | succ d ih =>
    intro xs m j h0 hd hn hm hk
    refine Ev.step (fun k => by rw [laws_markIntS.l0]) ?_
    refine evPos (by omega) (evPos (by omega) ?_)
    rw [wr (by omega) (by omega), wr (by omega) (by omega)]
    refine evTo (ih (xs.set j.toNat m) (m + 1) (j + 1) (by omega) (by simp; omega) (by simpa using hn) (by omega) (by omega)) ?_
    rw [set_takeI xs j m h0 (by omega)]
    simp [iotaI]
    omega
theorem markIntS_ev (xs : List Int) (m : Int) (hn : xs.length ≤ 35184372088832) (hm : 0 ≤ m) (hk : m + xs.length ≤ 70368744177664) :
    Ev (fun k => laws_markIntS.f k xs m) (m + xs.length, iotaI m xs.length) := by
  unfold laws_markIntS.f
  refine evTo (markIntS_l0 xs.length xs m 0 (by omega) (by simp) hn hm hk) (by simp)
theorem heldIntS_l0 (xs : List Int) (hn : xs.length ≤ 35184372088832) : ∀ (d : Nat) (m j : Int), 0 ≤ j → j.toNat + d = xs.length → 0 ≤ m → m + d ≤ 70368744177664 → (∀ i : Int, j ≤ i → i < xs.length → rd xs i = m + (i - j)) →
    Ev (fun k => laws_heldIntS.l0 k xs m j) (m + d) := by
  intro d
  induction d with
  | zero =>
    intro m j h0 hd hm hk h
    refine Ev.step (fun k => by rw [laws_heldIntS.l0]) ?_
    exact evNeg (by omega) (evEq (by simp))
  | succ d ih =>
    intro m j h0 hd hm hk h
    refine Ev.step (fun k => by rw [laws_heldIntS.l0]) ?_
    have hr := h j (by omega) (by omega)
    refine evPos (by omega) (evPos (by omega) (evPos (by omega) ?_))
    rw [wr (by omega) (by omega), wr (by omega) (by omega)]
    refine evTo (ih (m + 1) (j + 1) (by omega) (by omega) (by omega) (by omega) (fun i h1 h2 => ?_)) (by omega)
    rw [h i (by omega) h2]; omega
theorem heldIntS_ev (n : Nat) (m : Int) (hn : n ≤ 35184372088832) (hm : 0 ≤ m) (hk : m + n ≤ 70368744177664) :
    Ev (fun k => laws_heldIntS.f k (iotaI m n) m) (m + n) := by
  unfold laws_heldIntS.f
  have hl := iotaI_length m n
  refine heldIntS_l0 (iotaI m n) (by omega) n m 0 (by omega) (by omega) hm hk (fun i h1 h2 => ?_)
  rw [iotaI_rd n m i h1 (by omega)]; omega
def runW (n : Nat) : Nat → Nat → List Int
  | _, 0 => []
  | r, c + 1 => if r + 1 < fac n then atS n r :: runW n (r + 1) c else []
theorem runW_length (n : Nat) : ∀ (c r : Nat), (runW n r c).length ≤ c
  | 0, r => by simp [runW]
  | c + 1, r => by
    rw [runW]
    split
    · have := runW_length n c (r + 1); simp; omega
    · simp
theorem fa_end (n r : Nat) (hn : n ≤ 7) (hr : r + 1 = fac n) : fa (cn n) r = (cn n).length := fa_full (cn n) r (cn_ok n hn).rad (by rw [cn_prod]; exact hr)
theorem iRun (n : Nat) (hn : n ≤ 7) (m : Int) (hm : m ≤ 5040) : ∀ (c r : Nat) (out : List Int), r < fac n → ((out.length : Int) + c = m ∨ c = 0 ∧ m ≤ out.length) →
    Ev (fun k => impl_RunSwapper.l0 k m (bs (cn n)) out (st (cn n) r).d (st (cn n) r).u (st (cn n) r).p (it n r) (wh n r)) (out ++ runW n r c) := by
  intro c
  induction c with
  | zero =>
    intro r out hr hc
    refine Ev.step (fun k => by rw [impl_RunSwapper.l0]) ?_
    rw [runW, List.append_nil]
    exact evNeg (by omega) (Ev.now _)
  | succ c ih =>
    intro r out hr hc
    refine Ev.step (fun k => by rw [impl_RunSwapper.l0]) ?_
    rw [runW, isLast_st]
    refine evPos (by omega) (evSome ?_)
    by_cases c1 : r + 1 < fac n
    · rw [if_pos c1, stepS_sq n r hn c1]
      have hf := fa_cn n r hn c1
      refine evNeg (by simp; omega) (evSome (evPos (by omega) ?_))
      dsimp only
      rw [show out ++ atS n r :: runW n (r + 1) c = (out ++ [atS n r]) ++ runW n (r + 1) c from by simp]
      exact ih (r + 1) _ c1 (.inl (by simp; omega))
    · rw [if_neg c1, List.append_nil]
      exact evPos (by simp [fa_end n r hn (by omega)]) (Ev.now _)
theorem sRun (n : Nat) (hn : n ≤ 7) : ∀ (c r : Nat) (out : List Int), r < fac n → c ≤ 5040 → out.length + c ≤ 10000 →
    Ev (fun k => spec_RunSwapper.l0 k (c : Int) out (bs (cn n)) (st (cn n) r).d (st (cn n) r).u (st (cn n) r).p (it n r) (wh n r)) (out ++ runW n r c, true) := by
  intro c
  induction c with
  | zero =>
    intro r out hr hc ho
    refine Ev.step (fun k => by rw [spec_RunSwapper.l0]) ?_
    rw [runW, List.append_nil]
    exact evNeg (by omega) (Ev.now _)
  | succ c ih =>
    intro r out hr hc ho
    refine Ev.step (fun k => by rw [spec_RunSwapper.l0]) ?_
    rw [runW]
    refine evPos (by omega) ?_
    by_cases c1 : r + 1 < fac n
    · rw [if_pos c1]
      obtain ⟨h0, h1, h2⟩ := at_range n r hn c1
      refine Ev.bind (foSwap_go n r hn c1) (evNeg (by dsimp only; omega) (evPos (by omega) ?_))
      dsimp only
      rw [wr (by omega) (by omega), show ((c + 1 : Nat) : Int) - 1 = (c : Int) from by omega, show out ++ atS n r :: runW n (r + 1) c = (out ++ [atS n r]) ++ runW n (r + 1) c from by simp]
      exact ih (r + 1) _ c1 (by omega) (by simp; omega)
    · rw [if_neg c1, List.append_nil]
      exact Ev.bind (foSwap_end n r (fa_end n r hn (by omega)) _ _) (evPos (by decide) (Ev.now _))
theorem st0 (n : Nat) : it n 0 = upTo n ∧ wh n 0 = upTo n := by
  have h : it n 0 = upTo n := trot_zero n
  exact ⟨h, by unfold wh; rw [h, invL_upTo]⟩
theorem FnExactRunSwapper : laws_FnExactRunSwapper.Pure := by
  intro x m wx wm
  refine Ev.rounds (g := fun q => laws_FnExactRunSwapper.f q x m) ?_
  unfold laws_FnExactRunSwapper.f
  have key : ∃ (G : List Int) (b : Bool), Ev (fun q => spec_RunSwapper.f q x m) (G, b) ∧ Ev (fun q => impl_RunSwapper.f q x m) (G, b) ∧ G.length ≤ 10000 := by
    unfold spec_RunSwapper.f impl_RunSwapper.f spec_foSize.f impl_isSwapperSize.f
    simp only [l1In_eq, within_eq, Option.bind_some]
    by_cases c : 1 ≤ x ∧ x ≤ 7
    rotate_left
    · refine ⟨[], false, evNeg (by simpa using c) ?_, evNeg (by simpa using c) (Ev.now _), by simp⟩
      refine Ev.step (fun k => by rw [spec_RunSwapper.j0]) ?_
      exact evPos rfl (Ev.now _)
    by_cases cm : 0 ≤ m ∧ m ≤ 5040
    rotate_left
    · refine ⟨[], false, evPos (by simpa using c) ?_, evPos (by simpa using c) (evNeg (by simpa using cm) (Ev.now _)), by simp⟩
      refine Ev.step (fun k => by rw [spec_RunSwapper.j0]) ?_
      exact evPos (by simp; omega) (Ev.now _)
    obtain ⟨n, rfl⟩ := Int.eq_ofNat_of_zero_le (show 0 ≤ x by omega)
    obtain ⟨q, rfl⟩ := Int.eq_ofNat_of_zero_le cm.1
    have hn : n ≤ 7 := by omega
    have hp := fac_pos n
    have s := sRun n hn q 0 [] (by omega) (by omega) (by simp; omega)
    have i := iRun n hn (q : Int) (by omega) q 0 [] (by omega) (.inl (by simp))
    rw [(st0 n).1, (st0 n).2] at s i
    have hw := runW_length n q 0
    refine ⟨_, true, evPos (by simpa using c) ?_, evPos (by simpa using c) (evPos (by simpa using cm) (Ev.bind (startSwapper_ev n (by omega) hn) (Ev.bind i (Ev.now _)))), by simp; omega⟩
    refine Ev.step (fun k => by rw [spec_RunSwapper.j0]) ?_
    exact evNeg (by simpa using cm) (Ev.bind (foSwapper_ev n (by omega) hn) s)
  obtain ⟨G, b, hs, hi, hgl⟩ := key
  repeat (first
    | (with_reducible exact Ev.now _)
    | (with_reducible refine Ev.bind hs ?_)
    | (with_reducible refine Ev.bind hi ?_)
    | (with_reducible refine Ev.bind (toIntS_ev _ (by omega)) ?_)
    | (with_reducible refine Ev.bind (eqIntS_self _ (by omega)) ?_)
    | (with_reducible refine Ev.bind (markIntS_ev _ 1 (by omega) (by omega) (by omega)) ?_)
    | (with_reducible refine Ev.bind (heldIntS_ev _ 1 (by omega) (by omega) (by omega)) ?_)
    | (with_reducible refine evPos rfl ?_)
    | (with_reducible refine evPos trivial ?_)
    | (with_reducible refine evNeg (by omega) ?_)
    | (rw [bne_self_eq_false])
    | (simp only [bne_self_eq_false])
    | (refine evNeg (by decide) ?_)
    | (refine Ev.step (fun k => by rw [laws_FnExactRunSwapper.j0]) ?_)
    | (refine Ev.step (fun k => by rw [laws_FnExactRunSwapper.j1]) ?_)
    | (refine Ev.step (fun k => by rw [laws_FnExactRunSwapper.j2]) ?_))
end Go.Proofs.Ytedijkelbdpcdaa.Pure
