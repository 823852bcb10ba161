import Derived.Test.YtapbbmicfkbafaaGreatMFnSwappersx1
import Derived.Test.YtapbbmicfkbafaaGreatMFnSwappersx2
import Derived.Test.YtapbbmicfkbafaaGreatMFnSwappersx3
import Derived.Test.YtapbbmicfkbafaaGreatMFnSwappersx4
import Derived.Test.YtapbbmicfkbafaaGreatMFnSwappersx5
import Derived.Test.YtapbbmicfkbafaaGreatMFnSwappersx6
import Derived.Test.YtapbbmicfkbafaaGreatMFnSwappersx7
import Derived.Test.YtapbbmicfkbafaaGreatBase
import Derived.Test.YtapbbmicfkbafaaGreatComb
import Derived.Test.YtapbbmicfkbafaaGreatTrot
import Derived.Test.YtapbbmicfkbafaaGreatMoves
import Derived.Test.YtapbbmicfkbafaaGreatPerms
import Derived.Test.YtapbbmicfkbafaaGreatTrotRank
import Derived.Test.YtapbbmicfkbafaaGreatFoc
import Derived.Test.YtapbbmicfkbafaaGreatFocB
import Derived.Test.YtapbbmicfkbafaaGreatFocR
import Derived.Test.YtapbbmicfkbafaaGreatFocG
import Derived.Test.YtapbbmicfkbafaaGreatFocM
import Derived.Test.YtapbbmicfkbafaaGreatSwp
import Derived.Test.YtapbbmicfkbafaaGreatSwpS
import Derived.Test.YtapbbmicfkbafaaGreatSwpG
namespace Go.Proofs.YtapbbmicfkbafaaGreat.Pure
open Go.RowKit Go.Proofs.YtapbbmicfkbafaaGreat.MFnSwappers Go.Proofs.YtapbbmicfkbafaaGreatW.PrintWords Go.Proofs.YtapbbmicfkbafaaGreatW.PrintLast Go.Proofs.YtapbbmicfkbafaaGreat.Base Go.Proofs.YtapbbmicfkbafaaGreat.Comb Go.Proofs.YtapbbmicfkbafaaGreat.Trot Go.Proofs.YtapbbmicfkbafaaGreat.Moves Go.Proofs.YtapbbmicfkbafaaGreat.Perms Go.Proofs.YtapbbmicfkbafaaGreat.TrotRank Go.Proofs.YtapbbmicfkbafaaGreat.Foc Go.Proofs.YtapbbmicfkbafaaGreat.FocB Go.Proofs.YtapbbmicfkbafaaGreat.FocR Go.Proofs.YtapbbmicfkbafaaGreat.FocG Go.Proofs.YtapbbmicfkbafaaGreat.FocM Go.Proofs.YtapbbmicfkbafaaGreat.Swp Go.Proofs.YtapbbmicfkbafaaGreat.SwpS Go.Proofs.YtapbbmicfkbafaaGreat.SwpG
set_option linter.unusedVariables false
set_option linter.unusedSimpArgs false
theorem big_eq (a b : List Int) : ∃ t, laws_big.f a b = some t ∧ (t = false → a.length ≤ 1048576 ∧ b.length ≤ 1048576) := by
  unfold laws_big.f
  by_cases c : (a.length : Int) > 1048576
  · exact ⟨true, by rw [if_pos c], fun h => by cases h⟩
  · rw [if_neg c, wr (by omega) (by omega)]
    exact ⟨_, rfl, fun h => by have := of_decide_eq_false h; omega⟩
theorem u64_lt (x : Int) : 0 ≤ IntKind.u64.wrap x ∧ IntKind.u64.wrap x < 18446744073709551616 := by rw [IntKind.wrap_u64]; omega
theorem low8 (x : Int) : 0 ≤ wrap64 (Go.bits .and .u64 (IntKind.u64.wrap x / 1099511627776) 255) ∧ wrap64 (Go.bits .and .u64 (IntKind.u64.wrap x / 1099511627776) 255) ≤ 255 := by
  have hu := u64_lt x
  generalize IntKind.u64.wrap x = y at hu ⊢
  have h := Go.bits_mask .u64 63 (by decide) (fun n h0 h1 => by rw [IntKind.wrap_u64]; omega) 8 (by decide) (y / 1099511627776) (by omega) (by omega)
  have e : ((2 : Int) ^ 8 - 1) = 255 := by decide
  have e2 : ((2 : Int) ^ 8) = 256 := by decide
  rw [e, e2] at h
  rw [h, wr (by omega) (by omega)]
  omega
def Byt (l : List Int) : Prop := l.length ≤ 2000000 ∧ ∀ x ∈ l, 0 ≤ x ∧ x ≤ 255
theorem byt_of {l : List Int} (h1 : l.length ≤ 1048576) (h2 : ∀ x ∈ l, (Lit.int .u8 x).wf = true) : Byt l := by
  refine ⟨by omega, fun x hx => ?_⟩
  have := h2 x hx
  simp [Lit.wf, IntKind.min, IntKind.max, IntKind.signed, IntKind.bits] at this
  omega
theorem cur_next (l : List Int) (hl : Byt l) (a s : Int) (h0 : 0 ≤ a) (h1 : a ≤ 1000000000000) : ∃ v s', spec_l1Cur_next.f l a s = some (v, a + 1, s') ∧ 0 ≤ v ∧ v ≤ 255 := by
  obtain ⟨hn, hb⟩ := hl
  unfold spec_l1Cur_next.f
  rw [wr (x := a + 1) (by omega) (by omega)]
  by_cases c : a < l.length
  · have hr := hb (rd l a) (by rw [rd_get l a (by omega)]; exact List.getElem_mem _)
    rw [if_pos c, if_pos h0, if_pos (by omega)]
    refine ⟨_, _, rfl, ?_⟩
    rw [wr (by omega) (by omega)]
    exact hr
  · rw [if_neg c, if_neg (by omega)]
    exact ⟨_, _, rfl, low8 _⟩
theorem cur_pick (l : List Int) (hl : Byt l) (a s n : Int) (h0 : 0 ≤ a) (h1 : a ≤ 900000000000) : ∃ v a' s', spec_l1Cur_pick.f l a s n = some (v, a', s') ∧ a ≤ a' ∧ a' ≤ a + 2 ∧ 0 ≤ v ∧ (v = 0 ∨ v < n) := by
  unfold spec_l1Cur_pick.f
  by_cases c : n ≤ 1
  · rw [if_pos c]; exact ⟨_, _, _, rfl, by omega, by omega, by omega, .inl rfl⟩
  rw [if_neg c]
  obtain ⟨v, s', e, h2, h3⟩ := cur_next l hl a s h0 (by omega)
  rw [e]
  simp only [Option.bind_some]
  by_cases c2 : n > 200
  · rw [if_pos c2]
    obtain ⟨v2, s2, e2, h4, h5⟩ := cur_next l hl (a + 1) s' (by omega) (by omega)
    rw [e2]
    simp only [Option.bind_some]
    rw [if_neg (by omega), wr (x := v * 256) (by omega) (by omega), wr (by omega) (by omega)]
    exact ⟨_, _, _, rfl, by omega, by omega, Int.tmod_nonneg _ (by omega), .inr (Int.tmod_lt_of_pos _ (by omega))⟩
  · rw [if_neg c2, if_neg (by omega)]
    exact ⟨_, _, _, rfl, by omega, by omega, Int.tmod_nonneg _ (by omega), .inr (Int.tmod_lt_of_pos _ (by omega))⟩
theorem cur_among (l : List Int) (hl : Byt l) (a s : Int) (xs : List Int) (hx : 0 < xs.length) (h0 : 0 ≤ a) (h1 : a ≤ 900000000000) : ∃ v a' s', spec_l1Cur_among.f l a s xs = some (v, a', s') ∧ a ≤ a' ∧ a' ≤ a + 2 ∧ v ∈ xs := by
  unfold spec_l1Cur_among.f
  obtain ⟨v, a', s', e, h2, h3, h4, h5⟩ := cur_pick l hl a s (xs.length : Int) h0 h1
  rw [e]
  simp only [Option.bind_some]
  rw [if_pos h4, if_pos (by omega)]
  refine ⟨_, _, _, rfl, h2, h3, ?_⟩
  rw [rd_get xs v (by omega)]
  exact List.getElem_mem _
theorem raFactorial_tab : ((List.range 13).all fun n => spec_raFactorial.f 20 (n : Int) == some (fac n : Int)) = true := by decide +kernel
theorem raFactorial_ev (n : Nat) (hn : n ≤ 12) : Ev (fun r => spec_raFactorial.f r (n : Int)) (fac n : Int) := by
  refine evTab (g := fun r => spec_raFactorial.f r (n : Int)) (spec_raFactorial.mono _) 20 ?_
  exact beq_iff_eq.1 (List.all_eq_true.1 raFactorial_tab n (List.mem_range.2 (by omega)))
theorem l1Own_eq (l : List Int) (hn : l.length ≤ 10000000000000) : spec_l1Own.f l = some l := by
  unfold spec_l1Own.f
  simp only [Option.bind_some, List.nil_append, List.length_nil, Nat.zero_add]
  rw [if_pos (by omega)]
theorem foStep_go (cs : List Nat) (h : Ok cs) (r : Nat) (hf : fa cs r < cs.length) : spec_foStep.f (bs cs) (st cs r).d (st cs r).u (st cs r).p = some (bs cs, (st cs (r + 1)).d, (st cs (r + 1)).u, (st cs (r + 1)).p, (cs.length : Int) - 1 - ((fa cs r : Nat) : Int)) := by
  unfold spec_foStep.f
  have hl := (st_lens cs r).2.2
  have hj : rd (st cs r).p 0 = ((fa cs r : Nat) : Int) := st_head cs r
  rw [if_pos (by omega), hj, bs_length, if_neg (by omega), stepF_st cs h r hf]
  rfl
theorem foStep_end (cs : List Nat) (r : Nat) (hf : fa cs r = cs.length) : spec_foStep.f (bs cs) (st cs r).d (st cs r).u (st cs r).p = some ([], [], [], [], -1) := by
  unfold spec_foStep.f
  have hl := (st_lens cs r).2.2
  have hj : rd (st cs r).p 0 = ((fa cs r : Nat) : Int) := st_head cs r
  rw [if_pos (by omega), hj, bs_length, if_pos (by omega)]
theorem moApply_l0 (l : List Int) (hl : l.length ≤ 1000) (b : Int) (hb : b ≤ l.length) (a c : Int) : ∀ (d : Nat) (x5 : List Int) (i : Int), 0 ≤ i → i + d = b → x5.length = l.length → x5.take i.toNat = (l.take b.toNat).reverse.take i.toNat → x5.drop i.toNat = l.drop i.toNat →
    Ev (fun k => spec_moApply.l0 k l x5 i a b c) ((l.take b.toNat).reverse ++ l.drop b.toNat) := by
  intro d
  induction d with
  | zero =>
    intro x5 i h0 hi h5 ht hd
    refine Ev.step (fun k => by rw [spec_moApply.l0]) ?_
    refine evNeg (by omega) (evEq ?_)
    obtain rfl : i = b := by omega
    rw [← List.take_append_drop i.toNat x5, ht, hd, List.take_of_length_le (by rw [List.length_reverse, List.length_take]; omega)]
  | succ d ih =>
    intro x5 i h0 hi h5 ht hd
    refine Ev.step (fun k => by rw [spec_moApply.l0]) ?_
    simp (disch := omega) only [wr]
    refine evPos (by omega) (evPos (by omega) (evPos (by omega) (evPos (by omega) (evPos (by omega) ?_))))
    refine ih _ (i + 1) (by omega) (by omega) (by simpa using h5) ?_ ?_
    · rw [set_takeI _ _ _ h0 (by omega), ht, show (i + 1).toNat = i.toNat + 1 by omega, List.take_add_one, List.getElem?_reverse (by rw [List.length_take]; omega), List.length_take, show min b.toNat l.length - 1 - i.toNat = (b - 1 - i).toNat by omega, List.getElem?_take, if_pos (by omega)]
      unfold rd
      rw [List.getD_eq_getElem?_getD, List.getElem?_eq_getElem (show (b - 1 - i).toNat < l.length by omega)]
      rfl
    · rw [show (i + 1).toNat = i.toNat + 1 by omega, List.drop_set_of_lt (by omega), ← List.drop_drop, ← List.drop_drop, hd]
theorem moApply_l1 (l : List Int) (hl : l.length ≤ 1000) (b : Int) (hb0 : 1 ≤ b) (hb : b ≤ l.length) (a c : Int) : ∀ (d : Nat) (x5 : List Int) (i : Int), 0 ≤ i → i + d = b → x5.length = l.length → x5.take i.toNat = ((l.take b.toNat).drop 1 ++ (l.take b.toNat).take 1).take i.toNat → x5.drop i.toNat = l.drop i.toNat →
    Ev (fun k => spec_moApply.l1 k l x5 i a b c) ((l.take b.toNat).drop 1 ++ (l.take b.toNat).take 1 ++ l.drop b.toNat) := by
  intro d
  have hlen : ((l.take b.toNat).drop 1 ++ (l.take b.toNat).take 1).length = b.toNat := by
    simp; omega
  induction d with
  | zero =>
    intro x5 i h0 hi h5 ht hd
    refine Ev.step (fun k => by rw [spec_moApply.l1]) ?_
    refine evNeg (by omega) (evEq ?_)
    obtain rfl : i = b := by omega
    rw [← List.take_append_drop i.toNat x5, ht, hd, List.take_of_length_le (by omega)]
  | succ d ih =>
    intro x5 i h0 hi h5 ht hd
    refine Ev.step (fun k => by rw [spec_moApply.l1]) ?_
    simp (disch := omega) only [wr]
    rw [Int.tmod_eq_emod_of_nonneg (by omega)]
    have hm : (i + 1) % b = if i + 1 < b then i + 1 else 0 := by
      split
      · exact Int.emod_eq_of_lt (by omega) (by omega)
      · rw [show i + 1 = b by omega, Int.emod_self]
    rw [hm]
    refine evPos (by omega) (evNeg (by omega) (evPos (by split <;> omega) (evPos (by split <;> omega) (evPos (by omega) (evPos (by omega) ?_)))))
    refine ih _ (i + 1) (by omega) (by omega) (by simpa using h5) ?_ ?_
    · rw [set_takeI _ _ _ h0 (by omega), ht, show (i + 1).toNat = i.toNat + 1 by omega, List.take_add_one (l := _ ++ _)]
      congr 1
      unfold rd
      by_cases c : i + 1 < b
      · rw [if_pos c, List.getElem?_append_left (by simp; omega), List.getElem?_drop, List.getElem?_take, if_pos (by omega), show 1 + i.toNat = (i + 1).toNat by omega, List.getD_eq_getElem?_getD, List.getElem?_eq_getElem (by omega)]
        rfl
      · rw [if_neg c, List.getElem?_append_right (by simp; omega)]
        have e : i.toNat - ((l.take b.toNat).drop 1).length = 0 := by simp; omega
        rw [e, List.getElem?_take, if_pos (by omega), List.getElem?_take, if_pos (by omega), List.getD_eq_getElem?_getD, show (0 : Int).toNat = 0 from rfl, List.getElem?_eq_getElem (show 0 < l.length by omega)]
        rfl
    · rw [show (i + 1).toNat = i.toNat + 1 by omega, List.drop_set_of_lt (by omega), ← List.drop_drop, ← List.drop_drop, hd]
theorem moApply_ev (l : List Int) (hl : l.length ≤ 1000) (a b c : Int) (hg : Mgood l.length a b c) : Ev (fun q => spec_moApply.f q l a b c) (mv l a b c) := by
  unfold spec_moApply.f
  rw [l1Own_eq l (by omega)]
  refine evSome ?_
  rcases hg with ⟨rfl, h1, h2, h3⟩ | ⟨rfl, h1, h2, rfl⟩ | ⟨rfl, h1, h2, rfl⟩
  · exact evPos rfl (evPos (by omega) (evPos (by omega) (evPos (by omega) (evPos (by omega) (evPos (by omega) (evPos (by omega) (evEq rfl)))))))
  · refine evNeg (by decide) (evPos rfl ?_)
    refine evTo (moApply_l0 l hl b h2 1 0 b.toNat l 0 (by omega) (by omega) rfl (by simp) (by simp)) (by simp [mv])
  · refine evNeg (by decide) (evNeg (by decide) ?_)
    refine evTo (moApply_l1 l hl b (by omega) h2 2 0 b.toNat l 0 (by omega) (by omega) rfl (by simp) (by simp)) (by simp [mv])
theorem raInverse_l0 (l : List Int) (hn : l.length ≤ 1000) (hp : l.Perm (upTo l.length)) (hI : ∀ q : Nat, q < l.length → 0 ≤ rd l q ∧ rd l q < l.length) : ∀ (d : Nat) (j : Nat) (x : List Int), x.length = l.length → j + d = l.length → (∀ q : Nat, q < j → rd x (rd l q) = q) →
    Ev (fun k => spec_raInverse.l0 k x l (l.length : Int) (j : Int)) (invL l) := by
  have hnd : l.Nodup := hp.nodup_iff.2 (nodup_upTo _)
  intro d
  induction d with
  | zero =>
    intro j x hx hj hq
    refine Ev.step (fun k => by rw [spec_raInverse.l0]) ?_
    exact evNeg (by omega) (evEq (isI_invL hp ⟨hx, fun q h => ⟨(hI q h).1, (hI q h).2, hq q (by omega)⟩⟩))
  | succ d ih =>
    intro j x hx hj hq
    have hj' : j < l.length := by omega
    obtain ⟨i1, i2⟩ := hI j hj'
    refine Ev.step (fun k => by rw [spec_raInverse.l0]) ?_
    refine evPos (by omega) (evPos (by omega) (evPos (by omega) (evPos i1 (evPos (by omega) ?_))))
    rw [wr (by omega) (by omega), show (j : Int) + 1 = ((j + 1 : Nat) : Int) from by omega]
    refine ih (j + 1) _ (by rw [List.length_set]; exact hx) (by omega) (fun q h => ?_)
    by_cases e : q = j
    · rw [e, rd_set_eq _ _ _ (by omega)]
    · have i3 := hI q (by omega)
      rw [rd_set_ne _ _ _ _ (fun h_ => e (rd_inj hnd (by omega) hj' (by omega)))]
      exact hq q (by omega)
theorem raInverse_ev (l : List Int) (hn : l.length ≤ 1000) (hp : l.Perm (upTo l.length)) : Ev (fun k => spec_raInverse.f k l) (invL l) := by
  unfold spec_raInverse.f
  refine evPos (by omega) (evPos (by omega) ?_)
  refine raInverse_l0 l hn hp (fun q h => ?_) l.length 0 _ (by simp) (by omega) (fun q h => by omega)
  have hm : rd l q ∈ l := by rw [rd_get l q (by omega)]; exact List.getElem_mem _
  exact mem_upTo.1 (hp.mem_iff.1 hm)
theorem st_dig (cs : List Nat) (r : Nat) (h : Ok cs) (hf : fa cs r < cs.length) : decide (rd (st cs (r + 1)).d ((cs.length : Int) - 1 - (fa cs r : Int)) > rd (st cs r).d ((cs.length : Int) - 1 - (fa cs r : Int))) = rdOf false (st cs r).u ((cs.length : Int) - 1 - (fa cs r : Int)) := by
  have l3 := st_lens cs r
  have lb := bs_length cs
  have e := st_step cs r h.rad hf
  have hi : ((cs.length : Int) - 1 - (fa cs r : Int)).toNat = cs.length - 1 - fa cs r := by omega
  have ed : (Foc.step (bs cs) (st cs r) (fa cs r)).d = (st cs r).d.set ((bs cs).length - 1 - fa cs r) (if (st cs r).u.getD ((bs cs).length - 1 - fa cs r) false then (st cs r).d.getD ((bs cs).length - 1 - fa cs r) 0 + 1 else (st cs r).d.getD ((bs cs).length - 1 - fa cs r) 0 - 1) := by
    unfold Foc.step
    dsimp only
    rw [apply_ite Fo.d]
    simp only [ite_self]
  rw [e, ed, lb]
  unfold rd rdOf
  rw [hi, List.getD_eq_getElem?_getD, List.getElem?_set_self (by omega)]
  cases (st cs r).u.getD (cs.length - 1 - fa cs r) false
  · simp; omega
  · simp; omega
theorem foSwap_go (n r : Nat) (hn : n ≤ 7) (hr : r + 1 < fac n) : Ev (fun k => spec_foSwap.f k (bs (cn n)) (st (cn n) r).d (st (cn n) r).u (st (cn n) r).p (it n r) (wh n r)) (bs (cn n), (st (cn n) (r + 1)).d, (st (cn n) (r + 1)).u, (st (cn n) (r + 1)).p, it n (r + 1), wh n (r + 1), atS n r) := by
  have hok := cn_ok n hn
  have hf := fa_cn n r hn hr
  have hl := cn_length n
  obtain ⟨e1, e2, e3, e4, e5⟩ := at_eq n r hn hr
  obtain ⟨h0, h1, h2⟩ := at_range n r hn hr
  have l1 := it_length n r
  have l2 := wh_length n r
  have l3 := st_lens (cn n) r
  have l4 := st_lens (cn n) (r + 1)
  have hd := st_dig (cn n) r hok hf
  unfold spec_foSwap.f
  rw [foStep_go (cn n) hok r hf]
  refine evSome (evNeg (by dsimp only; omega) ?_)
  dsimp only
  have hx : ((cn n).length : Int) - 1 - ((fa (cn n) r : Nat) : Int) + 1 = (n : Int) - 1 - (fa (cn n) r : Int) := by omega
  rw [wr (x := ((cn n).length : Int) - 1 - ((fa (cn n) r : Nat) : Int) + 1) (by omega) (by omega), hx]
  have hmv : mv (it n r) 0 (atS n r) (atS n r + 1) = it n (r + 1) := by
    unfold mv
    rw [if_pos rfl]
    exact h2
  have hg : Mgood (it n r).length 0 (atS n r) (atS n r + 1) := by unfold Mgood; omega
  have ha := moApply_ev (it n r) (by omega) 0 (atS n r) (atS n r + 1) hg
  rw [hmv] at ha
  have hi := raInverse_ev (it n (r + 1)) (by rw [it_length]; omega) (trot_perm' n _)
  have jn : Ev (fun k => spec_foSwap.j0 k (atS n r) (bs (cn n)) (st (cn n) r).d (st (cn n) r).u (st (cn n) r).p (it n r) (wh n r) (bs (cn n)) (st (cn n) (r + 1)).d (st (cn n) (r + 1)).u (st (cn n) (r + 1)).p) (bs (cn n), (st (cn n) (r + 1)).d, (st (cn n) (r + 1)).u, (st (cn n) (r + 1)).p, it n (r + 1), wh n (r + 1), atS n r) := by
    refine Ev.step (fun k => by rw [spec_foSwap.j0]) ?_
    rw [wr (x := atS n r + 1) (by omega) (by omega)]
    exact Ev.bind ha (Ev.bind hi (Ev.now _))
  refine evPos (by omega) (evPos (by omega) (evPos (by omega) (evPos (by omega) (evPos (by omega) ?_))))
  by_cases c : rdOf false (st (cn n) r).u (((cn n).length : Int) - 1 - (fa (cn n) r : Int)) = true
  · rw [if_pos c] at e1
    rw [c, decide_eq_true_eq] at hd
    refine evPos hd ?_
    rw [e1, wr (x := atS n r) (by omega) (by omega)]
    exact jn
  · rw [if_neg c] at e1
    simp only [Bool.not_eq_true] at c
    rw [c, decide_eq_false_iff_not] at hd
    refine evNeg hd ?_
    rw [e1]
    exact jn
theorem foSwap_end (n r : Nat) (hf : fa (cn n) r = (cn n).length) (x y : List Int) : Ev (fun k => spec_foSwap.f k (bs (cn n)) (st (cn n) r).d (st (cn n) r).u (st (cn n) r).p x y) ([], [], [], [], [], [], -1) := by
  unfold spec_foSwap.f
  rw [foStep_end (cn n) r hf]
  exact evSome (evPos (by decide) (Ev.now _))
theorem raUpTo_l0 (n : Nat) (hn : n ≤ 1000000000) : ∀ (d : Nat) (j : Int), 0 ≤ j → j.toNat + d = n → Ev (fun k => spec_raUpTo.l0 k (n : Int) (upTo j.toNat) j) (upTo n) := by
  intro d
  induction d with
  | zero =>
    intro j h0 hd
    refine Ev.step (fun k => by rw [spec_raUpTo.l0]) ?_
    exact evNeg (by omega) (evEq (by rw [show j.toNat = n from by omega]))
  | succ d ih =>
    intro j h0 hd
    refine Ev.step (fun k => by rw [spec_raUpTo.l0]) ?_
    refine evPos (by omega) (evPos (by rw [upTo_length]; omega) ?_)
    have h := ih (j + 1) (by omega) (by omega)
    rw [show (j + 1).toNat = j.toNat + 1 from by omega, upTo_succ, Int.toNat_of_nonneg h0] at h
    rw [wr (by omega) (by omega)]
    exact h
theorem raUpTo_ev (n : Nat) (hn : n ≤ 1000000000) : Ev (fun k => spec_raUpTo.f k (n : Int)) (upTo n) := by
  unfold spec_raUpTo.f
  exact raUpTo_l0 n hn n 0 (by omega) (by simp)
theorem foStart_ev (l : List Int) (hn : l.length ≤ 1000) : Ev (fun k => spec_foStart.f k l) (stF l) := by
  unfold spec_foStart.f stF
  refine evPos (by omega) ?_
  rw [l1Own_eq l (by omega), wr (by omega) (by omega), show (l.length : Int) + 1 = ((l.length + 1 : Nat) : Int) from by omega, Int.toNat_natCast]
  exact evSome (Ev.bind (raUpTo_ev (l.length + 1) (by omega)) (Ev.now _))
theorem foSwapper_l0 (n : Nat) (hn : n ≤ 7) : ∀ (d j : Nat), 1 ≤ j → j + d = n →
    Ev (fun k => spec_foSwapper.l0 k (n : Int) (bs (cn j)) ((j : Int) + 1)) (bs (cn n), (st (cn n) 0).d, (st (cn n) 0).u, (st (cn n) 0).p, upTo n, upTo n) := by
  intro d
  induction d with
  | zero =>
    intro j h1 hd
    obtain rfl : j = n := by omega
    refine Ev.step (fun k => by rw [spec_foSwapper.l0]) ?_
    refine evNeg (by omega) ?_
    have hs := foStart_ev (bs (cn j)) (by rw [bs_length, cn_length]; omega)
    rw [stF_st _ (cn_ok j hn)] at hs
    exact Ev.bind hs (Ev.bind (raUpTo_ev j (by omega)) (Ev.bind (raUpTo_ev j (by omega)) (Ev.now _)))
  | succ d ih =>
    intro j h1 hd
    refine Ev.step (fun k => by rw [spec_foSwapper.l0]) ?_
    refine evPos (by omega) (evPos (by rw [bs_length, cn_length]; omega) ?_)
    rw [wr (by omega) (by omega), bs_cn j h1]
    exact ih (j + 1) (by omega) (by omega)
theorem foSwapper_ev (n : Nat) (h1 : 1 ≤ n) (hn : n ≤ 7) : Ev (fun k => spec_foSwapper.f k (n : Int)) (bs (cn n), (st (cn n) 0).d, (st (cn n) 0).u, (st (cn n) 0).p, upTo n, upTo n) := by
  unfold spec_foSwapper.f
  exact foSwapper_l0 n hn (n - 1) 1 (by omega) (by omega)
theorem foSwapperAt_l0 (n : Nat) (hn : n ≤ 7) : ∀ (c r : Nat), r + c < fac n → c ≤ 10000 →
    Ev (fun k => spec_foSwapperAt.l0 k (c : Int) (bs (cn n)) (st (cn n) r).d (st (cn n) r).u (st (cn n) r).p (it n r) (wh n r)) (bs (cn n), (st (cn n) (r + c)).d, (st (cn n) (r + c)).u, (st (cn n) (r + c)).p, it n (r + c), wh n (r + c), true) := by
  intro c
  induction c with
  | zero =>
    intro r hr hm
    refine Ev.step (fun k => by rw [spec_foSwapperAt.l0]) ?_
    exact evNeg (by omega) (Ev.now _)
  | succ c ih =>
    intro r hr hm
    refine Ev.step (fun k => by rw [spec_foSwapperAt.l0]) ?_
    have c1 : r + 1 < fac n := by omega
    obtain ⟨h0, h1, h2⟩ := at_range n r hn c1
    refine evPos (by omega) (Ev.bind (foSwap_go n r hn c1) (evNeg (by dsimp only; omega) ?_))
    dsimp only
    rw [wr (by omega) (by omega), show ((c + 1 : Nat) : Int) - 1 = (c : Int) from by omega, show r + (c + 1) = r + 1 + c from by omega]
    exact ih (r + 1) (by omega) (by omega)
theorem foSwapperAt_ev (n : Nat) (h1 : 1 ≤ n) (hn : n ≤ 7) (m : Nat) (hm : m < fac n) (hb : m ≤ 10000) : Ev (fun k => spec_foSwapperAt.f k (n : Int) (m : Int)) (bs (cn n), (st (cn n) m).d, (st (cn n) m).u, (st (cn n) m).p, it n m, wh n m, true) := by
  unfold spec_foSwapperAt.f
  have h := foSwapperAt_l0 n hn m 0 (by omega) hb
  have h0 : it n 0 = upTo n := trot_zero n
  have h2 : wh n 0 = upTo n := by unfold wh; rw [h0, invL_upTo]
  rw [h0, h2, Nat.zero_add] at h
  exact Ev.bind (foSwapper_ev n h1 hn) h
theorem cur_one (l : List Int) (hl : Byt l) (a s n : Int) (h0 : 0 ≤ a) (h1 : a ≤ 900000000000) : ∃ b a' s', spec_l1Cur_one.f l a s n = some (b, a', s') ∧ a ≤ a' ∧ a' ≤ a + 2 := by
  unfold spec_l1Cur_one.f
  obtain ⟨v, a', s', e, h2, h3, h4, h5⟩ := cur_pick l hl a s n h0 h1
  rw [e]
  simp only [Option.bind_some]
  exact ⟨_, _, _, rfl, h2, h3⟩
theorem least_eq (a b : Int) : spec_l1Least.f a b = some (if a < b then a else b) := by
  unfold spec_l1Least.f
  split <;> rfl
theorem order_j1 (l : List Int) (hl : Byt l) (out : List Int) (b : Bool) (a s : Int) (ho : out.length ≤ 20) (hb : b = true → 0 < out.length) (h0 : 0 ≤ a) (h1 : a ≤ 700000000000) :
    ∃ r a' s', r.length ≤ 20 ∧ a ≤ a' ∧ a' ≤ a + 4 ∧ Ev (fun k => spec_l1Cur_order.j1 k out b l a s) (r, a', s') := by
  cases b
  · exact ⟨out, a, s, ho, by omega, by omega, Ev.step (fun k => by rw [spec_l1Cur_order.j1]) (evNeg (by simp) (Ev.now _))⟩
  · have hpos := hb rfl
    obtain ⟨v, a1, s1, e, g1, g2, g3, g4⟩ := cur_pick l hl a s (out.length : Int) h0 (by omega)
    obtain ⟨v2, a2, s2, e2, g5, g6, _⟩ := cur_among l hl a1 s1 [-1, 0, (out.length : Int), 4611686018427387904] (by simp) (by omega) (by omega)
    refine ⟨out.set v.toNat v2, a2, s2, by simpa using ho, by omega, by omega, Ev.step (fun k => by rw [spec_l1Cur_order.j1]) ?_⟩
    refine evPos rfl ?_
    rw [e]
    refine evSome ?_
    rw [e2]
    exact evSome (evPos g3 (evPos (by omega) (Ev.now _)))
theorem order_l0 (l : List Int) (hl : Byt l) (n : Int) : ∀ (d : Nat) (out : List Int) (a s : Int), out.length + d = 20 → 0 ≤ a → a + 2 * d + 20 ≤ 700000000000 →
    ∃ r a' s', r.length ≤ 20 ∧ a ≤ a' ∧ a' ≤ a + 2 * d + 20 ∧ Ev (fun k => spec_l1Cur_order.l0 k n out (out.length : Int) l a s) (r, a', s') := by
  have hend : ∀ (d : Nat) (out : List Int) (a s : Int), out.length ≤ 20 → 0 ≤ a → a + 2 * d + 20 ≤ 700000000000 → ¬ (out.length : Int) < (if n < 20 then n else 20) → ∃ r a' s', r.length ≤ 20 ∧ a ≤ a' ∧ a' ≤ a + 2 * d + 20 ∧ Ev (fun k => spec_l1Cur_order.l0 k n out (out.length : Int) l a s) (r, a', s') := by
    intro d out a s ho h1 h2 hc
    by_cases c : (out.length : Int) > 0
    · obtain ⟨b, a1, s1, e, g1, g2⟩ := cur_one l hl a s 25 h1 (by omega)
      obtain ⟨r, a', s', r1, r2, r3, hr⟩ := order_j1 l hl out b a1 s1 ho (fun _ => by omega) (by omega) (by omega)
      refine ⟨r, a', s', r1, by omega, by omega, Ev.step (fun k => by rw [spec_l1Cur_order.l0]) ?_⟩
      rw [least_eq]
      refine evSome (evNeg hc (evPos c ?_))
      rw [e]
      exact evSome hr
    · obtain ⟨r, a', s', r1, r2, r3, hr⟩ := order_j1 l hl out false a s ho (fun h => by cases h) (by omega) (by omega)
      refine ⟨r, a', s', r1, by omega, by omega, Ev.step (fun k => by rw [spec_l1Cur_order.l0]) ?_⟩
      rw [least_eq]
      exact evSome (evNeg hc (evNeg c hr))
  intro d
  induction d with
  | zero =>
    intro out a s hd h1 h2
    exact hend 0 out a s (by omega) h1 h2 (by split <;> omega)
  | succ d ih =>
    intro out a s hd h1 h2
    by_cases hc : (out.length : Int) < (if n < 20 then n else 20)
    · obtain ⟨v, a1, s1, e, g1, g2, g3, g4⟩ := cur_pick l hl a s ((out.length : Int) + 1) h1 (by omega)
      have hv : v.toNat ≤ out.length := by omega
      have hlen : (([] ++ out.take v.toNat) ++ [(out.length : Int)] ++ out.drop v.toNat).length = out.length + 1 := by simp; omega
      obtain ⟨r, a', s', r1, r2, r3, hr⟩ := ih (([] ++ out.take v.toNat) ++ [(out.length : Int)] ++ out.drop v.toNat) a1 s1 (by rw [hlen]; omega) (by omega) (by omega)
      rw [hlen] at hr
      refine ⟨r, a', s', r1, by omega, by omega, Ev.step (fun k => by rw [spec_l1Cur_order.l0]) ?_⟩
      rw [least_eq, wr (x := (out.length : Int) + 1) (by omega) (by omega)]
      refine evSome (evPos hc ?_)
      rw [e]
      have h6 : (out.take v.toNat).length ≤ 20 := by rw [List.length_take]; omega
      have h7 : (out.drop v.toNat).length ≤ 20 := by rw [List.length_drop]; omega
      refine evSome (evSome (evPos g3 (evPos (by omega) (evSome (evPos (by simp; omega) (evSome (evPos (by simp; omega) (evSome (evSome (evPos (by simp; omega) ?_))))))))))
      rw [show (out.length : Int) + 1 = ((out.length + 1 : Nat) : Int) from by omega]
      exact hr
    · exact hend (d + 1) out a s (by omega) h1 h2 hc
theorem cur_order (l : List Int) (hl : Byt l) (a s n : Int) (h0 : 0 ≤ a) (h1 : a ≤ 600000000000) : ∃ r a' s', r.length ≤ 20 ∧ a ≤ a' ∧ a' ≤ a + 60 ∧ Ev (fun k => spec_l1Cur_order.f k l a s n) (r, a', s') := by
  unfold spec_l1Cur_order.f
  obtain ⟨r, a', s', r1, r2, r3, hr⟩ := order_l0 l hl n 20 [] a s (by simp) h0 (by omega)
  exact ⟨r, a', s', r1, r2, by omega, hr⟩
theorem raProduct_l0 (xs : List Int) (hn : xs.length ≤ 35184372088832) (hx : ∀ x ∈ xs, 2 ≤ x ∧ x ≤ 12) : ∀ (d : Nat) (j n : Int), 0 ≤ j → j.toNat + d = xs.length → 1 ≤ n → n ≤ 1000000 →
    Ev (fun k => spec_raProduct.l0 k n xs (xs.length : Int) j) (prS n (xs.drop j.toNat)) := by
  intro d
  induction d with
  | zero =>
    intro j n h0 hd h1 h2
    refine Ev.step (fun k => by rw [spec_raProduct.l0]) ?_
    refine evNeg (by omega) (evEq ?_)
    rw [drop_end _ _ (by omega)]; rfl
  | succ d ih =>
    intro j n h0 hd h1 h2
    refine Ev.step (fun k => by rw [spec_raProduct.l0]) ?_
    refine evPos (by omega) (evPos (by omega) (evPos (by omega) ?_))
    have hb := hx (rd xs j) (by rw [rd_get xs j (by omega)]; exact List.getElem_mem _)
    have q1 : n * rd xs j ≤ n * 12 := Int.mul_le_mul_of_nonneg_left hb.2 (by omega)
    have q2 : n * 2 ≤ n * rd xs j := Int.mul_le_mul_of_nonneg_left hb.1 (by omega)
    rw [drop_rd xs j h0 (by omega), prS]
    generalize n * rd xs j = p at q1 q2 ⊢
    rw [wr (by omega) (by omega), wr (by omega) (by omega)]
    by_cases c : p > 1000000
    · exact evPos c (evEq (by rw [if_pos c]))
    · refine evNeg c ?_
      rw [if_neg c]
      exact ih _ _ (by omega) (by omega) (by omega) (by omega)
theorem raProduct_ev (xs : List Int) (hn : xs.length ≤ 35184372088832) (hx : ∀ x ∈ xs, 2 ≤ x ∧ x ≤ 12) : Ev (fun k => spec_raProduct.f k xs) (prS 1 xs) := by
  unfold spec_raProduct.f
  exact raProduct_l0 xs hn hx xs.length 0 1 (by omega) (by simp) (by omega) (by omega)
theorem l1In_eq (x a b : Int) : spec_l1In.f x a b = some (decide (a ≤ x ∧ x ≤ b)) := by
  unfold spec_l1In.f
  by_cases h : x ≥ a
  · rw [if_pos h]; have h' : a ≤ x := h; simp [h']
  · rw [if_neg h]; have h' : ¬ a ≤ x := h; simp [h']
theorem l1All_l0 (a b : Int) (xs : List Int) (hn : xs.length ≤ 35184372088832) : ∀ (d : Nat) (j : Int), 0 ≤ j → j.toNat + d = xs.length →
    Ev (fun k => spec_l1All.l0 k a b xs (xs.length : Int) j) ((xs.drop j.toNat).all fun x => decide (a ≤ x ∧ x ≤ b)) := by
  intro d
  induction d with
  | zero =>
    intro j h0 hd
    refine Ev.step (fun k => by rw [spec_l1All.l0]) ?_
    refine evNeg (by omega) (evEq ?_)
    rw [drop_end _ _ (by omega)]; rfl
  | succ d ih =>
    intro j h0 hd
    refine Ev.step (fun k => by rw [spec_l1All.l0]) ?_
    refine evPos (by omega) (evPos (by omega) (evPos (by omega) ?_))
    simp only [l1In_eq, Option.bind_some]
    rw [wr (by omega) (by omega), drop_rd xs j h0 (by omega), List.all_cons]
    by_cases c : a ≤ rd xs j ∧ rd xs j ≤ b
    · exact evPos (by simpa using c) (evTo (ih _ (by omega) (by omega)) (by simp [c]))
    · exact evNeg (by simpa using c) (evEq (by rw [decide_eq_false c]; rfl))
theorem l1All_ev (xs : List Int) (a b : Int) (hn : xs.length ≤ 35184372088832) : Ev (fun k => spec_l1All.f k xs a b) (xs.all fun x => decide (a ≤ x ∧ x ≤ b)) := by
  unfold spec_l1All.f
  exact evTo (l1All_l0 a b xs hn xs.length 0 (by omega) (by simp)) (by simp)
theorem foBases_ev (xs : List Int) (hn : xs.length ≤ 35184372088832) : Ev (fun k => spec_foBases.f k xs) (fob xs) := by
  unfold spec_foBases.f spec_raBases.f
  by_cases c1 : xs.length ≤ 12
  rotate_left
  · refine Ev.bind (evNeg (by omega) (Ev.now _)) (evNeg (by simp) (evEq ?_))
    simp [fob, c1]
  by_cases c2 : (xs.all fun x => decide (2 ≤ x ∧ x ≤ 12)) = true
  rotate_left
  · have h2 := l1All_ev xs 2 12 hn
    simp only [Bool.not_eq_true] at c2
    rw [c2] at h2
    refine Ev.bind (evPos (by omega) (Ev.bind h2 (evNeg (by simp) (Ev.now _)))) (evNeg (by simp) (evEq ?_))
    unfold fob; rw [c2]; simp
  have hx : ∀ x ∈ xs, 2 ≤ x ∧ x ≤ 12 := fun x hx => by simpa using List.all_eq_true.1 c2 x hx
  have h2 := l1All_ev xs 2 12 hn
  rw [c2] at h2
  have hp := raProduct_ev xs hn hx
  refine Ev.bind (evPos (by omega) (Ev.bind h2 (evPos rfl (Ev.bind hp (Ev.now _))))) ?_
  by_cases c3 : prS 1 xs ≤ 1000000
  · refine evPos (by simpa using c3) (Ev.bind hp (evEq ?_))
    unfold fob; rw [c2]; simp [c1]
  · refine evNeg (by simpa using c3) (evEq ?_)
    unfold fob; rw [c2]; simp [c1]; omega
theorem foAt_l0 (cs : List Nat) (h : Ok cs) : ∀ (m r : Nat), r + m < prod cs → m ≤ 10000 →
    Ev (fun k => spec_foAt.l0 k (m : Int) (bs cs) (st cs r).d (st cs r).u (st cs r).p) (bs cs, (st cs (r + m)).d, (st cs (r + m)).u, (st cs (r + m)).p, true) := by
  intro m
  induction m with
  | zero =>
    intro r hr hm
    refine Ev.step (fun k => by rw [spec_foAt.l0]) ?_
    exact evNeg (by omega) (Ev.now _)
  | succ m ih =>
    intro r hr hm
    refine Ev.step (fun k => by rw [spec_foAt.l0]) ?_
    refine evPos (by omega) ?_
    have c := (last_rank cs h r (by omega)).2 (by omega)
    rw [foStep_go cs h r c]
    refine evSome (evNeg (by dsimp only; omega) ?_)
    dsimp only
    rw [wr (by omega) (by omega), show ((m + 1 : Nat) : Int) - 1 = (m : Int) from by omega, show r + (m + 1) = r + 1 + m from by omega]
    exact ih (r + 1) (by omega) (by omega)
theorem foAt_ev (cs : List Nat) (h : Ok cs) (m : Nat) (hm : m ≤ 10000) (hp : m < prod cs) : Ev (fun k => spec_foAt.f k (bs cs) (m : Int)) (bs cs, (st cs m).d, (st cs m).u, (st cs m).p, true) := by
  unfold spec_foAt.f
  have hs := foStart_ev (bs cs) (by rw [bs_length]; have := h.len; omega)
  rw [stF_st cs h] at hs
  have := foAt_l0 cs h m 0 (by omega) hm
  rw [Nat.zero_add] at this
  exact Ev.bind hs this
theorem basesL1 (l : List Int) (a s : Int) : ∀ (c : Nat) (xs : List Int), c ≤ 100 → xs.length + c ≤ 1000 → ∃ ys, Ev (fun k => spec_l1Cur_bases.l1 k xs (c : Int) l a s) (ys, a, s) ∧ ys.length ≤ 1000
  | 0, xs, hc, hx => ⟨xs, Ev.step (fun k => by rw [spec_l1Cur_bases.l1]) (by exact evNeg (by omega) (Ev.now _)), by omega⟩
  | c + 1, xs, hc, hx => by
    obtain ⟨ys, h, hl⟩ := basesL1 l a s c (xs ++ [12]) (by omega) (by simp; omega)
    refine ⟨ys, Ev.step (fun k => by rw [spec_l1Cur_bases.l1]) ?_, hl⟩
    refine evPos (by omega) (evPos (by omega) ?_)
    rw [wr (by omega) (by omega), show ((c + 1 : Nat) : Int) - 1 = (c : Int) from by omega]
    exact h
theorem basesL2 (l : List Int) (a s : Int) : ∀ (c : Nat) (xs : List Int), c ≤ 100 → xs.length + c ≤ 1000 → ∃ ys, Ev (fun k => spec_l1Cur_bases.l2 k xs (c : Int) l a s) (ys, a, s) ∧ ys.length ≤ 1000
  | 0, xs, hc, hx => ⟨xs, Ev.step (fun k => by rw [spec_l1Cur_bases.l2]) (by exact evNeg (by omega) (Ev.now _)), by omega⟩
  | c + 1, xs, hc, hx => by
    obtain ⟨ys, h, hl⟩ := basesL2 l a s c (xs ++ [2]) (by omega) (by simp; omega)
    refine ⟨ys, Ev.step (fun k => by rw [spec_l1Cur_bases.l2]) ?_, hl⟩
    refine evPos (by omega) (evPos (by omega) ?_)
    rw [wr (by omega) (by omega), show ((c + 1 : Nat) : Int) - 1 = (c : Int) from by omega]
    exact h
theorem basesL0 (l : List Int) (hl : Byt l) : ∀ (c : Nat) (xs : List Int) (a s : Int), c ≤ 100 → xs.length + c ≤ 900 → 0 ≤ a → a + 4 * c ≤ 600000000000 → ∃ ys a' s', Ev (fun k => spec_l1Cur_bases.l0 k xs (c : Int) l a s) (ys, a', s') ∧ ys.length ≤ 1000 ∧ a ≤ a' ∧ a' ≤ a + 4 * c + 100
  | 0, xs, a, s, hc, hx, h0, h1 => by
    obtain ⟨v, a1, s1, e, g1, g2, g3, g4⟩ := cur_pick l hl a s 20 h0 (by omega)
    have hE : ∀ r, Ev (fun k => if v = 0 then ((spec_l1Cur_among.f l a1 s1 (([0, 1, (-3), 12, 13] : List Int))).bind fun bt130 => (if xs.length < 17592186044416 then (some ((xs ++ [bt130.1]), bt130.2.1, bt130.2.2)) else (none))) else (if v = 1 then ((spec_l1Cur_pick.f l a1 s1 3).bind fun bt136 => (spec_l1Cur_bases.l1 k xs (wrap64 (5 + bt136.1)) l bt136.2.1 bt136.2.2)) else (if v = 2 then ((spec_l1Cur_pick.f l a1 s1 2).bind fun bt142 => (spec_l1Cur_bases.l2 k ([] : List Int) (wrap64 (12 + bt142.1)) l bt142.2.1 bt142.2.2)) else (some (xs, a1, s1))))) r → Ev (fun k => spec_l1Cur_bases.l0 k xs ((0 : Nat) : Int) l a s) r := by
      intro r hr
      exact Ev.step (fun k => by rw [spec_l1Cur_bases.l0]) (by exact evNeg (by omega) (Ev.bind (evOk e) hr))
    by_cases c0 : v = 0
    · obtain ⟨x, a2, s2, e2, i1, i2, i3⟩ := cur_among l hl a1 s1 [0, 1, (-3), 12, 13] (by decide) (by omega) (by omega)
      exact ⟨xs ++ [x], a2, s2, hE _ (evPos c0 (Ev.bind (evOk e2) (evPos (by omega) (Ev.now _)))), by simp; omega, by omega, by omega⟩
    by_cases c1 : v = 1
    · obtain ⟨x, a2, s2, e2, i1, i2, i3, i4⟩ := cur_pick l hl a1 s1 3 (by omega) (by omega)
      obtain ⟨n, rfl⟩ := Int.eq_ofNat_of_zero_le i3
      obtain ⟨ys, h, hy⟩ := basesL1 l a2 s2 (5 + n) xs (by omega) (by omega)
      refine ⟨ys, a2, s2, hE _ (evNeg c0 (evPos c1 (Ev.bind (evOk e2) ?_))), hy, by omega, by omega⟩
      rw [wr (by omega) (by omega)]
      rw [show ((5 + n : Nat) : Int) = 5 + (n : Int) from by omega] at h
      exact h
    by_cases c2 : v = 2
    · obtain ⟨x, a2, s2, e2, i1, i2, i3, i4⟩ := cur_pick l hl a1 s1 2 (by omega) (by omega)
      obtain ⟨n, rfl⟩ := Int.eq_ofNat_of_zero_le i3
      obtain ⟨ys, h, hy⟩ := basesL2 l a2 s2 (12 + n) [] (by omega) (by simp; omega)
      refine ⟨ys, a2, s2, hE _ (evNeg c0 (evNeg c1 (evPos c2 (Ev.bind (evOk e2) ?_)))), hy, by omega, by omega⟩
      rw [wr (by omega) (by omega)]
      rw [show ((12 + n : Nat) : Int) = 12 + (n : Int) from by omega] at h
      exact h
    exact ⟨xs, a1, s1, hE _ (evNeg c0 (evNeg c1 (evNeg c2 (Ev.now _)))), by omega, by omega, by omega⟩
  | c + 1, xs, a, s, hc, hx, h0, h1 => by
    obtain ⟨v, a1, s1, e, g1, g2, g3, g4⟩ := cur_pick l hl a s 4 h0 (by omega)
    obtain ⟨ys, a', s', h, hy, j1, j2⟩ := basesL0 l hl c (xs ++ [2 + v]) a1 s1 (by omega) (by simp; omega) (by omega) (by omega)
    refine ⟨ys, a', s', Ev.step (fun k => by rw [spec_l1Cur_bases.l0]) ?_, hy, by omega, by omega⟩
    refine evPos (by omega) (Ev.bind (evOk e) (evPos (by omega) ?_))
    rw [wr (x := 2 + v) (by omega) (by omega), wr (by omega) (by omega), show ((c + 1 : Nat) : Int) - 1 = (c : Int) from by omega]
    exact h
theorem cur_bases6 (l : List Int) (hl : Byt l) (a s : Int) (h0 : 0 ≤ a) (h1 : a ≤ 500000000000) : ∃ ys a' s', Ev (fun k => spec_l1Cur_bases.f k l a s 6) (ys, a', s') ∧ ys.length ≤ 1000 ∧ a ≤ a' ∧ a' ≤ a + 200 := by
  unfold spec_l1Cur_bases.f
  rw [wr (x := 6 + 1) (by omega) (by omega)]
  obtain ⟨v, a1, s1, e, g1, g2, g3, g4⟩ := cur_pick l hl a s (6 + 1) h0 (by omega)
  obtain ⟨n, rfl⟩ := Int.eq_ofNat_of_zero_le g3
  obtain ⟨ys, a', s', h, hy, j1, j2⟩ := basesL0 l hl n [] a1 s1 (by omega) (by simp; omega) (by omega) (by omega)
  exact ⟨ys, a', s', Ev.bind (evOk e) h, hy, by omega, by omega⟩
theorem smallL0 (l : List Int) (hl : Byt l) : ∀ (c : Nat) (xs : List Int) (a s : Int), c ≤ 100 → xs.length + c ≤ 900 → 0 ≤ a → a + 4 * c ≤ 400000000000 → ∃ ys a' s', Ev (fun k => spec_l1Cur_small.l0 k xs (c : Int) l a s) (ys, a', s') ∧ ys.length ≤ 1000 ∧ a ≤ a' ∧ a' ≤ a + 4 * c + 100
  | 0, xs, a, s, hc, hx, h0, h1 => by
    obtain ⟨b1, a1, s1, e1, g1, g2⟩ := cur_one l hl a s 30 h0 (by omega)
    obtain ⟨b2, a2, s2, e2, i1, i2⟩ := cur_one l hl a1 s1 30 (by omega) (by omega)
    cases b1
    · cases b2
      · exact ⟨xs, a2, s2, Ev.step (fun k => by rw [spec_l1Cur_small.l0]) (by exact evNeg (by omega) (Ev.bind (evOk e1) (evNeg (by simp) (Ev.bind (evOk e2) (evNeg (by simp) (Ev.now _)))))), by omega, by omega, by omega⟩
      · exact ⟨_, a2, s2, Ev.step (fun k => by rw [spec_l1Cur_small.l0]) (by exact evNeg (by omega) (Ev.bind (evOk e1) (evNeg (by simp) (Ev.bind (evOk e2) (evPos rfl (Ev.now _)))))), by simp, by omega, by omega⟩
    · exact ⟨_, a1, s1, Ev.step (fun k => by rw [spec_l1Cur_small.l0]) (by exact evNeg (by omega) (Ev.bind (evOk e1) (evPos rfl (Ev.now _)))), by simp, by omega, by omega⟩
  | c + 1, xs, a, s, hc, hx, h0, h1 => by
    obtain ⟨v, a1, s1, e, g1, g2, g3, g4⟩ := cur_pick l hl a s 3 h0 (by omega)
    obtain ⟨ys, a', s', h, hy, j1, j2⟩ := smallL0 l hl c (xs ++ [2 + v]) a1 s1 (by omega) (by simp; omega) (by omega) (by omega)
    refine ⟨ys, a', s', Ev.step (fun k => by rw [spec_l1Cur_small.l0]) ?_, hy, by omega, by omega⟩
    refine evPos (by omega) (Ev.bind (evOk e) (evPos (by omega) ?_))
    rw [wr (x := 2 + v) (by omega) (by omega), wr (by omega) (by omega), show ((c + 1 : Nat) : Int) - 1 = (c : Int) from by omega]
    exact h
theorem cur_small (l : List Int) (hl : Byt l) (a s : Int) (h0 : 0 ≤ a) (h1 : a ≤ 300000000000) : ∃ ys a' s', Ev (fun k => spec_l1Cur_small.f k l a s) (ys, a', s') ∧ ys.length ≤ 1000 ∧ a ≤ a' ∧ a' ≤ a + 400 := by
  unfold spec_l1Cur_small.f
  obtain ⟨b1, a1, s1, e1, g1, g2⟩ := cur_one l hl a s 20 h0 (by omega)
  cases b1
  · obtain ⟨v, a2, s2, e, i1, i2, i3, i4⟩ := cur_pick l hl a1 s1 5 (by omega) (by omega)
    obtain ⟨n, rfl⟩ := Int.eq_ofNat_of_zero_le i3
    obtain ⟨ys, a', s', h, hy, j1, j2⟩ := smallL0 l hl n [] a2 s2 (by omega) (by simp; omega) (by omega) (by omega)
    exact ⟨ys, a', s', Ev.bind (evOk e1) (evNeg (by simp) (Ev.bind (evOk e) h)), hy, by omega, by omega⟩
  · obtain ⟨ys, a', s', h, hy, j1, j2⟩ := cur_bases6 l hl a1 s1 (by omega) (by omega)
    exact ⟨ys, a', s', Ev.bind (evOk e1) (evPos rfl (Ev.bind h (Ev.now _))), hy, by omega, by omega⟩
theorem fd (l : List Int) (hl : Byt l) : FD l := by
  refine ⟨fun a s h0 h1 => ?_, fun a s n h0 h1 => cur_pick l hl a s n h0 h1, fun a s xs hx h0 h1 => ?_, fun a s n h0 h1 => cur_one l hl a s n h0 h1, fun ys hy => ?_⟩
  · obtain ⟨ys, a', s', ⟨K, h⟩, w⟩ := cur_small l hl a s h0 h1
    exact ⟨K, ys, a', s', h K (Nat.le_refl _), w⟩
  · obtain ⟨v, a', s', e, i1, i2, _⟩ := cur_among l hl a s xs hx h0 h1
    exact ⟨v, a', s', e, i1, i2⟩
  · obtain ⟨K, hfo⟩ := foBases_ev ys (by omega)
    refine ⟨K, fob ys, hfo K (Nat.le_refl _), fun c => ?_⟩
    obtain ⟨q1, q2, q3⟩ := fob_of c
    obtain ⟨cs, hk, hb⟩ := ok_of c
    subst hb
    have hpp := prod_pos cs hk.rad
    have hln := hk.len
    have hll := bs_length cs
    have e5 := prodI_bs cs
    have hP := raProduct_ev (bs cs) (by omega) q2
    rw [prS_of (bs cs) 1 q2 (by omega) (by omega), Int.one_mul, e5] at hP
    obtain ⟨K2, hP⟩ := hP
    have hF : ∀ m : Nat, m < prod cs → m ≤ 10000 → FA (bs cs) (m : Int) := fun m h1 h2 => by
      obtain ⟨K3, hA⟩ := foAt_ev cs hk m h2 h1
      have l3 := st_lens cs m
      exact ⟨K3, _, _, _, _, hA K3 (Nat.le_refl _), rfl, by omega, by omega, by omega⟩
    refine ⟨K2, _, _, hP K2 (Nat.le_refl _), least_eq _ _, fun r h0 h1 => ?_, ?_⟩
    · obtain ⟨m, rfl⟩ := Int.eq_ofNat_of_zero_le h0
      exact hF m (by split at h1 <;> omega) (by split at h1 <;> omega)
    · rw [wr (by omega) (by omega), show (prod cs : Int) - 1 = ((prod cs - 1 : Nat) : Int) from by omega]
      exact hF _ (by omega) (by omega)
theorem sd (l : List Int) (hl : Byt l) : SD l := by
  refine ⟨fd l hl, fun n h1 h5 => ?_, fun a s n h1 h5 h0 ha => ?_⟩
  · obtain ⟨N, rfl⟩ := Int.eq_ofNat_of_zero_le (show 0 ≤ n by omega)
    have hN : N ≤ 7 := by omega
    have hp := fac_pos N
    have hp2 : fac N ≤ 5040 := Nat.le_trans (fac_mono hN) (by decide +kernel)
    obtain ⟨K, hK⟩ := raFactorial_ev N (by omega)
    have hF : ∀ m : Nat, m < fac N → SA (N : Int) (m : Int) := fun m hm => by
      obtain ⟨K3, hA⟩ := foSwapperAt_ev N (by omega) hN m hm (by omega)
      have l3 := st_lens (cn N) m
      have lc := cn_length N
      have lb := bs_length (cn N)
      have i1 := it_length N m
      have i2 := wh_length N m
      exact ⟨K3, _, _, _, _, _, _, _, hA K3 (Nat.le_refl _), ⟨by omega, by omega, by omega, by omega, by omega, by omega⟩, by omega⟩
    refine ⟨K, _, hK K (Nat.le_refl _), fun r h0 h1 => ?_, ?_⟩
    · obtain ⟨m, rfl⟩ := Int.eq_ofNat_of_zero_le h0
      exact hF m (by omega)
    · rw [wr (by omega) (by omega), show (fac N : Int) - 1 = ((fac N - 1 : Nat) : Int) from by omega]
      exact hF _ (by omega)
  · obtain ⟨r, a', s', r1, _, _, ⟨K, h⟩⟩ := cur_order l hl a s n h0 ha
    exact ⟨K, r, a', s', h K (Nat.le_refl _), by omega⟩
theorem size_l0 (xs : List Int) (hn : xs.length ≤ 35184372088832) (hx : ∀ x ∈ xs, 2 ≤ x ∧ x ≤ 12) : ∀ (d : Nat) (j n : Int), 0 ≤ j → j.toNat + d = xs.length → 1 ≤ n → n ≤ 1000001 →
    Ev (fun k => impl_size.l0 k n xs (xs.length : Int) j) (capI n (xs.drop j.toNat)) := by
  intro d
  induction d with
  | zero =>
    intro j n h0 hd h1 h2
    refine Ev.step (fun k => by rw [impl_size.l0]) ?_
    refine evNeg (by omega) (evEq ?_)
    rw [drop_end _ _ (by omega)]; rfl
  | succ d ih =>
    intro j n h0 hd h1 h2
    refine Ev.step (fun k => by rw [impl_size.l0]) ?_
    refine evPos (by omega) (evPos (by omega) (evPos (by omega) ?_))
    have hb := hx (rd xs j) (by rw [rd_get xs j (by omega)]; exact List.getElem_mem _)
    have q1 : n * rd xs j ≤ n * 12 := Int.mul_le_mul_of_nonneg_left hb.2 (by omega)
    have q2 : n * 2 ≤ n * rd xs j := Int.mul_le_mul_of_nonneg_left hb.1 (by omega)
    rw [drop_rd xs j h0 (by omega), capI]
    generalize n * rd xs j = p at q1 q2 ⊢
    rw [wr (by omega) (by omega), wr (by omega) (by omega), show mn p 1000001 = (if p ≤ 1000001 then p else 1000001) from by simp only [mn]; split <;> split <;> omega]
    exact ih _ _ (by omega) (by omega) (by split <;> omega) (by split <;> omega)
theorem size_ev (xs : List Int) (hn : xs.length ≤ 35184372088832) (hx : ∀ x ∈ xs, 2 ≤ x ∧ x ≤ 12) : Ev (fun k => impl_size.f k xs) (capI 1 xs) := by
  unfold impl_size.f
  exact size_l0 xs hn hx xs.length 0 1 (by omega) (by simp) (by omega) (by omega)
theorem mixedRank_ev : ∀ (b d : List Int), (∀ x ∈ b, 2 ≤ x ∧ x ≤ 12) → b.length ≤ 12 → prodI b ≤ 5040 → all2 b d = true → Ev (fun k => impl_mixedRank.f k b d) (mr b d)
  | [], [], _, _, _, _ => Ev.step (fun k => by rw [impl_mixedRank.f]) (evPos (by simp) (evEq (by simp [mr])))
  | [], _ :: _, _, _, _, h => by simp [all2] at h
  | b :: B, [], _, _, _, h => by simp [all2] at h
  | b :: B, d :: D, hx, hl, hp, h => by
    rw [all2, Bool.and_eq_true, decide_eq_true_eq] at h
    have hb := hx b (by simp)
    have hB : ∀ x ∈ B, 2 ≤ x ∧ x ≤ 12 := fun x hx' => hx x (by simp [hx'])
    have hP := prodI_pos B hB
    rw [prodI] at hp
    rw [List.length_cons] at hl
    have t := tail_le hb.1 hP
    obtain ⟨q1, q2⟩ := dig_le h.1.1 h.1.2 hP
    obtain ⟨m1, m2⟩ := mr_range B D (all2_len B D h.2) (all2_at B D h.2)
    have ih := mixedRank_ev B D hB (by omega) (by omega) h.2
    have hr := size_ev B (by omega) hB
    rw [capI_of B hB (by omega)] at hr
    refine Ev.step (fun k => by rw [impl_mixedRank.f]) ?_
    simp only [List.drop_succ_cons, List.drop_zero, List.length_cons]
    refine evNeg (by omega) (evPos (by omega) (Ev.bind hr (evPos (by omega) (Ev.bind ih (evPos (by omega) ?_)))))
    rw [show rd (d :: D) 0 = d from rfl]
    have e : mr (b :: B) (d :: D) = d * prodI B + (if d % 2 = 1 then prodI B - 1 - mr B D else mr B D) := by simp [mr]
    rw [e]
    have hm := Int.tmod_eq_emod_of_nonneg (b := 2) h.1.1
    generalize b * prodI B = Y at hp t q2
    generalize d * prodI B = X at q1 q2 ⊢
    generalize mr B D = M at m1 m2 ⊢
    generalize prodI B = P at *
    by_cases c : Int.tmod d 2 = 1
    · refine evPos c (evEq ?_)
      rw [if_pos (by omega), wr (x := X) (by omega) (by omega), wr (x := P - 1) (by omega) (by omega), wr (x := P - 1 - M) (by omega) (by omega), wr (by omega) (by omega)]
    · refine evNeg c (evEq ?_)
      rw [if_neg (by omega), wr (x := X) (by omega) (by omega), wr (by omega) (by omega)]
theorem within_eq (x a b : Int) : impl_within.f x a b = some (decide (a ≤ x ∧ x ≤ b)) := by
  unfold impl_within.f
  by_cases h : x ≥ a
  · rw [if_pos h]; have h' : a ≤ x := h; simp [h']
  · rw [if_neg h]; have h' : ¬ a ≤ x := h; simp [h']
theorem allWithin_l0 (a b : Int) (xs : List Int) (hn : xs.length ≤ 35184372088832) : ∀ (d : Nat) (j : Int), 0 ≤ j → j.toNat + d = xs.length →
    Ev (fun k => impl_allWithin.l0 k a b xs (xs.length : Int) j) ((xs.drop j.toNat).all fun x => decide (a ≤ x ∧ x ≤ b)) := by
  intro d
  induction d with
  | zero =>
    intro j h0 hd
    refine Ev.step (fun k => by rw [impl_allWithin.l0]) ?_
    refine evNeg (by omega) (evEq ?_)
    rw [drop_end _ _ (by omega)]; rfl
  | succ d ih =>
    intro j h0 hd
    refine Ev.step (fun k => by rw [impl_allWithin.l0]) ?_
    refine evPos (by omega) (evPos (by omega) (evPos (by omega) ?_))
    simp only [within_eq, Option.bind_some]
    rw [wr (by omega) (by omega), drop_rd xs j h0 (by omega), List.all_cons]
    by_cases c : a ≤ rd xs j ∧ rd xs j ≤ b
    · exact evPos (by simpa using c) (evTo (ih _ (by omega) (by omega)) (by simp [c]))
    · exact evNeg (by simpa using c) (evEq (by rw [decide_eq_false c]; rfl))
theorem allWithin_ev (xs : List Int) (a b : Int) (hn : xs.length ≤ 35184372088832) : Ev (fun k => impl_allWithin.f k xs a b) (xs.all fun x => decide (a ≤ x ∧ x ≤ b)) := by
  unfold impl_allWithin.f
  exact evTo (allWithin_l0 a b xs hn xs.length 0 (by omega) (by simp)) (by simp)
theorem areFocusBases_ev (xs : List Int) (hn : xs.length ≤ 35184372088832) : Ev (fun k => impl_areFocusBases.f k xs) (fob xs) := by
  unfold impl_areFocusBases.f impl_areBases.f
  by_cases c1 : xs.length ≤ 12
  rotate_left
  · refine Ev.bind (evNeg (by omega) (Ev.now _)) (evNeg (by simp) (evEq ?_))
    simp [fob, c1]
  by_cases c2 : (xs.all fun x => decide (2 ≤ x ∧ x ≤ 12)) = true
  rotate_left
  · have h2 := allWithin_ev xs 2 12 hn
    simp only [Bool.not_eq_true] at c2
    rw [c2] at h2
    refine Ev.bind (evPos (by omega) (Ev.bind h2 (evNeg (by simp) (Ev.now _)))) (evNeg (by simp) (evEq ?_))
    unfold fob; rw [c2]; simp
  have hx : ∀ x ∈ xs, 2 ≤ x ∧ x ≤ 12 := fun x hx => by simpa using List.all_eq_true.1 c2 x hx
  have h2 := allWithin_ev xs 2 12 hn
  rw [c2] at h2
  have hp := size_ev xs hn hx
  have hc := pr_cap xs 1 hx (by omega) (by omega)
  refine Ev.bind (evPos (by omega) (Ev.bind h2 (evPos rfl (Ev.bind hp (Ev.now _))))) ?_
  by_cases c3 : capI 1 xs ≤ 1000000
  · refine evPos (by simpa using c3) (Ev.bind hp (evEq ?_))
    unfold fob; rw [c2]; simp [c1]; omega
  · refine evNeg (by simpa using c3) (evEq ?_)
    unfold fob; rw [c2]; simp [c1]; omega
theorem areDigits_l0 (b d : List Int) (hb : ∀ x ∈ b, 2 ≤ x ∧ x ≤ 12) (hn : b.length ≤ 12) (hm : d.length ≤ 35184372088832) : ∀ (n : Nat) (j : Int), 0 ≤ j → j.toNat + n = d.length → j.toNat ≤ b.length →
    Ev (fun k => impl_areDigits.l0 k b d d (d.length : Int) j) (all2 (b.drop j.toNat) (d.drop j.toNat)) := by
  intro n
  induction n with
  | zero =>
    intro j h0 hd hj
    refine Ev.step (fun k => by rw [impl_areDigits.l0]) ?_
    refine evNeg (by omega) (evEq ?_)
    rw [drop_end d j (by omega)]
    by_cases c : b.length = j.toNat
    · rw [drop_end b j (by omega), show (d.length : Int) = (b.length : Int) from by omega]
      simp [all2]
    · rw [drop_rd b j h0 (by omega), all2]
      have : (d.length : Int) ≠ (b.length : Int) := by omega
      · simp [beq_eq_false_iff_ne, this]
      all_goals simp
  | succ n ih =>
    intro j h0 hd hj
    refine Ev.step (fun k => by rw [impl_areDigits.l0]) ?_
    refine evPos (by omega) (evPos (by omega) (evPos (by omega) ?_))
    by_cases cj : b.length = j.toNat
    · refine evPos (by omega) (evEq ?_)
      rw [drop_end b j (by omega), drop_rd d j h0 (by omega)]
      simp [all2]
    have hbj := hb (rd b j) (by rw [rd_get b j (by omega)]; exact List.getElem_mem _)
    refine evNeg (by omega) (evPos (by omega) ?_)
    rw [within_eq]
    refine evSome ?_
    rw [wr (x := rd b j - 1) (by omega) (by omega), wr (by omega) (by omega), drop_rd b j h0 (by omega), drop_rd d j h0 (by omega), all2]
    by_cases c : 0 ≤ rd d j ∧ rd d j ≤ rd b j - 1
    · refine evPos (decide_eq_true c) (evTo (ih _ (by omega) (by omega) (by omega)) ?_)
      simp [c]
    · refine evNeg (by simpa using c) (evEq ?_)
      rw [decide_eq_false c]; rfl
theorem areDigits_ev (b d : List Int) (hb : ∀ x ∈ b, 2 ≤ x ∧ x ≤ 12) (hn : b.length ≤ 12) (hm : d.length ≤ 35184372088832) : Ev (fun k => impl_areDigits.f k b d) (all2 b d) := by
  unfold impl_areDigits.f
  exact areDigits_l0 b d hb hn hm d.length 0 (by omega) (by simp) (by simp)
theorem slicesEqual_l0 (a b : List Int) (hn : a.length ≤ 35184372088832) (hb : a.length = b.length) : ∀ (d : Nat) (j : Int), 0 ≤ j → j.toNat + d = a.length →
    Ev (fun k => slices_Equal_int_int.l0 k a b (a.length : Int) j) (decide (a.drop j.toNat = b.drop j.toNat)) := by
  intro d
  induction d with
  | zero =>
    intro j h0 hd
    refine Ev.step (fun k => by rw [slices_Equal_int_int.l0]) ?_
    refine evNeg (by omega) ?_
    rw [drop_end a j (by omega), drop_end b j (by omega)]
    exact evEq rfl
  | succ d ih =>
    intro j h0 hd
    refine Ev.step (fun k => by rw [slices_Equal_int_int.l0]) ?_
    refine evPos (by omega) (evPos (by omega) (evPos (by omega) (evPos (by omega) ?_)))
    rw [wr (by omega) (by omega), drop_rd a j h0 (by omega), drop_rd b j h0 (by omega)]
    by_cases c : rd a j = rd b j
    · refine evPos c (evTo (ih _ (by omega) (by omega)) ?_)
      simp [c]
    · refine evNeg c (evEq ?_)
      simp [c]
theorem slicesEqual_ev (a b : List Int) (hn : a.length ≤ 35184372088832) : Ev (fun k => slices_Equal_int_int.f k a b) (decide (a = b)) := by
  unfold slices_Equal_int_int.f
  by_cases hb : a.length = b.length
  · exact evPos (by omega) (slicesEqual_l0 a b hn hb a.length 0 (by omega) (by simp))
  · refine evNeg (by omega) (evEq ?_)
    exact (decide_eq_false (fun e => hb (by rw [e]))).symm
theorem slicesEqualB_l0 (a b : List Bool) (hn : a.length ≤ 35184372088832) (hb : a.length = b.length) : ∀ (d : Nat) (j : Int), 0 ≤ j → j.toNat + d = a.length →
    Ev (fun k => slices_Equal_bool_bool.l0 k a b (a.length : Int) j) (decide (a.drop j.toNat = b.drop j.toNat)) := by
  intro d
  induction d with
  | zero =>
    intro j h0 hd
    refine Ev.step (fun k => by rw [slices_Equal_bool_bool.l0]) ?_
    refine evNeg (by omega) ?_
    rw [drop_end a j (by omega), drop_end b j (by omega)]
    exact evEq rfl
  | succ d ih =>
    intro j h0 hd
    refine Ev.step (fun k => by rw [slices_Equal_bool_bool.l0]) ?_
    refine evPos (by omega) (evPos (by omega) (evPos (by omega) (evPos (by omega) ?_)))
    rw [wr (by omega) (by omega), dropD false a j h0 (by omega), dropD false b j h0 (by omega), show rdOf false a j = a.getD j.toNat false from rfl, show rdOf false b j = b.getD j.toNat false from rfl]
    by_cases c : a.getD j.toNat false = b.getD j.toNat false
    · refine evNeg (by rw [c]; simp) (evTo (ih _ (by omega) (by omega)) ?_)
      simp only [c, List.cons.injEq, true_and]
    · refine evPos (by simpa using c) (evEq ?_)
      simp only [List.cons.injEq, c, false_and, decide_false]
theorem slicesEqualB_ev (a b : List Bool) (hn : a.length ≤ 35184372088832) : Ev (fun k => slices_Equal_bool_bool.f k a b) (decide (a = b)) := by
  unfold slices_Equal_bool_bool.f
  by_cases hb : a.length = b.length
  · exact evPos (by omega) (slicesEqualB_l0 a b hn hb a.length 0 (by omega) (by simp))
  · refine evNeg (by omega) (evEq ?_)
    exact (decide_eq_false (fun e => hb (by rw [e]))).symm
theorem Focus_same_ev (a b : List Int) (u : List Bool) (p a' b' : List Int) (u' : List Bool) (p' : List Int) (h0 : a.length ≤ 35184372088832) (h1 : b.length ≤ 35184372088832) (h2 : u.length ≤ 35184372088832) (h3 : p.length ≤ 35184372088832) :
    Ev (fun k => impl_Focus_same.f k a b u p a' b' u' p') (decide ((a, b, u, p) = (a', b', u', p'))) := by
  unfold impl_Focus_same.f
  refine Ev.bind (slicesEqual_ev a a' h0) ?_
  by_cases c0 : a = a'
  · refine evPos (decide_eq_true c0) (Ev.bind (slicesEqual_ev b b' h1) ?_)
    by_cases c1 : b = b'
    · refine evPos (decide_eq_true c1) (Ev.bind (slicesEqualB_ev u u' h2) ?_)
      by_cases c2 : u = u'
      · refine evPos (decide_eq_true c2) (Ev.bind (slicesEqual_ev p p' h3) (evEq ?_))
        subst c0 c1 c2
        simp only [Prod.mk.injEq, true_and]
      · refine evNeg (by simpa using c2) (evEq ?_)
        exact (decide_eq_false (fun e => c2 (by injection e with _ e; injection e with _ e; injection e))).symm
    · refine evNeg (by simpa using c1) (evEq ?_)
      exact (decide_eq_false (fun e => c1 (by injection e with _ e; injection e))).symm
  · refine evNeg (by simpa using c0) (evEq ?_)
    exact (decide_eq_false (fun e => c0 (by injection e))).symm
theorem copied_eq (l : List Int) (hn : l.length ≤ 10000000000000) : impl_copied.f l = some l := by
  unfold impl_copied.f
  simp only [Option.bind_some, List.nil_append, List.length_nil, Nat.zero_add]
  rw [if_pos (by omega)]
theorem identity_l0 (n : Nat) (hn : n ≤ 1000000000) : ∀ (d : Nat) (j : Int), 0 ≤ j → j.toNat + d = n → Ev (fun k => impl_identity.l0 k (upTo j.toNat) (n : Int) j) (upTo n) := by
  intro d
  induction d with
  | zero =>
    intro j h0 hd
    refine Ev.step (fun k => by rw [impl_identity.l0]) ?_
    exact evNeg (by omega) (evEq (by rw [show j.toNat = n from by omega]))
  | succ d ih =>
    intro j h0 hd
    refine Ev.step (fun k => by rw [impl_identity.l0]) ?_
    refine evPos (by omega) (evPos (by rw [upTo_length]; omega) ?_)
    have h := ih (j + 1) (by omega) (by omega)
    rw [show (j + 1).toNat = j.toNat + 1 from by omega, upTo_succ, Int.toNat_of_nonneg h0] at h
    rw [wr (by omega) (by omega)]
    exact h
theorem identity_ev (n : Nat) (hn : n ≤ 1000000000) : Ev (fun k => impl_identity.f k (n : Int)) (upTo n) := by
  unfold impl_identity.f
  exact identity_l0 n hn n 0 (by omega) (by simp)
theorem startFocus_ev (l : List Int) (hn : l.length ≤ 1000) : Ev (fun k => impl_startFocus.f k l) (stF l) := by
  unfold impl_startFocus.f stF
  refine evPos (by omega) ?_
  rw [copied_eq l (by omega), wr (by omega) (by omega), show (l.length : Int) + 1 = ((l.length + 1 : Nat) : Int) from by omega, Int.toNat_natCast]
  exact evSome (Ev.bind (identity_ev (l.length + 1) (by omega)) (Ev.now _))
theorem focusAt_l0 (cs : List Nat) (h : Ok cs) : ∀ (m r : Nat) (i n : Int), r + m < prod cs → n ≤ 10000 → 0 ≤ i → i + m = n →
    Ev (fun k => impl_focusAt.l0 k n i (bs cs) (st cs r).d (st cs r).u (st cs r).p) (bs cs, (st cs (r + m)).d, (st cs (r + m)).u, (st cs (r + m)).p) := by
  intro m
  induction m with
  | zero =>
    intro r i n hr hm h0 hi
    refine Ev.step (fun k => by rw [impl_focusAt.l0]) ?_
    exact evNeg (by omega) (Ev.now _)
  | succ m ih =>
    intro r i n hr hm h0 hi
    refine Ev.step (fun k => by rw [impl_focusAt.l0]) ?_
    refine evPos (by omega) ?_
    have c := (last_rank cs h r (by omega)).2 (by omega)
    rw [stepF_st cs h r c]
    refine evSome ?_
    dsimp only
    rw [wr (by omega) (by omega), show r + (m + 1) = r + 1 + m from by omega]
    exact ih (r + 1) (i + 1) n (by omega) hm (by omega) (by omega)
theorem focusAt_ev (cs : List Nat) (h : Ok cs) (m : Nat) (hm : m ≤ 10000) (hp : m < prod cs) : Ev (fun k => impl_focusAt.f k (bs cs) (m : Int)) (bs cs, (st cs m).d, (st cs m).u, (st cs m).p) := by
  unfold impl_focusAt.f
  have hs := startFocus_ev (bs cs) (by rw [bs_length]; have := h.len; omega)
  rw [stF_st cs h] at hs
  have := focusAt_l0 cs h m 0 0 (m : Int) (by omega) (by omega) (by omega) (by omega)
  rw [Nat.zero_add] at this
  exact Ev.bind hs this
theorem IsFocus_ev (b d : List Int) (u : List Bool) (p : List Int) (h0 : b.length ≤ 1048576) (h1 : d.length ≤ 1048576) (h2 : u.length ≤ 1048576) (h3 : p.length ≤ 1048576) : Ev (fun k => impl_IsFocus.f k b d u p) (gF b d u p) := by
  unfold impl_IsFocus.f gF
  refine Ev.bind (areFocusBases_ev b (by omega)) ?_
  by_cases c : fob b = true
  · obtain ⟨q1, q2, q3⟩ := fob_of c
    refine evPos c (Ev.bind (areDigits_ev b d q2 q1 (by omega)) ?_)
    rw [c, Bool.true_and]
    by_cases ca : all2 b d = true
    · obtain ⟨hk, hb⟩ := csOf_ok c
      obtain ⟨m1, m2⟩ := mr_range b d (all2_len b d ca) (all2_at b d ca)
      have hm := mixedRank_ev b d q2 q1 q3 ca
      have hp := prodI_bs (csOf b)
      rw [hb] at hp
      have hf := focusAt_ev (csOf b) hk (mr b d).toNat (by omega) (by omega)
      rw [hb, Int.toNat_of_nonneg m1] at hf
      rw [ca, Bool.true_and]
      refine evPos rfl (Ev.bind hm (Ev.bind hf (Ev.bind (Focus_same_ev b d u p _ _ _ _ (by omega) (by omega) (by omega) (by omega)) (evEq ?_))))
      simp only [Prod.mk.injEq, true_and]
    · refine evNeg ca (evEq ?_)
      simp [ca]
  · refine evNeg c (evEq ?_)
    simp [c]
theorem startSwapper_l0 (n : Nat) (hn : n ≤ 7) : ∀ (d j : Nat), 1 ≤ j → j + d = n →
    Ev (fun k => impl_startSwapper.l0 k (n : Int) (bs (cn j)) ((j : Int) + 1)) (bs (cn n), (st (cn n) 0).d, (st (cn n) 0).u, (st (cn n) 0).p, upTo n, upTo n) := by
  intro d
  induction d with
  | zero =>
    intro j h1 hd
    obtain rfl : j = n := by omega
    refine Ev.step (fun k => by rw [impl_startSwapper.l0]) ?_
    refine evNeg (by omega) ?_
    have hs := startFocus_ev (bs (cn j)) (by rw [bs_length, cn_length]; omega)
    rw [stF_st _ (cn_ok j hn)] at hs
    exact Ev.bind hs (Ev.bind (identity_ev j (by omega)) (Ev.bind (identity_ev j (by omega)) (Ev.now _)))
  | succ d ih =>
    intro j h1 hd
    refine Ev.step (fun k => by rw [impl_startSwapper.l0]) ?_
    refine evPos (by omega) (evPos (by rw [bs_length, cn_length]; omega) ?_)
    rw [wr (by omega) (by omega), bs_cn j h1]
    exact ih (j + 1) (by omega) (by omega)
theorem startSwapper_ev (n : Nat) (h1 : 1 ≤ n) (hn : n ≤ 7) : Ev (fun k => impl_startSwapper.f k (n : Int)) (bs (cn n), (st (cn n) 0).d, (st (cn n) 0).u, (st (cn n) 0).p, upTo n, upTo n) := by
  unfold impl_startSwapper.f
  exact startSwapper_l0 n hn (n - 1) 1 (by omega) (by omega)
theorem swapperAt_l0 (n : Nat) (hn : n ≤ 7) : ∀ (c r : Nat) (i m : Int), r + c < fac n → m ≤ 10000 → 0 ≤ i → i + c = m →
    Ev (fun k => impl_swapperAt.l0 k m i (bs (cn n)) (st (cn n) r).d (st (cn n) r).u (st (cn n) r).p (it n r) (wh n r)) (bs (cn n), (st (cn n) (r + c)).d, (st (cn n) (r + c)).u, (st (cn n) (r + c)).p, it n (r + c), wh n (r + c)) := by
  intro c
  induction c with
  | zero =>
    intro r i m hr hm h0 hi
    refine Ev.step (fun k => by rw [impl_swapperAt.l0]) ?_
    exact evNeg (by omega) (Ev.now _)
  | succ c ih =>
    intro r i m hr hm h0 hi
    refine Ev.step (fun k => by rw [impl_swapperAt.l0]) ?_
    rw [stepS_sq n r hn (by omega)]
    refine evPos (by omega) (evSome ?_)
    dsimp only
    rw [wr (by omega) (by omega), show r + (c + 1) = r + 1 + c from by omega]
    exact ih (r + 1) (i + 1) m (by omega) hm (by omega) (by omega)
theorem swapperAt_ev (n : Nat) (h1 : 1 ≤ n) (hn : n ≤ 7) (m : Nat) (hm : m < fac n) (hb : m ≤ 10000) : Ev (fun k => impl_swapperAt.f k (n : Int) (m : Int)) (bs (cn n), (st (cn n) m).d, (st (cn n) m).u, (st (cn n) m).p, it n m, wh n m) := by
  unfold impl_swapperAt.f
  have h := swapperAt_l0 n hn m 0 0 (m : Int) (by omega) (by omega) (by omega) (by omega)
  have h0 : it n 0 = upTo n := trot_zero n
  have h2 : wh n 0 = upTo n := by unfold wh; rw [h0, invL_upTo]
  rw [h0, h2, Nat.zero_add] at h
  exact Ev.bind (startSwapper_ev n h1 hn) h
theorem IsSwapper_end (k0 : Int) (b d : List Int) (u : List Bool) (p l v : List Int) : Ev (fun k => impl_IsSwapper.j0 k k0 true b d u p l v) false :=
  Ev.step (fun k => by rw [impl_IsSwapper.j0]) (evPos rfl (evEq rfl))
theorem IsSwapper_ev (b d : List Int) (u : List Bool) (p l v : List Int) (h0 : b.length ≤ 1048576) (h1 : d.length ≤ 1048576) (h2 : u.length ≤ 1048576) (h3 : p.length ≤ 1048576) (h4 : l.length ≤ 1048576) (h5 : v.length ≤ 1048576) : Ev (fun k => impl_IsSwapper.f k b d u p l v) (gS b d u p l v) := by
  unfold impl_IsSwapper.f impl_isSwapperSize.f gS
  simp only [within_eq, Option.bind_some]
  by_cases c : 1 ≤ l.length ∧ l.length ≤ 7
  rotate_left
  · refine evNeg (by simp; omega) (evTo (IsSwapper_end _ b d u p l v) ?_)
    rw [decide_eq_false c]; rfl
  refine evPos (by simp; omega) (Ev.bind (IsFocus_ev b d u p h0 h1 h2 h3) ?_)
  rw [decide_eq_true c, Bool.true_and]
  by_cases g : gF b d u p = true
  rotate_left
  · have g' : gF b d u p = false := by simpa using g
    rw [g']
    exact IsSwapper_end _ b d u p l v
  rw [g, Bool.true_and]
  refine Ev.step (fun k => by rw [impl_IsSwapper.j0]) (evNeg (by simp) (Ev.bind (startSwapper_ev l.length c.1 c.2) (Ev.bind (slicesEqual_ev _ b (by show (bs (cn l.length)).length ≤ _; rw [bs_length, cn_length]; omega)) ?_)))
  (try dsimp only)
  by_cases e : b = bs (cn l.length)
  rotate_left
  · refine evNeg (by simpa using fun q => e q.symm) (evEq ?_)
    rw [decide_eq_false (fun q => e q.1)]
  obtain ⟨⟨q1, q2, q3, q4⟩, m1, m2, m3⟩ := gF_rank g
  obtain ⟨k1, k2⟩ := gF_cn c.2 g e
  have hf := swapperAt_ev l.length c.1 c.2 (mr b d).toNat k1 (by omega)
  rw [Int.toNat_of_nonneg m1] at hf
  refine evPos (by simpa using e.symm) (Ev.bind (mixedRank_ev b d q2 q1 q3 q4) (Ev.bind hf (Ev.bind (slicesEqual_ev l _ (by omega)) ?_)))
  (try dsimp only)
  by_cases e1 : l = it l.length (mr b d).toNat
  rotate_left
  · refine evNeg (by simpa using e1) (evEq ?_)
    rw [decide_eq_false (fun q => e1 q.2.1)]
  refine evPos (by simpa using e1) (Ev.bind (slicesEqual_ev v _ (by omega)) (evEq ?_))
  rw [Bool.eq_iff_iff, decide_eq_true_eq, decide_eq_true_eq]
  exact ⟨fun q => ⟨e, e1, q⟩, fun q => q.2.2⟩
theorem Focus_own_eq (b d : List Int) (u : List Bool) (p : List Int) (hu : u.length ≤ 1048576) (hb : b.length ≤ 1048576) (hd : d.length ≤ 1048576) (hp : p.length ≤ 1048576) : impl_Focus_own.f b d u p = some (b, d, u, p) := by
  unfold impl_Focus_own.f
  rw [copied_eq b (by omega), copied_eq d (by omega), copied_eq p (by omega)]
  simp only [Option.bind_some]
  rw [if_pos (by simp; omega)]
  rfl
theorem l1Has_l0 (x : Int) (xs : List Int) (hn : xs.length ≤ 35184372088832) : ∀ (d : Nat) (j : Int), 0 ≤ j → j.toNat + d = xs.length →
    Ev (fun k => spec_l1Has.l0 k x xs (xs.length : Int) j) (decide (x ∈ xs.drop j.toNat)) := by
  intro d
  induction d with
  | zero =>
    intro j h0 hd
    refine Ev.step (fun k => by rw [spec_l1Has.l0]) ?_
    refine evNeg (by omega) (evEq ?_)
    rw [drop_end _ _ (by omega)]; simp
  | succ d ih =>
    intro j h0 hd
    refine Ev.step (fun k => by rw [spec_l1Has.l0]) ?_
    refine evPos (by omega) (evPos (by omega) (evPos (by omega) ?_))
    rw [wr (by omega) (by omega), drop_rd xs j h0 (by omega)]
    by_cases c : rd xs j = x
    · exact evPos c (evEq (by simp [c]))
    · exact evNeg c (evTo (ih _ (by omega) (by omega)) (by simp [List.mem_cons, Ne.symm c]))
theorem l1Has_ev (xs : List Int) (x : Int) (hn : xs.length ≤ 35184372088832) : Ev (fun k => spec_l1Has.f k xs x) (decide (x ∈ xs)) := by
  unfold spec_l1Has.f
  exact evTo (l1Has_l0 x xs hn xs.length 0 (by omega) (by simp)) (by simp)
theorem raPermutation_l0 (l : List Int) (hl : l.length ≤ 1048576) : ∀ (d : Nat) (i : Int), 0 ≤ i → i.toNat + d = l.length →
    Ev (fun q => spec_raPermutation.l0 q l l (l.length : Int) i) (decide (∀ j (h : j < l.length), i.toNat ≤ j → j < 12 ∧ (0 ≤ l[j] ∧ l[j] ≤ (l.length : Int) - 1) ∧ l[j] ∉ l.take j)) := by
  intro d
  induction d with
  | zero =>
    intro i h0 hd
    refine Ev.step (fun k => by rw [spec_raPermutation.l0]) ?_
    refine evNeg (by omega) (evEq (decide_eq_true ?_).symm)
    intro j h hj; omega
  | succ d ih =>
    intro i h0 hd
    refine Ev.step (fun k => by rw [spec_raPermutation.l0]) ?_
    have hil : i.toNat < l.length := by omega
    have e : rd l i = l[i.toNat] := by unfold rd; rw [List.getD_eq_getElem?_getD, List.getElem?_eq_getElem hil]; rfl
    refine evPos (by omega) (evPos h0 (evPos (by omega) ?_))
    by_cases c1 : i ≥ 12
    · refine evPos c1 (evEq (decide_eq_false ?_).symm)
      intro h
      have := (h i.toNat hil (Nat.le_refl _)).1
      omega
    · refine evNeg c1 ?_
      rw [l1In_eq, wr (by omega) (by omega), wr (by omega) (by omega)]
      refine evSome ?_
      by_cases c2 : 0 ≤ rd l i ∧ rd l i ≤ (l.length : Int) - 1
      · refine evPos (by simpa using c2) (evPos (by omega) (Ev.bind (l1Has_ev _ _ (by rw [List.length_take]; omega)) ?_))
        by_cases c3 : rd l i ∈ l.take i.toNat
        · refine evPos (decide_eq_true c3) (evEq (decide_eq_false ?_).symm)
          intro h
          rw [e] at c3
          exact (h i.toNat hil (Nat.le_refl _)).2.2 c3
        · refine evNeg (by simpa using c3) (evTo (ih (i + 1) (by omega) (by omega)) ?_)
          apply decide_eq_decide.2
          constructor
          · intro h j hj hij
            by_cases ej : j = i.toNat
            · subst ej
              rw [e] at c2 c3
              exact ⟨by omega, c2, c3⟩
            · exact h j hj (by omega)
          · intro h j hj hij
            exact h j hj (by omega)
      · refine evNeg (by simpa using c2) (evEq (decide_eq_false ?_).symm)
        intro h
        rw [e] at c2
        exact c2 (h i.toNat hil (Nat.le_refl _)).2.1
theorem raPermutation_ev (l : List Int) (hl : l.length ≤ 1048576) : Ev (fun q => spec_raPermutation.f q l) (isPm l) := by
  unfold spec_raPermutation.f
  refine evTo (raPermutation_l0 l hl l.length 0 (by omega) (by simp)) ?_
  rw [Bool.eq_iff_iff, isPm_iff, decide_eq_true_eq]
  constructor
  · intro h j hj; exact h j hj (by simp)
  · intro h j hj _; exact h j hj
theorem gcMixedRank_ev : ∀ (b d : List Int), (∀ x ∈ b, 2 ≤ x ∧ x ≤ 12) → b.length ≤ 12 → prodI b ≤ 5040 → all2 b d = true → Ev (fun k => spec_gcMixedRank.f k b d) (mr b d)
  | [], d, _, _, _, _ => Ev.step (fun k => by rw [spec_gcMixedRank.f]) (evPos (by simp) (evEq (by simp [mr])))
  | b :: B, [], _, _, _, h => by simp [all2] at h
  | b :: B, d :: D, hx, hl, hp, h => by
    rw [all2, Bool.and_eq_true, decide_eq_true_eq] at h
    have hb := hx b (by simp)
    have hB : ∀ x ∈ B, 2 ≤ x ∧ x ≤ 12 := fun x hx' => hx x (by simp [hx'])
    have hP := prodI_pos B hB
    rw [prodI] at hp
    rw [List.length_cons] at hl
    have t := tail_le hb.1 hP
    obtain ⟨q1, q2⟩ := dig_le h.1.1 h.1.2 hP
    obtain ⟨m1, m2⟩ := mr_range B D (all2_len B D h.2) (all2_at B D h.2)
    have ih := gcMixedRank_ev B D hB (by omega) (by omega) h.2
    have hr := raProduct_ev B (by omega) hB
    rw [prS_of B 1 hB (by omega) (by omega), Int.one_mul] at hr
    refine Ev.step (fun k => by rw [spec_gcMixedRank.f]) ?_
    simp only [List.drop_succ_cons, List.drop_zero, List.length_cons]
    refine evNeg (by omega) (evPos (by omega) (Ev.bind hr (evPos (by omega) (Ev.bind ih (evPos (by omega) ?_)))))
    rw [show rd (d :: D) 0 = d from rfl]
    have e : mr (b :: B) (d :: D) = d * prodI B + (if d % 2 = 1 then prodI B - 1 - mr B D else mr B D) := by simp [mr]
    rw [e]
    have hm := Int.tmod_eq_emod_of_nonneg (b := 2) h.1.1
    generalize b * prodI B = Y at hp t q2
    generalize d * prodI B = X at q1 q2 ⊢
    generalize mr B D = M at m1 m2 ⊢
    generalize prodI B = P at *
    by_cases c : Int.tmod d 2 = 1
    · refine evPos c (evEq ?_)
      rw [if_pos (by omega), wr (x := X) (by omega) (by omega), wr (x := P - 1) (by omega) (by omega), wr (x := P - 1 - M) (by omega) (by omega), wr (by omega) (by omega)]
    · refine evNeg c (evEq ?_)
      rw [if_neg (by omega), wr (x := X) (by omega) (by omega), wr (by omega) (by omega)]
theorem l1Same_l0 (a b : List Int) (hn : a.length ≤ 35184372088832) (hb : a.length = b.length) : ∀ (d : Nat) (j : Int), 0 ≤ j → j.toNat + d = a.length →
    Ev (fun k => spec_l1Same.l0 k a b (a.length : Int) j) (decide (a.drop j.toNat = b.drop j.toNat)) := by
  intro d
  induction d with
  | zero =>
    intro j h0 hd
    refine Ev.step (fun k => by rw [spec_l1Same.l0]) ?_
    refine evNeg (by omega) ?_
    rw [drop_end a j (by omega), drop_end b j (by omega)]
    exact evEq rfl
  | succ d ih =>
    intro j h0 hd
    refine Ev.step (fun k => by rw [spec_l1Same.l0]) ?_
    refine evPos (by omega) (evPos (by omega) (evPos (by omega) (evPos (by omega) ?_)))
    rw [wr (by omega) (by omega), drop_rd a j h0 (by omega), drop_rd b j h0 (by omega)]
    by_cases c : rd a j = rd b j
    · refine evPos c (evTo (ih _ (by omega) (by omega)) ?_)
      simp [c]
    · refine evNeg c (evEq ?_)
      simp [c]
theorem l1Same_ev (a b : List Int) (hn : a.length ≤ 35184372088832) : Ev (fun k => spec_l1Same.f k a b) (decide (a = b)) := by
  unfold spec_l1Same.f
  by_cases hb : a.length = b.length
  · exact evPos (by omega) (l1Same_l0 a b hn hb a.length 0 (by omega) (by simp))
  · refine evNeg (by omega) (evEq ?_)
    exact (decide_eq_false (fun e => hb (by rw [e]))).symm
theorem foSame_l0 (u : List Bool) (a' b' : List Int) (u' : List Bool) (p' : List Int) (hn : u.length ≤ 35184372088832) (hb : u.length = u'.length) : ∀ (d : Nat) (j : Int), 0 ≤ j → j.toNat + d = u.length →
    Ev (fun k => spec_foSame.l0 k u (u.length : Int) j a' b' u' p') (decide (u.drop j.toNat = u'.drop j.toNat)) := by
  intro d
  induction d with
  | zero =>
    intro j h0 hd
    refine Ev.step (fun k => by rw [spec_foSame.l0]) ?_
    refine evNeg (by omega) ?_
    rw [drop_end u j (by omega), drop_end u' j (by omega)]
    exact evEq rfl
  | succ d ih =>
    intro j h0 hd
    refine Ev.step (fun k => by rw [spec_foSame.l0]) ?_
    refine evPos (by omega) (evPos (by omega) (evPos (by omega) (evPos (by omega) ?_)))
    rw [wr (by omega) (by omega), dropD false u j h0 (by omega), dropD false u' j h0 (by omega), show rdOf false u j = u.getD j.toNat false from rfl, show rdOf false u' j = u'.getD j.toNat false from rfl]
    by_cases c : u.getD j.toNat false = u'.getD j.toNat false
    · refine evNeg (by rw [c]; simp) (evTo (ih _ (by omega) (by omega)) ?_)
      simp only [c, List.cons.injEq, true_and]
    · refine evPos (by simpa using c) (evEq ?_)
      simp only [List.cons.injEq, c, false_and, decide_false]
theorem foSame_end (a b : List Int) (u : List Bool) (p a' b' : List Int) (u' : List Bool) (p' : List Int) : Ev (fun k => spec_foSame.j0 k true a b u p a' b' u' p') false :=
  Ev.step (fun k => by rw [spec_foSame.j0]) (evPos rfl (evEq rfl))
theorem foSame_ev (a b : List Int) (u : List Bool) (p a' b' : List Int) (u' : List Bool) (p' : List Int) (h0 : a.length ≤ 35184372088832) (h1 : b.length ≤ 35184372088832) (h2 : u.length ≤ 35184372088832) (h3 : p.length ≤ 35184372088832) :
    Ev (fun k => spec_foSame.f k a b u p a' b' u' p') (decide ((a, b, u, p) = (a', b', u', p'))) := by
  unfold spec_foSame.f
  refine Ev.bind (l1Same_ev a a' h0) ?_
  by_cases c0 : a = a'
  · refine evPos (decide_eq_true c0) (Ev.bind (l1Same_ev b b' h1) ?_)
    by_cases c1 : b = b'
    · refine evPos (decide_eq_true c1) (Ev.bind (l1Same_ev p p' h3) ?_)
      by_cases c2 : p = p'
      · refine evPos (decide_eq_true c2) ?_
        subst c0 c1 c2
        refine Ev.step (fun k => by rw [spec_foSame.j0]) ?_
        by_cases c3 : u.length = u'.length
        · refine evNeg (by rw [c3]; simp) (evTo (foSame_l0 u _ _ u' _ h2 c3 u.length 0 (by omega) (by simp)) ?_)
          simp only [Int.toNat_zero, List.drop_zero, Prod.mk.injEq, true_and, and_true]
        · refine evPos (by simp only [bne_iff_ne, ne_eq]; omega) (evEq ?_)
          exact (decide_eq_false (fun e => c3 (by injection e with _ e; injection e with _ e; injection e with e _; rw [e]))).symm
      · refine evNeg (by simpa using c2) (evTo (foSame_end ..) ?_)
        exact (decide_eq_false (fun e => c2 (by injection e with _ e; injection e with _ e; injection e))).symm
    · refine evNeg (by simpa using c1) (evTo (foSame_end ..) ?_)
      exact (decide_eq_false (fun e => c1 (by injection e with _ e; injection e))).symm
  · refine evNeg (by simpa using c0) (evTo (foSame_end ..) ?_)
    exact (decide_eq_false (fun e => c0 (by injection e))).symm
theorem raAreDigits_l0 (b d : List Int) (hb : ∀ x ∈ b, 2 ≤ x ∧ x ≤ 12) (hn : d.length ≤ 12) (hl : d.length = b.length) : ∀ (n : Nat) (j : Int), 0 ≤ j → j.toNat + n = d.length →
    Ev (fun k => spec_raAreDigits.l0 k b d (d.length : Int) j) (all2 (b.drop j.toNat) (d.drop j.toNat)) := by
  intro n
  induction n with
  | zero =>
    intro j h0 hd
    refine Ev.step (fun k => by rw [spec_raAreDigits.l0]) ?_
    refine evNeg (by omega) (evEq ?_)
    rw [drop_end b j (by omega), drop_end d j (by omega)]; rfl
  | succ n ih =>
    intro j h0 hd
    refine Ev.step (fun k => by rw [spec_raAreDigits.l0]) ?_
    have hbj := hb (rd b j) (by rw [rd_get b j (by omega)]; exact List.getElem_mem _)
    refine evPos (by omega) (evPos (by omega) (evPos (by omega) (evPos (by omega) ?_)))
    rw [l1In_eq]
    refine evSome ?_
    rw [wr (x := rd b j - 1) (by omega) (by omega), wr (by omega) (by omega), drop_rd b j h0 (by omega), drop_rd d j h0 (by omega), all2]
    by_cases c : 0 ≤ rd d j ∧ rd d j ≤ rd b j - 1
    · refine evPos (decide_eq_true c) (evTo (ih _ (by omega) (by omega)) ?_)
      simp [c]
    · refine evNeg (by simpa using c) (evEq ?_)
      rw [decide_eq_false c]; rfl
theorem raAreDigits_ev (b d : List Int) (hb : ∀ x ∈ b, 2 ≤ x ∧ x ≤ 12) (hn : b.length ≤ 12) : Ev (fun k => spec_raAreDigits.f k b d) (all2 b d) := by
  unfold spec_raAreDigits.f
  by_cases c : d.length = b.length
  · exact evPos (by omega) (raAreDigits_l0 b d hb (by omega) c d.length 0 (by omega) (by simp))
  · refine evNeg (by omega) (evEq ?_)
    cases e : all2 b d
    · rfl
    · exact absurd (all2_len b d e) c
theorem foGood_ev (b d : List Int) (u : List Bool) (p : List Int) (h0 : b.length ≤ 1048576) (h1 : d.length ≤ 1048576) (h2 : u.length ≤ 1048576) (h3 : p.length ≤ 1048576) : Ev (fun k => spec_foGood.f k b d u p) (gF b d u p) := by
  unfold spec_foGood.f gF
  refine Ev.bind (foBases_ev b (by omega)) ?_
  by_cases c : fob b = true
  · obtain ⟨q1, q2, q3⟩ := fob_of c
    refine evPos c (Ev.bind (raAreDigits_ev b d q2 q1) ?_)
    refine Ev.step (fun k => by rw [spec_foGood.j0]) ?_
    rw [c, Bool.true_and]
    by_cases ca : all2 b d = true
    · obtain ⟨hk, hb⟩ := csOf_ok c
      obtain ⟨m1, m2⟩ := mr_range b d (all2_len b d ca) (all2_at b d ca)
      have hm := gcMixedRank_ev b d q2 q1 q3 ca
      have hp := prodI_bs (csOf b)
      rw [hb] at hp
      have hf := foAt_ev (csOf b) hk (mr b d).toNat (by omega) (by omega)
      rw [hb, Int.toNat_of_nonneg m1] at hf
      rw [ca, Bool.true_and]
      refine evNeg (by simp) (Ev.bind hm (Ev.bind hf (evPos rfl (Ev.bind (foSame_ev b d u p _ _ _ _ (by omega) (by omega) (by omega) (by omega)) (evEq ?_)))))
      simp only [Prod.mk.injEq, true_and]
    · refine evPos (by simpa using ca) (evEq ?_)
      simp [ca]
  · refine evNeg c (Ev.step (fun k => by rw [spec_foGood.j0]) (evPos rfl (evEq ?_)))
    simp [c]
theorem foSwapperAt_l1 (n : Nat) (hn : n ≤ 7) : ∀ (c r : Nat), r < fac n → fac n ≤ r + c → c ≤ 10000 →
    Ev (fun k => spec_foSwapperAt.l0 k (c : Int) (bs (cn n)) (st (cn n) r).d (st (cn n) r).u (st (cn n) r).p (it n r) (wh n r)) ([], [], [], [], [], [], false) := by
  intro c
  induction c with
  | zero =>
    intro r hr hc hm
    omega
  | succ c ih =>
    intro r hr hc hm
    refine Ev.step (fun k => by rw [spec_foSwapperAt.l0]) ?_
    by_cases c1 : r + 1 < fac n
    · obtain ⟨h0, h1, h2⟩ := at_range n r hn c1
      refine evPos (by omega) (Ev.bind (foSwap_go n r hn c1) (evNeg (by dsimp only; omega) ?_))
      dsimp only
      rw [wr (by omega) (by omega), show ((c + 1 : Nat) : Int) - 1 = (c : Int) from by omega]
      exact ih (r + 1) c1 (by omega) (by omega)
    · have hf : fa (cn n) r = (cn n).length := fa_full (cn n) r (cn_ok n hn).rad (by rw [cn_prod]; omega)
      exact evPos (by omega) (Ev.bind (foSwap_end n r hf _ _) (evPos (by decide) (Ev.now _)))
theorem foSwapperAt_out (n : Nat) (h1 : 1 ≤ n) (hn : n ≤ 7) (m : Nat) (hm : fac n ≤ m) (hb : m ≤ 10000) : Ev (fun k => spec_foSwapperAt.f k (n : Int) (m : Int)) ([], [], [], [], [], [], false) := by
  unfold spec_foSwapperAt.f
  have h := foSwapperAt_l1 n hn m 0 (fac_pos n) (by omega) hb
  have h0 : it n 0 = upTo n := trot_zero n
  have h2 : wh n 0 = upTo n := by unfold wh; rw [h0, invL_upTo]
  rw [h0, h2] at h
  exact Ev.bind (foSwapper_ev n h1 hn) h
theorem foRank_end (b d : List Int) (u : List Bool) (p l v : List Int) : Ev (fun k => spec_foRank.j0 k true b d u p l v) (-1) :=
  Ev.step (fun k => by rw [spec_foRank.j0]) (evPos rfl (evEq rfl))
theorem foRank_j1 (x : Int) (b : Bool) : Ev (fun k => spec_foRank.j1 k x b) (if b = true then -1 else x) := by
  refine Ev.step (fun k => by rw [spec_foRank.j1]) ?_
  cases b
  · exact evNeg (by simp) (evEq rfl)
  · exact evPos rfl (evEq rfl)
theorem foRank_ev (b d : List Int) (u : List Bool) (p l v : List Int) (h0 : b.length ≤ 1048576) (h1 : d.length ≤ 1048576) (h2 : u.length ≤ 1048576) (h3 : p.length ≤ 1048576) (h4 : l.length ≤ 1048576) (h5 : v.length ≤ 1048576) : Ev (fun k => spec_foRank.f k b d u p l v) (if gS b d u p l v = true then mr b d else -1) := by
  unfold spec_foRank.f spec_foSize.f
  simp only [l1In_eq, Option.bind_some]
  have no : ¬ (b = bs (cn l.length) ∧ l = it l.length (mr b d).toNat ∧ v = wh l.length (mr b d).toNat) → gS b d u p l v = false := by
    intro h
    unfold gS
    rw [decide_eq_false h, Bool.and_false, Bool.and_false]
  by_cases c : 1 ≤ l.length ∧ l.length ≤ 7
  rotate_left
  · refine evNeg (by simp; omega) (evTo (foRank_end b d u p l v) ?_)
    rw [if_neg]
    unfold gS
    rw [decide_eq_false c]; simp
  refine evPos (by simp; omega) (Ev.bind (raPermutation_ev l h4) ?_)
  by_cases ci : isPm l = true
  rotate_left
  · refine evNeg (by simpa using ci) (evTo (foRank_end b d u p l v) ?_)
    rw [no (fun q => ci (by rw [q.2.1]; exact isPm_it _ _ (by omega)))]
    rfl
  refine evPos (by simpa using ci) (Ev.bind (foGood_ev b d u p h0 h1 h2 h3) ?_)
  by_cases g : gF b d u p = true
  rotate_left
  · have g' : gF b d u p = false := by simpa using g
    have q : gS b d u p l v = false := by unfold gS; rw [g', Bool.false_and, Bool.and_false]
    rw [g', q]
    exact foRank_end b d u p l v
  rw [g]
  obtain ⟨⟨q1, q2, q3, q4⟩, m1, m2, m3⟩ := gF_rank g
  refine Ev.step (fun k => by rw [spec_foRank.j0]) (evNeg (by simp) (Ev.bind (gcMixedRank_ev b d q2 q1 q3 q4) ?_))
  by_cases cr : (mr b d).toNat < fac l.length
  rotate_left
  · have hf := foSwapperAt_out l.length c.1 c.2 (mr b d).toNat (by omega) (by omega)
    rw [Int.toNat_of_nonneg m1] at hf
    refine Ev.bind hf (evNeg (by simp) (evTo (foRank_j1 _ _) ?_))
    rw [no (fun q => cr (gF_cn c.2 g q.1).1)]
    rfl
  have hf := foSwapperAt_ev l.length c.1 c.2 (mr b d).toNat cr (by omega)
  rw [Int.toNat_of_nonneg m1] at hf
  refine Ev.bind hf (evPos rfl (Ev.bind (foSame_ev b d u p _ _ _ _ (by omega) (by omega) (by omega) (by omega)) ?_))
  (try dsimp only)
  by_cases e : b = bs (cn l.length)
  rotate_left
  · refine evNeg (by simp; intro q; exact absurd q e) (evTo (foRank_j1 _ _) ?_)
    rw [no (fun q => e q.1)]
    rfl
  have k2 := (gF_cn c.2 g e).2
  refine evPos (by rw [decide_eq_true_eq, Prod.mk.injEq]; exact ⟨e, k2⟩) (Ev.bind (l1Same_ev l _ (by omega)) ?_)
  by_cases e1 : l = it l.length (mr b d).toNat
  rotate_left
  · refine evNeg (by simpa using e1) (evTo (foRank_j1 _ _) ?_)
    rw [no (fun q => e1 q.2.1)]
    rfl
  refine evPos (by simpa using e1) (Ev.bind (l1Same_ev v _ (by omega)) ?_)
  refine evTo (foRank_j1 _ _) ?_
  by_cases e2 : v = wh l.length (mr b d).toNat
  rotate_left
  · rw [no (fun q => e2 q.2.2), decide_eq_false e2]
    rfl
  rw [decide_eq_true e2]
  show mr b d = _
  rw [if_pos]
  unfold gS
  rw [decide_eq_true c, g, decide_eq_true ⟨e, e1, e2⟩]
  rfl
theorem uSame_l0 (a : List Int) (hn : a.length ≤ 35184372088832) : ∀ (d : Nat) (j : Int), 0 ≤ j → j.toNat + d = a.length → Ev (fun k => laws_uSame.l0 k a a (a.length : Int) j) true := by
  intro d
  induction d with
  | zero =>
    intro j h0 hd
    refine Ev.step (fun k => by rw [laws_uSame.l0]) ?_
    exact evNeg (by omega) (Ev.now _)
  | succ d ih =>
    intro j h0 hd
    refine Ev.step (fun k => by rw [laws_uSame.l0]) ?_
    refine evPos (by omega) (evPos (by omega) (evPos (by omega) (evPos (by omega) (evPos rfl ?_))))
    rw [wr (by omega) (by omega)]
    exact ih _ (by omega) (by omega)
theorem uSame_self (a : List Int) (hn : a.length ≤ 35184372088832) : Ev (fun k => laws_uSame.f k a a) true := by
  unfold laws_uSame.f
  exact evPos rfl (uSame_l0 a hn a.length 0 (by omega) (by simp))
theorem uBools_l0 (a : List Bool) (hn : a.length ≤ 35184372088832) : ∀ (d : Nat) (j : Int), 0 ≤ j → j.toNat + d = a.length → Ev (fun k => laws_uBools.l0 k a a (a.length : Int) j) true := by
  intro d
  induction d with
  | zero =>
    intro j h0 hd
    exact Ev.step (fun k => by rw [laws_uBools.l0]) (evNeg (by omega) (Ev.now _))
  | succ d ih =>
    intro j h0 hd
    refine Ev.step (fun k => by rw [laws_uBools.l0]) (evPos (by omega) (evPos h0 (evPos (by omega) (evPos (by omega) (evNeg (by simp) ?_)))))
    rw [wr (by omega) (by omega)]
    exact ih (j + 1) (by omega) (by omega)
theorem uBools_self (a : List Bool) (hn : a.length ≤ 35184372088832) : Ev (fun k => laws_uBools.f k a a) true := by
  unfold laws_uBools.f
  exact evPos rfl (uBools_l0 a hn a.length 0 (by omega) (by simp))
theorem uFocus_self (a b : List Int) (c : List Bool) (d : List Int) (ha : a.length ≤ 2000000) (hb : b.length ≤ 2000000) (hc : c.length ≤ 2000000) (hd : d.length ≤ 2000000) : Ev (fun k => laws_uFocus.f k a b c d a b c d) true := by
  unfold laws_uFocus.f
  exact Ev.bind (uSame_self a (by omega)) (evPos rfl (Ev.bind (uSame_self b (by omega)) (evPos rfl (Ev.bind (uBools_self c (by omega)) (evPos rfl (Ev.bind (uSame_self d (by omega)) (Ev.now _)))))))
theorem IsPermutation_ev (l : List Int) (hl : l.length ≤ 35184372088832) : Ev (fun q => impl_IsPermutation.f q l) (isPm l) := by
  unfold impl_IsPermutation.f isPm
  by_cases c : l.length ≤ 12
  · refine evPos c (Ev.bind (identity_ev l.length (by omega)) ?_)
    have hs : (srt l).length = l.length := (srt_perm l).length_eq
    refine evTo (slicesEqual_ev (srt l) (upTo l.length) (by omega)) ?_
    rw [decide_eq_true c, Bool.true_and]
  · refine evNeg c (evEq ?_)
    rw [decide_eq_false c, Bool.false_and]
theorem Index_l0 (x : Int) (xs : List Int) (hn : xs.length ≤ 35184372088832) : ∀ (d : Nat) (j : Int), 0 ≤ j → j.toNat + d = xs.length →
    Ev (fun k => slices_Index_int_int.l0 k xs x (xs.length : Int) j) (findI x j (xs.drop j.toNat)) := by
  intro d
  induction d with
  | zero =>
    intro j h0 hd
    refine Ev.step (fun k => by rw [slices_Index_int_int.l0]) ?_
    refine evNeg (by omega) (evEq ?_)
    rw [drop_end _ _ (by omega)]; rfl
  | succ d ih =>
    intro j h0 hd
    refine Ev.step (fun k => by rw [slices_Index_int_int.l0]) ?_
    refine evPos (by omega) (evPos (by omega) (evPos (by omega) ?_))
    rw [wr (by omega) (by omega), drop_rd xs j h0 (by omega), findI]
    by_cases c : x = rd xs j
    · rw [if_pos c]; exact evPos c (Ev.now _)
    · rw [if_neg c]; exact evNeg c (ih _ (by omega) (by omega))
theorem Index_ev (xs : List Int) (x : Int) (hn : xs.length ≤ 35184372088832) : Ev (fun k => slices_Index_int_int.f k xs x) (findI x 0 xs) := by
  unfold slices_Index_int_int.f
  exact evTo (Index_l0 x xs hn xs.length 0 (by omega) (by simp)) (by simp)
theorem trotterRank_ev : ∀ (n : Nat) (l : List Int), n ≤ 12 → l.Perm (upTo n) → Ev (fun q => impl_trotterRank.f q l) (trk n l) := by
  intro n
  induction n with
  | zero =>
    intro l hn h
    have hl : l.length = 0 := by rw [h.length_eq, upTo_length]
    refine Ev.step (fun q => by rw [impl_trotterRank.f]) ?_
    exact evPos (by omega) (evEq rfl)
  | succ n ih =>
    intro l hn h
    have hl : l.length = n + 1 := by rw [h.length_eq, upTo_length]
    have hm : (n : Int) ∈ l := h.mem_iff.2 (mem_upTo.2 ⟨by omega, by omega⟩)
    obtain ⟨p, hp, he, hx⟩ := findI_at (n : Int) l 0 hm
    have hc := cutAt_perm l n p h hx hp
    obtain ⟨i1, i2, _⟩ := trk_all n (cutAt l p) hc
    have hf := fac_le12 n (by omega)
    have hm1 : 0 ≤ trk n (cutAt l p) * ((n : Int) + 1) := Int.mul_nonneg i1 (by omega)
    have hm2 : trk n (cutAt l p) * ((n : Int) + 1) ≤ 479001600 * 13 := Int.mul_le_mul (by omega) (by omega) (by omega) (by omega)
    refine Ev.step (fun q => by rw [impl_trotterRank.f]) ?_
    refine evNeg (by omega) ?_
    rw [hl, wr (x := ((n + 1 : Nat) : Int) - 1) (by omega) (by omega), show ((n + 1 : Nat) : Int) - 1 = (n : Int) from by omega, show ((n + 1 : Nat) : Int) = (n : Int) + 1 from by omega]
    refine Ev.bind (evTo (Index_ev l (n : Int) (by omega)) (show _ = (p : Int) by omega)) ?_
    rw [copied_eq l (by omega)]
    refine evSome ?_
    unfold slices_Delete_int_int.f
    rw [wr (by omega) (by omega), if_pos (by omega), if_pos (by omega), if_pos (by omega), show ((p : Int)).toNat = p from by omega, show ((p : Int) + 1).toNat = p + 1 from by omega]
    refine evSome (Ev.bind (ih (cutAt l p) (by omega) hc) ?_)
    have hpn : (findI (n : Int) 0 l).toNat = p := by omega
    rw [trk, hpn, Int.tmod_eq_emod_of_nonneg i1]
    simp (disch := omega) only [wr]
    unfold tup
    by_cases c : trk n (cutAt l p) % 2 = 0
    · refine evPos c (evEq ?_); rw [if_pos c]
    · refine evNeg c (evEq ?_); rw [if_neg c]
theorem TrotterRank_ev (l : List Int) (hl : l.length ≤ 1048576) : Ev (fun q => impl_TrotterRank.f q l) (if isPm l = true then (trk l.length l, true) else (0, false)) := by
  unfold impl_TrotterRank.f
  refine Ev.bind (IsPermutation_ev l (by omega)) ?_
  by_cases c : isPm l = true
  · rw [if_pos c]
    refine evPos c (Ev.bind (trotterRank_ev l.length l (isPm_perm c).1 (isPm_perm c).2) (Ev.now _))
  · rw [if_neg c]
    exact evNeg c (Ev.now _)
theorem factorial_tab : ((List.range 13).all fun n => impl_factorial.f 20 (n : Int) == some (fac n : Int)) = true := by decide +kernel
theorem factorial_ev (n : Nat) (hn : n ≤ 12) : Ev (fun r => impl_factorial.f r (n : Int)) (fac n : Int) := by
  refine evTab (g := fun r => impl_factorial.f r (n : Int)) (impl_factorial.mono _) 20 ?_
  exact beq_iff_eq.1 (List.all_eq_true.1 factorial_tab n (List.mem_range.2 (by omega)))
theorem trotterAt_ev : ∀ (n : Nat) (r : Int), n ≤ 12 → 0 ≤ r → r < (fac n : Nat) → Ev (fun q => impl_trotterAt.f q (n : Int) r) (trot n r) := by
  intro n
  induction n with
  | zero =>
    intro r _ _ _
    refine Ev.step (fun q => by rw [impl_trotterAt.f]) ?_
    exact evPos rfl (Ev.now _)
  | succ n ih =>
    intro r hn h0 hr
    refine Ev.step (fun q => by rw [impl_trotterAt.f]) ?_
    have hf := fac_le12 (n + 1) hn
    have hd := div_range n r h0 hr
    have hp := place_range n r
    have hl := trot_length n (r / ((n : Int) + 1))
    have hm1 := Int.emod_nonneg r (show ((n : Int) + 1) ≠ 0 by omega)
    have hm2 := Int.emod_lt_of_pos r (show 0 < ((n : Int) + 1) by omega)
    have hfn := fac_le12 n (by omega)
    refine evNeg (by omega) ?_
    rw [show ((n + 1 : Nat) : Int) = (n : Int) + 1 from by omega, Int.tdiv_eq_ediv_of_nonneg h0, Int.tmod_eq_emod_of_nonneg h0]
    simp (disch := omega) only [wr]
    rw [show (n : Int) + 1 - 1 = (n : Int) from by omega]
    refine Ev.bind (ih _ (by omega) hd.1 hd.2) ?_
    rw [Int.tmod_eq_emod_of_nonneg hd.1]
    unfold slices_Insert_int_int.f
    by_cases c : r / ((n : Int) + 1) % 2 = 0
    · have he : place n r = n - r % ((n : Int) + 1) := if_pos c
      refine evPos c (evPos (by omega) (evPos (by omega) (evPos (by omega) (evEq ?_))))
      rw [trot, he]
    · have he : place n r = r % ((n : Int) + 1) := if_neg c
      refine evNeg c (evPos (by omega) (evPos (by omega) (evPos (by omega) (evEq ?_))))
      rw [trot, he]
theorem TrotterAt_ev (n r : Int) : Ev (fun q => impl_TrotterAt.f q n r) (if 0 ≤ n ∧ n ≤ 12 ∧ 0 ≤ r ∧ r < (fac n.toNat : Nat) then (trot n.toNat r, true) else ([], false)) := by
  unfold impl_TrotterAt.f
  simp only [within_eq, Option.bind_some]
  by_cases h : 0 ≤ n ∧ n ≤ 12
  · obtain ⟨N, rfl⟩ := Int.eq_ofNat_of_zero_le h.1
    have hf := fac_le12 N (by omega)
    rw [Int.toNat_natCast]
    refine evPos (by simp; omega) (Ev.bind (factorial_ev N (by omega)) ?_)
    rw [wr (by omega) (by omega)]
    by_cases c : 0 ≤ r ∧ r < (fac N : Nat)
    · refine evPos (by simp; omega) (Ev.bind (trotterAt_ev N r (by omega) c.1 c.2) (evEq ?_))
      rw [if_pos (by omega)]
    · refine evNeg (by simp; omega) (evEq ?_)
      rw [if_neg (by omega)]
  · refine evNeg (by simp; omega) (evEq ?_)
    rw [if_neg (by omega)]
theorem NextTrotter_l0 (a b : List Int) (hn : a.length ≤ 35184372088832) (hb : a.length = b.length) : ∀ (d : Nat) (j : Int), 0 ≤ j → j.toNat + d = a.length → a.drop j.toNat ≠ b.drop j.toNat →
    Ev (fun k => impl_NextTrotter.l0 k a b j) (b, fdI j (a.drop j.toNat) (b.drop j.toNat), true) := by
  intro d
  induction d with
  | zero =>
    intro j h0 hd hne
    exact absurd (by rw [drop_end a j (by omega), drop_end b j (by omega)]) hne
  | succ d ih =>
    intro j h0 hd hne
    refine Ev.step (fun k => by rw [impl_NextTrotter.l0]) ?_
    refine evPos (by omega) (evPos (by omega) (evPos (by omega) ?_))
    rw [wr (by omega) (by omega)]
    rw [drop_rd a j h0 (by omega), drop_rd b j h0 (by omega)] at hne ⊢
    rw [fdI]
    by_cases c : rd a j = rd b j
    · rw [if_pos c]; exact evPos c (ih _ (by omega) (by omega) (fun e => hne (by rw [c, e])))
    · rw [if_neg c]; exact evNeg c (Ev.now _)
theorem NextTrotter_ev (l : List Int) (hl : l.length ≤ 1048576) : Ev (fun q => impl_NextTrotter.f q l) (ntrot l) := by
  unfold impl_NextTrotter.f
  refine Ev.bind (TrotterRank_ev l hl) ?_
  by_cases c : isPm l = true
  · obtain ⟨p1, p2⟩ := isPm_perm c
    obtain ⟨t1, t2, t3⟩ := trk_all l.length l p2
    have hf := fac_le12 l.length p1
    rw [if_pos c]
    refine evPos rfl ?_
    rw [wr (by omega) (by omega)]
    refine Ev.bind (TrotterAt_ev _ _) ?_
    rw [Int.toNat_natCast]
    by_cases c2 : trk l.length l + 1 < (fac l.length : Nat)
    · rw [if_pos (by omega)]
      refine evPos rfl (evTo (NextTrotter_l0 l _ (by omega) (by rw [trot_length]) l.length 0 (by omega) (by simp) (by simpa using ntrot_ne l c c2)) ?_)
      unfold ntrot
      rw [if_pos ⟨c, c2⟩]
      simp
    · rw [if_neg (by omega)]
      refine evNeg (by simp) (evEq ?_)
      unfold ntrot
      rw [if_neg (fun h => c2 h.2)]
  · rw [if_neg c]
    refine evNeg (by simp) (evEq ?_)
    unfold ntrot
    rw [if_neg (fun h => c h.1)]
theorem cur_rank (l : List Int) (hl : Byt l) (a s n : Int) (h0 : 0 ≤ a) (h1 : a ≤ 700000000000) : ∃ r a' s', spec_l1Cur_rank.f l a s n = some (r, a', s') ∧ a ≤ a' ∧ a' ≤ a + 10 := by
  unfold spec_l1Cur_rank.f
  obtain ⟨v, a1, s1, e, h2, h3, h4, h5⟩ := cur_pick l hl a s 12 h0 (by omega)
  rw [e]
  simp only [Option.bind_some]
  by_cases c : v = 0
  · rw [if_pos c]
    obtain ⟨v4, a4, s4, e4, g5, g6, g7⟩ := cur_among l hl a1 s1 [-1, n, wrap64 (n + 1), 4611686018427387904] (by simp) (by omega) (by omega)
    rw [e4]
    simp only [Option.bind_some]
    exact ⟨_, _, _, rfl, by omega, by omega⟩
  rw [if_neg c]
  by_cases c2 : v = 1
  · rw [if_pos c2]; exact ⟨_, _, _, rfl, by omega, by omega⟩
  rw [if_neg c2]
  by_cases c3 : v = 2
  · rw [if_pos c3]; exact ⟨_, _, _, rfl, by omega, by omega⟩
  rw [if_neg c3]
  by_cases c4 : n < 2
  · rw [if_pos c4]; exact ⟨_, _, _, rfl, by omega, by omega⟩
  rw [if_neg c4]
  obtain ⟨v2, a2, s2, e2, g1, g2, g3, g4⟩ := cur_pick l hl a1 s1 60000 (by omega) (by omega)
  rw [e2]
  simp only [Option.bind_some]
  obtain ⟨v3, a3, s3, e3, g5, g6, g7, g8⟩ := cur_pick l hl a2 s2 60000 (by omega) (by omega)
  rw [e3]
  simp only [Option.bind_some]
  rw [if_neg (by omega)]
  exact ⟨_, _, _, rfl, by omega, by omega⟩
theorem isLast_st (cs : List Nat) (r : Nat) : impl_Focus_isLast.f (bs cs) (st cs r).d (st cs r).u (st cs r).p = some (decide (fa cs r = cs.length)) := by
  unfold impl_Focus_isLast.f
  have hl := (st_lens cs r).2.2
  have hj : rd (st cs r).p 0 = ((fa cs r : Nat) : Int) := st_head cs r
  rw [if_pos (by omega), hj, bs_length]
  congr 1
  rw [Bool.eq_iff_iff]
  simp only [decide_eq_true_eq, beq_iff_eq]
  omega
theorem evGot {α : Type} {o : Option α} {x : α} (h : o = some x) : Ev (fun _ => o) x := h ▸ Ev.now x
theorem evAt {α : Type} {f : Nat → Option α} {x : α} (h : Ev f x) : ∃ k, f k = some x := by
  obtain ⟨K, h⟩ := h
  exact ⟨K, h K (Nat.le_refl _)⟩
theorem uSwapper_self (a b : List Int) (c : List Bool) (d e f : List Int) (ha : a.length ≤ 2000000) (hb : b.length ≤ 2000000) (hc : c.length ≤ 2000000) (hd : d.length ≤ 2000000) (he : e.length ≤ 2000000) (hf : f.length ≤ 2000000) : Ev (fun k => laws_uSwapper.f k a b c d e f a b c d e f) true := by
  unfold laws_uSwapper.f
  exact Ev.bind (uFocus_self a b c d ha hb hc hd) (evPos rfl (Ev.bind (uSame_self e (by omega)) (evPos rfl (Ev.bind (uSame_self f (by omega)) (Ev.now _)))))
theorem fdI_at : ∀ (i : Nat) (a b : List Int) (j : Int), (∀ q, q < i → a[q]? = b[q]?) → i < a.length → i < b.length → a[i]? ≠ b[i]? → fdI j a b = j + i
  | _, [], _, _, _, h, _, _ => by simp at h
  | _, _ :: _, [], _, _, _, h, _ => by simp at h
  | 0, x :: a, y :: b, j, _, _, _, hn => by
    rw [fdI, if_neg (fun e => hn (by simp [e]))]
    omega
  | i + 1, x :: a, y :: b, j, h, h1, h2, hn => by
    have e := h 0 (by omega)
    simp only [List.getElem?_cons_zero, Option.some.injEq] at e
    rw [fdI, if_pos e, fdI_at i a b (j + 1) (fun q hq => by have := h (q + 1) (by omega); simpa using this) (by simpa using h1) (by simpa using h2) (by simpa using hn)]
    omega
theorem ntrot_it (n r : Nat) (hn : n ≤ 7) (hr : r + 1 < fac n) : ntrot (it n r) = (it n (r + 1), atS n r, true) := by
  obtain ⟨h0, h1, h2⟩ := at_range n r hn hr
  have hl := it_length n r
  have hl2 := it_length n (r + 1)
  have ht : trk n (it n r) = r := trk_trot n r (by omega) (by omega)
  have e : trot n ((r : Int) + 1) = it n (r + 1) := by unfold it; rw [show (((r + 1 : Nat)) : Int) = (r : Int) + 1 from by omega]
  unfold ntrot
  rw [hl, ht, if_pos ⟨isPm_it n r (by omega), by omega⟩, e]
  have hnd : (it n r).Nodup := trot_nodup n _
  obtain ⟨a, ha⟩ := Int.eq_ofNat_of_zero_le h0
  have hf : fdI 0 (it n r) (it n (r + 1)) = 0 + (a : Int) := by
    refine fdI_at a _ _ 0 (fun q hq => ?_) (by omega) (by omega) ?_
    · rw [← h2, swp, ha, List.getElem?_set_ne (by omega), List.getElem?_set_ne (by omega)]
    · intro e2
      have g1 : rd (it n (r + 1)) (a : Int) = rd (it n r) ((a : Int) + 1) := by
        rw [← h2, ha]
        exact swp_a (it n r) a (by omega) (by omega)
      have g2 : rd (it n (r + 1)) (a : Int) = rd (it n r) (a : Int) := by
        unfold rd
        rw [List.getD_eq_getElem?_getD, List.getD_eq_getElem?_getD, Int.toNat_natCast, e2]
      have := rd_inj hnd (i := a) (j := a + 1) (by omega) (by omega) (by rw [show (((a + 1 : Nat)) : Int) = (a : Int) + 1 from by omega]; omega)
      omega
  rw [hf, ha, Int.zero_add]
theorem gS_st (n r : Nat) (h1 : 1 ≤ n) (hn : n ≤ 7) (hf : fob (bs (cn n)) = true) (hr : r < fac n) : gS (bs (cn n)) (st (cn n) r).d (st (cn n) r).u (st (cn n) r).p (it n r) (wh n r) = true := by
  have hk := cn_ok n hn
  have hr' : r < prod (cn n) := by rw [cn_prod]; exact hr
  have e : mr (bs (cn n)) (st (cn n) r).d = r := mr_gd (cn n) r hk.rad hr'
  unfold gS
  rw [Bool.and_eq_true, Bool.and_eq_true, decide_eq_true_eq, decide_eq_true_eq, it_length, e, Int.toNat_natCast]
  exact ⟨⟨h1, hn⟩, gF_st (cn n) hk hf r hr', rfl, rfl, rfl⟩
theorem phA (b d : List Int) (u : List Bool) (p e f : List Int) (h0 : b.length ≤ 2000) (h1 : d.length ≤ 2000) (h2 : u.length ≤ 2000) (h3 : p.length ≤ 2000) (h4 : e.length ≤ 2000) (h5 : f.length ≤ 2000) : PhA b d u p e f := by
  have hg := foRank_ev b d u p e f (by omega) (by omega) (by omega) (by omega) (by omega) (by omega)
  have hi := IsSwapper_ev b d u p e f (by omega) (by omega) (by omega) (by omega) (by omega) (by omega)
  have hw := Focus_own_eq b d u p (by omega) (by omega) (by omega) (by omega)
  have hw4 := copied_eq e (by omega)
  have hw5 := copied_eq f (by omega)
  have hu := uSwapper_self [] [] [] [] [] [] (by simp) (by simp) (by simp) (by simp) (by simp) (by simp)
  obtain ⟨k6, z6⟩ := evAt hu
  by_cases c : gS b d u p e f = true
  rotate_left
  · have c0 : gS b d u p e f = false := by simpa using c
    rw [if_neg c] at hg
    obtain ⟨k5, z5⟩ := evAt hi
    rw [c0] at z5 hi
    have a1 : Ev (fun k => impl_StepSwapper.f k b d u p e f) ([], [], [], [], [], [], 0, false) := by
      unfold impl_StepSwapper.f
      exact Ev.bind hi (evNeg (by simp) (Ev.now _))
    have a2 : Ev (fun k => spec_StepSwapper.f k b d u p e f) ([], [], [], [], [], [], 0, false) := by
      unfold spec_StepSwapper.f
      exact Ev.bind hg (evPos (by decide) (Ev.now _))
    have a3 : Ev (fun k => impl_SwapperRank.f k b d u p e f) (0, false) := by
      unfold impl_SwapperRank.f
      exact Ev.bind hi (evNeg (by simp) (Ev.now _))
    have a4 : Ev (fun k => spec_SwapperRank.f k b d u p e f) (0, false) := by
      unfold spec_SwapperRank.f
      exact Ev.bind hg (evPos (by decide) (Ev.now _))
    obtain ⟨k1, z1⟩ := evAt a1
    obtain ⟨k2, z2⟩ := evAt a2
    obtain ⟨k3, z3⟩ := evAt a3
    obtain ⟨k4, z4⟩ := evAt a4
    exact ⟨k1, k2, k3, k4, k5, k6, _, _, _, _, _, _, _, _, _, _, z1, z2, z3, z4, z5, z6, fun h => by cases h⟩
  rw [if_pos c] at hg
  have c' := c
  simp only [gS, Bool.and_eq_true, decide_eq_true_eq] at c'
  obtain ⟨⟨n1, n7⟩, f1, f2, f3, f4⟩ := c'
  obtain ⟨⟨q1, q2, q3, q4⟩, g1, g2, g3⟩ := gF_rank f1
  have hmr := mixedRank_ev b d q2 q1 q3 q4
  obtain ⟨k1, k2⟩ := gF_cn n7 f1 f2
  simp only [Prod.mk.injEq] at k2
  obtain ⟨k2, k3, k4⟩ := k2
  have hfob : fob b = true := by
    simp only [gF, Bool.and_eq_true] at f1
    exact f1.1
  have a3 : Ev (fun k => impl_SwapperRank.f k b d u p e f) (mr b d, true) := by
    unfold impl_SwapperRank.f
    exact Ev.bind hi (evPos c (Ev.bind hmr (Ev.now _)))
  have a4 : Ev (fun k => spec_SwapperRank.f k b d u p e f) (mr b d, true) := by
    unfold spec_SwapperRank.f
    exact Ev.bind hg (evNeg (by omega) (Ev.now _))
  rw [c] at hi
  have hrN : ((mr b d).toNat : Int) = mr b d := by omega
  generalize hrr : (mr b d).toNat = r at *
  generalize hnn : e.length = n at *
  have l3 := st_lens (cn n) r
  have l4 := st_lens (cn n) (r + 1)
  have hl := bs_length (cn n)
  have hcl := cn_length n
  have hj : rd (st (cn n) r).p 0 = ((fa (cn n) r : Nat) : Int) := st_head (cn n) r
  have htr : trk n (it n r) = r := trk_trot n r (by omega) (by omega)
  have a7 : Ev (fun k => impl_TrotterRank.f k e) (mr b d, true) := by
    have := TrotterRank_ev (it n r) (by rw [it_length]; omega)
    rw [if_pos (isPm_it n r (by omega)), it_length, htr, hrN, ← f3] at this
    exact this
  have a8 := NextTrotter_ev e (by omega)
  rw [f2] at hfob
  rw [f2, k2, k3, k4] at hw
  rw [f3] at hw4
  rw [f4] at hw5
  obtain ⟨j3, z3⟩ := evAt a3
  obtain ⟨j4, z4⟩ := evAt a4
  obtain ⟨j5, z5⟩ := evAt hi
  obtain ⟨j7, z7⟩ := evAt a7
  by_cases hf : r + 1 < fac n
  · have hgo := foSwap_go n r n7 hf
    obtain ⟨b0, b1, b2⟩ := at_range n r n7 hf
    have hfa := fa_cn n r n7 hf
    have i1 := it_length n (r + 1)
    have i2 := wh_length n (r + 1)
    have a1 : Ev (fun k => impl_StepSwapper.f k b d u p e f) (bs (cn n), (st (cn n) (r + 1)).d, (st (cn n) (r + 1)).u, (st (cn n) (r + 1)).p, it n (r + 1), wh n (r + 1), atS n r, true) := by
      have hi' := hi
      rw [f2, k2, k3, k4, f3, f4] at hi' ⊢
      unfold impl_StepSwapper.f
      exact Ev.bind hi' (evPos rfl (Ev.bind (evGot hw) (Ev.bind (evGot hw4) (Ev.bind (evGot hw5) (evNeg (by dsimp only; rw [hj]; omega) (Ev.bind (evGot (stepS_sq n r n7 hf)) (Ev.now _)))))))
    have a2 : Ev (fun k => spec_StepSwapper.f k b d u p e f) (bs (cn n), (st (cn n) (r + 1)).d, (st (cn n) (r + 1)).u, (st (cn n) (r + 1)).p, it n (r + 1), wh n (r + 1), atS n r, true) := by
      have hg' := hg
      rw [f2, k2, k3, k4, f3, f4] at hg' ⊢
      have g1' := g1
      rw [f2, k2] at g1'
      unfold spec_StepSwapper.f
      exact Ev.bind hg' (evNeg (by omega) (Ev.bind hgo (evNeg (by dsimp only; omega) (Ev.now _))))
    rw [f3, ntrot_it n r n7 hf, ← f3] at a8
    have a9 := IsSwapper_ev (bs (cn n)) (st (cn n) (r + 1)).d (st (cn n) (r + 1)).u (st (cn n) (r + 1)).p (it n (r + 1)) (wh n (r + 1)) (by omega) (by omega) (by omega) (by omega) (by omega) (by omega)
    rw [gS_st n (r + 1) n1 n7 hfob hf] at a9
    obtain ⟨j1, z1⟩ := evAt a1
    obtain ⟨j2, z2⟩ := evAt a2
    obtain ⟨j6, z6⟩ := evAt (uSwapper_self (bs (cn n)) (st (cn n) (r + 1)).d (st (cn n) (r + 1)).u (st (cn n) (r + 1)).p (it n (r + 1)) (wh n (r + 1)) (by omega) (by omega) (by omega) (by omega) (by omega) (by omega))
    obtain ⟨j8, z8⟩ := evAt a8
    exact ⟨j1, j2, j3, j4, j5, j6, _, _, _, _, _, _, _, _, _, _, z1, z2, z3, z4, z5, z6, fun _ => ⟨j7, j8, _, z7, z8, fun _ => ⟨evAt (uSame_self (it n (r + 1)) (by omega)), evAt a9⟩⟩⟩
  · have hfe : fa (cn n) r = (cn n).length := fa_full (cn n) r (cn_ok n n7).rad (by rw [cn_prod]; omega)
    have a1 : Ev (fun k => impl_StepSwapper.f k b d u p e f) ([], [], [], [], [], [], 0, false) := by
      have hi' := hi
      rw [f2, k2, k3, k4, f3, f4] at hi' ⊢
      unfold impl_StepSwapper.f
      exact Ev.bind hi' (evPos rfl (Ev.bind (evGot hw) (Ev.bind (evGot hw4) (Ev.bind (evGot hw5) (evPos (by dsimp only; rw [hj]; omega) (Ev.now _))))))
    have a2 : Ev (fun k => spec_StepSwapper.f k b d u p e f) ([], [], [], [], [], [], 0, false) := by
      have hg' := hg
      rw [f2, k2, k3, k4, f3, f4] at hg' ⊢
      have g1' := g1
      rw [f2, k2] at g1'
      unfold spec_StepSwapper.f
      exact Ev.bind hg' (evNeg (by omega) (Ev.bind (foSwap_end n r hfe _ _) (evPos (by decide) (Ev.now _))))
    have hnt : ntrot e = ([], 0, false) := by
      unfold ntrot
      rw [f3, it_length, htr, if_neg (fun h => hf (by omega))]
    rw [hnt] at a8
    obtain ⟨j1, z1⟩ := evAt a1
    obtain ⟨j2, z2⟩ := evAt a2
    obtain ⟨j8, z8⟩ := evAt a8
    exact ⟨j1, j2, j3, j4, j5, k6, _, _, _, _, _, _, _, _, _, _, z1, z2, z3, z4, z5, z6, fun _ => ⟨j7, j8, _, z7, z8, fun h => by cases h⟩⟩
theorem SwapperAt_key (x m : Int) : ∃ (a b d : List Int) (c : List Bool) (e f : List Int) (o : Bool), (a.length ≤ 2000000 ∧ b.length ≤ 2000000 ∧ c.length ≤ 2000000 ∧ d.length ≤ 2000000 ∧ e.length ≤ 2000000 ∧ f.length ≤ 2000000) ∧ Ev (fun q => spec_SwapperAt.f q x m) (a, b, c, d, e, f, o) ∧ Ev (fun q => impl_SwapperAt.f q x m) (a, b, c, d, e, f, o) ∧
    (o = true → ∃ n r : Nat, x = n ∧ m = r ∧ 1 ≤ n ∧ n ≤ 7 ∧ r < fac n ∧ e = it n r ∧ f = wh n r) := by
  unfold spec_SwapperAt.f impl_SwapperAt.f spec_foSize.f impl_isSwapperSize.f
  simp only [l1In_eq, within_eq, Option.bind_some]
  by_cases c : 1 ≤ x ∧ x ≤ 7
  rotate_left
  · exact ⟨[], [], [], [], [], [], false, by simp, evNeg (by simpa using c) (Ev.now _), evNeg (by simpa using c) (Ev.now _), fun h => by cases h⟩
  obtain ⟨n, rfl⟩ := Int.eq_ofNat_of_zero_le (show 0 ≤ x by omega)
  have hn : n ≤ 7 := by omega
  have hp := fac_pos n
  have hp2 : fac n ≤ 5040 := Nat.le_trans (fac_mono hn) (by decide +kernel)
  have f1 := raFactorial_ev n (by omega)
  have f2 := factorial_ev n (by omega)
  by_cases cm : 0 ≤ m ∧ m ≤ (fac n : Int) - 1
  rotate_left
  · exact ⟨[], [], [], [], [], [], false, by simp, evPos (by simpa using c) (Ev.bind f1 (evNeg (by rw [wr (by omega) (by omega)]; simpa using cm) (Ev.now _))), evPos (by simpa using c) (Ev.bind f2 (evNeg (by rw [wr (by omega) (by omega)]; simpa using cm) (Ev.now _))), fun h => by cases h⟩
  obtain ⟨q, rfl⟩ := Int.eq_ofNat_of_zero_le cm.1
  have l3 := st_lens (cn n) q
  have lc := cn_length n
  have lb := bs_length (cn n)
  have i1 := it_length n q
  have i2 := wh_length n q
  exact ⟨bs (cn n), (st (cn n) q).d, (st (cn n) q).p, (st (cn n) q).u, it n q, wh n q, true, ⟨by omega, by omega, by omega, by omega, by omega, by omega⟩, evPos (by simpa using c) (Ev.bind f1 (evPos (by rw [wr (by omega) (by omega)]; simpa using cm) (Ev.bind (foSwapperAt_ev n (by omega) hn q (by omega) (by omega)) (Ev.now _)))), evPos (by simpa using c) (Ev.bind f2 (evPos (by rw [wr (by omega) (by omega)]; simpa using cm) (Ev.bind (swapperAt_ev n (by omega) hn q (by omega) (by omega)) (Ev.now _)))), fun _ => ⟨n, q, rfl, rfl, by omega, hn, by omega, rfl, rfl⟩⟩
theorem InverseOf_l0 (l : List Int) (hn : l.length ≤ 1000) (hp : l.Perm (upTo l.length)) (hI : ∀ q : Nat, q < l.length → 0 ≤ rd l q ∧ rd l q < l.length) : ∀ (d : Nat) (j : Nat) (x : List Int), x.length = l.length → j + d = l.length → (∀ q : Nat, q < j → rd x (rd l q) = q) →
    Ev (fun k => impl_InverseOf.l0 k x l (l.length : Int) (j : Int)) (invL l, true) := by
  have hnd : l.Nodup := hp.nodup_iff.2 (nodup_upTo _)
  intro d
  induction d with
  | zero =>
    intro j x hx hj hq
    refine Ev.step (fun k => by rw [impl_InverseOf.l0]) ?_
    exact evNeg (by omega) (evEq (by rw [isI_invL hp ⟨hx, fun q h => ⟨(hI q h).1, (hI q h).2, hq q (by omega)⟩⟩]))
  | succ d ih =>
    intro j x hx hj hq
    have hj' : j < l.length := by omega
    obtain ⟨i1, i2⟩ := hI j hj'
    refine Ev.step (fun k => by rw [impl_InverseOf.l0]) ?_
    refine evPos (by omega) (evPos (by omega) (evPos (by omega) (evPos i1 (evPos (by omega) ?_))))
    rw [wr (by omega) (by omega), show (j : Int) + 1 = ((j + 1 : Nat) : Int) from by omega]
    refine ih (j + 1) _ (by rw [List.length_set]; exact hx) (by omega) (fun q h => ?_)
    by_cases e : q = j
    · rw [e, rd_set_eq _ _ _ (by omega)]
    · have i3 := hI q (by omega)
      rw [rd_set_ne _ _ _ _ (fun h_ => e (rd_inj hnd (by omega) hj' (by omega)))]
      exact hq q (by omega)
theorem phC (m : List Int) (hm : Byt m) : PhC m := by
  have hd : ∃ n r, Ev (fun k => spec_DrawSwapperAt.f k m) (n, r) := by
    unfold spec_DrawSwapperAt.f
    obtain ⟨n, a', s', e, i1, i2, i3⟩ := cur_among m hm 0 0 [1, 2, 3, 4, 5, 4, 5, 7, 8, 0] (by decide) (by omega) (by omega)
    have hn : 0 ≤ n ∧ n ≤ 8 := by
      simp only [List.mem_cons, List.not_mem_nil, or_false] at i3
      omega
    obtain ⟨N, rfl⟩ := Int.eq_ofNat_of_zero_le hn.1
    obtain ⟨r, a2, s2, e2, _⟩ := cur_rank m hm a' s' (fac N : Int) (by omega) (by omega)
    exact ⟨_, _, Ev.bind (evGot e) (Ev.bind (raFactorial_ev N (by omega)) (Ev.bind (evGot e2) (Ev.now _)))⟩
  obtain ⟨n, r, hd⟩ := hd
  obtain ⟨a, b, d, c, e, f, o, hl, hs, hi, ho⟩ := SwapperAt_key n r
  obtain ⟨k1, z1⟩ := evAt hd
  obtain ⟨k2, z2⟩ := evAt hi
  obtain ⟨k3, z3⟩ := evAt hs
  obtain ⟨k4, z4⟩ := evAt (uSwapper_self a b c d e f hl.1 hl.2.1 hl.2.2.1 hl.2.2.2.1 hl.2.2.2.2.1 hl.2.2.2.2.2)
  refine ⟨k1, k2, k3, k4, n, r, a, b, c, d, e, f, o, z1, z2, z3, z4, fun h => ?_⟩
  obtain ⟨N, R, rfl, rfl, n1, n7, hr, rfl, rfl⟩ := ho h
  have t1 := TrotterAt_ev (N : Int) (R : Int)
  rw [Int.toNat_natCast, if_pos ⟨by omega, by omega, by omega, by omega⟩] at t1
  have hl1 := it_length N R
  have hl2 := wh_length N R
  have hp : (it N R).Perm (upTo (it N R).length) := trot_perm' N _
  have t2 : Ev (fun k => impl_InverseOf.f k (it N R)) (wh N R, true) := by
    unfold impl_InverseOf.f
    have hi := IsPermutation_ev (it N R) (by omega)
    rw [isPm_it N R (by omega)] at hi
    refine Ev.bind hi (evPos rfl (evPos (by omega) (evPos (by omega) ?_)))
    exact InverseOf_l0 (it N R) (by omega) hp (fun q hq => it_rd N R q (by omega) (by omega) |>.imp id (by omega)) (it N R).length 0 _ (by simp) (by omega) (fun q h => by omega)
  obtain ⟨j1, y1⟩ := evAt t1
  obtain ⟨j2, y2⟩ := evAt t2
  obtain ⟨j3, y3⟩ := evAt (uSame_self (it N R) (by omega))
  obtain ⟨j4, y4⟩ := evAt (uSame_self (wh N R) (by omega))
  exact ⟨j1, j2, j3, j4, it N R, wh N R, y1, y2, y3, y4⟩
def runW (n : Nat) : Nat → Nat → List Int
  | _, 0 => []
  | r, c + 1 => if r + 1 < fac n then atS n r :: runW n (r + 1) c else []
theorem runW_length (n : Nat) : ∀ (c r : Nat), (runW n r c).length ≤ c
  | 0, r => by simp [runW]
  | c + 1, r => by
    rw [runW]
    split
    · have := runW_length n c (r + 1); simp; omega
    · simp
theorem fa_end (n r : Nat) (hn : n ≤ 7) (hr : r + 1 = fac n) : fa (cn n) r = (cn n).length := fa_full (cn n) r (cn_ok n hn).rad (by rw [cn_prod]; exact hr)
theorem iRun (n : Nat) (hn : n ≤ 7) (m : Int) (hm : m ≤ 5040) : ∀ (c r : Nat) (out : List Int), r < fac n → ((out.length : Int) + c = m ∨ c = 0 ∧ m ≤ out.length) →
    Ev (fun k => impl_RunSwapper.l0 k m (bs (cn n)) out (st (cn n) r).d (st (cn n) r).u (st (cn n) r).p (it n r) (wh n r)) (out ++ runW n r c) := by
  intro c
  induction c with
  | zero =>
    intro r out hr hc
    refine Ev.step (fun k => by rw [impl_RunSwapper.l0]) ?_
    rw [runW, List.append_nil]
    exact evNeg (by omega) (Ev.now _)
  | succ c ih =>
    intro r out hr hc
    refine Ev.step (fun k => by rw [impl_RunSwapper.l0]) ?_
    rw [runW, isLast_st]
    refine evPos (by omega) (evSome ?_)
    by_cases c1 : r + 1 < fac n
    · rw [if_pos c1, stepS_sq n r hn c1]
      have hf := fa_cn n r hn c1
      refine evNeg (by simp; omega) (evSome (evPos (by omega) ?_))
      dsimp only
      rw [show out ++ atS n r :: runW n (r + 1) c = (out ++ [atS n r]) ++ runW n (r + 1) c from by simp]
      exact ih (r + 1) _ c1 (.inl (by simp; omega))
    · rw [if_neg c1, List.append_nil]
      exact evPos (by simp [fa_end n r hn (by omega)]) (Ev.now _)
theorem sRun (n : Nat) (hn : n ≤ 7) : ∀ (c r : Nat) (out : List Int), r < fac n → c ≤ 5040 → out.length + c ≤ 10000 →
    Ev (fun k => spec_RunSwapper.l0 k (c : Int) out (bs (cn n)) (st (cn n) r).d (st (cn n) r).u (st (cn n) r).p (it n r) (wh n r)) (out ++ runW n r c, true) := by
  intro c
  induction c with
  | zero =>
    intro r out hr hc ho
    refine Ev.step (fun k => by rw [spec_RunSwapper.l0]) ?_
    rw [runW, List.append_nil]
    exact evNeg (by omega) (Ev.now _)
  | succ c ih =>
    intro r out hr hc ho
    refine Ev.step (fun k => by rw [spec_RunSwapper.l0]) ?_
    rw [runW]
    refine evPos (by omega) ?_
    by_cases c1 : r + 1 < fac n
    · rw [if_pos c1]
      obtain ⟨h0, h1, h2⟩ := at_range n r hn c1
      refine Ev.bind (foSwap_go n r hn c1) (evNeg (by dsimp only; omega) (evPos (by omega) ?_))
      dsimp only
      rw [wr (by omega) (by omega), show ((c + 1 : Nat) : Int) - 1 = (c : Int) from by omega, show out ++ atS n r :: runW n (r + 1) c = (out ++ [atS n r]) ++ runW n (r + 1) c from by simp]
      exact ih (r + 1) _ c1 (by omega) (by simp; omega)
    · rw [if_neg c1, List.append_nil]
      exact Ev.bind (foSwap_end n r (fa_end n r hn (by omega)) _ _) (evPos (by decide) (Ev.now _))
theorem st0 (n : Nat) : it n 0 = upTo n ∧ wh n 0 = upTo n := by
  have h : it n 0 = upTo n := trot_zero n
  exact ⟨h, by unfold wh; rw [h, invL_upTo]⟩
theorem RunSwapper_key (x m : Int) : ∃ (G : List Int) (b : Bool), Ev (fun q => spec_RunSwapper.f q x m) (G, b) ∧ Ev (fun q => impl_RunSwapper.f q x m) (G, b) ∧ G.length ≤ 10000 := by
  unfold spec_RunSwapper.f impl_RunSwapper.f spec_foSize.f impl_isSwapperSize.f
  simp only [l1In_eq, within_eq, Option.bind_some]
  by_cases c : 1 ≤ x ∧ x ≤ 7
  rotate_left
  · refine ⟨[], false, evNeg (by simpa using c) ?_, evNeg (by simpa using c) (Ev.now _), by simp⟩
    refine Ev.step (fun k => by rw [spec_RunSwapper.j0]) ?_
    exact evPos rfl (Ev.now _)
  by_cases cm : 0 ≤ m ∧ m ≤ 5040
  rotate_left
  · refine ⟨[], false, evPos (by simpa using c) ?_, evPos (by simpa using c) (evNeg (by simpa using cm) (Ev.now _)), by simp⟩
    refine Ev.step (fun k => by rw [spec_RunSwapper.j0]) ?_
    exact evPos (by simp; omega) (Ev.now _)
  obtain ⟨n, rfl⟩ := Int.eq_ofNat_of_zero_le (show 0 ≤ x by omega)
  obtain ⟨q, rfl⟩ := Int.eq_ofNat_of_zero_le cm.1
  have hn : n ≤ 7 := by omega
  have hp := fac_pos n
  have s := sRun n hn q 0 [] (by omega) (by omega) (by simp; omega)
  have i := iRun n hn (q : Int) (by omega) q 0 [] (by omega) (.inl (by simp))
  rw [(st0 n).1, (st0 n).2] at s i
  have hw := runW_length n q 0
  refine ⟨_, true, evPos (by simpa using c) ?_, evPos (by simpa using c) (evPos (by simpa using cm) (Ev.bind (startSwapper_ev n (by omega) hn) (Ev.bind i (Ev.now _)))), by simp; omega⟩
  refine Ev.step (fun k => by rw [spec_RunSwapper.j0]) ?_
  exact evNeg (by simpa using cm) (Ev.bind (foSwapper_ev n (by omega) hn) s)
theorem start_key (x : Int) : ∃ (a b d : List Int) (c : List Bool) (e f : List Int) (o : Bool), (a.length ≤ 2000000 ∧ b.length ≤ 2000000 ∧ c.length ≤ 2000000 ∧ d.length ≤ 2000000 ∧ e.length ≤ 2000000 ∧ f.length ≤ 2000000) ∧ Ev (fun q => impl_StartSwapper.f q x) (a, b, c, d, e, f, o) ∧ Ev (fun q => impl_SwapperAt.f q x 0) (a, b, c, d, e, f, o) := by
  unfold impl_StartSwapper.f impl_SwapperAt.f impl_isSwapperSize.f
  simp only [within_eq, Option.bind_some]
  by_cases c : 1 ≤ x ∧ x ≤ 7
  rotate_left
  · exact ⟨[], [], [], [], [], [], false, by simp, evNeg (by simpa using c) (Ev.now _), evNeg (by simpa using c) (Ev.now _)⟩
  obtain ⟨n, rfl⟩ := Int.eq_ofNat_of_zero_le (show 0 ≤ x by omega)
  have hn : n ≤ 7 := by omega
  have hp := fac_pos n
  have hp2 : fac n ≤ 5040 := Nat.le_trans (fac_mono hn) (by decide +kernel)
  have f2 := factorial_ev n (by omega)
  have l3 := st_lens (cn n) 0
  have lc := cn_length n
  have lb := bs_length (cn n)
  have h := swapperAt_ev n (by omega) hn 0 hp (by omega)
  rw [(st0 n).1, (st0 n).2] at h
  exact ⟨bs (cn n), (st (cn n) 0).d, (st (cn n) 0).p, (st (cn n) 0).u, upTo n, upTo n, true, ⟨by omega, by omega, by omega, by omega, by rw [upTo_length]; omega, by rw [upTo_length]; omega⟩, evPos (by simpa using c) (Ev.bind (startSwapper_ev n (by omega) hn) (Ev.now _)), evPos (by simpa using c) (Ev.bind f2 (evPos (by rw [wr (by omega) (by omega)]; simp; omega) (Ev.bind h (Ev.now _))))⟩
theorem phE (m : List Int) (hm : Byt m) : PhE m := by
  have hd : ∃ n r, spec_DrawRunSwapper.f m = some (n, r) := by
    unfold spec_DrawRunSwapper.f
    obtain ⟨n, a', s', e, i1, i2, i3⟩ := cur_among m hm 0 0 [1, 2, 3, 4, 5, 4, 6, 8, 0] (by decide) (by omega) (by omega)
    obtain ⟨r, a2, s2, e2, _⟩ := cur_among m hm a' s' [0, 1, 5, 23, 24, 120, 5040, 5041, (-1)] (by decide) (by omega) (by omega)
    exact ⟨n, r, by rw [e, Option.bind_some, e2]; rfl⟩
  obtain ⟨n, r, z0⟩ := hd
  obtain ⟨G, o, hs, hi, hG⟩ := RunSwapper_key n r
  obtain ⟨a, b, d, c, e, f, o2, hl, hst, hi2⟩ := start_key n
  obtain ⟨k1, z1⟩ := evAt hi
  obtain ⟨k2, z2⟩ := evAt hs
  obtain ⟨k3, z3⟩ := evAt (uSame_self G (by omega))
  obtain ⟨k4, z4⟩ := evAt hst
  obtain ⟨k5, z5⟩ := evAt hi2
  obtain ⟨k6, z6⟩ := evAt (uSwapper_self a b c d e f hl.1 hl.2.1 hl.2.2.1 hl.2.2.2.1 hl.2.2.2.2.1 hl.2.2.2.2.2)
  exact ⟨k1, k2, k3, k4, k5, k6, n, r, G, o, a, b, c, d, e, f, o2, z0, z1, z2, z3, z4, z5, z6⟩
theorem FnSwappers : laws_FnSwappers.Pure := by
  intro l0 l1 hm0 hb0 hw0 hm1 hb1 hw1
  obtain ⟨t, ht, hbig⟩ := big_eq l0 l1
  refine ⟨t, ht, fun e => ?_⟩
  subst e
  obtain ⟨q0, q1⟩ := hbig rfl
  have y0 := byt_of q0 hw0
  have y1 := byt_of q1 hw1
  exact ⟨sd l0 y0, fun b d u p it wh h0 h1 h2 h3 h4 h5 => phA b d u p it wh h0 h1 h2 h3 h4 h5, phC l1 y1, phE l1 y1⟩
end Go.Proofs.YtapbbmicfkbafaaGreat.Pure
