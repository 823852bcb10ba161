/- The pure statement of FnExactTrotterRank: for all arguments that fit, the law as a Lean function answers true after enough rounds. -/
import Derived.Test.YtcplfdfmebibpaaMFnExactTrotterRankx1
import Derived.Test.YtcplfdfmebibpaaMFnExactTrotterRankx2
import Derived.Test.YtcplfdfmebibpaaMFnExactTrotterRankx3
import Derived.Test.YtcplfdfmebibpaaBase
import Derived.Test.YtcplfdfmebibpaaComb
import Derived.Test.YtcplfdfmebibpaaTrot
import Derived.Test.YtcplfdfmebibpaaPerms
import Derived.Test.YtcplfdfmebibpaaTrotRank
namespace Go.Proofs.Ytcplfdfmebibpaa.Pure
open Go.RowKit Go.Proofs.Ytcplfdfmebibpaa.MFnExactTrotterRank Go.Proofs.YtcplfdfmebibpaaW.PrintWords Go.Proofs.YtcplfdfmebibpaaW.PrintLast Go.Proofs.Ytcplfdfmebibpaa.Base Go.Proofs.Ytcplfdfmebibpaa.Comb Go.Proofs.Ytcplfdfmebibpaa.Trot Go.Proofs.Ytcplfdfmebibpaa.Perms Go.Proofs.Ytcplfdfmebibpaa.TrotRank
set_option linter.unusedVariables false
set_option linter.unusedSimpArgs false

/-! laws_eqIntS -/
theorem eqIntS_l0 (a b : List Int) (hn : a.length ≤ 35184372088832) (hb : a.length = b.length) : ∀ (d : Nat) (j : Int), 0 ≤ j → j.toNat + d = a.length →
    Ev (fun k => laws_eqIntS.l0 k a b j) (decide (a.drop j.toNat = b.drop j.toNat)) := by
  intro d
  induction d with
  | zero =>
    intro j h0 hd
    refine Ev.step (fun k => by rw [laws_eqIntS.l0]) ?_
    refine evNeg (by omega) ?_
    rw [drop_end a j (by omega), drop_end b j (by omega)]
    exact evEq rfl
  | succ d ih =>
    intro j h0 hd
    refine Ev.step (fun k => by rw [laws_eqIntS.l0]) ?_
    refine evPos (by omega) (evPos (by omega) (evPos (by omega) ?_))
    rw [wr (by omega) (by omega), drop_rd a j h0 (by omega), drop_rd b j h0 (by omega)]
    by_cases c : rd a j = rd b j
    · refine evPos c (evTo (ih _ (by omega) (by omega)) ?_)
      simp [c]
    · refine evNeg c (evEq ?_)
      simp [c]
theorem eqIntS_ev (a b : List Int) (hn : a.length ≤ 35184372088832) : Ev (fun k => laws_eqIntS.f k a b) (decide (a = b)) := by
  unfold laws_eqIntS.f
  by_cases hb : a.length = b.length
  · exact evPos (by omega) (eqIntS_l0 a b hn hb a.length 0 (by omega) (by simp))
  · refine evNeg (by omega) (evEq ?_)
    exact (decide_eq_false (fun e => hb (by rw [e]))).symm
theorem eqIntS_self (a : List Int) (hn : a.length ≤ 35184372088832) : Ev (fun k => laws_eqIntS.f k a a) true := evTo (eqIntS_ev a a hn) (by simp)
/-! laws_toIntS -/
theorem toIntS_l0 (x0 : List Int) (hn : x0.length ≤ 35184372088832) : ∀ (d : Nat) (x3 : List Int) (j : Int), 0 ≤ j → j.toNat + d = x0.length → x3.length = x0.length → x3.take j.toNat = x0.take j.toNat →
    Ev (fun k => laws_toIntS.l0 k x0 x3 j) x0 := by
  intro d
  induction d with
  | zero =>
    intro x3 j h0 hd hl ht
    refine Ev.step (fun k => by rw [laws_toIntS.l0]) ?_
    refine evNeg (by omega) ?_
    rw [take_end x0 j (by omega), take_end x3 j (by omega)] at ht
    exact evEq ht
  | succ d ih =>
    intro x3 j h0 hd hl ht
    refine Ev.step (fun k => by rw [laws_toIntS.l0]) ?_
    refine evPos (by omega) (evPos (by omega) (evPos (by omega) ?_))
    rw [wr (by omega) (by omega)]
    refine ih _ _ (by omega) (by omega) (by simpa using hl) ?_
    rw [set_takeI x3 j _ h0 (by omega), take_rd x0 j h0 (by omega), ht]
theorem toIntS_ev (l : List Int) (hn : l.length ≤ 35184372088832) : Ev (fun k => laws_toIntS.f k l) l := by
  unfold laws_toIntS.f
  refine evPos (by omega) (evPos (by simpa using hn) ?_)
  exact toIntS_l0 l hn l.length _ 0 (by omega) (by simp) (by simp) (by simp)
/-! spec_l1In -/
theorem l1In_eq (x a b : Int) : spec_l1In.f x a b = some (decide (a ≤ x ∧ x ≤ b)) := by
  unfold spec_l1In.f
  by_cases h : x ≥ a
  · rw [if_pos h]; have h' : a ≤ x := h; simp [h']
  · rw [if_neg h]; have h' : ¬ a ≤ x := h; simp [h']
/-! spec_l1Has -/
theorem l1Has_l0 (x : Int) (xs : List Int) (hn : xs.length ≤ 35184372088832) : ∀ (d : Nat) (j : Int), 0 ≤ j → j.toNat + d = xs.length →
    Ev (fun k => spec_l1Has.l0 k x xs (xs.length : Int) j) (decide (x ∈ xs.drop j.toNat)) := by
  intro d
  induction d with
  | zero =>
    intro j h0 hd
    refine Ev.step (fun k => by rw [spec_l1Has.l0]) ?_
    refine evNeg (by omega) (evEq ?_)
    rw [drop_end _ _ (by omega)]; simp
  | succ d ih =>
    intro j h0 hd
    refine Ev.step (fun k => by rw [spec_l1Has.l0]) ?_
    refine evPos (by omega) (evPos (by omega) (evPos (by omega) ?_))
    rw [wr (by omega) (by omega), drop_rd xs j h0 (by omega)]
    by_cases c : rd xs j = x
    · exact evPos c (evEq (by simp [c]))
    · exact evNeg c (evTo (ih _ (by omega) (by omega)) (by simp [List.mem_cons, Ne.symm c]))
theorem l1Has_ev (xs : List Int) (x : Int) (hn : xs.length ≤ 35184372088832) : Ev (fun k => spec_l1Has.f k xs x) (decide (x ∈ xs)) := by
  unfold spec_l1Has.f
  exact evTo (l1Has_l0 x xs hn xs.length 0 (by omega) (by simp)) (by simp)
/-! spec_raPermutation -/
theorem raPermutation_l0 (l : List Int) (hl : l.length ≤ 1048576) : ∀ (d : Nat) (i : Int), 0 ≤ i → i.toNat + d = l.length →
    Ev (fun q => spec_raPermutation.l0 q l l (l.length : Int) i) (decide (∀ j (h : j < l.length), i.toNat ≤ j → j < 12 ∧ (0 ≤ l[j] ∧ l[j] ≤ (l.length : Int) - 1) ∧ l[j] ∉ l.take j)) := by
  intro d
  induction d with
  | zero =>
    intro i h0 hd
    refine Ev.step (fun k => by rw [spec_raPermutation.l0]) ?_
    refine evNeg (by omega) (evEq (decide_eq_true ?_).symm)
    intro j h hj; omega
  | succ d ih =>
    intro i h0 hd
    refine Ev.step (fun k => by rw [spec_raPermutation.l0]) ?_
    have hil : i.toNat < l.length := by omega
    have e : rd l i = l[i.toNat] := by unfold rd; rw [List.getD_eq_getElem?_getD, List.getElem?_eq_getElem hil]; rfl
    refine evPos (by omega) (evPos h0 (evPos (by omega) ?_))
    by_cases c1 : i ≥ 12
    · refine evPos c1 (evEq (decide_eq_false ?_).symm)
      intro h
      have := (h i.toNat hil (Nat.le_refl _)).1
      omega
    · refine evNeg c1 ?_
      rw [l1In_eq, wr (by omega) (by omega), wr (by omega) (by omega)]
      refine evSome ?_
      by_cases c2 : 0 ≤ rd l i ∧ rd l i ≤ (l.length : Int) - 1
      · refine evPos (by simpa using c2) (evPos (by omega) (Ev.bind (l1Has_ev _ _ (by rw [List.length_take]; omega)) ?_))
        by_cases c3 : rd l i ∈ l.take i.toNat
        · refine evPos (decide_eq_true c3) (evEq (decide_eq_false ?_).symm)
          intro h
          rw [e] at c3
          exact (h i.toNat hil (Nat.le_refl _)).2.2 c3
        · refine evNeg (by simpa using c3) (evTo (ih (i + 1) (by omega) (by omega)) ?_)
          apply decide_eq_decide.2
          constructor
          · intro h j hj hij
            by_cases ej : j = i.toNat
            · subst ej
              rw [e] at c2 c3
              exact ⟨by omega, c2, c3⟩
            · exact h j hj (by omega)
          · intro h j hj hij
            exact h j hj (by omega)
      · refine evNeg (by simpa using c2) (evEq (decide_eq_false ?_).symm)
        intro h
        rw [e] at c2
        exact c2 (h i.toNat hil (Nat.le_refl _)).2.1
theorem raPermutation_ev (l : List Int) (hl : l.length ≤ 1048576) : Ev (fun q => spec_raPermutation.f q l) (isPm l) := by
  unfold spec_raPermutation.f
  refine evTo (raPermutation_l0 l hl l.length 0 (by omega) (by simp)) ?_
  rw [Bool.eq_iff_iff, isPm_iff, decide_eq_true_eq]
  constructor
  · intro h j hj; exact h j hj (by simp)
  · intro h j hj _; exact h j hj
/-! spec_gcPlace -/
theorem gcPlace_l0 (x : Int) (xs : List Int) (hn : xs.length ≤ 35184372088832) : ∀ (d : Nat) (j : Int), 0 ≤ j → j.toNat + d = xs.length →
    Ev (fun k => spec_gcPlace.l0 k x xs (xs.length : Int) j) (findI x j (xs.drop j.toNat)) := by
  intro d
  induction d with
  | zero =>
    intro j h0 hd
    refine Ev.step (fun k => by rw [spec_gcPlace.l0]) ?_
    refine evNeg (by omega) (evEq ?_)
    rw [drop_end _ _ (by omega)]; rfl
  | succ d ih =>
    intro j h0 hd
    refine Ev.step (fun k => by rw [spec_gcPlace.l0]) ?_
    refine evPos (by omega) (evPos (by omega) (evPos (by omega) ?_))
    rw [wr (by omega) (by omega), drop_rd xs j h0 (by omega), findI]
    by_cases c : x = rd xs j
    · rw [if_pos c]; exact evPos c (Ev.now _)
    · rw [if_neg c]; exact evNeg c (ih _ (by omega) (by omega))
theorem gcPlace_ev (xs : List Int) (x : Int) (hn : xs.length ≤ 35184372088832) : Ev (fun k => spec_gcPlace.f k xs x) (findI x 0 xs) := by
  unfold spec_gcPlace.f
  exact evTo (gcPlace_l0 x xs hn xs.length 0 (by omega) (by simp)) (by simp)
/-! spec_l1Own -/
theorem l1Own_eq (l : List Int) (hn : l.length ≤ 10000000000000) : spec_l1Own.f l = some l := by
  unfold spec_l1Own.f
  simp only [Option.bind_some, List.nil_append, List.length_nil, Nat.zero_add]
  rw [if_pos (by omega)]
/-! spec_raWithout -/
theorem raWithout_eq (l : List Int) (hl : l.length ≤ 1000000) (p : Int) (h0 : 0 ≤ p) (h1 : p < l.length) : spec_raWithout.f l p = some (l.take p.toNat ++ l.drop (p + 1).toNat) := by
  unfold spec_raWithout.f
  rw [if_pos h0, if_pos (by omega), l1Own_eq _ (by rw [List.length_take]; omega), wr (by omega) (by omega)]
  simp only [Option.bind_some]
  rw [if_pos (by omega), if_pos (by omega), if_pos (by rw [List.length_take, List.length_drop]; omega)]
/-! spec_moTrotterRank -/
theorem moTrotterRank_ev : ∀ (n : Nat) (l : List Int), n ≤ 12 → l.Perm (upTo n) → Ev (fun q => spec_moTrotterRank.f q l) (trk n l) := by
  intro n
  induction n with
  | zero =>
    intro l hn h
    have hl : l.length = 0 := by rw [h.length_eq, upTo_length]
    refine Ev.step (fun q => by rw [spec_moTrotterRank.f]) ?_
    exact evPos (by omega) (evEq rfl)
  | succ n ih =>
    intro l hn h
    have hl : l.length = n + 1 := by rw [h.length_eq, upTo_length]
    have hm : (n : Int) ∈ l := h.mem_iff.2 (mem_upTo.2 ⟨by omega, by omega⟩)
    obtain ⟨p, hp, he, hx⟩ := findI_at (n : Int) l 0 hm
    have hc := cutAt_perm l n p h hx hp
    obtain ⟨i1, i2, _⟩ := trk_all n (cutAt l p) hc
    have hf := fac_le12 n (by omega)
    have hm1 : 0 ≤ trk n (cutAt l p) * ((n : Int) + 1) := Int.mul_nonneg i1 (by omega)
    have hm2 : trk n (cutAt l p) * ((n : Int) + 1) ≤ 479001600 * 13 := Int.mul_le_mul (by omega) (by omega) (by omega) (by omega)
    refine Ev.step (fun q => by rw [spec_moTrotterRank.f]) ?_
    refine evNeg (by omega) ?_
    rw [hl, wr (x := ((n + 1 : Nat) : Int) - 1) (by omega) (by omega), show ((n + 1 : Nat) : Int) - 1 = (n : Int) from by omega, show ((n + 1 : Nat) : Int) = (n : Int) + 1 from by omega]
    refine Ev.bind (evTo (gcPlace_ev l (n : Int) (by omega)) (show _ = (p : Int) by omega)) ?_
    rw [raWithout_eq l (by omega) p (by omega) (by omega), show ((p : Int)).toNat = p from by omega, show ((p : Int) + 1).toNat = p + 1 from by omega]
    refine evSome (Ev.bind (ih (cutAt l p) (by omega) hc) ?_)
    have hpn : (findI (n : Int) 0 l).toNat = p := by omega
    rw [trk, hpn, Int.tmod_eq_emod_of_nonneg i1]
    simp (disch := omega) only [wr]
    unfold tup
    by_cases c : trk n (cutAt l p) % 2 = 0
    · refine evPos c (evEq ?_); rw [if_pos c]
    · refine evNeg c (evEq ?_); rw [if_neg c]
/-! spec_TrotterRank -/
theorem spec_TrotterRank_ev (l : List Int) (hl : l.length ≤ 1048576) : Ev (fun q => spec_TrotterRank.f q l) (if isPm l = true then (trk l.length l, true) else (0, false)) := by
  unfold spec_TrotterRank.f
  refine Ev.bind (raPermutation_ev l (by omega)) ?_
  by_cases c : isPm l = true
  · rw [if_pos c]
    refine evPos c (Ev.bind (moTrotterRank_ev l.length l (isPm_perm c).1 (isPm_perm c).2) (Ev.now _))
  · rw [if_neg c]
    exact evNeg c (Ev.now _)
/-! impl_identity -/
theorem identity_l0 (n : Nat) (hn : n ≤ 1000000000) : ∀ (d : Nat) (j : Int), 0 ≤ j → j.toNat + d = n → Ev (fun k => impl_identity.l0 k (upTo j.toNat) (n : Int) j) (upTo n) := by
  intro d
  induction d with
  | zero =>
    intro j h0 hd
    refine Ev.step (fun k => by rw [impl_identity.l0]) ?_
    exact evNeg (by omega) (evEq (by rw [show j.toNat = n from by omega]))
  | succ d ih =>
    intro j h0 hd
    refine Ev.step (fun k => by rw [impl_identity.l0]) ?_
    refine evPos (by omega) (evPos (by rw [upTo_length]; omega) ?_)
    have h := ih (j + 1) (by omega) (by omega)
    rw [show (j + 1).toNat = j.toNat + 1 from by omega, upTo_succ, Int.toNat_of_nonneg h0] at h
    rw [wr (by omega) (by omega)]
    exact h
theorem identity_ev (n : Nat) (hn : n ≤ 1000000000) : Ev (fun k => impl_identity.f k (n : Int)) (upTo n) := by
  unfold impl_identity.f
  exact identity_l0 n hn n 0 (by omega) (by simp)
/-! slices_Equal_int_int -/
theorem slicesEqual_l0 (a b : List Int) (hn : a.length ≤ 35184372088832) (hb : a.length = b.length) : ∀ (d : Nat) (j : Int), 0 ≤ j → j.toNat + d = a.length →
    Ev (fun k => slices_Equal_int_int.l0 k a b (a.length : Int) j) (decide (a.drop j.toNat = b.drop j.toNat)) := by
  intro d
  induction d with
  | zero =>
    intro j h0 hd
    refine Ev.step (fun k => by rw [slices_Equal_int_int.l0]) ?_
    refine evNeg (by omega) ?_
    rw [drop_end a j (by omega), drop_end b j (by omega)]
    exact evEq rfl
  | succ d ih =>
    intro j h0 hd
    refine Ev.step (fun k => by rw [slices_Equal_int_int.l0]) ?_
    refine evPos (by omega) (evPos (by omega) (evPos (by omega) (evPos (by omega) ?_)))
    rw [wr (by omega) (by omega), drop_rd a j h0 (by omega), drop_rd b j h0 (by omega)]
    by_cases c : rd a j = rd b j
    · refine evPos c (evTo (ih _ (by omega) (by omega)) ?_)
      simp [c]
    · refine evNeg c (evEq ?_)
      simp [c]
theorem slicesEqual_ev (a b : List Int) (hn : a.length ≤ 35184372088832) : Ev (fun k => slices_Equal_int_int.f k a b) (decide (a = b)) := by
  unfold slices_Equal_int_int.f
  by_cases hb : a.length = b.length
  · exact evPos (by omega) (slicesEqual_l0 a b hn hb a.length 0 (by omega) (by simp))
  · refine evNeg (by omega) (evEq ?_)
    exact (decide_eq_false (fun e => hb (by rw [e]))).symm
/-! impl_IsPermutation -/
theorem IsPermutation_ev (l : List Int) (hl : l.length ≤ 35184372088832) : Ev (fun q => impl_IsPermutation.f q l) (isPm l) := by
  unfold impl_IsPermutation.f isPm
  by_cases c : l.length ≤ 12
  · refine evPos c (Ev.bind (identity_ev l.length (by omega)) ?_)
    have hs : (srt l).length = l.length := (srt_perm l).length_eq
    refine evTo (slicesEqual_ev (srt l) (upTo l.length) (by omega)) ?_
    rw [decide_eq_true c, Bool.true_and]
  · refine evNeg c (evEq ?_)
    rw [decide_eq_false c, Bool.false_and]
/-! impl_copied -/
theorem copied_eq (l : List Int) (hn : l.length ≤ 10000000000000) : impl_copied.f l = some l := by
  unfold impl_copied.f
  simp only [Option.bind_some, List.nil_append, List.length_nil, Nat.zero_add]
  rw [if_pos (by omega)]
/-! slices_Index_int_int -/
theorem Index_l0 (x : Int) (xs : List Int) (hn : xs.length ≤ 35184372088832) : ∀ (d : Nat) (j : Int), 0 ≤ j → j.toNat + d = xs.length →
    Ev (fun k => slices_Index_int_int.l0 k xs x (xs.length : Int) j) (findI x j (xs.drop j.toNat)) := by
  intro d
  induction d with
  | zero =>
    intro j h0 hd
    refine Ev.step (fun k => by rw [slices_Index_int_int.l0]) ?_
    refine evNeg (by omega) (evEq ?_)
    rw [drop_end _ _ (by omega)]; rfl
  | succ d ih =>
    intro j h0 hd
    refine Ev.step (fun k => by rw [slices_Index_int_int.l0]) ?_
    refine evPos (by omega) (evPos (by omega) (evPos (by omega) ?_))
    rw [wr (by omega) (by omega), drop_rd xs j h0 (by omega), findI]
    by_cases c : x = rd xs j
    · rw [if_pos c]; exact evPos c (Ev.now _)
    · rw [if_neg c]; exact evNeg c (ih _ (by omega) (by omega))
theorem Index_ev (xs : List Int) (x : Int) (hn : xs.length ≤ 35184372088832) : Ev (fun k => slices_Index_int_int.f k xs x) (findI x 0 xs) := by
  unfold slices_Index_int_int.f
  exact evTo (Index_l0 x xs hn xs.length 0 (by omega) (by simp)) (by simp)
/-! impl_trotterRank -/
theorem trotterRank_ev : ∀ (n : Nat) (l : List Int), n ≤ 12 → l.Perm (upTo n) → Ev (fun q => impl_trotterRank.f q l) (trk n l) := by
  intro n
  induction n with
  | zero =>
    intro l hn h
    have hl : l.length = 0 := by rw [h.length_eq, upTo_length]
    refine Ev.step (fun q => by rw [impl_trotterRank.f]) ?_
    exact evPos (by omega) (evEq rfl)
  | succ n ih =>
    intro l hn h
    have hl : l.length = n + 1 := by rw [h.length_eq, upTo_length]
    have hm : (n : Int) ∈ l := h.mem_iff.2 (mem_upTo.2 ⟨by omega, by omega⟩)
    obtain ⟨p, hp, he, hx⟩ := findI_at (n : Int) l 0 hm
    have hc := cutAt_perm l n p h hx hp
    obtain ⟨i1, i2, _⟩ := trk_all n (cutAt l p) hc
    have hf := fac_le12 n (by omega)
    have hm1 : 0 ≤ trk n (cutAt l p) * ((n : Int) + 1) := Int.mul_nonneg i1 (by omega)
    have hm2 : trk n (cutAt l p) * ((n : Int) + 1) ≤ 479001600 * 13 := Int.mul_le_mul (by omega) (by omega) (by omega) (by omega)
    refine Ev.step (fun q => by rw [impl_trotterRank.f]) ?_
    refine evNeg (by omega) ?_
    rw [hl, wr (x := ((n + 1 : Nat) : Int) - 1) (by omega) (by omega), show ((n + 1 : Nat) : Int) - 1 = (n : Int) from by omega, show ((n + 1 : Nat) : Int) = (n : Int) + 1 from by omega]
    refine Ev.bind (evTo (Index_ev l (n : Int) (by omega)) (show _ = (p : Int) by omega)) ?_
    rw [copied_eq l (by omega)]
    refine evSome ?_
    unfold slices_Delete_int_int.f
    rw [wr (by omega) (by omega), if_pos (by omega), if_pos (by omega), if_pos (by omega), show ((p : Int)).toNat = p from by omega, show ((p : Int) + 1).toNat = p + 1 from by omega]
    refine evSome (Ev.bind (ih (cutAt l p) (by omega) hc) ?_)
    have hpn : (findI (n : Int) 0 l).toNat = p := by omega
    rw [trk, hpn, Int.tmod_eq_emod_of_nonneg i1]
    simp (disch := omega) only [wr]
    unfold tup
    by_cases c : trk n (cutAt l p) % 2 = 0
    · refine evPos c (evEq ?_); rw [if_pos c]
    · refine evNeg c (evEq ?_); rw [if_neg c]
/-! impl_TrotterRank -/
theorem TrotterRank_ev (l : List Int) (hl : l.length ≤ 1048576) : Ev (fun q => impl_TrotterRank.f q l) (if isPm l = true then (trk l.length l, true) else (0, false)) := by
  unfold impl_TrotterRank.f
  refine Ev.bind (IsPermutation_ev l (by omega)) ?_
  by_cases c : isPm l = true
  · rw [if_pos c]
    refine evPos c (Ev.bind (trotterRank_ev l.length l (isPm_perm c).1 (isPm_perm c).2) (Ev.now _))
  · rw [if_neg c]
    exact evNeg c (Ev.now _)
theorem FnExactTrotterRank : laws_FnExactTrotterRank.Pure := by
  intro l _ hl8 _
  refine Ev.rounds (g := fun q => laws_FnExactTrotterRank.f q l) ?_
  unfold laws_FnExactTrotterRank.f
  by_cases hbig : (l.length : Int) > 1048576
  · exact evPos hbig (Ev.now _)
  refine evNeg hbig ?_
  have hs := spec_TrotterRank_ev l (by omega)
  have hi := TrotterRank_ev l (by omega)
  generalize (if isPm l = true then (trk l.length l, true) else (0, false)) = r at hs hi
  obtain ⟨r1, r2⟩ := r
  repeat (first
    | (with_reducible exact Ev.now _)
    | (with_reducible refine Ev.bind hs ?_)
    | (with_reducible refine Ev.bind hi ?_)
    | (with_reducible refine Ev.bind (toIntS_ev _ (by omega)) ?_)
    | (with_reducible refine Ev.bind (eqIntS_self _ (by omega)) ?_)
    | (with_reducible refine Ev.bind (markIntS_ev _ 1 (by omega) (by omega) (by omega)) ?_)
    | (with_reducible refine Ev.bind (heldIntS_ev _ 1 (by omega) (by omega) (by omega)) ?_)
    | (with_reducible refine evPos rfl ?_)
    | (with_reducible refine evNeg (by omega) ?_)
    | (rw [bne_self_eq_false])
    | (simp only [bne_self_eq_false])
    | (refine evNeg (by decide) ?_)
    | (refine Ev.step (fun k => by rw [laws_FnExactTrotterRank.j0]) ?_)
    | (refine Ev.step (fun k => by rw [laws_FnExactTrotterRank.j1]) ?_)
    | (refine Ev.step (fun k => by rw [laws_FnExactTrotterRank.j2]) ?_))

end Go.Proofs.Ytcplfdfmebibpaa.Pure
