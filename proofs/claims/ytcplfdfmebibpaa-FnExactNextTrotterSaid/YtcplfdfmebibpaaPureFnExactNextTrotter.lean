/- The pure statement of FnExactNextTrotter: for all arguments that fit, the law as a Lean function answers true after enough rounds. -/
import Derived.Test.YtcplfdfmebibpaaMFnExactNextTrotterx1
import Derived.Test.YtcplfdfmebibpaaMFnExactNextTrotterx2
import Derived.Test.YtcplfdfmebibpaaMFnExactNextTrotterx3
import Derived.Test.YtcplfdfmebibpaaMFnExactNextTrotterx4
import Derived.Test.YtcplfdfmebibpaaMFnExactNextTrotterx5
import Derived.Test.YtcplfdfmebibpaaMFnExactNextTrotterx6
import Derived.Test.YtcplfdfmebibpaaBase
import Derived.Test.YtcplfdfmebibpaaComb
import Derived.Test.YtcplfdfmebibpaaTrot
import Derived.Test.YtcplfdfmebibpaaPerms
import Derived.Test.YtcplfdfmebibpaaTrotRank
namespace Go.Proofs.Ytcplfdfmebibpaa.Pure
open Go.RowKit Go.Proofs.Ytcplfdfmebibpaa.MFnExactNextTrotter Go.Proofs.YtcplfdfmebibpaaW.PrintWords Go.Proofs.YtcplfdfmebibpaaW.PrintLast Go.Proofs.Ytcplfdfmebibpaa.Base Go.Proofs.Ytcplfdfmebibpaa.Comb Go.Proofs.Ytcplfdfmebibpaa.Trot Go.Proofs.Ytcplfdfmebibpaa.Perms Go.Proofs.Ytcplfdfmebibpaa.TrotRank
set_option linter.unusedVariables false
set_option linter.unusedSimpArgs false

/-! laws_eqIntS -/
theorem eqIntS_l0 (a b : List Int) (hn : a.length ≤ 35184372088832) (hb : a.length = b.length) : ∀ (d : Nat) (j : Int), 0 ≤ j → j.toNat + d = a.length →
    Ev (fun k => laws_eqIntS.l0 k a b j) (decide (a.drop j.toNat = b.drop j.toNat)) := by
  intro d
  induction d with
  | zero =>
    intro j h0 hd
    refine Ev.step (fun k => by rw [laws_eqIntS.l0]) ?_
    refine evNeg (by omega) ?_
    rw [drop_end a j (by omega), drop_end b j (by omega)]
    exact evEq rfl
  | succ d ih =>
    intro j h0 hd
    refine Ev.step (fun k => by rw [laws_eqIntS.l0]) ?_
    refine evPos (by omega) (evPos (by omega) (evPos (by omega) ?_))
    rw [wr (by omega) (by omega), drop_rd a j h0 (by omega), drop_rd b j h0 (by omega)]
    by_cases c : rd a j = rd b j
    · refine evPos c (evTo (ih _ (by omega) (by omega)) ?_)
      simp [c]
    · refine evNeg c (evEq ?_)
      simp [c]
theorem eqIntS_ev (a b : List Int) (hn : a.length ≤ 35184372088832) : Ev (fun k => laws_eqIntS.f k a b) (decide (a = b)) := by
  unfold laws_eqIntS.f
  by_cases hb : a.length = b.length
  · exact evPos (by omega) (eqIntS_l0 a b hn hb a.length 0 (by omega) (by simp))
  · refine evNeg (by omega) (evEq ?_)
    exact (decide_eq_false (fun e => hb (by rw [e]))).symm
theorem eqIntS_self (a : List Int) (hn : a.length ≤ 35184372088832) : Ev (fun k => laws_eqIntS.f k a a) true := evTo (eqIntS_ev a a hn) (by simp)
/-! laws_markIntS -/
theorem markIntS_l0 : ∀ (d : Nat) (xs : List Int) (m j : Int), 0 ≤ j → j.toNat + d = xs.length → xs.length ≤ 35184372088832 → 0 ≤ m → m + d ≤ 70368744177664 →
    Ev (fun k => laws_markIntS.l0 k xs m j) (m + d, xs.take j.toNat ++ iotaI m d) := by
  intro d
  induction d with
  | zero =>
    intro xs m j h0 hd hn hm hk
    refine Ev.step (fun k => by rw [laws_markIntS.l0]) ?_
    refine evNeg (by omega) (evEq ?_)
    rw [take_end xs j (by omega)]
    simp [iotaI]
  | succ d ih =>
    intro xs m j h0 hd hn hm hk
    refine Ev.step (fun k => by rw [laws_markIntS.l0]) ?_
    refine evPos (by omega) (evPos (by omega) ?_)
    rw [wr (by omega) (by omega), wr (by omega) (by omega)]
    refine evTo (ih (xs.set j.toNat m) (m + 1) (j + 1) (by omega) (by simp; omega) (by simpa using hn) (by omega) (by omega)) ?_
    rw [set_takeI xs j m h0 (by omega)]
    simp [iotaI]
    omega
theorem markIntS_ev (xs : List Int) (m : Int) (hn : xs.length ≤ 35184372088832) (hm : 0 ≤ m) (hk : m + xs.length ≤ 70368744177664) :
    Ev (fun k => laws_markIntS.f k xs m) (m + xs.length, iotaI m xs.length) := by
  unfold laws_markIntS.f
  refine evTo (markIntS_l0 xs.length xs m 0 (by omega) (by simp) hn hm hk) (by simp)
/-! laws_heldIntS -/
theorem heldIntS_l0 (xs : List Int) (hn : xs.length ≤ 35184372088832) : ∀ (d : Nat) (m j : Int), 0 ≤ j → j.toNat + d = xs.length → 0 ≤ m → m + d ≤ 70368744177664 → (∀ i : Int, j ≤ i → i < xs.length → rd xs i = m + (i - j)) →
    Ev (fun k => laws_heldIntS.l0 k xs m j) (m + d) := by
  intro d
  induction d with
  | zero =>
    intro m j h0 hd hm hk h
    refine Ev.step (fun k => by rw [laws_heldIntS.l0]) ?_
    exact evNeg (by omega) (evEq (by simp))
  | succ d ih =>
    intro m j h0 hd hm hk h
    refine Ev.step (fun k => by rw [laws_heldIntS.l0]) ?_
    have hr := h j (by omega) (by omega)
    refine evPos (by omega) (evPos (by omega) (evPos (by omega) ?_))
    rw [wr (by omega) (by omega), wr (by omega) (by omega)]
    refine evTo (ih (m + 1) (j + 1) (by omega) (by omega) (by omega) (by omega) (fun i h1 h2 => ?_)) (by omega)
    rw [h i (by omega) h2]; omega
theorem heldIntS_ev (n : Nat) (m : Int) (hn : n ≤ 35184372088832) (hm : 0 ≤ m) (hk : m + n ≤ 70368744177664) :
    Ev (fun k => laws_heldIntS.f k (iotaI m n) m) (m + n) := by
  unfold laws_heldIntS.f
  have hl := iotaI_length m n
  refine heldIntS_l0 (iotaI m n) (by omega) n m 0 (by omega) (by omega) hm hk (fun i h1 h2 => ?_)
  rw [iotaI_rd n m i h1 (by omega)]; omega
/-! laws_toIntS -/
theorem toIntS_l0 (x0 : List Int) (hn : x0.length ≤ 35184372088832) : ∀ (d : Nat) (x3 : List Int) (j : Int), 0 ≤ j → j.toNat + d = x0.length → x3.length = x0.length → x3.take j.toNat = x0.take j.toNat →
    Ev (fun k => laws_toIntS.l0 k x0 x3 j) x0 := by
  intro d
  induction d with
  | zero =>
    intro x3 j h0 hd hl ht
    refine Ev.step (fun k => by rw [laws_toIntS.l0]) ?_
    refine evNeg (by omega) ?_
    rw [take_end x0 j (by omega), take_end x3 j (by omega)] at ht
    exact evEq ht
  | succ d ih =>
    intro x3 j h0 hd hl ht
    refine Ev.step (fun k => by rw [laws_toIntS.l0]) ?_
    refine evPos (by omega) (evPos (by omega) (evPos (by omega) ?_))
    rw [wr (by omega) (by omega)]
    refine ih _ _ (by omega) (by omega) (by simpa using hl) ?_
    rw [set_takeI x3 j _ h0 (by omega), take_rd x0 j h0 (by omega), ht]
theorem toIntS_ev (l : List Int) (hn : l.length ≤ 35184372088832) : Ev (fun k => laws_toIntS.f k l) l := by
  unfold laws_toIntS.f
  refine evPos (by omega) (evPos (by simpa using hn) ?_)
  exact toIntS_l0 l hn l.length _ 0 (by omega) (by simp) (by simp) (by simp)
/-! spec_raFactorial -/
theorem raFactorial_tab : ((List.range 13).all fun n => spec_raFactorial.f 20 (n : Int) == some (fac n : Int)) = true := by decide +kernel
theorem raFactorial_ev (n : Nat) (hn : n ≤ 12) : Ev (fun r => spec_raFactorial.f r (n : Int)) (fac n : Int) := by
  refine evTab (g := fun r => spec_raFactorial.f r (n : Int)) (spec_raFactorial.mono _) 20 ?_
  exact beq_iff_eq.1 (List.all_eq_true.1 raFactorial_tab n (List.mem_range.2 (by omega)))
/-! spec_l1Own -/
theorem l1Own_eq (l : List Int) (hn : l.length ≤ 10000000000000) : spec_l1Own.f l = some l := by
  unfold spec_l1Own.f
  simp only [Option.bind_some, List.nil_append, List.length_nil, Nat.zero_add]
  rw [if_pos (by omega)]
/-! spec_moTrotter -/
theorem moTrotter_ev : ∀ (n : Nat) (r : Int), n ≤ 12 → 0 ≤ r → r < (fac n : Nat) → Ev (fun q => spec_moTrotter.f q (n : Int) r) (trot n r) := by
  intro n
  induction n with
  | zero =>
    intro r _ _ _
    refine Ev.step (fun q => by rw [spec_moTrotter.f]) ?_
    exact evPos rfl (Ev.now _)
  | succ n ih =>
    intro r hn h0 hr
    refine Ev.step (fun q => by rw [spec_moTrotter.f]) ?_
    have hf := fac_le12 (n + 1) hn
    have hd := div_range n r h0 hr
    have hp := place_range n r
    have hl := trot_length n (r / ((n : Int) + 1))
    have hm1 := Int.emod_nonneg r (show ((n : Int) + 1) ≠ 0 by omega)
    have hm2 := Int.emod_lt_of_pos r (show 0 < ((n : Int) + 1) by omega)
    have hfn := fac_le12 n (by omega)
    refine evNeg (by omega) ?_
    rw [show ((n + 1 : Nat) : Int) = (n : Int) + 1 from by omega, Int.tdiv_eq_ediv_of_nonneg h0, Int.tmod_eq_emod_of_nonneg h0]
    simp (disch := omega) only [wr]
    rw [show (n : Int) + 1 - 1 = (n : Int) from by omega]
    refine Ev.bind (ih _ (by omega) hd.1 hd.2) ?_
    rw [Int.tmod_eq_emod_of_nonneg hd.1]
    have hlt (i : Nat) (hi : i ≤ n) : ((trot n (r / ((n : Int) + 1))).take i).length = i := by rw [List.length_take]; omega
    by_cases c : r / ((n : Int) + 1) % 2 = 0
    · have he : place n r = n - r % ((n : Int) + 1) := if_pos c
      have h1 := hlt (n - r % ((n : Int) + 1)).toNat (by omega)
      refine evPos c (evPos (by omega) (evPos (by omega) ?_))
      rw [l1Own_eq _ (by omega)]
      refine evSome (evPos (by omega) (evSome (evSome (evPos (by simp; omega) (evEq ?_)))))
      rw [trot, he, insertIdx_take _ _ _ (by omega)]
    · have he : place n r = r % ((n : Int) + 1) := if_neg c
      have h1 := hlt (r % ((n : Int) + 1)).toNat (by omega)
      refine evNeg c (evPos (by omega) (evPos (by omega) ?_))
      rw [l1Own_eq _ (by omega)]
      refine evSome (evPos (by omega) (evSome (evSome (evPos (by simp; omega) (evEq ?_)))))
      rw [trot, he, insertIdx_take _ _ _ (by omega)]
/-! spec_l1In -/
theorem l1In_eq (x a b : Int) : spec_l1In.f x a b = some (decide (a ≤ x ∧ x ≤ b)) := by
  unfold spec_l1In.f
  by_cases h : x ≥ a
  · rw [if_pos h]; have h' : a ≤ x := h; simp [h']
  · rw [if_neg h]; have h' : ¬ a ≤ x := h; simp [h']
/-! spec_l1Has -/
theorem l1Has_l0 (x : Int) (xs : List Int) (hn : xs.length ≤ 35184372088832) : ∀ (d : Nat) (j : Int), 0 ≤ j → j.toNat + d = xs.length →
    Ev (fun k => spec_l1Has.l0 k x xs (xs.length : Int) j) (decide (x ∈ xs.drop j.toNat)) := by
  intro d
  induction d with
  | zero =>
    intro j h0 hd
    refine Ev.step (fun k => by rw [spec_l1Has.l0]) ?_
    refine evNeg (by omega) (evEq ?_)
    rw [drop_end _ _ (by omega)]; simp
  | succ d ih =>
    intro j h0 hd
    refine Ev.step (fun k => by rw [spec_l1Has.l0]) ?_
    refine evPos (by omega) (evPos (by omega) (evPos (by omega) ?_))
    rw [wr (by omega) (by omega), drop_rd xs j h0 (by omega)]
    by_cases c : rd xs j = x
    · exact evPos c (evEq (by simp [c]))
    · exact evNeg c (evTo (ih _ (by omega) (by omega)) (by simp [List.mem_cons, Ne.symm c]))
theorem l1Has_ev (xs : List Int) (x : Int) (hn : xs.length ≤ 35184372088832) : Ev (fun k => spec_l1Has.f k xs x) (decide (x ∈ xs)) := by
  unfold spec_l1Has.f
  exact evTo (l1Has_l0 x xs hn xs.length 0 (by omega) (by simp)) (by simp)
/-! spec_raPermutation -/
theorem raPermutation_l0 (l : List Int) (hl : l.length ≤ 1048576) : ∀ (d : Nat) (i : Int), 0 ≤ i → i.toNat + d = l.length →
    Ev (fun q => spec_raPermutation.l0 q l l (l.length : Int) i) (decide (∀ j (h : j < l.length), i.toNat ≤ j → j < 12 ∧ (0 ≤ l[j] ∧ l[j] ≤ (l.length : Int) - 1) ∧ l[j] ∉ l.take j)) := by
  intro d
  induction d with
  | zero =>
    intro i h0 hd
    refine Ev.step (fun k => by rw [spec_raPermutation.l0]) ?_
    refine evNeg (by omega) (evEq (decide_eq_true ?_).symm)
    intro j h hj; omega
  | succ d ih =>
    intro i h0 hd
    refine Ev.step (fun k => by rw [spec_raPermutation.l0]) ?_
    have hil : i.toNat < l.length := by omega
    have e : rd l i = l[i.toNat] := by unfold rd; rw [List.getD_eq_getElem?_getD, List.getElem?_eq_getElem hil]; rfl
    refine evPos (by omega) (evPos h0 (evPos (by omega) ?_))
    by_cases c1 : i ≥ 12
    · refine evPos c1 (evEq (decide_eq_false ?_).symm)
      intro h
      have := (h i.toNat hil (Nat.le_refl _)).1
      omega
    · refine evNeg c1 ?_
      rw [l1In_eq, wr (by omega) (by omega), wr (by omega) (by omega)]
      refine evSome ?_
      by_cases c2 : 0 ≤ rd l i ∧ rd l i ≤ (l.length : Int) - 1
      · refine evPos (by simpa using c2) (evPos (by omega) (Ev.bind (l1Has_ev _ _ (by rw [List.length_take]; omega)) ?_))
        by_cases c3 : rd l i ∈ l.take i.toNat
        · refine evPos (decide_eq_true c3) (evEq (decide_eq_false ?_).symm)
          intro h
          rw [e] at c3
          exact (h i.toNat hil (Nat.le_refl _)).2.2 c3
        · refine evNeg (by simpa using c3) (evTo (ih (i + 1) (by omega) (by omega)) ?_)
          apply decide_eq_decide.2
          constructor
          · intro h j hj hij
            by_cases ej : j = i.toNat
            · subst ej
              rw [e] at c2 c3
              exact ⟨by omega, c2, c3⟩
            · exact h j hj (by omega)
          · intro h j hj hij
            exact h j hj (by omega)
      · refine evNeg (by simpa using c2) (evEq (decide_eq_false ?_).symm)
        intro h
        rw [e] at c2
        exact c2 (h i.toNat hil (Nat.le_refl _)).2.1
theorem raPermutation_ev (l : List Int) (hl : l.length ≤ 1048576) : Ev (fun q => spec_raPermutation.f q l) (isPm l) := by
  unfold spec_raPermutation.f
  refine evTo (raPermutation_l0 l hl l.length 0 (by omega) (by simp)) ?_
  rw [Bool.eq_iff_iff, isPm_iff, decide_eq_true_eq]
  constructor
  · intro h j hj; exact h j hj (by simp)
  · intro h j hj _; exact h j hj
/-! spec_gcPlace -/
theorem gcPlace_l0 (x : Int) (xs : List Int) (hn : xs.length ≤ 35184372088832) : ∀ (d : Nat) (j : Int), 0 ≤ j → j.toNat + d = xs.length →
    Ev (fun k => spec_gcPlace.l0 k x xs (xs.length : Int) j) (findI x j (xs.drop j.toNat)) := by
  intro d
  induction d with
  | zero =>
    intro j h0 hd
    refine Ev.step (fun k => by rw [spec_gcPlace.l0]) ?_
    refine evNeg (by omega) (evEq ?_)
    rw [drop_end _ _ (by omega)]; rfl
  | succ d ih =>
    intro j h0 hd
    refine Ev.step (fun k => by rw [spec_gcPlace.l0]) ?_
    refine evPos (by omega) (evPos (by omega) (evPos (by omega) ?_))
    rw [wr (by omega) (by omega), drop_rd xs j h0 (by omega), findI]
    by_cases c : x = rd xs j
    · rw [if_pos c]; exact evPos c (Ev.now _)
    · rw [if_neg c]; exact evNeg c (ih _ (by omega) (by omega))
theorem gcPlace_ev (xs : List Int) (x : Int) (hn : xs.length ≤ 35184372088832) : Ev (fun k => spec_gcPlace.f k xs x) (findI x 0 xs) := by
  unfold spec_gcPlace.f
  exact evTo (gcPlace_l0 x xs hn xs.length 0 (by omega) (by simp)) (by simp)
/-! spec_raWithout -/
theorem raWithout_eq (l : List Int) (hl : l.length ≤ 1000000) (p : Int) (h0 : 0 ≤ p) (h1 : p < l.length) : spec_raWithout.f l p = some (l.take p.toNat ++ l.drop (p + 1).toNat) := by
  unfold spec_raWithout.f
  rw [if_pos h0, if_pos (by omega), l1Own_eq _ (by rw [List.length_take]; omega), wr (by omega) (by omega)]
  simp only [Option.bind_some]
  rw [if_pos (by omega), if_pos (by omega), if_pos (by rw [List.length_take, List.length_drop]; omega)]
/-! spec_moTrotterRank -/
theorem moTrotterRank_ev : ∀ (n : Nat) (l : List Int), n ≤ 12 → l.Perm (upTo n) → Ev (fun q => spec_moTrotterRank.f q l) (trk n l) := by
  intro n
  induction n with
  | zero =>
    intro l hn h
    have hl : l.length = 0 := by rw [h.length_eq, upTo_length]
    refine Ev.step (fun q => by rw [spec_moTrotterRank.f]) ?_
    exact evPos (by omega) (evEq rfl)
  | succ n ih =>
    intro l hn h
    have hl : l.length = n + 1 := by rw [h.length_eq, upTo_length]
    have hm : (n : Int) ∈ l := h.mem_iff.2 (mem_upTo.2 ⟨by omega, by omega⟩)
    obtain ⟨p, hp, he, hx⟩ := findI_at (n : Int) l 0 hm
    have hc := cutAt_perm l n p h hx hp
    obtain ⟨i1, i2, _⟩ := trk_all n (cutAt l p) hc
    have hf := fac_le12 n (by omega)
    have hm1 : 0 ≤ trk n (cutAt l p) * ((n : Int) + 1) := Int.mul_nonneg i1 (by omega)
    have hm2 : trk n (cutAt l p) * ((n : Int) + 1) ≤ 479001600 * 13 := Int.mul_le_mul (by omega) (by omega) (by omega) (by omega)
    refine Ev.step (fun q => by rw [spec_moTrotterRank.f]) ?_
    refine evNeg (by omega) ?_
    rw [hl, wr (x := ((n + 1 : Nat) : Int) - 1) (by omega) (by omega), show ((n + 1 : Nat) : Int) - 1 = (n : Int) from by omega, show ((n + 1 : Nat) : Int) = (n : Int) + 1 from by omega]
    refine Ev.bind (evTo (gcPlace_ev l (n : Int) (by omega)) (show _ = (p : Int) by omega)) ?_
    rw [raWithout_eq l (by omega) p (by omega) (by omega), show ((p : Int)).toNat = p from by omega, show ((p : Int) + 1).toNat = p + 1 from by omega]
    refine evSome (Ev.bind (ih (cutAt l p) (by omega) hc) ?_)
    have hpn : (findI (n : Int) 0 l).toNat = p := by omega
    rw [trk, hpn, Int.tmod_eq_emod_of_nonneg i1]
    simp (disch := omega) only [wr]
    unfold tup
    by_cases c : trk n (cutAt l p) % 2 = 0
    · refine evPos c (evEq ?_); rw [if_pos c]
    · refine evNeg c (evEq ?_); rw [if_neg c]
/-! spec_moFirst -/
theorem moFirst_l0 (a b : List Int) (hn : a.length ≤ 35184372088832) (hb : a.length = b.length) : ∀ (d : Nat) (j : Int), 0 ≤ j → j.toNat + d = a.length →
    Ev (fun k => spec_moFirst.l0 k b a (a.length : Int) j) (fdI j (a.drop j.toNat) (b.drop j.toNat)) := by
  intro d
  induction d with
  | zero =>
    intro j h0 hd
    refine Ev.step (fun k => by rw [spec_moFirst.l0]) ?_
    refine evNeg (by omega) (evEq ?_)
    rw [drop_end a j (by omega)]; rfl
  | succ d ih =>
    intro j h0 hd
    refine Ev.step (fun k => by rw [spec_moFirst.l0]) ?_
    refine evPos (by omega) (evPos (by omega) (evPos (by omega) (evPos (by omega) ?_)))
    rw [wr (by omega) (by omega), drop_rd a j h0 (by omega), drop_rd b j h0 (by omega), fdI]
    by_cases c : rd a j = rd b j
    · rw [if_pos c]; exact evPos c (ih _ (by omega) (by omega))
    · rw [if_neg c]; exact evNeg c (Ev.now _)
theorem moFirst_ev (a b : List Int) (hn : a.length ≤ 35184372088832) (hb : a.length = b.length) : Ev (fun k => spec_moFirst.f k a b) (fdI 0 a b) := by
  unfold spec_moFirst.f
  exact evTo (moFirst_l0 a b hn hb a.length 0 (by omega) (by simp)) (by simp)
/-! spec_NextTrotter -/
theorem spec_NextTrotter_ev (l : List Int) (hl : l.length ≤ 1048576) : Ev (fun q => spec_NextTrotter.f q l) (ntrot l) := by
  unfold spec_NextTrotter.f
  refine Ev.bind (raPermutation_ev l (by omega)) ?_
  by_cases c : isPm l = true
  · obtain ⟨p1, p2⟩ := isPm_perm c
    obtain ⟨t1, t2, t3⟩ := trk_all l.length l p2
    have hf := fac_le12 l.length p1
    refine evPos c (Ev.bind (moTrotterRank_ev l.length l p1 p2) (Ev.bind (raFactorial_ev l.length (by omega)) ?_))
    rw [wr (by omega) (by omega)]
    refine Ev.step (fun q => by rw [spec_NextTrotter.j0]) ?_
    by_cases c2 : trk l.length l + 1 < (fac l.length : Nat)
    · refine evNeg (by simp; omega) (Ev.bind (moTrotterRank_ev l.length l p1 p2) ?_)
      rw [wr (by omega) (by omega)]
      refine Ev.bind (moTrotter_ev l.length _ p1 (by omega) c2) (Ev.bind (moFirst_ev _ _ (by omega) (by rw [trot_length])) (evEq ?_))
      unfold ntrot
      rw [if_pos ⟨c, c2⟩]
    · refine evPos (by simp; omega) (evEq ?_)
      unfold ntrot
      rw [if_neg (fun h => c2 h.2)]
  · refine evNeg c ?_
    refine Ev.step (fun q => by rw [spec_NextTrotter.j0]) (evPos rfl (evEq ?_))
    unfold ntrot
    rw [if_neg (fun h => c h.1)]
/-! impl_within -/
theorem within_eq (x a b : Int) : impl_within.f x a b = some (decide (a ≤ x ∧ x ≤ b)) := by
  unfold impl_within.f
  by_cases h : x ≥ a
  · rw [if_pos h]; have h' : a ≤ x := h; simp [h']
  · rw [if_neg h]; have h' : ¬ a ≤ x := h; simp [h']
/-! impl_factorial -/
theorem factorial_tab : ((List.range 13).all fun n => impl_factorial.f 20 (n : Int) == some (fac n : Int)) = true := by decide +kernel
theorem factorial_ev (n : Nat) (hn : n ≤ 12) : Ev (fun r => impl_factorial.f r (n : Int)) (fac n : Int) := by
  refine evTab (g := fun r => impl_factorial.f r (n : Int)) (impl_factorial.mono _) 20 ?_
  exact beq_iff_eq.1 (List.all_eq_true.1 factorial_tab n (List.mem_range.2 (by omega)))
/-! impl_trotterAt -/
theorem trotterAt_ev : ∀ (n : Nat) (r : Int), n ≤ 12 → 0 ≤ r → r < (fac n : Nat) → Ev (fun q => impl_trotterAt.f q (n : Int) r) (trot n r) := by
  intro n
  induction n with
  | zero =>
    intro r _ _ _
    refine Ev.step (fun q => by rw [impl_trotterAt.f]) ?_
    exact evPos rfl (Ev.now _)
  | succ n ih =>
    intro r hn h0 hr
    refine Ev.step (fun q => by rw [impl_trotterAt.f]) ?_
    have hf := fac_le12 (n + 1) hn
    have hd := div_range n r h0 hr
    have hp := place_range n r
    have hl := trot_length n (r / ((n : Int) + 1))
    have hm1 := Int.emod_nonneg r (show ((n : Int) + 1) ≠ 0 by omega)
    have hm2 := Int.emod_lt_of_pos r (show 0 < ((n : Int) + 1) by omega)
    have hfn := fac_le12 n (by omega)
    refine evNeg (by omega) ?_
    rw [show ((n + 1 : Nat) : Int) = (n : Int) + 1 from by omega, Int.tdiv_eq_ediv_of_nonneg h0, Int.tmod_eq_emod_of_nonneg h0]
    simp (disch := omega) only [wr]
    rw [show (n : Int) + 1 - 1 = (n : Int) from by omega]
    refine Ev.bind (ih _ (by omega) hd.1 hd.2) ?_
    rw [Int.tmod_eq_emod_of_nonneg hd.1]
    unfold slices_Insert_int_int.f
    by_cases c : r / ((n : Int) + 1) % 2 = 0
    · have he : place n r = n - r % ((n : Int) + 1) := if_pos c
      refine evPos c (evPos (by omega) (evPos (by omega) (evPos (by omega) (evEq ?_))))
      rw [trot, he]
    · have he : place n r = r % ((n : Int) + 1) := if_neg c
      refine evNeg c (evPos (by omega) (evPos (by omega) (evPos (by omega) (evEq ?_))))
      rw [trot, he]
/-! impl_TrotterAt -/
theorem TrotterAt_ev (n r : Int) : Ev (fun q => impl_TrotterAt.f q n r) (if 0 ≤ n ∧ n ≤ 12 ∧ 0 ≤ r ∧ r < (fac n.toNat : Nat) then (trot n.toNat r, true) else ([], false)) := by
  unfold impl_TrotterAt.f
  simp only [within_eq, Option.bind_some]
  by_cases h : 0 ≤ n ∧ n ≤ 12
  · obtain ⟨N, rfl⟩ := Int.eq_ofNat_of_zero_le h.1
    have hf := fac_le12 N (by omega)
    rw [Int.toNat_natCast]
    refine evPos (by simp; omega) (Ev.bind (factorial_ev N (by omega)) ?_)
    rw [wr (by omega) (by omega)]
    by_cases c : 0 ≤ r ∧ r < (fac N : Nat)
    · refine evPos (by simp; omega) (Ev.bind (trotterAt_ev N r (by omega) c.1 c.2) (evEq ?_))
      rw [if_pos (by omega)]
    · refine evNeg (by simp; omega) (evEq ?_)
      rw [if_neg (by omega)]
  · refine evNeg (by simp; omega) (evEq ?_)
    rw [if_neg (by omega)]
/-! impl_identity -/
theorem identity_l0 (n : Nat) (hn : n ≤ 1000000000) : ∀ (d : Nat) (j : Int), 0 ≤ j → j.toNat + d = n → Ev (fun k => impl_identity.l0 k (upTo j.toNat) (n : Int) j) (upTo n) := by
  intro d
  induction d with
  | zero =>
    intro j h0 hd
    refine Ev.step (fun k => by rw [impl_identity.l0]) ?_
    exact evNeg (by omega) (evEq (by rw [show j.toNat = n from by omega]))
  | succ d ih =>
    intro j h0 hd
    refine Ev.step (fun k => by rw [impl_identity.l0]) ?_
    refine evPos (by omega) (evPos (by rw [upTo_length]; omega) ?_)
    have h := ih (j + 1) (by omega) (by omega)
    rw [show (j + 1).toNat = j.toNat + 1 from by omega, upTo_succ, Int.toNat_of_nonneg h0] at h
    rw [wr (by omega) (by omega)]
    exact h
theorem identity_ev (n : Nat) (hn : n ≤ 1000000000) : Ev (fun k => impl_identity.f k (n : Int)) (upTo n) := by
  unfold impl_identity.f
  exact identity_l0 n hn n 0 (by omega) (by simp)
/-! slices_Equal_int_int -/
theorem slicesEqual_l0 (a b : List Int) (hn : a.length ≤ 35184372088832) (hb : a.length = b.length) : ∀ (d : Nat) (j : Int), 0 ≤ j → j.toNat + d = a.length →
    Ev (fun k => slices_Equal_int_int.l0 k a b (a.length : Int) j) (decide (a.drop j.toNat = b.drop j.toNat)) := by
  intro d
  induction d with
  | zero =>
    intro j h0 hd
    refine Ev.step (fun k => by rw [slices_Equal_int_int.l0]) ?_
    refine evNeg (by omega) ?_
    rw [drop_end a j (by omega), drop_end b j (by omega)]
    exact evEq rfl
  | succ d ih =>
    intro j h0 hd
    refine Ev.step (fun k => by rw [slices_Equal_int_int.l0]) ?_
    refine evPos (by omega) (evPos (by omega) (evPos (by omega) (evPos (by omega) ?_)))
    rw [wr (by omega) (by omega), drop_rd a j h0 (by omega), drop_rd b j h0 (by omega)]
    by_cases c : rd a j = rd b j
    · refine evPos c (evTo (ih _ (by omega) (by omega)) ?_)
      simp [c]
    · refine evNeg c (evEq ?_)
      simp [c]
theorem slicesEqual_ev (a b : List Int) (hn : a.length ≤ 35184372088832) : Ev (fun k => slices_Equal_int_int.f k a b) (decide (a = b)) := by
  unfold slices_Equal_int_int.f
  by_cases hb : a.length = b.length
  · exact evPos (by omega) (slicesEqual_l0 a b hn hb a.length 0 (by omega) (by simp))
  · refine evNeg (by omega) (evEq ?_)
    exact (decide_eq_false (fun e => hb (by rw [e]))).symm
/-! impl_IsPermutation -/
theorem IsPermutation_ev (l : List Int) (hl : l.length ≤ 35184372088832) : Ev (fun q => impl_IsPermutation.f q l) (isPm l) := by
  unfold impl_IsPermutation.f isPm
  by_cases c : l.length ≤ 12
  · refine evPos c (Ev.bind (identity_ev l.length (by omega)) ?_)
    have hs : (srt l).length = l.length := (srt_perm l).length_eq
    refine evTo (slicesEqual_ev (srt l) (upTo l.length) (by omega)) ?_
    rw [decide_eq_true c, Bool.true_and]
  · refine evNeg c (evEq ?_)
    rw [decide_eq_false c, Bool.false_and]
/-! impl_copied -/
theorem copied_eq (l : List Int) (hn : l.length ≤ 10000000000000) : impl_copied.f l = some l := by
  unfold impl_copied.f
  simp only [Option.bind_some, List.nil_append, List.length_nil, Nat.zero_add]
  rw [if_pos (by omega)]
/-! slices_Index_int_int -/
theorem Index_l0 (x : Int) (xs : List Int) (hn : xs.length ≤ 35184372088832) : ∀ (d : Nat) (j : Int), 0 ≤ j → j.toNat + d = xs.length →
    Ev (fun k => slices_Index_int_int.l0 k xs x (xs.length : Int) j) (findI x j (xs.drop j.toNat)) := by
  intro d
  induction d with
  | zero =>
    intro j h0 hd
    refine Ev.step (fun k => by rw [slices_Index_int_int.l0]) ?_
    refine evNeg (by omega) (evEq ?_)
    rw [drop_end _ _ (by omega)]; rfl
  | succ d ih =>
    intro j h0 hd
    refine Ev.step (fun k => by rw [slices_Index_int_int.l0]) ?_
    refine evPos (by omega) (evPos (by omega) (evPos (by omega) ?_))
    rw [wr (by omega) (by omega), drop_rd xs j h0 (by omega), findI]
    by_cases c : x = rd xs j
    · rw [if_pos c]; exact evPos c (Ev.now _)
    · rw [if_neg c]; exact evNeg c (ih _ (by omega) (by omega))
theorem Index_ev (xs : List Int) (x : Int) (hn : xs.length ≤ 35184372088832) : Ev (fun k => slices_Index_int_int.f k xs x) (findI x 0 xs) := by
  unfold slices_Index_int_int.f
  exact evTo (Index_l0 x xs hn xs.length 0 (by omega) (by simp)) (by simp)
/-! impl_trotterRank -/
theorem trotterRank_ev : ∀ (n : Nat) (l : List Int), n ≤ 12 → l.Perm (upTo n) → Ev (fun q => impl_trotterRank.f q l) (trk n l) := by
  intro n
  induction n with
  | zero =>
    intro l hn h
    have hl : l.length = 0 := by rw [h.length_eq, upTo_length]
    refine Ev.step (fun q => by rw [impl_trotterRank.f]) ?_
    exact evPos (by omega) (evEq rfl)
  | succ n ih =>
    intro l hn h
    have hl : l.length = n + 1 := by rw [h.length_eq, upTo_length]
    have hm : (n : Int) ∈ l := h.mem_iff.2 (mem_upTo.2 ⟨by omega, by omega⟩)
    obtain ⟨p, hp, he, hx⟩ := findI_at (n : Int) l 0 hm
    have hc := cutAt_perm l n p h hx hp
    obtain ⟨i1, i2, _⟩ := trk_all n (cutAt l p) hc
    have hf := fac_le12 n (by omega)
    have hm1 : 0 ≤ trk n (cutAt l p) * ((n : Int) + 1) := Int.mul_nonneg i1 (by omega)
    have hm2 : trk n (cutAt l p) * ((n : Int) + 1) ≤ 479001600 * 13 := Int.mul_le_mul (by omega) (by omega) (by omega) (by omega)
    refine Ev.step (fun q => by rw [impl_trotterRank.f]) ?_
    refine evNeg (by omega) ?_
    rw [hl, wr (x := ((n + 1 : Nat) : Int) - 1) (by omega) (by omega), show ((n + 1 : Nat) : Int) - 1 = (n : Int) from by omega, show ((n + 1 : Nat) : Int) = (n : Int) + 1 from by omega]
    refine Ev.bind (evTo (Index_ev l (n : Int) (by omega)) (show _ = (p : Int) by omega)) ?_
    rw [copied_eq l (by omega)]
    refine evSome ?_
    unfold slices_Delete_int_int.f
    rw [wr (by omega) (by omega), if_pos (by omega), if_pos (by omega), if_pos (by omega), show ((p : Int)).toNat = p from by omega, show ((p : Int) + 1).toNat = p + 1 from by omega]
    refine evSome (Ev.bind (ih (cutAt l p) (by omega) hc) ?_)
    have hpn : (findI (n : Int) 0 l).toNat = p := by omega
    rw [trk, hpn, Int.tmod_eq_emod_of_nonneg i1]
    simp (disch := omega) only [wr]
    unfold tup
    by_cases c : trk n (cutAt l p) % 2 = 0
    · refine evPos c (evEq ?_); rw [if_pos c]
    · refine evNeg c (evEq ?_); rw [if_neg c]
/-! impl_TrotterRank -/
theorem TrotterRank_ev (l : List Int) (hl : l.length ≤ 1048576) : Ev (fun q => impl_TrotterRank.f q l) (if isPm l = true then (trk l.length l, true) else (0, false)) := by
  unfold impl_TrotterRank.f
  refine Ev.bind (IsPermutation_ev l (by omega)) ?_
  by_cases c : isPm l = true
  · rw [if_pos c]
    refine evPos c (Ev.bind (trotterRank_ev l.length l (isPm_perm c).1 (isPm_perm c).2) (Ev.now _))
  · rw [if_neg c]
    exact evNeg c (Ev.now _)
/-! impl_NextTrotter -/
theorem NextTrotter_l0 (a b : List Int) (hn : a.length ≤ 35184372088832) (hb : a.length = b.length) : ∀ (d : Nat) (j : Int), 0 ≤ j → j.toNat + d = a.length → a.drop j.toNat ≠ b.drop j.toNat →
    Ev (fun k => impl_NextTrotter.l0 k a b j) (b, fdI j (a.drop j.toNat) (b.drop j.toNat), true) := by
  intro d
  induction d with
  | zero =>
    intro j h0 hd hne
    exact absurd (by rw [drop_end a j (by omega), drop_end b j (by omega)]) hne
  | succ d ih =>
    intro j h0 hd hne
    refine Ev.step (fun k => by rw [impl_NextTrotter.l0]) ?_
    refine evPos (by omega) (evPos (by omega) (evPos (by omega) ?_))
    rw [wr (by omega) (by omega)]
    rw [drop_rd a j h0 (by omega), drop_rd b j h0 (by omega)] at hne ⊢
    rw [fdI]
    by_cases c : rd a j = rd b j
    · rw [if_pos c]; exact evPos c (ih _ (by omega) (by omega) (fun e => hne (by rw [c, e])))
    · rw [if_neg c]; exact evNeg c (Ev.now _)
theorem NextTrotter_ev (l : List Int) (hl : l.length ≤ 1048576) : Ev (fun q => impl_NextTrotter.f q l) (ntrot l) := by
  unfold impl_NextTrotter.f
  refine Ev.bind (TrotterRank_ev l hl) ?_
  by_cases c : isPm l = true
  · obtain ⟨p1, p2⟩ := isPm_perm c
    obtain ⟨t1, t2, t3⟩ := trk_all l.length l p2
    have hf := fac_le12 l.length p1
    rw [if_pos c]
    refine evPos rfl ?_
    rw [wr (by omega) (by omega)]
    refine Ev.bind (TrotterAt_ev _ _) ?_
    rw [Int.toNat_natCast]
    by_cases c2 : trk l.length l + 1 < (fac l.length : Nat)
    · rw [if_pos (by omega)]
      refine evPos rfl (evTo (NextTrotter_l0 l _ (by omega) (by rw [trot_length]) l.length 0 (by omega) (by simp) (by simpa using ntrot_ne l c c2)) ?_)
      unfold ntrot
      rw [if_pos ⟨c, c2⟩]
      simp
    · rw [if_neg (by omega)]
      refine evNeg (by simp) (evEq ?_)
      unfold ntrot
      rw [if_neg (fun h => c2 h.2)]
  · rw [if_neg c]
    refine evNeg (by simp) (evEq ?_)
    unfold ntrot
    rw [if_neg (fun h => c h.1)]
theorem FnExactNextTrotter : laws_FnExactNextTrotter.Pure := by
  intro l _ hl8 _
  refine Ev.rounds (g := fun q => laws_FnExactNextTrotter.f q l) ?_
  unfold laws_FnExactNextTrotter.f
  by_cases hbig : (l.length : Int) > 1048576
  · exact evPos hbig (Ev.now _)
  refine evNeg hbig ?_
  have hs := spec_NextTrotter_ev l (by omega)
  have hi := NextTrotter_ev l (by omega)
  have hgl : (ntrot l).1.length ≤ 1000 := by
    unfold ntrot
    split
    · rename_i h
      have := (isPm_perm h.1).1
      simp only [trot_length]; omega
    · simp
  generalize ntrot l = r at hs hi hgl
  obtain ⟨g, i, b⟩ := r
  replace hgl : g.length ≤ 1000 := hgl
  repeat (first
    | (with_reducible exact Ev.now _)
    | (with_reducible refine Ev.bind hs ?_)
    | (with_reducible refine Ev.bind hi ?_)
    | (with_reducible refine Ev.bind (toIntS_ev _ (by omega)) ?_)
    | (with_reducible refine Ev.bind (eqIntS_self _ (by omega)) ?_)
    | (with_reducible refine Ev.bind (markIntS_ev _ 1 (by omega) (by omega) (by omega)) ?_)
    | (with_reducible refine Ev.bind (heldIntS_ev _ 1 (by omega) (by omega) (by omega)) ?_)
    | (with_reducible refine evPos rfl ?_)
    | (with_reducible refine evPos trivial ?_)
    | (with_reducible refine evNeg (by omega) ?_)
    | (rw [bne_self_eq_false])
    | (simp only [bne_self_eq_false])
    | (refine evNeg (by decide) ?_)
    | (refine Ev.step (fun k => by rw [laws_FnExactNextTrotter.j0]) ?_)
    | (refine Ev.step (fun k => by rw [laws_FnExactNextTrotter.j1]) ?_)
    | (refine Ev.step (fun k => by rw [laws_FnExactNextTrotter.j2]) ?_))

end Go.Proofs.Ytcplfdfmebibpaa.Pure
