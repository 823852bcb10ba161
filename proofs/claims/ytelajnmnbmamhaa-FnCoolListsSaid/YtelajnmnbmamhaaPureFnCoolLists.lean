/- The pure statement of FnCoolLists: for all arguments that fit, the law as a Lean function answers true after enough rounds. -/
import Derived.Test.YtelajnmnbmamhaaMFnCoolListsx1
import Derived.Test.YtelajnmnbmamhaaMFnCoolListsx2
import Derived.Test.YtelajnmnbmamhaaMFnCoolListsx3
import Derived.Test.YtelajnmnbmamhaaMFnCoolListsx4
import Derived.Test.YtelajnmnbmamhaaMFnCoolListsx5
import Derived.Test.YtelajnmnbmamhaaMFnCoolListsx6
import Derived.Test.YtelajnmnbmamhaaMFnCoolListsx7
import Derived.Test.YtelajnmnbmamhaaMFnCoolListsx8
import Derived.Test.YtelajnmnbmamhaaBase
import Derived.Test.YtelajnmnbmamhaaComb
import Derived.Test.YtelajnmnbmamhaaCool
import Derived.Test.YtelajnmnbmamhaaGoes
import Derived.Test.YtelajnmnbmamhaaCoolX
namespace Go.Proofs.Ytelajnmnbmamhaa.Pure
open Go.RowKit Go.Proofs.Ytelajnmnbmamhaa.MFnCoolLists Go.Proofs.YtelajnmnbmamhaaW.PrintWords Go.Proofs.YtelajnmnbmamhaaW.PrintLast Go.Proofs.Ytelajnmnbmamhaa.Base Go.Proofs.Ytelajnmnbmamhaa.Comb Go.Proofs.Ytelajnmnbmamhaa.Cool Go.Proofs.Ytelajnmnbmamhaa.Goes Go.Proofs.Ytelajnmnbmamhaa.CoolX
set_option linter.unusedVariables false
set_option linter.unusedSimpArgs false

/-! spec_l1In -/
theorem l1In_eq (x a b : Int) : spec_l1In.f x a b = some (decide (a ≤ x ∧ x ≤ b)) := by
  unfold spec_l1In.f
  by_cases h : x ≥ a
  · rw [if_pos h]; have h' : a ≤ x := h; simp [h']
  · rw [if_neg h]; have h' : ¬ a ≤ x := h; simp [h']
/-! spec_l1All -/
theorem l1All_l0 (a b : Int) (xs : List Int) (hn : xs.length ≤ 35184372088832) : ∀ (d : Nat) (j : Int), 0 ≤ j → j.toNat + d = xs.length →
    Ev (fun k => spec_l1All.l0 k a b xs (xs.length : Int) j) ((xs.drop j.toNat).all fun x => decide (a ≤ x ∧ x ≤ b)) := by
  intro d
  induction d with
  | zero =>
    intro j h0 hd
    refine Ev.step (fun k => by rw [spec_l1All.l0]) ?_
    refine evNeg (by omega) (evEq ?_)
    rw [drop_end _ _ (by omega)]; rfl
  | succ d ih =>
    intro j h0 hd
    refine Ev.step (fun k => by rw [spec_l1All.l0]) ?_
    refine evPos (by omega) (evPos (by omega) (evPos (by omega) ?_))
    simp only [l1In_eq, Option.bind_some]
    rw [wr (by omega) (by omega), drop_rd xs j h0 (by omega), List.all_cons]
    by_cases c : a ≤ rd xs j ∧ rd xs j ≤ b
    · exact evPos (by simpa using c) (evTo (ih _ (by omega) (by omega)) (by simp [c]))
    · exact evNeg (by simpa using c) (evEq (by rw [decide_eq_false c]; rfl))
theorem l1All_ev (xs : List Int) (a b : Int) (hn : xs.length ≤ 35184372088832) : Ev (fun k => spec_l1All.f k xs a b) (xs.all fun x => decide (a ≤ x ∧ x ≤ b)) := by
  unfold spec_l1All.f
  exact evTo (l1All_l0 a b xs hn xs.length 0 (by omega) (by simp)) (by simp)
/-! spec_chAreBits -/
theorem chAreBits_ev (l : List Int) (hn : l.length ≤ 35184372088832) : Ev (fun k => spec_chAreBits.f k l) (isBits l) := by
  unfold spec_chAreBits.f
  by_cases c : (l.length : Int) ≤ 12
  · refine evPos c (Ev.bind (l1All_ev l 0 1 hn) (evEq ?_))
    rw [isBits, decide_eq_true (show l.length ≤ 12 by omega), Bool.true_and]
  · refine evNeg c (evEq ?_)
    rw [isBits, decide_eq_false (show ¬ l.length ≤ 12 by omega), Bool.false_and]
/-! spec_l1Same -/
theorem l1Same_l0 (a b : List Int) (hn : a.length ≤ 35184372088832) (hb : a.length = b.length) : ∀ (d : Nat) (j : Int), 0 ≤ j → j.toNat + d = a.length →
    Ev (fun k => spec_l1Same.l0 k a b (a.length : Int) j) (decide (a.drop j.toNat = b.drop j.toNat)) := by
  intro d
  induction d with
  | zero =>
    intro j h0 hd
    refine Ev.step (fun k => by rw [spec_l1Same.l0]) ?_
    refine evNeg (by omega) ?_
    rw [drop_end a j (by omega), drop_end b j (by omega)]
    exact evEq rfl
  | succ d ih =>
    intro j h0 hd
    refine Ev.step (fun k => by rw [spec_l1Same.l0]) ?_
    refine evPos (by omega) (evPos (by omega) (evPos (by omega) (evPos (by omega) ?_)))
    rw [wr (by omega) (by omega), drop_rd a j h0 (by omega), drop_rd b j h0 (by omega)]
    by_cases c : rd a j = rd b j
    · refine evPos c (evTo (ih _ (by omega) (by omega)) ?_)
      simp [c]
    · refine evNeg c (evEq ?_)
      simp [c]
theorem l1Same_ev (a b : List Int) (hn : a.length ≤ 35184372088832) : Ev (fun k => spec_l1Same.f k a b) (decide (a = b)) := by
  unfold spec_l1Same.f
  by_cases hb : a.length = b.length
  · exact evPos (by omega) (l1Same_l0 a b hn hb a.length 0 (by omega) (by simp))
  · refine evNeg (by omega) (evEq ?_)
    exact (decide_eq_false (fun e => hb (by rw [e]))).symm
/-! spec_raPlace -/
theorem raPlace_l0 (l : List Int) (L : List (List Int)) (hL : L.length ≤ 1000000000) (hl : ∀ t ∈ L, t.length ≤ 35184372088832) : ∀ (d : Nat) (j : Int), 0 ≤ j → j.toNat + d = L.length →
    Ev (fun k => spec_raPlace.l0 k l L (L.length : Int) j) (placeI l j (L.drop j.toNat)) := by
  intro d
  induction d with
  | zero =>
    intro j h0 hd
    refine Ev.step (fun k => by rw [spec_raPlace.l0]) ?_
    refine evNeg (by omega) ?_
    rw [drop_end L j (by omega)]
    exact evEq rfl
  | succ d ih =>
    intro j h0 hd
    refine Ev.step (fun k => by rw [spec_raPlace.l0]) ?_
    have hm : rd_L1 L j ∈ L := by
      unfold rd_L1
      rw [List.getD_eq_getElem?_getD, List.getElem?_eq_getElem (show j.toNat < L.length by omega)]
      exact List.getElem_mem _
    refine evPos (by omega) (evPos (by omega) (evPos (by omega) (Ev.bind (l1Same_ev _ l (hl _ hm)) ?_)))
    have hcons : L.drop j.toNat = rd_L1 L j :: L.drop (j + 1).toNat := dropD [] L j h0 (by omega)
    rw [wr (by omega) (by omega), hcons, placeI]
    by_cases c : rd_L1 L j = l
    · rw [if_pos c]; exact evPos (decide_eq_true c) (Ev.now _)
    · rw [if_neg c]; exact evNeg (by simpa using c) (ih _ (by omega) (by omega))
theorem raPlace_ev (L : List (List Int)) (l : List Int) (hL : L.length ≤ 1000000000) (hl : ∀ t ∈ L, t.length ≤ 35184372088832) : Ev (fun k => spec_raPlace.f k L l) (placeI l 0 L) := by
  unfold spec_raPlace.f
  exact evTo (raPlace_l0 l L hL hl L.length 0 (by omega) (by simp)) (by simp)
/-! spec_raUpTo -/
theorem raUpTo_l0 (n : Nat) (hn : n ≤ 1000000000) : ∀ (d : Nat) (j : Int), 0 ≤ j → j.toNat + d = n → Ev (fun k => spec_raUpTo.l0 k (n : Int) (upTo j.toNat) j) (upTo n) := by
  intro d
  induction d with
  | zero =>
    intro j h0 hd
    refine Ev.step (fun k => by rw [spec_raUpTo.l0]) ?_
    exact evNeg (by omega) (evEq (by rw [show j.toNat = n from by omega]))
  | succ d ih =>
    intro j h0 hd
    refine Ev.step (fun k => by rw [spec_raUpTo.l0]) ?_
    refine evPos (by omega) (evPos (by rw [upTo_length]; omega) ?_)
    have h := ih (j + 1) (by omega) (by omega)
    rw [show (j + 1).toNat = j.toNat + 1 from by omega, upTo_succ, Int.toNat_of_nonneg h0] at h
    rw [wr (by omega) (by omega)]
    exact h
theorem raUpTo_ev (n : Nat) (hn : n ≤ 1000000000) : Ev (fun k => spec_raUpTo.f k (n : Int)) (upTo n) := by
  unfold spec_raUpTo.f
  exact raUpTo_l0 n hn n 0 (by omega) (by simp)
/-! spec_chCool -/
theorem chCool_l0 (xs : List Int) (hn : xs.length ≤ 12) : ∀ (d : Nat) (m j : Int), j + 1 = d → (j + 3 ≤ xs.length ∨ d = 0) → m = coolEnd xs (j + 1).toNat (xs.length - 2 - (j + 1).toNat) →
    Ev (fun k => spec_chCool.l0 k xs m j) (coolL xs) := by
  intro d
  induction d with
  | zero =>
    intro m j hj hd hm
    refine Ev.step (fun k => by rw [spec_chCool.l0]) ?_
    refine evNeg (by omega) ?_
    obtain rfl : j = -1 := by omega
    have hm' : m = coolM xs := hm
    have hb := coolM_bound xs
    unfold coolL
    rw [hm']
    by_cases c : coolM xs = 0
    · rw [if_pos c]; exact evPos (by omega) (Ev.now _)
    · rw [if_neg c]
      refine evNeg (by omega) ?_
      rw [wr (x := (coolM xs : Int) - 1) (by omega) (by omega)]
      refine evPos (by omega) (evPos (by omega) (evSome (evPos (by omega) (evPos ?_ (evSome (evPos (by omega) (evPos (by omega) (evPos ?_ (evEq ?_)))))))))
      · simp; omega
      · simp; omega
      · rw [show ((coolM xs : Int) - 1).toNat = coolM xs - 1 from by omega, Int.toNat_natCast]; simp
  | succ d ih =>
    intro m j hj hd hm
    refine Ev.step (fun k => by rw [spec_chCool.l0]) ?_
    have hlen : j + 3 ≤ xs.length := by omega
    refine evPos (by omega) (evPos (by omega) (evPos (by omega) ?_))
    rw [wr (x := j - 1) (by omega) (by omega), wr (x := j + 1) (by omega) (by omega), wr (x := j + 3) (by omega) (by omega)]
    have hs : coolEnd xs (j - 1 + 1).toNat (xs.length - 2 - (j - 1 + 1).toNat) = if rd xs j = 0 ∧ rd xs (j + 1) = 1 then (j + 3).toNat else coolEnd xs (j + 1).toNat (xs.length - 2 - (j + 1).toNat) := by
      have h1 : (j - 1 + 1).toNat = j.toNat := by omega
      rw [h1, show xs.length - 2 - j.toNat = (xs.length - 2 - (j + 1).toNat) + 1 from by omega, coolEnd]
      rw [show ((j.toNat : Nat) : Int) = j from by omega, show j.toNat + 3 = (j + 3).toNat from by omega, show j.toNat + 1 = (j + 1).toNat from by omega]
    by_cases c1 : rd xs j = 0
    · refine evPos c1 (evPos (by omega) (evPos (by omega) ?_))
      by_cases c2 : rd xs (j + 1) = 1
      · refine evPos c2 (ih _ _ (by omega) (by omega) ?_)
        rw [hs, if_pos ⟨c1, c2⟩]; omega
      · refine evNeg c2 (ih _ _ (by omega) (by omega) ?_)
        rw [hs, if_neg (fun h => c2 h.2)]; exact hm
    · refine evNeg c1 (ih _ _ (by omega) (by omega) ?_)
      rw [hs, if_neg (fun h => c1 h.1)]; exact hm
theorem chCool_ev (xs : List Int) (hn : xs.length ≤ 12) : Ev (fun k => spec_chCool.f k xs) (coolL xs) := by
  unfold spec_chCool.f
  rw [wr (by omega) (by omega)]
  by_cases c : xs.length ≤ 2
  · by_cases c3 : xs.length = 2
    · exact chCool_l0 xs hn 0 _ _ (by omega) (by omega) (by rw [show ((xs.length : Int) - 3 + 1).toNat = 0 from by omega, show xs.length - 2 - 0 = 0 from by omega]; rfl)
    · refine Ev.step (fun k => by rw [spec_chCool.l0]) ?_
      refine evNeg (by omega) ?_
      have hm : coolM xs = xs.length := by
        unfold coolM; rw [show xs.length - 2 = 0 from by omega]; rfl
      by_cases c0 : xs.length = 0
      · exact evPos (by omega) (evEq (by unfold coolL; rw [hm, if_pos c0]))
      · have hcl : coolL xs = rd xs ((xs.length : Int) - 1) :: (xs.take (xs.length - 1) ++ xs.drop xs.length) := by unfold coolL; rw [hm, if_neg c0]
        rw [hcl]
        have c1 : xs.length = 1 := by omega
        refine evNeg (by omega) ?_
        rw [wr (x := (xs.length : Int) - 1) (by omega) (by omega)]
        refine evPos (by omega) (evPos (by omega) (evSome (evPos (by omega) (evPos ?_ (evSome (evPos (by omega) (evPos (by omega) (evPos ?_ (evEq ?_)))))))))
        · simp; omega
        · simp; omega
        · rw [show ((xs.length : Int) - 1).toNat = xs.length - 1 from by omega, Int.toNat_natCast]; simp
  · refine chCool_l0 xs hn (xs.length - 2) _ _ (by omega) (by omega) ?_
    rw [show xs.length - 2 - ((xs.length : Int) - 3 + 1).toNat = 0 from by omega]; rfl
/-! spec_chBits -/
theorem chBits_l0 (n : Nat) (xs : List Int) (hn : xs.length ≤ 35184372088832) (hb : ∀ y ∈ xs, 0 ≤ y ∧ y < n) : ∀ (d : Nat) (out : List Int) (j : Int), 0 ≤ j → j.toNat + d = xs.length → out.length = n →
    Ev (fun k => spec_chBits.l0 k out xs (xs.length : Int) j) (setBits out (xs.drop j.toNat)) := by
  intro d
  induction d with
  | zero =>
    intro out j h0 hd ho
    refine Ev.step (fun k => by rw [spec_chBits.l0]) ?_
    refine evNeg (by omega) (evEq ?_)
    rw [drop_end _ _ (by omega)]; rfl
  | succ d ih =>
    intro out j h0 hd ho
    refine Ev.step (fun k => by rw [spec_chBits.l0]) ?_
    have hm : rd xs j ∈ xs := by rw [rd_get xs j (by omega)]; exact List.getElem_mem _
    have := hb _ hm
    refine evPos (by omega) (evPos (by omega) (evPos (by omega) (evPos (by omega) (evPos (by omega) ?_))))
    rw [wr (by omega) (by omega), drop_rd xs j h0 (by omega), setBits]
    exact ih _ _ (by omega) (by omega) (by simpa using ho)
theorem chBits_ev (n : Nat) (xs : List Int) (hn : xs.length ≤ 35184372088832) (hN : n ≤ 1000000) (hb : ∀ y ∈ xs, 0 ≤ y ∧ y < n) : Ev (fun k => spec_chBits.f k (n : Int) xs) (bitsL n xs) := by
  unfold spec_chBits.f
  refine evPos (by omega) (evPos (by simp; omega) ?_)
  exact evTo (chBits_l0 n xs hn hb xs.length _ 0 (by omega) (by simp) (by simp)) (by simp [bitsL])
/-! spec_chCoolList -/
theorem chCoolList_l0 (f : List Int) (hf : f.length ≤ 12) : ∀ (m : Nat) (out : List (List Int)) (l : List Int) (R : List (List Int)), l.length ≤ 12 → out.length + m ≤ 100000 → coolRun f m l = some R →
    Ev (fun q => spec_chCoolList.l0 q f out l) (out ++ R) := by
  intro m
  induction m with
  | zero => intro out l R _ _ h; simp [coolRun] at h
  | succ m ih =>
    intro out l R hl ho h
    refine Ev.step (fun q => by rw [spec_chCoolList.l0]) ?_
    refine Ev.bind (l1Same_ev l f (by omega)) ?_
    rw [coolRun] at h
    by_cases c : l = f
    · rw [if_pos c] at h; injection h with h; subst h
      exact evPos (by simpa using c) (evEq (by simp))
    · rw [if_neg c] at h
      obtain ⟨L1, h1, rfl⟩ := Option.map_eq_some_iff.1 h
      refine evNeg (by simpa using c) (evPos (by omega) (Ev.bind (chCool_ev l hl) ?_))
      refine evTo (ih (out ++ [l]) (coolL l) L1 (by rw [coolL_length]; exact hl) (by simp; omega) h1) ?_
      simp
theorem chCoolList_ev (n k : Nat) (hn : n ≤ 12) (hk : k ≤ n) (m : Nat) (hm : m ≤ 10000) (R : List (List Int)) (h : coolRun (coolFirst n k) m (coolL (coolFirst n k)) = some R) :
    Ev (fun q => spec_chCoolList.f q (n : Int) (k : Int)) (coolFirst n k :: R) := by
  unfold spec_chCoolList.f
  have hl := coolFirst_length n k
  have hu := upTo_length k
  refine Ev.bind (raUpTo_ev k (by omega)) (Ev.bind (chBits_ev n (upTo k) (by omega) (by omega) (fun y hy => by have := mem_upTo.1 hy; omega)) (Ev.bind (chCool_ev (bitsL n (upTo k)) (by rw [bitsL_length]; exact hn)) ?_))
  exact chCoolList_l0 (coolFirst n k) (by omega) m [coolFirst n k] (coolL (coolFirst n k)) R (by rw [coolL_length]; omega) (by simp; omega) h
/-! spec_CoolRank -/
theorem spec_CoolRank_l0 (l : List Int) (hl : l.length ≤ 12) (hb : ∀ y ∈ l, 0 ≤ y ∧ y ≤ 1) (r : Int × Bool) (S : Int) (hS : S = sumI l)
    (H : Ev (fun q => (spec_chCoolList.f q (l.length : Int) S).bind fun t => (spec_raPlace.f q t l).bind fun u => some (u, true)) r) : ∀ (d : Nat) (s j : Int), 0 ≤ j → j.toNat + d = l.length → 0 ≤ s → s ≤ j → s + sumI (l.drop j.toNat) = S →
    Ev (fun q => spec_CoolRank.l0 q l s l (l.length : Int) j) r := by
  intro d
  induction d with
  | zero =>
    intro s j h0 hd hs0 hs1 hs
    refine Ev.step (fun q => by rw [spec_CoolRank.l0]) ?_
    refine evNeg (by omega) ?_
    rw [drop_end _ _ (by omega)] at hs
    have hs' : s = S := by simpa [sumI] using hs
    rw [hs']; exact H
  | succ d ih =>
    intro s j h0 hd hs0 hs1 hs
    refine Ev.step (fun q => by rw [spec_CoolRank.l0]) ?_
    have hm : rd l j ∈ l := by rw [rd_get l j (by omega)]; exact List.getElem_mem _
    have := hb _ hm
    refine evPos (by omega) (evPos (by omega) (evPos (by omega) ?_))
    rw [wr (x := s + rd l j) (by omega) (by omega), wr (x := j + 1) (by omega) (by omega)]
    refine ih _ _ (by omega) (by omega) (by omega) (by omega) ?_
    rw [drop_rd l j h0 (by omega), sumI_cons] at hs
    omega
theorem spec_CoolRank_yes (l : List Int) (hb : isBits l = true) (R : List (List Int)) (hR : coolRun (coolFirst l.length (onesI 0 l).length) 1000 (coolL (coolFirst l.length (onesI 0 l).length)) = some R) :
    Ev (fun q => spec_CoolRank.f q l) (placeI l 0 (coolFirst l.length (onesI 0 l).length :: R), true) := by
  unfold spec_CoolRank.f
  have h12 := isBits_length hb
  have hbits := isBits_bits hb
  have hk := onesI_le l 0
  have hlen := onesI_length l 0 hbits
  have hs := coolRun_small _ _ _ _ hR
  have hf := coolFirst_length l.length (onesI 0 l).length
  refine Ev.bind (chAreBits_ev l (by omega)) (evPos hb ?_)
  refine spec_CoolRank_l0 l h12 hbits _ ((onesI 0 l).length : Int) hlen ?_ l.length 0 0 (by omega) (by simp) (by omega) (by omega) (by simp; omega)
  refine Ev.bind (chCoolList_ev l.length (onesI 0 l).length h12 hk 1000 (by omega) R hR) (Ev.bind (raPlace_ev _ _ (by simp only [List.length_cons]; omega) (fun t ht => ?_)) (Ev.now _))
  rcases List.mem_cons.1 ht with rfl | ht
  · omega
  · have := hs.2 t ht; rw [coolL_length] at this; omega
theorem spec_CoolRank_no (l : List Int) (hn : l.length ≤ 35184372088832) (hb : ¬ isBits l = true) : Ev (fun q => spec_CoolRank.f q l) (0, false) := by
  unfold spec_CoolRank.f
  exact Ev.bind (chAreBits_ev l hn) (evNeg hb (Ev.now _))
/-! impl_within -/
theorem within_eq (x a b : Int) : impl_within.f x a b = some (decide (a ≤ x ∧ x ≤ b)) := by
  unfold impl_within.f
  by_cases h : x ≥ a
  · rw [if_pos h]; have h' : a ≤ x := h; simp [h']
  · rw [if_neg h]; have h' : ¬ a ≤ x := h; simp [h']
/-! impl_allWithin -/
theorem allWithin_l0 (a b : Int) (xs : List Int) (hn : xs.length ≤ 35184372088832) : ∀ (d : Nat) (j : Int), 0 ≤ j → j.toNat + d = xs.length →
    Ev (fun k => impl_allWithin.l0 k a b xs (xs.length : Int) j) ((xs.drop j.toNat).all fun x => decide (a ≤ x ∧ x ≤ b)) := by
  intro d
  induction d with
  | zero =>
    intro j h0 hd
    refine Ev.step (fun k => by rw [impl_allWithin.l0]) ?_
    refine evNeg (by omega) (evEq ?_)
    rw [drop_end _ _ (by omega)]; rfl
  | succ d ih =>
    intro j h0 hd
    refine Ev.step (fun k => by rw [impl_allWithin.l0]) ?_
    refine evPos (by omega) (evPos (by omega) (evPos (by omega) ?_))
    simp only [within_eq, Option.bind_some]
    rw [wr (by omega) (by omega), drop_rd xs j h0 (by omega), List.all_cons]
    by_cases c : a ≤ rd xs j ∧ rd xs j ≤ b
    · exact evPos (by simpa using c) (evTo (ih _ (by omega) (by omega)) (by simp [c]))
    · exact evNeg (by simpa using c) (evEq (by rw [decide_eq_false c]; rfl))
theorem allWithin_ev (xs : List Int) (a b : Int) (hn : xs.length ≤ 35184372088832) : Ev (fun k => impl_allWithin.f k xs a b) (xs.all fun x => decide (a ≤ x ∧ x ≤ b)) := by
  unfold impl_allWithin.f
  exact evTo (allWithin_l0 a b xs hn xs.length 0 (by omega) (by simp)) (by simp)
/-! impl_areBits -/
theorem areBits_ev (l : List Int) (hn : l.length ≤ 35184372088832) : Ev (fun k => impl_areBits.f k l) (isBits l) := by
  unfold impl_areBits.f
  by_cases c : (l.length : Int) ≤ 12
  · refine evPos c (Ev.bind (allWithin_ev l 0 1 hn) (evEq ?_))
    rw [isBits, decide_eq_true (show l.length ≤ 12 by omega), Bool.true_and]
  · refine evNeg c (evEq ?_)
    rw [isBits, decide_eq_false (show ¬ l.length ≤ 12 by omega), Bool.false_and]
/-! impl_FromBits -/
theorem FromBits_l0 (xs : List Int) (hn : xs.length ≤ 1000000) : ∀ (d : Nat) (out : List Int) (j : Int), 0 ≤ j → j.toNat + d = xs.length → out.length ≤ j →
    Ev (fun k => impl_FromBits.l0 k out xs (xs.length : Int) j) (out ++ onesI j (xs.drop j.toNat), true) := by
  intro d
  induction d with
  | zero =>
    intro out j h0 hd ho
    refine Ev.step (fun k => by rw [impl_FromBits.l0]) ?_
    refine evNeg (by omega) (evEq ?_)
    rw [drop_end _ _ (by omega)]; simp [onesI]
  | succ d ih =>
    intro out j h0 hd ho
    refine Ev.step (fun k => by rw [impl_FromBits.l0]) ?_
    refine evPos (by omega) (evPos (by omega) (evPos (by omega) ?_))
    rw [wr (by omega) (by omega), drop_rd xs j h0 (by omega), onesI]
    by_cases c : rd xs j = 1
    · rw [if_pos c]; exact evPos c (evPos (by omega) (evTo (ih _ _ (by omega) (by omega) (by simp; omega)) (by simp)))
    · rw [if_neg c]; exact evNeg c (ih _ _ (by omega) (by omega) (by omega))
theorem FromBits_ev (l : List Int) (hn : l.length ≤ 35184372088832) : Ev (fun k => impl_FromBits.f k l) (if isBits l = true then (onesI 0 l, true) else ([], false)) := by
  unfold impl_FromBits.f
  refine Ev.bind (areBits_ev l hn) ?_
  by_cases c : isBits l = true
  · have := isBits_length c
    exact evPos c (evTo (FromBits_l0 l (by omega) l.length [] 0 (by omega) (by simp) (by simp)) (by rw [if_pos c]; simp))
  · exact evNeg c (evEq (by rw [if_neg c]))
/-! slices_Equal_int_int -/
theorem slicesEqual_l0 (a b : List Int) (hn : a.length ≤ 35184372088832) (hb : a.length = b.length) : ∀ (d : Nat) (j : Int), 0 ≤ j → j.toNat + d = a.length →
    Ev (fun k => slices_Equal_int_int.l0 k a b (a.length : Int) j) (decide (a.drop j.toNat = b.drop j.toNat)) := by
  intro d
  induction d with
  | zero =>
    intro j h0 hd
    refine Ev.step (fun k => by rw [slices_Equal_int_int.l0]) ?_
    refine evNeg (by omega) ?_
    rw [drop_end a j (by omega), drop_end b j (by omega)]
    exact evEq rfl
  | succ d ih =>
    intro j h0 hd
    refine Ev.step (fun k => by rw [slices_Equal_int_int.l0]) ?_
    refine evPos (by omega) (evPos (by omega) (evPos (by omega) (evPos (by omega) ?_)))
    rw [wr (by omega) (by omega), drop_rd a j h0 (by omega), drop_rd b j h0 (by omega)]
    by_cases c : rd a j = rd b j
    · refine evPos c (evTo (ih _ (by omega) (by omega)) ?_)
      simp [c]
    · refine evNeg c (evEq ?_)
      simp [c]
theorem slicesEqual_ev (a b : List Int) (hn : a.length ≤ 35184372088832) : Ev (fun k => slices_Equal_int_int.f k a b) (decide (a = b)) := by
  unfold slices_Equal_int_int.f
  by_cases hb : a.length = b.length
  · exact evPos (by omega) (slicesEqual_l0 a b hn hb a.length 0 (by omega) (by simp))
  · refine evNeg (by omega) (evEq ?_)
    exact (decide_eq_false (fun e => hb (by rw [e]))).symm
/-! impl_identity -/
theorem identity_l0 (n : Nat) (hn : n ≤ 1000000000) : ∀ (d : Nat) (j : Int), 0 ≤ j → j.toNat + d = n → Ev (fun k => impl_identity.l0 k (upTo j.toNat) (n : Int) j) (upTo n) := by
  intro d
  induction d with
  | zero =>
    intro j h0 hd
    refine Ev.step (fun k => by rw [impl_identity.l0]) ?_
    exact evNeg (by omega) (evEq (by rw [show j.toNat = n from by omega]))
  | succ d ih =>
    intro j h0 hd
    refine Ev.step (fun k => by rw [impl_identity.l0]) ?_
    refine evPos (by omega) (evPos (by rw [upTo_length]; omega) ?_)
    have h := ih (j + 1) (by omega) (by omega)
    rw [show (j + 1).toNat = j.toNat + 1 from by omega, upTo_succ, Int.toNat_of_nonneg h0] at h
    rw [wr (by omega) (by omega)]
    exact h
theorem identity_ev (n : Nat) (hn : n ≤ 1000000000) : Ev (fun k => impl_identity.f k (n : Int)) (upTo n) := by
  unfold impl_identity.f
  exact identity_l0 n hn n 0 (by omega) (by simp)
/-! impl_copied -/
theorem copied_eq (l : List Int) (hn : l.length ≤ 10000000000000) : impl_copied.f l = some l := by
  unfold impl_copied.f
  simp only [Option.bind_some, List.nil_append, List.length_nil, Nat.zero_add]
  rw [if_pos (by omega)]
/-! impl_cool -/
theorem cool_l1 (xs : List Int) (hn : xs.length ≤ 12) (e : Nat) (he : e ≤ xs.length) (h1 : 1 ≤ e) : ∀ (d : Nat) (out : List Int) (j : Int), 1 ≤ j → j.toNat + d = e → out = rd xs 0 :: (xs.take (j.toNat - 1) ++ xs.drop j.toNat) →
    Ev (fun k => impl_cool.l1 k xs (e : Int) out j) (rd xs (e - 1) :: (xs.take (e - 1) ++ xs.drop e)) := by
  intro d
  induction d with
  | zero =>
    intro out j h0 hd ho
    refine Ev.step (fun k => by rw [impl_cool.l1]) ?_
    have hl : out.length = xs.length := by rw [ho]; simp; omega
    rw [wr (x := (e : Int) - 1) (by omega) (by omega)]
    refine evNeg (by omega) (evPos (by omega) (evPos (by omega) (evPos (by omega) (evPos (by omega) (evEq ?_)))))
    rw [ho, show j.toNat = e from by omega]; rfl
  | succ d ih =>
    intro out j h0 hd ho
    refine Ev.step (fun k => by rw [impl_cool.l1]) ?_
    have hl : out.length = xs.length := by rw [ho]; simp; omega
    rw [wr (x := j - 1) (by omega) (by omega), wr (x := j + 1) (by omega) (by omega)]
    refine evPos (by omega) (evPos (by omega) (evPos (by omega) (evPos (by omega) (evPos (by omega) ?_))))
    refine ih _ _ (by omega) (by omega) ?_
    rw [ho]
    obtain ⟨i, rfl⟩ : ∃ i : Nat, j = i + 1 := ⟨j.toNat - 1, by omega⟩
    rw [show ((i : Int) + 1 - 1) = (i : Int) from by omega, show ((i : Int) + 1).toNat = i + 1 from by omega, show ((i : Int) + 1 + 1).toNat = i + 2 from by omega]
    have hi : i < xs.length := by omega
    have hi2 : i + 1 < xs.length := by omega
    simp only [List.set_cons_succ, Nat.add_sub_cancel]
    congr 1
    rw [rd_get xs i (by simpa using hi), show i + 2 - 1 = i + 1 from by omega]
    rw [List.drop_eq_getElem_cons hi2, List.set_append_right _ _ (by rw [List.length_take]; omega)]
    simp only [List.length_take, Int.toNat_natCast]
    rw [show i - min i xs.length = 0 from by omega, List.set_cons_zero, List.take_succ_eq_append_getElem hi, List.append_assoc]
    rfl
theorem cool_j1 (xs : List Int) (hn : xs.length ≤ 12) (e : Int) (he : e = coolM xs) : Ev (fun k => impl_cool.j1 k xs e) (coolL xs) := by
  subst he
  have hb := coolM_bound xs
  refine Ev.step (fun k => by rw [impl_cool.j1]) ?_
  simp only [copied_eq xs (by omega), Option.bind_some]
  unfold coolL
  by_cases c : coolM xs = 0
  · rw [if_pos c]
    refine Ev.step (fun k => by rw [impl_cool.l1]) ?_
    exact evNeg (by omega) (evNeg (by omega) (evEq (List.length_eq_zero_iff.1 (by omega))))
  · rw [if_neg c]
    refine evTo (cool_l1 xs hn (coolM xs) (by omega) (by omega) (coolM xs - 1) xs 1 (by omega) (by omega) ?_) ?_
    · cases xs with
      | nil => simp at hb; omega
      | cons x t => rfl
    · rfl
theorem cool_l0 (xs : List Int) (hn : xs.length ≤ 12) (M : Nat) (hM : M = coolM xs) : ∀ (d : Nat) (j : Int), 2 ≤ j → j.toNat + d = xs.length → M = coolEnd xs (j - 2).toNat (xs.length - 2 - (j - 2).toNat) →
    Ev (fun k => impl_cool.l0 k xs (xs.length : Int) j) (coolL xs) := by
  intro d
  induction d with
  | zero =>
    intro j h0 hd hm
    refine Ev.step (fun k => by rw [impl_cool.l0]) ?_
    refine evNeg (by omega) (cool_j1 xs hn _ ?_)
    rw [← hM, hm, show xs.length - 2 - (j - 2).toNat = 0 from by omega]; rfl
  | succ d ih =>
    intro j h0 hd hm
    refine Ev.step (fun k => by rw [impl_cool.l0]) ?_
    rw [wr (x := j - 2) (by omega) (by omega), wr (x := j - 1) (by omega) (by omega), wr (x := j + 1) (by omega) (by omega)]
    rw [show xs.length - 2 - (j - 2).toNat = (xs.length - 2 - (j + 1 - 2).toNat) + 1 from by omega, coolEnd] at hm
    rw [show (((j - 2).toNat : Nat) : Int) = j - 2 from by omega, show j - 2 + 1 = j - 1 from by omega, show (j - 2).toNat + 1 = (j + 1 - 2).toNat from by omega] at hm
    refine evPos (by omega) (evPos (by omega) (evPos (by omega) ?_))
    by_cases c1 : rd xs (j - 2) = 0
    · refine evPos c1 (evPos (by omega) (evPos (by omega) ?_))
      by_cases c2 : rd xs (j - 1) = 1
      · refine evPos c2 (cool_j1 xs hn _ ?_)
        rw [← hM, hm, if_pos ⟨c1, c2⟩]; omega
      · refine evNeg c2 (ih _ (by omega) (by omega) ?_)
        rw [hm, if_neg (fun h => c2 h.2)]
    · refine evNeg c1 (ih _ (by omega) (by omega) ?_)
      rw [hm, if_neg (fun h => c1 h.1)]
theorem cool_ev (xs : List Int) (hn : xs.length ≤ 12) : Ev (fun k => impl_cool.f k xs) (coolL xs) := by
  unfold impl_cool.f
  by_cases c : xs.length < 2
  · refine Ev.step (fun k => by rw [impl_cool.l0]) ?_
    refine evNeg (by omega) (cool_j1 xs hn _ ?_)
    unfold coolM; rw [show xs.length - 2 = 0 from by omega]; rfl
  · exact cool_l0 xs hn (coolM xs) rfl (xs.length - 2) 2 (by omega) (by omega) rfl
/-! impl_bitsOf -/
theorem bitsOf_l0 (n : Nat) (xs : List Int) (hn : xs.length ≤ 35184372088832) (hb : ∀ y ∈ xs, 0 ≤ y ∧ y < n) : ∀ (d : Nat) (out : List Int) (j : Int), 0 ≤ j → j.toNat + d = xs.length → out.length = n →
    Ev (fun k => impl_bitsOf.l0 k out xs (xs.length : Int) j) (setBits out (xs.drop j.toNat)) := by
  intro d
  induction d with
  | zero =>
    intro out j h0 hd ho
    refine Ev.step (fun k => by rw [impl_bitsOf.l0]) ?_
    refine evNeg (by omega) (evEq ?_)
    rw [drop_end _ _ (by omega)]; rfl
  | succ d ih =>
    intro out j h0 hd ho
    refine Ev.step (fun k => by rw [impl_bitsOf.l0]) ?_
    have hm : rd xs j ∈ xs := by rw [rd_get xs j (by omega)]; exact List.getElem_mem _
    have := hb _ hm
    refine evPos (by omega) (evPos (by omega) (evPos (by omega) (evPos (by omega) (evPos (by omega) ?_))))
    rw [wr (by omega) (by omega), drop_rd xs j h0 (by omega), setBits]
    exact ih _ _ (by omega) (by omega) (by simpa using ho)
theorem bitsOf_ev (n : Nat) (xs : List Int) (hn : xs.length ≤ 35184372088832) (hN : n ≤ 1000000) (hb : ∀ y ∈ xs, 0 ≤ y ∧ y < n) : Ev (fun k => impl_bitsOf.f k (n : Int) xs) (bitsL n xs) := by
  unfold impl_bitsOf.f
  refine evPos (by omega) (evPos (by simp; omega) ?_)
  exact evTo (bitsOf_l0 n xs hn hb xs.length _ 0 (by omega) (by simp) (by simp)) (by simp [bitsL])
/-! impl_coolList -/
theorem coolList_l0 (f : List Int) (hf : f.length ≤ 12) : ∀ (m : Nat) (out : List (List Int)) (l : List Int) (R : List (List Int)), l.length ≤ 12 → out.length + m ≤ 100000 → coolRun f m l = some R →
    Ev (fun q => impl_coolList.l0 q f out l) (out ++ R) := by
  intro m
  induction m with
  | zero => intro out l R _ _ h; simp [coolRun] at h
  | succ m ih =>
    intro out l R hl ho h
    refine Ev.step (fun q => by rw [impl_coolList.l0]) ?_
    refine Ev.bind (slicesEqual_ev l f (by omega)) ?_
    rw [coolRun] at h
    by_cases c : l = f
    · rw [if_pos c] at h; injection h with h; subst h
      exact evPos (by simpa using c) (evEq (by simp))
    · rw [if_neg c] at h
      obtain ⟨L1, h1, rfl⟩ := Option.map_eq_some_iff.1 h
      refine evNeg (by simpa using c) (evPos (by omega) (Ev.bind (cool_ev l hl) ?_))
      refine evTo (ih (out ++ [l]) (coolL l) L1 (by rw [coolL_length]; exact hl) (by simp; omega) h1) ?_
      simp
theorem coolList_ev (n k : Nat) (hn : n ≤ 12) (hk : k ≤ n) (m : Nat) (hm : m ≤ 10000) (R : List (List Int)) (h : coolRun (coolFirst n k) m (coolL (coolFirst n k)) = some R) :
    Ev (fun q => impl_coolList.f q (n : Int) (k : Int)) (coolFirst n k :: R) := by
  unfold impl_coolList.f
  have hl := coolFirst_length n k
  have hu := upTo_length k
  refine Ev.bind (identity_ev k (by omega)) (Ev.bind (bitsOf_ev n (upTo k) (by omega) (by omega) (fun y hy => by have := mem_upTo.1 hy; omega)) (Ev.bind (cool_ev (bitsL n (upTo k)) (by rw [bitsL_length]; exact hn)) ?_))
  exact coolList_l0 (coolFirst n k) (by omega) m [coolFirst n k] (coolL (coolFirst n k)) R (by rw [coolL_length]; omega) (by simp; omega) h
/-! impl_CoolRank -/
theorem CoolRank_i0 (l : List Int) (L : List (List Int)) (hL : L.length ≤ 1000000000) (hl : ∀ t ∈ L, t.length ≤ 35184372088832) : ∀ (d : Nat) (j : Int), 0 ≤ j → j.toNat + d = L.length →
    Ev (fun k => impl_CoolRank.i0 k l L j) (placeI l j (L.drop j.toNat)) := by
  intro d
  induction d with
  | zero =>
    intro j h0 hd
    refine Ev.step (fun k => by rw [impl_CoolRank.i0]) ?_
    refine evNeg (by omega) ?_
    rw [drop_end L j (by omega)]
    exact evEq rfl
  | succ d ih =>
    intro j h0 hd
    refine Ev.step (fun k => by rw [impl_CoolRank.i0]) ?_
    have hm : rd_L1 L j ∈ L := by
      unfold rd_L1
      rw [List.getD_eq_getElem?_getD, List.getElem?_eq_getElem (show j.toNat < L.length by omega)]
      exact List.getElem_mem _
    refine evPos (by omega) (evPos (by omega) (Ev.bind (slicesEqual_ev _ l (hl _ hm)) ?_))
    have hcons : L.drop j.toNat = rd_L1 L j :: L.drop (j + 1).toNat := dropD [] L j h0 (by omega)
    rw [wr (by omega) (by omega), hcons, placeI]
    by_cases c : rd_L1 L j = l
    · rw [if_pos c]; exact evPos (decide_eq_true c) (Ev.now _)
    · rw [if_neg c]; exact evNeg (by simpa using c) (ih _ (by omega) (by omega))
theorem CoolRank_yes (l : List Int) (hb : isBits l = true) (R : List (List Int)) (hR : coolRun (coolFirst l.length (onesI 0 l).length) 1000 (coolL (coolFirst l.length (onesI 0 l).length)) = some R) :
    Ev (fun q => impl_CoolRank.f q l) (placeI l 0 (coolFirst l.length (onesI 0 l).length :: R), true) := by
  unfold impl_CoolRank.f
  have h12 := isBits_length hb
  have hk := onesI_le l 0
  have hs := coolRun_small _ _ _ _ hR
  have hf := coolFirst_length l.length (onesI 0 l).length
  refine Ev.bind (FromBits_ev l (by omega)) ?_
  rw [if_pos hb]
  refine evPos rfl (Ev.bind (coolList_ev l.length (onesI 0 l).length h12 hk 1000 (by omega) R hR) (Ev.bind ?_ (Ev.now _)))
  refine evTo (CoolRank_i0 l (coolFirst l.length (onesI 0 l).length :: R) (by simp only [List.length_cons]; omega) (fun t ht => ?_) (coolFirst l.length (onesI 0 l).length :: R).length 0 (by omega) (by simp)) (by simp)
  rcases List.mem_cons.1 ht with rfl | ht
  · omega
  · have := hs.2 t ht; rw [coolL_length] at this; omega
theorem CoolRank_no (l : List Int) (hn : l.length ≤ 35184372088832) (hb : ¬ isBits l = true) : Ev (fun q => impl_CoolRank.f q l) (0, false) := by
  unfold impl_CoolRank.f
  refine Ev.bind (FromBits_ev l hn) ?_
  rw [if_neg hb]
  exact evNeg (by simp) (Ev.now _)
/-! laws_big -/
theorem big_eq (a b : List Int) : ∃ t, laws_big.f a b = some t ∧ (t = false → a.length ≤ 1048576 ∧ b.length ≤ 1048576) := by
  unfold laws_big.f
  by_cases c : (a.length : Int) > 1048576
  · exact ⟨true, by rw [if_pos c], fun h => by cases h⟩
  · rw [if_neg c, wr (by omega) (by omega)]
    exact ⟨_, rfl, fun h => by have := of_decide_eq_false h; omega⟩
/-! spec_l1Cur_next -/
theorem u64_lt (x : Int) : 0 ≤ IntKind.u64.wrap x ∧ IntKind.u64.wrap x < 18446744073709551616 := by rw [IntKind.wrap_u64]; omega
theorem low8 (x : Int) : 0 ≤ wrap64 (Go.bits .and .u64 (IntKind.u64.wrap x / 1099511627776) 255) ∧ wrap64 (Go.bits .and .u64 (IntKind.u64.wrap x / 1099511627776) 255) ≤ 255 := by
  have hu := u64_lt x
  generalize IntKind.u64.wrap x = y at hu ⊢
  have h := Go.bits_mask .u64 63 (by decide) (fun n h0 h1 => by rw [IntKind.wrap_u64]; omega) 8 (by decide) (y / 1099511627776) (by omega) (by omega)
  have e : ((2 : Int) ^ 8 - 1) = 255 := by decide
  have e2 : ((2 : Int) ^ 8) = 256 := by decide
  rw [e, e2] at h
  rw [h, wr (by omega) (by omega)]
  omega
/-- The bytes of a reader. -/
def Byt (l : List Int) : Prop := l.length ≤ 2000000 ∧ ∀ x ∈ l, 0 ≤ x ∧ x ≤ 255
theorem byt_of {l : List Int} (h1 : l.length ≤ 1048576) (h2 : ∀ x ∈ l, (Lit.int .u8 x).wf = true) : Byt l := by
  refine ⟨by omega, fun x hx => ?_⟩
  have := h2 x hx
  simp [Lit.wf, IntKind.min, IntKind.max, IntKind.signed, IntKind.bits] at this
  omega
theorem cur_next (l : List Int) (hl : Byt l) (a s : Int) (h0 : 0 ≤ a) (h1 : a ≤ 1000000000000) : ∃ v s', spec_l1Cur_next.f l a s = some (v, a + 1, s') ∧ 0 ≤ v ∧ v ≤ 255 := by
  obtain ⟨hn, hb⟩ := hl
  unfold spec_l1Cur_next.f
  rw [wr (x := a + 1) (by omega) (by omega)]
  by_cases c : a < l.length
  · have hr := hb (rd l a) (by rw [rd_get l a (by omega)]; exact List.getElem_mem _)
    rw [if_pos c, if_pos h0, if_pos (by omega)]
    refine ⟨_, _, rfl, ?_⟩
    rw [wr (by omega) (by omega)]
    exact hr
  · rw [if_neg c, if_neg (by omega)]
    exact ⟨_, _, rfl, low8 _⟩
/-! spec_l1Cur_pick -/
theorem cur_pick (l : List Int) (hl : Byt l) (a s n : Int) (h0 : 0 ≤ a) (h1 : a ≤ 900000000000) : ∃ v a' s', spec_l1Cur_pick.f l a s n = some (v, a', s') ∧ a ≤ a' ∧ a' ≤ a + 2 ∧ 0 ≤ v ∧ (v = 0 ∨ v < n) := by
  unfold spec_l1Cur_pick.f
  by_cases c : n ≤ 1
  · rw [if_pos c]; exact ⟨_, _, _, rfl, by omega, by omega, by omega, .inl rfl⟩
  rw [if_neg c]
  obtain ⟨v, s', e, h2, h3⟩ := cur_next l hl a s h0 (by omega)
  rw [e]
  simp only [Option.bind_some]
  by_cases c2 : n > 200
  · rw [if_pos c2]
    obtain ⟨v2, s2, e2, h4, h5⟩ := cur_next l hl (a + 1) s' (by omega) (by omega)
    rw [e2]
    simp only [Option.bind_some]
    rw [if_neg (by omega), wr (x := v * 256) (by omega) (by omega), wr (by omega) (by omega)]
    exact ⟨_, _, _, rfl, by omega, by omega, Int.tmod_nonneg _ (by omega), .inr (Int.tmod_lt_of_pos _ (by omega))⟩
  · rw [if_neg c2, if_neg (by omega)]
    exact ⟨_, _, _, rfl, by omega, by omega, Int.tmod_nonneg _ (by omega), .inr (Int.tmod_lt_of_pos _ (by omega))⟩
/-! spec_l1Cur_among -/
theorem cur_among (l : List Int) (hl : Byt l) (a s : Int) (xs : List Int) (hx : 0 < xs.length) (h0 : 0 ≤ a) (h1 : a ≤ 900000000000) : ∃ v a' s', spec_l1Cur_among.f l a s xs = some (v, a', s') ∧ a ≤ a' ∧ a' ≤ a + 2 ∧ v ∈ xs := by
  unfold spec_l1Cur_among.f
  obtain ⟨v, a', s', e, h2, h3, h4, h5⟩ := cur_pick l hl a s (xs.length : Int) h0 h1
  rw [e]
  simp only [Option.bind_some]
  rw [if_pos h4, if_pos (by omega)]
  refine ⟨_, _, _, rfl, h2, h3, ?_⟩
  rw [rd_get xs v (by omega)]
  exact List.getElem_mem _
/-! spec_l1Cur_size3 -/
theorem cur_size3 (l : List Int) (hl : Byt l) (a s m : Int) (h0 : 0 ≤ a) (h1 : a ≤ 800000000000) (hm : 0 ≤ m) (hm' : m ≤ 1000) : ∃ n k a' s', spec_l1Cur_size3.f l a s m = some (n, k, a', s') ∧ a ≤ a' ∧ a' ≤ a + 8 := by
  unfold spec_l1Cur_size3.f
  rw [wr (x := m + 1) (by omega) (by omega)]
  obtain ⟨v, a1, s1, e, h2, h3, h4, h5⟩ := cur_pick l hl a s (m + 1) h0 (by omega)
  rw [e]
  simp only [Option.bind_some]
  rw [wr (x := v + 1) (by omega) (by omega)]
  obtain ⟨v2, a2, s2, e2, h6, h7, h8, h9⟩ := cur_pick l hl a1 s1 (v + 1) (by omega) (by omega)
  rw [e2]
  simp only [Option.bind_some]
  obtain ⟨v3, a3, s3, e3, g1, g2, g3, g4⟩ := cur_pick l hl a2 s2 16 (by omega) (by omega)
  rw [e3]
  simp only [Option.bind_some]
  by_cases c : v3 = 0
  · rw [if_pos c]
    obtain ⟨v4, a4, s4, e4, g5, g6, _⟩ := cur_among l hl a3 s3 [-1, v, v + 1, 0] (by simp) (by omega) (by omega)
    rw [e4]
    simp only [Option.bind_some]
    exact ⟨_, _, _, _, rfl, by omega, by omega⟩
  · rw [if_neg c]
    by_cases c2 : v3 = 1
    · rw [if_pos c2]
      obtain ⟨v4, a4, s4, e4, g5, g6, _⟩ := cur_among l hl a3 s3 [-1, 0, 12, 13] (by simp) (by omega) (by omega)
      rw [e4]
      simp only [Option.bind_some]
      exact ⟨_, _, _, _, rfl, by omega, by omega⟩
    · rw [if_neg c2]
      exact ⟨_, _, _, _, rfl, by omega, by omega⟩
/-! spec_DrawRevolvingList -/
theorem drawRevolvingList_ev (l : List Int) (hl : Byt l) : ∃ n k, spec_DrawRevolvingList.f l = some (n, k) := by
  unfold spec_DrawRevolvingList.f
  obtain ⟨n, k, a', s', e, _, _⟩ := cur_size3 l hl 0 0 9 (by omega) (by omega) (by omega) (by omega)
  rw [e]
  exact ⟨_, _, rfl⟩
/-! spec_DrawCoolList -/
theorem drawCoolList_ev (l : List Int) (hl : Byt l) : ∃ n k, spec_DrawCoolList.f l = some (n, k) := by
  unfold spec_DrawCoolList.f
  obtain ⟨n, k, e⟩ := drawRevolvingList_ev l hl
  rw [e]
  exact ⟨_, _, rfl⟩
/-! impl_isChoice -/
theorem isChoice_eq (n k : Int) : impl_isChoice.f n k = some (decide (0 ≤ n ∧ n ≤ 12 ∧ 0 ≤ k ∧ k ≤ n)) := by
  unfold impl_isChoice.f
  simp only [within_eq, Option.bind_some]
  by_cases h : 0 ≤ n ∧ n ≤ 12
  · rw [if_pos (by simpa using h)]; simp [h]
  · rw [if_neg (by simpa using h)]; congr 1; exact (decide_eq_false (by omega)).symm
/-! impl_CoolList -/
theorem CoolList_ev (n k : Nat) (hn : n ≤ 12) (hk : k ≤ n) (m : Nat) (hm : m ≤ 10000) (R : List (List Int)) (h : coolRun (coolFirst n k) m (coolL (coolFirst n k)) = some R) :
    Ev (fun q => impl_CoolList.f q (n : Int) (k : Int)) (coolFirst n k :: R, true) := by
  unfold impl_CoolList.f
  simp only [isChoice_eq, Option.bind_some]
  exact evPos (by simp; omega) (Ev.bind (coolList_ev n k hn hk m hm R h) (Ev.now _))
theorem CoolList_no (n k : Int) (h : ¬ (0 ≤ n ∧ n ≤ 12 ∧ 0 ≤ k ∧ k ≤ n)) : Ev (fun q => impl_CoolList.f q n k) ([], false) := by
  unfold impl_CoolList.f
  simp only [isChoice_eq, Option.bind_some]
  exact evNeg (by simpa using h) (Ev.now _)
/-! spec_raItems -/
theorem raItems_eq (x : Int) : spec_raItems.f x = some (decide (0 ≤ x ∧ x ≤ 12)) := by
  unfold spec_raItems.f; rw [l1In_eq]; rfl
/-! spec_chSize -/
theorem chSize_eq (n k : Int) : spec_chSize.f n k = some (decide (0 ≤ n ∧ n ≤ 12 ∧ 0 ≤ k ∧ k ≤ n)) := by
  unfold spec_chSize.f
  simp only [raItems_eq, l1In_eq, Option.bind_some]
  by_cases h : 0 ≤ n ∧ n ≤ 12
  · rw [if_pos (by simpa using h)]; simp [h]
  · rw [if_neg (by simpa using h)]; congr 1; exact (decide_eq_false (by omega)).symm
/-! spec_CoolList -/
theorem spec_CoolList_ev (n k : Nat) (hn : n ≤ 12) (hk : k ≤ n) (m : Nat) (hm : m ≤ 10000) (R : List (List Int)) (h : coolRun (coolFirst n k) m (coolL (coolFirst n k)) = some R) :
    Ev (fun q => spec_CoolList.f q (n : Int) (k : Int)) (coolFirst n k :: R, true) := by
  unfold spec_CoolList.f
  simp only [chSize_eq, Option.bind_some]
  exact evPos (by simp; omega) (Ev.bind (chCoolList_ev n k hn hk m hm R h) (Ev.now _))
theorem spec_CoolList_no (n k : Int) (h : ¬ (0 ≤ n ∧ n ≤ 12 ∧ 0 ≤ k ∧ k ≤ n)) : Ev (fun q => spec_CoolList.f q n k) ([], false) := by
  unfold spec_CoolList.f
  simp only [chSize_eq, Option.bind_some]
  exact evNeg (by simpa using h) (Ev.now _)
/-! laws_uSame -/
theorem uSame_l0 (a : List Int) (hn : a.length ≤ 35184372088832) : ∀ (d : Nat) (j : Int), 0 ≤ j → j.toNat + d = a.length → Ev (fun k => laws_uSame.l0 k a a (a.length : Int) j) true := by
  intro d
  induction d with
  | zero =>
    intro j h0 hd
    refine Ev.step (fun k => by rw [laws_uSame.l0]) ?_
    exact evNeg (by omega) (Ev.now _)
  | succ d ih =>
    intro j h0 hd
    refine Ev.step (fun k => by rw [laws_uSame.l0]) ?_
    refine evPos (by omega) (evPos (by omega) (evPos (by omega) (evPos (by omega) (evPos rfl ?_))))
    rw [wr (by omega) (by omega)]
    exact ih _ (by omega) (by omega)
theorem uSame_self (a : List Int) (hn : a.length ≤ 35184372088832) : Ev (fun k => laws_uSame.f k a a) true := by
  unfold laws_uSame.f
  exact evPos rfl (uSame_l0 a hn a.length 0 (by omega) (by simp))
/-! laws_uLists -/
theorem uLists_self (L : List (List Int)) (hn : L.length ≤ 1000000000) (hl : ∀ t ∈ L, t.length ≤ 35184372088832) : Ev (fun k => laws_uLists.f k L L) true := by
  have key : ∀ (d : Nat) (j : Int), 0 ≤ j → j.toNat + d = L.length → Ev (fun k => laws_uLists.l0 k L L (L.length : Int) j) true := by
    intro d
    induction d with
    | zero =>
      intro j h0 hd
      refine Ev.step (fun k => by rw [laws_uLists.l0]) ?_
      exact evNeg (by omega) (Ev.now _)
    | succ d ih =>
      intro j h0 hd
      refine Ev.step (fun k => by rw [laws_uLists.l0]) ?_
      have hm : rd_L1 L j ∈ L := by
        unfold rd_L1
        rw [List.getD_eq_getElem?_getD, List.getElem?_eq_getElem (show j.toNat < L.length by omega)]
        exact List.getElem_mem _
      refine evPos (by omega) (evPos (by omega) (evPos (by omega) (evPos (by omega) (Ev.bind (uSame_self _ (hl _ hm)) (evPos rfl ?_)))))
      rw [wr (by omega) (by omega)]
      exact ih _ (by omega) (by omega)
  unfold laws_uLists.f
  exact evPos rfl (key L.length 0 (by omega) (by simp))
/-! impl_binomial -/
theorem binomial_tab : ((List.range 13).all fun n => (List.range 13).all fun k => impl_binomial.f 20 (n : Int) (k : Int) == some (C n k : Int)) = true := by decide +kernel
theorem binomial_ev (n k : Nat) (hn : n ≤ 12) (hk : k ≤ 12) : Ev (fun r => impl_binomial.f r (n : Int) (k : Int)) (C n k : Int) := by
  refine evTab (g := fun r => impl_binomial.f r (n : Int) (k : Int)) (impl_binomial.mono _ _) 20 ?_
  have h := List.all_eq_true.1 (List.all_eq_true.1 binomial_tab n (List.mem_range.2 (by omega))) k (List.mem_range.2 (by omega))
  exact beq_iff_eq.1 h
theorem binomial_evI (n k : Int) (hn : 0 ≤ n) (hn' : n ≤ 12) (hk : 0 ≤ k) (hk' : k ≤ 12) : Ev (fun r => impl_binomial.f r n k) (C n.toNat k.toNat : Int) := by
  have := binomial_ev n.toNat k.toNat (by omega) (by omega)
  rwa [Int.toNat_of_nonneg hn, Int.toNat_of_nonneg hk] at this
/-! impl_Binomial -/
theorem Binomial_ev (n k : Nat) (hn : n ≤ 12) (hk : k ≤ n) : Ev (fun q => impl_Binomial.f q (n : Int) (k : Int)) ((C n k : Int), true) := by
  unfold impl_Binomial.f
  rw [within_eq, within_eq]
  exact evSome (evPos (by simp; omega) (evSome (evPos (by simp; omega) (Ev.bind (binomial_ev n k hn (by omega)) (Ev.now _)))))
/-! impl_NextCool -/
theorem impl_NextCool_ev (l : List Int) (hn : l.length ≤ 35184372088832) : Ev (fun k => impl_NextCool.f k l) (if isBits l = true then (coolL l, true) else ([], false)) := by
  unfold impl_NextCool.f
  refine Ev.bind (areBits_ev l hn) ?_
  by_cases c : isBits l = true
  · rw [if_pos c]; exact evPos c (Ev.bind (cool_ev l (isBits_length c)) (Ev.now _))
  · rw [if_neg c]; exact evNeg c (Ev.now _)
/-! impl_increasing -/
theorem increasing_l0 (xs : List Int) (hn : xs.length ≤ 35184372088832) : ∀ (d : Nat) (j : Int), 1 ≤ j → j.toNat + d = xs.length →
    Ev (fun k => impl_increasing.l0 k xs j) (incrFrom (rd xs (j - 1) + 1) (xs.drop j.toNat)) := by
  intro d
  induction d with
  | zero =>
    intro j h0 hd
    refine Ev.step (fun k => by rw [impl_increasing.l0]) ?_
    refine evNeg (by omega) (evEq ?_)
    rw [drop_end _ _ (by omega)]; rfl
  | succ d ih =>
    intro j h0 hd
    refine Ev.step (fun k => by rw [impl_increasing.l0]) ?_
    rw [wr (x := j - 1) (by omega) (by omega), wr (x := j + 1) (by omega) (by omega), drop_rd xs j (by omega) (by omega)]
    refine evPos (by omega) (evPos (by omega) (evPos (by omega) (evPos (by omega) ?_)))
    by_cases c : rd xs (j - 1) ≥ rd xs j
    · refine evPos c (evEq ?_)
      simp only [incrFrom]
      rw [decide_eq_false (by omega)]; rfl
    · refine evNeg c (evTo (ih (j + 1) (by omega) (by omega)) ?_)
      simp only [incrFrom]
      rw [decide_eq_true (by omega), Bool.true_and, show j + 1 - 1 = j from by omega]
theorem increasing_ev (xs : List Int) (hn : xs.length ≤ 35184372088832) : Ev (fun k => impl_increasing.f k xs) (incr xs) := by
  unfold impl_increasing.f
  cases xs with
  | nil =>
    refine Ev.step (fun k => by rw [impl_increasing.l0]) ?_
    exact evNeg (by simp) (Ev.now _)
  | cons x t =>
    refine evTo (increasing_l0 (x :: t) hn t.length 1 (by omega) (by simp; omega)) ?_
    simp [incr, rd]
/-! impl_IsCombination -/
theorem IsCombination_ev (n : Int) (l : List Int) (hn : l.length ≤ 35184372088832) : Ev (fun k => impl_IsCombination.f k n l) (isComb n l) := by
  unfold impl_IsCombination.f
  simp only [within_eq, Option.bind_some]
  by_cases h : 0 ≤ n ∧ n ≤ 12
  · refine evPos (by simpa using h) ?_
    rw [wr (by omega) (by omega)]
    refine Ev.bind (allWithin_ev l 0 (n - 1) hn) ?_
    rw [isComb, decide_eq_true h, Bool.true_and, ← comb_all]
    by_cases c : (l.all fun x => decide (0 ≤ x ∧ x ≤ n - 1)) = true
    · refine evPos c (Ev.bind (increasing_ev l hn) (evEq ?_))
      rw [c, Bool.true_and]
    · refine evNeg c (evEq ?_)
      rw [Bool.eq_false_iff.2 c, Bool.false_and]
  · refine evNeg (by simpa using h) (evEq ?_)
    rw [isComb, decide_eq_false h, Bool.false_and]
/-! impl_combinationRank -/
theorem combinationRank_l1 (n : Nat) (hn : n ≤ 12) (l : List Int) (hl : l.length ≤ 12) : ∀ (m : Nat) (rank fr : Int) (j : Nat) (hj : j < l.length), 0 ≤ fr → fr + m = n → incrFrom fr (l.drop j) = true → (∀ y ∈ l.drop j, y < (n : Int)) → 0 ≤ rank → rank + 4096 * m ≤ 100000 →
    Ev (fun q => impl_combinationRank.l1 q (n : Int) l rank fr (j : Int) (rd l (j : Int)) l (l.length : Int) (j : Int)) (rank + (lexI m fr (l.drop j) : Nat)) := by
  intro m
  induction m with
  | zero =>
    intro rank fr j hj h0 hm hi hb _ _
    rw [List.drop_eq_getElem_cons hj] at hi hb
    have h1 := incrFrom_ge _ _ hi _ (List.mem_cons_self ..)
    have h2 := hb _ (List.mem_cons_self ..)
    omega
  | succ m ih =>
    intro rank fr j hj h0 hm hi hb hr1 hr2
    have hd := List.drop_eq_getElem_cons hj
    have e : rd l (j : Int) = l[j] := rd_get l (j : Int) (by simpa using hj)
    have hC := C_le12 m (l.length - j - 1) (by omega)
    rw [hd] at hi hb
    have hge := incrFrom_ge _ _ hi _ (List.mem_cons_self ..)
    have hi2 := hi
    simp only [incrFrom, Bool.and_eq_true, decide_eq_true_eq] at hi2
    refine Ev.step (fun q => by rw [impl_combinationRank.l1]) ?_
    rw [e, hd, lexI]
    by_cases c : fr < l[j]
    · rw [if_neg (by omega)]
      refine evPos c ?_
      have hbin := binomial_ev m (l.length - j - 1) (by omega) (by omega)
      rw [wr (x := (n : Int) - fr) (by omega) (by omega), wr (by omega) (by omega), wr (x := (l.length : Int) - (j : Int)) (by omega) (by omega), wr (x := (l.length : Int) - (j : Int) - 1) (by omega) (by omega), show (n : Int) - fr - 1 = (m : Int) from by omega, show (l.length : Int) - (j : Int) - 1 = ((l.length - j - 1 : Nat) : Int) from by omega]
      refine Ev.bind hbin ?_
      rw [wr (by omega) (by omega), wr (by omega) (by omega)]
      have h := ih (rank + (C m (l.length - j - 1) : Nat)) (fr + 1) j hj (by omega) (by omega) (by rw [hd]; simp only [incrFrom, Bool.and_eq_true, decide_eq_true_eq]; exact ⟨by omega, hi2.2⟩) (by rw [hd]; exact hb) (by omega) (by omega)
      rw [e, hd] at h
      refine evTo h ?_
      rw [show (l.drop (j + 1)).length = l.length - j - 1 from by rw [List.length_drop]; omega]
      omega
    · have ef : l[j] = fr := by omega
      rw [if_pos ef]
      refine evNeg c (Ev.step (fun q => by rw [impl_combinationRank.l0]) ?_)
      rw [wr (by omega) (by omega), wr (by omega) (by omega)]
      by_cases c2 : j + 1 < l.length
      · refine evPos (by omega) (evPos (by omega) (evPos (by omega) ?_))
        have h := ih rank (fr + 1) (j + 1) c2 (by omega) (by omega) (by rw [← ef]; exact hi2.2) (fun y hy => hb y (List.mem_cons_of_mem _ hy)) hr1 (by omega)
        rw [show ((j + 1 : Nat) : Int) = (j : Int) + 1 from by omega] at h
        exact h
      · refine evNeg (by omega) (evEq ?_)
        rw [List.drop_of_length_le (by omega)]
        cases m <;> simp [lexI]
theorem combinationRank_ev (n : Nat) (hn : n ≤ 12) (l : List Int) (h : comb n l = true) : Ev (fun q => impl_combinationRank.f q (n : Int) l) ((lexI n 0 l : Nat) : Int) := by
  have hl := comb_length h
  have hb := comb_bound h
  simp only [comb, Bool.and_eq_true] at h
  unfold impl_combinationRank.f
  refine Ev.step (fun q => by rw [impl_combinationRank.l0]) ?_
  by_cases c : 0 < l.length
  · refine evPos (by omega) (evPos (by omega) (evPos (by omega) ?_))
    have := combinationRank_l1 n hn l (by omega) n 0 0 0 c (by omega) (by omega) (by simpa using h.1) (fun y hy => (hb y (by simpa using hy)).2) (by omega) (by omega)
    refine evTo this (by simp)
  · refine evNeg (by omega) (evEq ?_)
    rw [List.length_eq_zero_iff.1 (by omega : l.length = 0)]
    cases n <;> simp [lexI]
/-! impl_CombinationRank -/
theorem CombinationRank_ev (n : Nat) (hn : n ≤ 12) (l : List Int) (h : comb n l = true) : Ev (fun q => impl_CombinationRank.f q (n : Int) l) (((lexI n 0 l : Nat) : Int), true) := by
  unfold impl_CombinationRank.f
  have hb := IsCombination_ev (n : Int) l (by have := comb_length h; omega)
  have hc : isComb (n : Int) l = true := by simp only [isComb, Bool.and_eq_true, decide_eq_true_eq]; exact ⟨by omega, h⟩
  rw [hc] at hb
  exact Ev.bind hb (evPos rfl (Ev.bind (combinationRank_ev n hn l h) (Ev.now _)))
/-! laws_numberOf -/
theorem numberOf_l0 (xs : List Int) (hn : xs.length ≤ 2000000) (hx : ∀ x ∈ xs, 0 ≤ x ∧ x ≤ 255) : ∀ (d : Nat) (m j : Int), 0 ≤ j → j.toNat + d = xs.length → 0 ≤ m → m ≤ 1000003 →
    ∃ r, 0 ≤ r ∧ r ≤ 1000003 ∧ Ev (fun k => laws_numberOf.l0 k m xs (xs.length : Int) j) r := by
  intro d
  induction d with
  | zero =>
    intro m j h0 hd h1 h2
    refine ⟨m, h1, h2, Ev.step (fun k => by rw [laws_numberOf.l0]) ?_⟩
    exact evNeg (by omega) (Ev.now _)
  | succ d ih =>
    intro m j h0 hd h1 h2
    have hb := hx (rd xs j) (by rw [rd_get xs j (by omega)]; exact List.getElem_mem _)
    obtain ⟨r, q1, q2, h⟩ := ih (Int.tmod (31 * m + rd xs j) 1000003) (j + 1) (by omega) (by omega) (Int.tmod_nonneg _ (by omega)) (by have := Int.tmod_lt_of_pos (31 * m + rd xs j) (show (0 : Int) < 1000003 by omega); omega)
    refine ⟨r, q1, q2, Ev.step (fun k => by rw [laws_numberOf.l0]) ?_⟩
    refine evPos (by omega) (evPos (by omega) (evPos (by omega) ?_))
    rw [wr (x := 31 * m) (by omega) (by omega), wr (x := rd xs j) (by omega) (by omega), wr (x := 31 * m + rd xs j) (by omega) (by omega), wr (x := j + 1) (by omega) (by omega)]
    exact h
theorem numberOf_ev (xs : List Int) (hn : xs.length ≤ 2000000) (hx : ∀ x ∈ xs, 0 ≤ x ∧ x ≤ 255) : ∃ r, 0 ≤ r ∧ r ≤ 1000003 ∧ Ev (fun k => laws_numberOf.f k xs) r := by
  unfold laws_numberOf.f
  exact numberOf_l0 xs hn hx xs.length 0 0 (by omega) (by simp) (by omega) (by omega)
/-! spec_DrawFromBits -/
theorem drawFromBits_l1 (l : List Int) (hl : Byt l) : ∀ (d : Nat) (out : List Int) (a s : Int), 14 ≤ out.length + d → out.length ≤ 30 → 0 ≤ a → a + 4 * d + 10 ≤ 700000000000 →
    ∃ r, r.length ≤ 30 ∧ Ev (fun k => spec_DrawFromBits.l1 k out l a s) r := by
  intro d
  induction d with
  | zero =>
    intro out a s h1 h2 h0 h3
    obtain ⟨v, a1, s1, e, g1, g2, g3, g4⟩ := cur_pick l hl a s 2 h0 (by omega)
    refine ⟨out, h2, Ev.step (fun k => by rw [spec_DrawFromBits.l1]) ?_⟩
    rw [e]
    refine evSome (evNeg ?_ (Ev.now _))
    rw [wr (by omega) (by omega)]; omega
  | succ d ih =>
    intro out a s h1 h2 h0 h3
    obtain ⟨v, a1, s1, e, g1, g2, g3, g4⟩ := cur_pick l hl a s 2 h0 (by omega)
    by_cases c : (out.length : Int) < 12 + v
    · obtain ⟨v2, a2, s2, e2, g5, g6, g7, g8⟩ := cur_pick l hl a1 s1 2 (by omega) (by omega)
      obtain ⟨r, r1, hr⟩ := ih (out ++ [v2]) a2 s2 (by simp; omega) (by simp; omega) (by omega) (by omega)
      refine ⟨r, r1, Ev.step (fun k => by rw [spec_DrawFromBits.l1]) ?_⟩
      rw [e]
      refine evSome (evPos (by rw [wr (by omega) (by omega)]; exact c) ?_)
      rw [e2]
      exact evSome (evPos (by omega) hr)
    · refine ⟨out, h2, Ev.step (fun k => by rw [spec_DrawFromBits.l1]) ?_⟩
      rw [e]
      refine evSome (evNeg (by rw [wr (by omega) (by omega)]; exact c) (Ev.now _))
theorem drawFromBits_l0 (l : List Int) (hl : Byt l) : ∀ (d : Nat) (out : List Int) (n a s : Int), n.toNat ≤ d → out.length + d ≤ 20 → n ≤ 100 → 0 ≤ a → a + 4 * d + 100 ≤ 700000000000 →
    ∃ r, r.length ≤ 30 ∧ Ev (fun k => spec_DrawFromBits.l0 k out n l a s) r := by
  intro d
  induction d with
  | zero =>
    intro out n a s h1 h2 hn h0 h3
    obtain ⟨v, a1, s1, e, g1, g2, g3, g4⟩ := cur_pick l hl a s 12 h0 (by omega)
    by_cases c : v = 0
    · obtain ⟨v4, a4, s4, e4, g5, g6, _⟩ := cur_among l hl a1 s1 [2, -1] (by simp) (by omega) (by omega)
      refine ⟨out ++ [v4], by simp; omega, Ev.step (fun k => by rw [spec_DrawFromBits.l0]) ?_⟩
      refine evNeg (by omega) ?_
      rw [e]
      refine evSome (evPos c ?_)
      rw [e4]
      exact evSome (evPos (by omega) (Ev.now _))
    · by_cases c2 : v = 1
      · obtain ⟨r, r1, hr⟩ := drawFromBits_l1 l hl 14 out a1 s1 (by omega) (by omega) (by omega) (by omega)
        refine ⟨r, r1, Ev.step (fun k => by rw [spec_DrawFromBits.l0]) ?_⟩
        refine evNeg (by omega) ?_
        rw [e]
        exact evSome (evNeg c (evPos c2 hr))
      · refine ⟨out, by omega, Ev.step (fun k => by rw [spec_DrawFromBits.l0]) ?_⟩
        refine evNeg (by omega) ?_
        rw [e]
        exact evSome (evNeg c (evNeg c2 (Ev.now _)))
  | succ d ih =>
    intro out n a s h1 h2 hn h0 h3
    by_cases c0 : n > 0
    · obtain ⟨v, a1, s1, e, g1, g2, g3, g4⟩ := cur_pick l hl a s 2 h0 (by omega)
      obtain ⟨r, r1, hr⟩ := ih (out ++ [v]) (n - 1) a1 s1 (by omega) (by simp; omega) (by omega) (by omega) (by omega)
      refine ⟨r, r1, Ev.step (fun k => by rw [spec_DrawFromBits.l0]) ?_⟩
      refine evPos c0 ?_
      rw [e]
      refine evSome (evPos (by omega) ?_)
      rw [wr (by omega) (by omega)]
      exact hr
    · exact ih out n a s (by omega) (by omega) hn h0 (by omega)
theorem drawFromBits_ev (l : List Int) (hl : Byt l) : ∃ r, r.length ≤ 30 ∧ Ev (fun k => spec_DrawFromBits.f k l) r := by
  unfold spec_DrawFromBits.f
  obtain ⟨v, a1, s1, e, g1, g2, g3, g4⟩ := cur_pick l hl 0 0 9 (by omega) (by omega)
  rw [e]
  obtain ⟨r, r1, hr⟩ := drawFromBits_l0 l hl 9 [] v a1 s1 (by omega) (by simp) (by omega) (by omega) (by omega)
  exact ⟨r, r1, evSome hr⟩
/-! spec_FromBits -/
theorem spec_FromBits_l0 (xs : List Int) (hn : xs.length ≤ 1000000) : ∀ (d : Nat) (out : List Int) (j : Int), 0 ≤ j → j.toNat + d = xs.length → out.length ≤ j →
    Ev (fun k => spec_FromBits.l0 k out xs (xs.length : Int) j) (out ++ onesI j (xs.drop j.toNat), true) := by
  intro d
  induction d with
  | zero =>
    intro out j h0 hd ho
    refine Ev.step (fun k => by rw [spec_FromBits.l0]) ?_
    refine evNeg (by omega) (evEq ?_)
    rw [drop_end _ _ (by omega)]; simp [onesI]
  | succ d ih =>
    intro out j h0 hd ho
    refine Ev.step (fun k => by rw [spec_FromBits.l0]) ?_
    refine evPos (by omega) (evPos (by omega) (evPos (by omega) ?_))
    rw [wr (by omega) (by omega), drop_rd xs j h0 (by omega), onesI]
    by_cases c : rd xs j = 1
    · rw [if_pos c]; exact evPos c (evPos (by omega) (evTo (ih _ _ (by omega) (by omega) (by simp; omega)) (by simp)))
    · rw [if_neg c]; exact evNeg c (ih _ _ (by omega) (by omega) (by omega))
theorem spec_FromBits_ev (l : List Int) (hn : l.length ≤ 35184372088832) : Ev (fun k => spec_FromBits.f k l) (if isBits l = true then (onesI 0 l, true) else ([], false)) := by
  unfold spec_FromBits.f
  refine Ev.bind (chAreBits_ev l hn) ?_
  by_cases c : isBits l = true
  · have := isBits_length c
    exact evPos c (evTo (spec_FromBits_l0 l (by omega) l.length [] 0 (by omega) (by simp) (by simp)) (by rw [if_pos c]; simp))
  · exact evNeg c (evEq (by rw [if_neg c]))
/-! spec_NextCool -/
theorem spec_NextCool_ev (l : List Int) (hn : l.length ≤ 35184372088832) : Ev (fun k => spec_NextCool.f k l) (if isBits l = true then (coolL l, true) else ([], false)) := by
  unfold spec_NextCool.f
  refine Ev.bind (chAreBits_ev l hn) ?_
  by_cases c : isBits l = true
  · rw [if_pos c]; exact evPos c (Ev.bind (chCool_ev l (isBits_length c)) (Ev.now _))
  · rw [if_neg c]; exact evNeg c (Ev.now _)
/-! impl_BitsOf -/
theorem BitsOf_ev (n : Int) (a : List Int) (ha : a.length ≤ 35184372088) :
    Ev (fun k => impl_BitsOf.f k n a) (if isComb n a = true then (bitsL n.toNat a, true) else ([], false)) := by
  unfold impl_BitsOf.f
  refine Ev.bind (IsCombination_ev n a (by omega)) ?_
  by_cases c1 : isComb n a = true
  · rw [if_pos c1]
    obtain ⟨h0, h1, hc⟩ := isComb_parts c1
    obtain ⟨m, rfl⟩ := Int.eq_ofNat_of_zero_le h0
    exact evPos c1 (Ev.bind (bitsOf_ev m a (by omega) (by omega) (comb_bound hc)) (Ev.now _))
  · rw [if_neg c1]; exact evNeg c1 (Ev.now _)
-- list_next cool_run lexI
theorem clTail4 (l : List Int) (hl : l.length ≤ 30) : Ev (fun q => laws_FnCoolLists.j4 q l (if isBits l = true then (onesI 0 l, true) else ([], false)).1 (if isBits l = true then (onesI 0 l, true) else ([], false)).2 false) true := by
  refine Ev.step (fun k => by rw [laws_FnCoolLists.j4]) ?_
  by_cases c : isBits l = true
  · simp only [if_pos c]
    refine evNeg (by simp) (evPos (by simp) ?_)
    have h12 := isBits_length c
    have hb := BitsOf_ev (l.length : Int) (onesI 0 l) (by have := onesI_le l 0; omega)
    have hc : isComb (l.length : Int) (onesI 0 l) = true := by simp only [isComb, Bool.and_eq_true, decide_eq_true_eq]; exact ⟨by omega, onesI_comb l⟩
    rw [if_pos hc, Int.toNat_natCast, bitsL_ones l (isBits_bits c)] at hb
    exact Ev.bind hb (evPos rfl (Ev.bind (uSame_self l (by omega)) (Ev.now _)))
  · simp only [if_neg c]
    exact evNeg (by simp) (evNeg (by simp) (Ev.now _))
theorem clTail3 (l : List Int) (hl : Byt l) : Ev (fun q => laws_FnCoolLists.j3 q l) true := by
  refine Ev.step (fun k => by rw [laws_FnCoolLists.j3]) ?_
  obtain ⟨r, hr, hd⟩ := drawFromBits_ev l hl
  have h1 := FromBits_ev r (by omega)
  have h2 := spec_FromBits_ev r (by omega)
  have h3 := impl_NextCool_ev r (by omega)
  have h4 := spec_NextCool_ev r (by omega)
  have key : ∃ r1 r2, Ev (fun k => spec_CoolRank.f k r) (r1, r2) ∧ Ev (fun k => impl_CoolRank.f k r) (r1, r2) := by
    by_cases c : isBits r = true
    · obtain ⟨R, hR, _⟩ := cool_run r.length (onesI 0 r).length (isBits_length c) (onesI_le r 0)
      exact ⟨_, _, spec_CoolRank_yes r c R hR, CoolRank_yes r c R hR⟩
    · exact ⟨_, _, spec_CoolRank_no r (by omega) c, CoolRank_no r (by omega) c⟩
  obtain ⟨r1, r2, h5, h6⟩ := key
  have e1 : (if isBits r = true then (onesI 0 r, true) else (([] : List Int), false)).1.length ≤ 30 := by
    have := onesI_le r 0
    split <;> simp <;> omega
  have e2 : (if isBits r = true then (coolL r, true) else (([] : List Int), false)).1.length ≤ 30 := by
    have := coolL_length r
    split <;> simp <;> omega
  refine Ev.bind hd (Ev.bind h1 (Ev.bind h2 (Ev.bind h3 (Ev.bind h4 (Ev.bind h6 (Ev.bind h5 ?_))))))
  refine evNeg (by simp) (Ev.bind (uSame_self (if isBits r = true then (onesI 0 r, true) else (([] : List Int), false)).1 (by omega)) (evPos rfl (evNeg (by simp) (Ev.bind (uSame_self (if isBits r = true then (coolL r, true) else (([] : List Int), false)).1 (by omega)) (evPos rfl (evNeg (by simp) ?_))))))
  simp only [bne_self_eq_false]
  exact clTail4 r hr
theorem clLoop (l : List Int) (hl : Byt l) (n k : Nat) (hn : n ≤ 12) (hk : k ≤ n) (R : List (List Int)) (h : coolRun (coolFirst n k) 1000 (coolL (coolFirst n k)) = some R) (hC : R.length + 1 = C n k) (h1000 : C n k ≤ 1001) :
    ∀ (d j : Nat) (seen : List Bool), j + d = C n k → seen.length = C n k → (∀ (q : Nat) (hq : q < seen.length), seen[q] = true → ∃ (i : Nat) (hi : i < (coolFirst n k :: R).length), i < j ∧ lexI n 0 (onesI 0 (coolFirst n k :: R)[i]) = q) →
    Ev (fun q => laws_FnCoolLists.l0 q l (n : Int) (coolFirst n k :: R) (C n k : Int) seen (coolFirst n k :: R) (C n k : Int) (j : Int)) true := by
  have hlen : (coolFirst n k :: R).length = C n k := by simpa using hC
  have hpos : 0 < C n k := by omega
  have hm := member n k hk 1000 R h
  have hne := list_ne (coolFirst n k) 1000 R h
  obtain ⟨L, hL⟩ : ∃ L, L = coolFirst n k :: R := ⟨_, rfl⟩
  rw [← hL]
  rw [← hL] at hlen hm hne
  have hnx : ∀ (i : Nat) (hi : i < L.length), coolL L[i] = L[(i + 1) % L.length]'(Nat.mod_lt _ (by omega)) := by
    subst hL
    exact list_next (coolFirst n k) 1000 R h
  intro d
  induction d with
  | zero =>
    intro j seen hd hs hi
    refine Ev.step (fun k => by rw [laws_FnCoolLists.l0]) ?_
    obtain ⟨m, m0, m1, hnum⟩ := numberOf_ev l hl.1 hl.2
    have ht0 : 0 ≤ Int.tmod m (C n k : Int) := Int.tmod_nonneg _ m0
    have ht1 : Int.tmod m (C n k : Int) < (C n k : Int) := Int.tmod_lt_of_pos _ (by omega)
    refine evNeg (by omega) (Ev.bind hnum (evNeg (by omega) ?_))
    obtain ⟨i, hi'⟩ := Int.eq_ofNat_of_zero_le ht0
    rw [hi'] at ht1 ⊢
    have hi1 : i < L.length := by omega
    have e1 : rd_L1 L (i : Int) = L[i] := by unfold rd_L1; rw [Int.toNat_natCast, List.getD_eq_getElem?_getD, List.getElem?_eq_getElem hi1]; rfl
    obtain ⟨b1, b2, b3⟩ := hm i hi1
    have hr := CoolRank_yes L[i] (B01_isBits b1 (by omega)) R (by rw [b2, b3]; exact h)
    rw [b2, b3, ← hL, placeI_get L i hi1 0 (fun i' h' e => hne i' i h' hi1 e)] at hr
    refine evPos (by omega) (evPos (by omega) ?_)
    rw [e1]
    exact Ev.bind hr (evPos rfl (evPos (by simp) (clTail3 l hl)))
  | succ d ih =>
    intro j seen hd hs hi
    have hj : j < L.length := by omega
    have e1 : rd_L1 L (j : Int) = L[j] := by unfold rd_L1; rw [Int.toNat_natCast, List.getD_eq_getElem?_getD, List.getElem?_eq_getElem hj]; rfl
    obtain ⟨b1, b2, b3⟩ := hm j hj
    have hbits := B01_isBits b1 (by omega)
    have hcomb := onesI_comb L[j]
    rw [b2] at hcomb
    have hlt := lexI_lt hcomb
    rw [b3] at hlt
    have h2 := impl_NextCool_ev L[j] (by omega)
    have h3 := FromBits_ev L[j] (by omega)
    have h4 := CombinationRank_ev n hn (onesI 0 L[j]) hcomb
    rw [if_pos hbits] at h2 h3
    have hmod : (j + 1) % L.length < L.length := Nat.mod_lt _ (by omega)
    have et : Int.tmod ((j : Int) + 1) (C n k : Int) = (((j + 1) % L.length : Nat) : Int) := by
      rw [Int.tmod_eq_emod_of_nonneg (by omega), ← hlen]
      push_cast
      rfl
    have e2 : rd_L1 L (((j + 1) % L.length : Nat) : Int) = coolL L[j] := by
      unfold rd_L1
      rw [Int.toNat_natCast, List.getD_eq_getElem?_getD, List.getElem?_eq_getElem hmod, hnx j hj]; rfl
    refine Ev.step (fun k => by rw [laws_FnCoolLists.l0]) ?_
    refine evPos (by omega) (evPos (by omega) (evPos (by omega) ?_))
    rw [e1, wr (x := (j : Int) + 1) (by omega) (by omega), et, e2]
    refine Ev.bind h2 (Ev.bind h3 (Ev.bind h4 (evPos rfl (evNeg (by omega) (evPos (by omega) (evPos (by omega) (Ev.bind (uSame_self (coolL L[j]) (by rw [coolL_length]; omega)) (evPos rfl (evPos rfl (evPos rfl (evPos (by omega) (evPos (by omega) ?_))))))))))))
    have hq : lexI n 0 (onesI 0 L[j]) < seen.length := by omega
    have hrd : rdOf false seen ((lexI n 0 (onesI 0 L[j]) : Nat) : Int) = seen[lexI n 0 (onesI 0 L[j])] := by
      unfold rdOf
      rw [Int.toNat_natCast, List.getD_eq_getElem?_getD, List.getElem?_eq_getElem hq]; rfl
    rw [hrd]
    refine evNeg (fun ht => ?_) ?_
    · obtain ⟨i, hi1, hij, hr⟩ := hi _ hq ht
      obtain ⟨c1, c2, c3⟩ := hm i hi1
      have hcomb2 := onesI_comb L[i]
      rw [c2] at hcomb2
      have h5 := lexI_inj hcomb2 hcomb (by rw [c3, b3]) hr
      have h6 := onesI_inj _ _ 0 c1 b1 (by rw [c2, b2]) h5
      have := hne i j hi1 hj h6
      omega
    · refine ih (j + 1) _ (by omega) (by simpa using hs) ?_
      intro q hq2 ht
      have ht2 : (seen.set (lexI n 0 (onesI 0 L[j])) true)[q]'(by simpa using hq2) = true := ht
      rw [List.getElem_set] at ht2
      by_cases c : lexI n 0 (onesI 0 L[j]) = q
      · exact ⟨j, hj, by omega, c⟩
      · rw [if_neg c] at ht2
        obtain ⟨i, hi1, hij, hr⟩ := hi q (by simpa using hq2) ht2
        exact ⟨i, hi1, by omega, hr⟩
theorem FnCoolLists : laws_FnCoolLists.Pure := by
  intro l0 l1 hm0 hb0 hw0 hm1 hb1 hw1
  refine Ev.rounds (g := fun q => laws_FnCoolLists.f q l0 l1) ?_
  unfold laws_FnCoolLists.f
  obtain ⟨t, ht, hbig⟩ := big_eq l0 l1
  rw [ht]
  refine evSome ?_
  cases t
  rotate_left
  · exact evPos rfl (Ev.now _)
  obtain ⟨q0, q1⟩ := hbig rfl
  have y0 := byt_of q0 hw0
  have y1 := byt_of q1 hw1
  refine evNeg (by simp) ?_
  obtain ⟨n, k, hd⟩ := drawCoolList_ev l0 y0
  rw [hd]
  refine evSome ?_
  by_cases c : 0 ≤ n ∧ n ≤ 12 ∧ 0 ≤ k ∧ k ≤ n
  · obtain ⟨N, rfl⟩ := Int.eq_ofNat_of_zero_le c.1
    obtain ⟨K, rfl⟩ := Int.eq_ofNat_of_zero_le c.2.2.1
    have hn : N ≤ 12 := by omega
    have hk : K ≤ N := by omega
    obtain ⟨R, hR, hC⟩ := cool_run N K hn hk
    have hs := coolRun_small _ _ _ _ hR
    have hl := coolFirst_length N K
    have h1 := CoolList_ev N K hn hk 1000 (by omega) R hR
    have h2 := spec_CoolList_ev N K hn hk 1000 (by omega) R hR
    refine Ev.bind h1 (Ev.bind h2 (evNeg (by simp) (Ev.bind (uLists_self (coolFirst N K :: R) (by simp only [List.length_cons]; omega) (fun t ht => ?_)) ?_)))
    · rcases List.mem_cons.1 ht with rfl | ht
      · omega
      · have := hs.2 t ht; rw [coolL_length] at this; omega
    refine Ev.step (fun k => by rw [laws_FnCoolLists.j0]) ?_
    refine evNeg (by simp) (evPos rfl (Ev.bind (Binomial_ev N K hn hk) (evPos rfl ?_)))
    have e : (((coolFirst N K :: R).length : Int) != (C N K : Int)) = false := by
      rw [show ((coolFirst N K :: R).length : Int) = (C N K : Int) from by simp only [List.length_cons]; omega, bne_self_eq_false]
    rw [e]
    refine Ev.step (fun k => by rw [laws_FnCoolLists.j1]) ?_
    refine evNeg (by simp) (evPos (by omega) (evPos (by omega) ?_))
    rw [show ((coolFirst N K :: R).length : Int) = (C N K : Int) from by simp only [List.length_cons]; omega, Int.toNat_natCast]
    refine clLoop l1 y1 N K hn hk R hR hC (by omega) (C N K) 0 _ (by omega) (by simp) (fun q hq ht => ?_)
    rw [List.getElem_replicate] at ht
    cases ht
  · have h1 := CoolList_no n k c
    have h2 := spec_CoolList_no n k c
    refine Ev.bind h1 (Ev.bind h2 (evNeg (by simp) (Ev.bind (uLists_self [] (by simp) (by simp)) ?_)))
    refine Ev.step (fun k => by rw [laws_FnCoolLists.j0]) ?_
    exact evNeg (by simp) (evNeg (by simp) (clTail3 l1 y1))

end Go.Proofs.Ytelajnmnbmamhaa.Pure
