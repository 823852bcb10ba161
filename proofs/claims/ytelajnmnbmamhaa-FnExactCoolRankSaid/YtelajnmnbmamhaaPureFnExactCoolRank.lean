/- The pure statement of FnExactCoolRank: for all arguments that fit, the law as a Lean function answers true after enough rounds. -/
import Derived.Test.YtelajnmnbmamhaaMFnExactCoolRankx1
import Derived.Test.YtelajnmnbmamhaaMFnExactCoolRankx2
import Derived.Test.YtelajnmnbmamhaaMFnExactCoolRankx3
import Derived.Test.YtelajnmnbmamhaaMFnExactCoolRankx4
import Derived.Test.YtelajnmnbmamhaaMFnExactCoolRankx5
import Derived.Test.YtelajnmnbmamhaaBase
import Derived.Test.YtelajnmnbmamhaaComb
import Derived.Test.YtelajnmnbmamhaaCool
namespace Go.Proofs.Ytelajnmnbmamhaa.Pure
open Go.RowKit Go.Proofs.Ytelajnmnbmamhaa.MFnExactCoolRank Go.Proofs.YtelajnmnbmamhaaW.PrintWords Go.Proofs.YtelajnmnbmamhaaW.PrintLast Go.Proofs.Ytelajnmnbmamhaa.Base Go.Proofs.Ytelajnmnbmamhaa.Comb Go.Proofs.Ytelajnmnbmamhaa.Cool
set_option linter.unusedVariables false
set_option linter.unusedSimpArgs false

/-! spec_l1In -/
theorem l1In_eq (x a b : Int) : spec_l1In.f x a b = some (decide (a ≤ x ∧ x ≤ b)) := by
  unfold spec_l1In.f
  by_cases h : x ≥ a
  · rw [if_pos h]; have h' : a ≤ x := h; simp [h']
  · rw [if_neg h]; have h' : ¬ a ≤ x := h; simp [h']
/-! spec_l1All -/
theorem l1All_l0 (a b : Int) (xs : List Int) (hn : xs.length ≤ 35184372088832) : ∀ (d : Nat) (j : Int), 0 ≤ j → j.toNat + d = xs.length →
    Ev (fun k => spec_l1All.l0 k a b xs (xs.length : Int) j) ((xs.drop j.toNat).all fun x => decide (a ≤ x ∧ x ≤ b)) := by
  intro d
  induction d with
  | zero =>
    intro j h0 hd
    refine Ev.step (fun k => by rw [spec_l1All.l0]) ?_
    refine evNeg (by omega) (evEq ?_)
    rw [drop_end _ _ (by omega)]; rfl
  | succ d ih =>
    intro j h0 hd
    refine Ev.step (fun k => by rw [spec_l1All.l0]) ?_
    refine evPos (by omega) (evPos (by omega) (evPos (by omega) ?_))
    simp only [l1In_eq, Option.bind_some]
    rw [wr (by omega) (by omega), drop_rd xs j h0 (by omega), List.all_cons]
    by_cases c : a ≤ rd xs j ∧ rd xs j ≤ b
    · exact evPos (by simpa using c) (evTo (ih _ (by omega) (by omega)) (by simp [c]))
    · exact evNeg (by simpa using c) (evEq (by rw [decide_eq_false c]; rfl))
theorem l1All_ev (xs : List Int) (a b : Int) (hn : xs.length ≤ 35184372088832) : Ev (fun k => spec_l1All.f k xs a b) (xs.all fun x => decide (a ≤ x ∧ x ≤ b)) := by
  unfold spec_l1All.f
  exact evTo (l1All_l0 a b xs hn xs.length 0 (by omega) (by simp)) (by simp)
/-! spec_chAreBits -/
theorem chAreBits_ev (l : List Int) (hn : l.length ≤ 35184372088832) : Ev (fun k => spec_chAreBits.f k l) (isBits l) := by
  unfold spec_chAreBits.f
  by_cases c : (l.length : Int) ≤ 12
  · refine evPos c (Ev.bind (l1All_ev l 0 1 hn) (evEq ?_))
    rw [isBits, decide_eq_true (show l.length ≤ 12 by omega), Bool.true_and]
  · refine evNeg c (evEq ?_)
    rw [isBits, decide_eq_false (show ¬ l.length ≤ 12 by omega), Bool.false_and]
/-! spec_l1Same -/
theorem l1Same_l0 (a b : List Int) (hn : a.length ≤ 35184372088832) (hb : a.length = b.length) : ∀ (d : Nat) (j : Int), 0 ≤ j → j.toNat + d = a.length →
    Ev (fun k => spec_l1Same.l0 k a b (a.length : Int) j) (decide (a.drop j.toNat = b.drop j.toNat)) := by
  intro d
  induction d with
  | zero =>
    intro j h0 hd
    refine Ev.step (fun k => by rw [spec_l1Same.l0]) ?_
    refine evNeg (by omega) ?_
    rw [drop_end a j (by omega), drop_end b j (by omega)]
    exact evEq rfl
  | succ d ih =>
    intro j h0 hd
    refine Ev.step (fun k => by rw [spec_l1Same.l0]) ?_
    refine evPos (by omega) (evPos (by omega) (evPos (by omega) (evPos (by omega) ?_)))
    rw [wr (by omega) (by omega), drop_rd a j h0 (by omega), drop_rd b j h0 (by omega)]
    by_cases c : rd a j = rd b j
    · refine evPos c (evTo (ih _ (by omega) (by omega)) ?_)
      simp [c]
    · refine evNeg c (evEq ?_)
      simp [c]
theorem l1Same_ev (a b : List Int) (hn : a.length ≤ 35184372088832) : Ev (fun k => spec_l1Same.f k a b) (decide (a = b)) := by
  unfold spec_l1Same.f
  by_cases hb : a.length = b.length
  · exact evPos (by omega) (l1Same_l0 a b hn hb a.length 0 (by omega) (by simp))
  · refine evNeg (by omega) (evEq ?_)
    exact (decide_eq_false (fun e => hb (by rw [e]))).symm
/-! spec_raPlace -/
theorem raPlace_l0 (l : List Int) (L : List (List Int)) (hL : L.length ≤ 1000000000) (hl : ∀ t ∈ L, t.length ≤ 35184372088832) : ∀ (d : Nat) (j : Int), 0 ≤ j → j.toNat + d = L.length →
    Ev (fun k => spec_raPlace.l0 k l L (L.length : Int) j) (placeI l j (L.drop j.toNat)) := by
  intro d
  induction d with
  | zero =>
    intro j h0 hd
    refine Ev.step (fun k => by rw [spec_raPlace.l0]) ?_
    refine evNeg (by omega) ?_
    rw [drop_end L j (by omega)]
    exact evEq rfl
  | succ d ih =>
    intro j h0 hd
    refine Ev.step (fun k => by rw [spec_raPlace.l0]) ?_
    have hm : rd_L1 L j ∈ L := by
      unfold rd_L1
      rw [List.getD_eq_getElem?_getD, List.getElem?_eq_getElem (show j.toNat < L.length by omega)]
      exact List.getElem_mem _
    refine evPos (by omega) (evPos (by omega) (evPos (by omega) (Ev.bind (l1Same_ev _ l (hl _ hm)) ?_)))
    have hcons : L.drop j.toNat = rd_L1 L j :: L.drop (j + 1).toNat := dropD [] L j h0 (by omega)
    rw [wr (by omega) (by omega), hcons, placeI]
    by_cases c : rd_L1 L j = l
    · rw [if_pos c]; exact evPos (decide_eq_true c) (Ev.now _)
    · rw [if_neg c]; exact evNeg (by simpa using c) (ih _ (by omega) (by omega))
theorem raPlace_ev (L : List (List Int)) (l : List Int) (hL : L.length ≤ 1000000000) (hl : ∀ t ∈ L, t.length ≤ 35184372088832) : Ev (fun k => spec_raPlace.f k L l) (placeI l 0 L) := by
  unfold spec_raPlace.f
  exact evTo (raPlace_l0 l L hL hl L.length 0 (by omega) (by simp)) (by simp)
/-! spec_raUpTo -/
theorem raUpTo_l0 (n : Nat) (hn : n ≤ 1000000000) : ∀ (d : Nat) (j : Int), 0 ≤ j → j.toNat + d = n → Ev (fun k => spec_raUpTo.l0 k (n : Int) (upTo j.toNat) j) (upTo n) := by
  intro d
  induction d with
  | zero =>
    intro j h0 hd
    refine Ev.step (fun k => by rw [spec_raUpTo.l0]) ?_
    exact evNeg (by omega) (evEq (by rw [show j.toNat = n from by omega]))
  | succ d ih =>
    intro j h0 hd
    refine Ev.step (fun k => by rw [spec_raUpTo.l0]) ?_
    refine evPos (by omega) (evPos (by rw [upTo_length]; omega) ?_)
    have h := ih (j + 1) (by omega) (by omega)
    rw [show (j + 1).toNat = j.toNat + 1 from by omega, upTo_succ, Int.toNat_of_nonneg h0] at h
    rw [wr (by omega) (by omega)]
    exact h
theorem raUpTo_ev (n : Nat) (hn : n ≤ 1000000000) : Ev (fun k => spec_raUpTo.f k (n : Int)) (upTo n) := by
  unfold spec_raUpTo.f
  exact raUpTo_l0 n hn n 0 (by omega) (by simp)
/-! spec_chCool -/
theorem chCool_l0 (xs : List Int) (hn : xs.length ≤ 12) : ∀ (d : Nat) (m j : Int), j + 1 = d → (j + 3 ≤ xs.length ∨ d = 0) → m = coolEnd xs (j + 1).toNat (xs.length - 2 - (j + 1).toNat) →
    Ev (fun k => spec_chCool.l0 k xs m j) (coolL xs) := by
  intro d
  induction d with
  | zero =>
    intro m j hj hd hm
    refine Ev.step (fun k => by rw [spec_chCool.l0]) ?_
    refine evNeg (by omega) ?_
    obtain rfl : j = -1 := by omega
    have hm' : m = coolM xs := hm
    have hb := coolM_bound xs
    unfold coolL
    rw [hm']
    by_cases c : coolM xs = 0
    · rw [if_pos c]; exact evPos (by omega) (Ev.now _)
    · rw [if_neg c]
      refine evNeg (by omega) ?_
      rw [wr (x := (coolM xs : Int) - 1) (by omega) (by omega)]
      refine evPos (by omega) (evPos (by omega) (evSome (evPos (by omega) (evPos ?_ (evSome (evPos (by omega) (evPos (by omega) (evPos ?_ (evEq ?_)))))))))
      · simp; omega
      · simp; omega
      · rw [show ((coolM xs : Int) - 1).toNat = coolM xs - 1 from by omega, Int.toNat_natCast]; simp
  | succ d ih =>
    intro m j hj hd hm
    refine Ev.step (fun k => by rw [spec_chCool.l0]) ?_
    have hlen : j + 3 ≤ xs.length := by omega
    refine evPos (by omega) (evPos (by omega) (evPos (by omega) ?_))
    rw [wr (x := j - 1) (by omega) (by omega), wr (x := j + 1) (by omega) (by omega), wr (x := j + 3) (by omega) (by omega)]
    have hs : coolEnd xs (j - 1 + 1).toNat (xs.length - 2 - (j - 1 + 1).toNat) = if rd xs j = 0 ∧ rd xs (j + 1) = 1 then (j + 3).toNat else coolEnd xs (j + 1).toNat (xs.length - 2 - (j + 1).toNat) := by
      have h1 : (j - 1 + 1).toNat = j.toNat := by omega
      rw [h1, show xs.length - 2 - j.toNat = (xs.length - 2 - (j + 1).toNat) + 1 from by omega, coolEnd]
      rw [show ((j.toNat : Nat) : Int) = j from by omega, show j.toNat + 3 = (j + 3).toNat from by omega, show j.toNat + 1 = (j + 1).toNat from by omega]
    by_cases c1 : rd xs j = 0
    · refine evPos c1 (evPos (by omega) (evPos (by omega) ?_))
      by_cases c2 : rd xs (j + 1) = 1
      · refine evPos c2 (ih _ _ (by omega) (by omega) ?_)
        rw [hs, if_pos ⟨c1, c2⟩]; omega
      · refine evNeg c2 (ih _ _ (by omega) (by omega) ?_)
        rw [hs, if_neg (fun h => c2 h.2)]; exact hm
    · refine evNeg c1 (ih _ _ (by omega) (by omega) ?_)
      rw [hs, if_neg (fun h => c1 h.1)]; exact hm
theorem chCool_ev (xs : List Int) (hn : xs.length ≤ 12) : Ev (fun k => spec_chCool.f k xs) (coolL xs) := by
  unfold spec_chCool.f
  rw [wr (by omega) (by omega)]
  by_cases c : xs.length ≤ 2
  · by_cases c3 : xs.length = 2
    · exact chCool_l0 xs hn 0 _ _ (by omega) (by omega) (by rw [show ((xs.length : Int) - 3 + 1).toNat = 0 from by omega, show xs.length - 2 - 0 = 0 from by omega]; rfl)
    · refine Ev.step (fun k => by rw [spec_chCool.l0]) ?_
      refine evNeg (by omega) ?_
      have hm : coolM xs = xs.length := by
        unfold coolM; rw [show xs.length - 2 = 0 from by omega]; rfl
      by_cases c0 : xs.length = 0
      · exact evPos (by omega) (evEq (by unfold coolL; rw [hm, if_pos c0]))
      · have hcl : coolL xs = rd xs ((xs.length : Int) - 1) :: (xs.take (xs.length - 1) ++ xs.drop xs.length) := by unfold coolL; rw [hm, if_neg c0]
        rw [hcl]
        have c1 : xs.length = 1 := by omega
        refine evNeg (by omega) ?_
        rw [wr (x := (xs.length : Int) - 1) (by omega) (by omega)]
        refine evPos (by omega) (evPos (by omega) (evSome (evPos (by omega) (evPos ?_ (evSome (evPos (by omega) (evPos (by omega) (evPos ?_ (evEq ?_)))))))))
        · simp; omega
        · simp; omega
        · rw [show ((xs.length : Int) - 1).toNat = xs.length - 1 from by omega, Int.toNat_natCast]; simp
  · refine chCool_l0 xs hn (xs.length - 2) _ _ (by omega) (by omega) ?_
    rw [show xs.length - 2 - ((xs.length : Int) - 3 + 1).toNat = 0 from by omega]; rfl
/-! spec_chBits -/
theorem chBits_l0 (n : Nat) (xs : List Int) (hn : xs.length ≤ 35184372088832) (hb : ∀ y ∈ xs, 0 ≤ y ∧ y < n) : ∀ (d : Nat) (out : List Int) (j : Int), 0 ≤ j → j.toNat + d = xs.length → out.length = n →
    Ev (fun k => spec_chBits.l0 k out xs (xs.length : Int) j) (setBits out (xs.drop j.toNat)) := by
  intro d
  induction d with
  | zero =>
    intro out j h0 hd ho
    refine Ev.step (fun k => by rw [spec_chBits.l0]) ?_
    refine evNeg (by omega) (evEq ?_)
    rw [drop_end _ _ (by omega)]; rfl
  | succ d ih =>
    intro out j h0 hd ho
    refine Ev.step (fun k => by rw [spec_chBits.l0]) ?_
    have hm : rd xs j ∈ xs := by rw [rd_get xs j (by omega)]; exact List.getElem_mem _
    have := hb _ hm
    refine evPos (by omega) (evPos (by omega) (evPos (by omega) (evPos (by omega) (evPos (by omega) ?_))))
    rw [wr (by omega) (by omega), drop_rd xs j h0 (by omega), setBits]
    exact ih _ _ (by omega) (by omega) (by simpa using ho)
theorem chBits_ev (n : Nat) (xs : List Int) (hn : xs.length ≤ 35184372088832) (hN : n ≤ 1000000) (hb : ∀ y ∈ xs, 0 ≤ y ∧ y < n) : Ev (fun k => spec_chBits.f k (n : Int) xs) (bitsL n xs) := by
  unfold spec_chBits.f
  refine evPos (by omega) (evPos (by simp; omega) ?_)
  exact evTo (chBits_l0 n xs hn hb xs.length _ 0 (by omega) (by simp) (by simp)) (by simp [bitsL])
/-! spec_chCoolList -/
theorem chCoolList_l0 (f : List Int) (hf : f.length ≤ 12) : ∀ (m : Nat) (out : List (List Int)) (l : List Int) (R : List (List Int)), l.length ≤ 12 → out.length + m ≤ 100000 → coolRun f m l = some R →
    Ev (fun q => spec_chCoolList.l0 q f out l) (out ++ R) := by
  intro m
  induction m with
  | zero => intro out l R _ _ h; simp [coolRun] at h
  | succ m ih =>
    intro out l R hl ho h
    refine Ev.step (fun q => by rw [spec_chCoolList.l0]) ?_
    refine Ev.bind (l1Same_ev l f (by omega)) ?_
    rw [coolRun] at h
    by_cases c : l = f
    · rw [if_pos c] at h; injection h with h; subst h
      exact evPos (by simpa using c) (evEq (by simp))
    · rw [if_neg c] at h
      obtain ⟨L1, h1, rfl⟩ := Option.map_eq_some_iff.1 h
      refine evNeg (by simpa using c) (evPos (by omega) (Ev.bind (chCool_ev l hl) ?_))
      refine evTo (ih (out ++ [l]) (coolL l) L1 (by rw [coolL_length]; exact hl) (by simp; omega) h1) ?_
      simp
theorem chCoolList_ev (n k : Nat) (hn : n ≤ 12) (hk : k ≤ n) (m : Nat) (hm : m ≤ 10000) (R : List (List Int)) (h : coolRun (coolFirst n k) m (coolL (coolFirst n k)) = some R) :
    Ev (fun q => spec_chCoolList.f q (n : Int) (k : Int)) (coolFirst n k :: R) := by
  unfold spec_chCoolList.f
  have hl := coolFirst_length n k
  have hu := upTo_length k
  refine Ev.bind (raUpTo_ev k (by omega)) (Ev.bind (chBits_ev n (upTo k) (by omega) (by omega) (fun y hy => by have := mem_upTo.1 hy; omega)) (Ev.bind (chCool_ev (bitsL n (upTo k)) (by rw [bitsL_length]; exact hn)) ?_))
  exact chCoolList_l0 (coolFirst n k) (by omega) m [coolFirst n k] (coolL (coolFirst n k)) R (by rw [coolL_length]; omega) (by simp; omega) h
/-! spec_CoolRank -/
theorem spec_CoolRank_l0 (l : List Int) (hl : l.length ≤ 12) (hb : ∀ y ∈ l, 0 ≤ y ∧ y ≤ 1) (r : Int × Bool) (S : Int) (hS : S = sumI l)
    (H : Ev (fun q => (spec_chCoolList.f q (l.length : Int) S).bind fun t => (spec_raPlace.f q t l).bind fun u => some (u, true)) r) : ∀ (d : Nat) (s j : Int), 0 ≤ j → j.toNat + d = l.length → 0 ≤ s → s ≤ j → s + sumI (l.drop j.toNat) = S →
    Ev (fun q => spec_CoolRank.l0 q l s l (l.length : Int) j) r := by
  intro d
  induction d with
  | zero =>
    intro s j h0 hd hs0 hs1 hs
    refine Ev.step (fun q => by rw [spec_CoolRank.l0]) ?_
    refine evNeg (by omega) ?_
    rw [drop_end _ _ (by omega)] at hs
    have hs' : s = S := by simpa [sumI] using hs
    rw [hs']; exact H
  | succ d ih =>
    intro s j h0 hd hs0 hs1 hs
    refine Ev.step (fun q => by rw [spec_CoolRank.l0]) ?_
    have hm : rd l j ∈ l := by rw [rd_get l j (by omega)]; exact List.getElem_mem _
    have := hb _ hm
    refine evPos (by omega) (evPos (by omega) (evPos (by omega) ?_))
    rw [wr (x := s + rd l j) (by omega) (by omega), wr (x := j + 1) (by omega) (by omega)]
    refine ih _ _ (by omega) (by omega) (by omega) (by omega) ?_
    rw [drop_rd l j h0 (by omega), sumI_cons] at hs
    omega
theorem spec_CoolRank_yes (l : List Int) (hb : isBits l = true) (R : List (List Int)) (hR : coolRun (coolFirst l.length (onesI 0 l).length) 1000 (coolL (coolFirst l.length (onesI 0 l).length)) = some R) :
    Ev (fun q => spec_CoolRank.f q l) (placeI l 0 (coolFirst l.length (onesI 0 l).length :: R), true) := by
  unfold spec_CoolRank.f
  have h12 := isBits_length hb
  have hbits := isBits_bits hb
  have hk := onesI_le l 0
  have hlen := onesI_length l 0 hbits
  have hs := coolRun_small _ _ _ _ hR
  have hf := coolFirst_length l.length (onesI 0 l).length
  refine Ev.bind (chAreBits_ev l (by omega)) (evPos hb ?_)
  refine spec_CoolRank_l0 l h12 hbits _ ((onesI 0 l).length : Int) hlen ?_ l.length 0 0 (by omega) (by simp) (by omega) (by omega) (by simp; omega)
  refine Ev.bind (chCoolList_ev l.length (onesI 0 l).length h12 hk 1000 (by omega) R hR) (Ev.bind (raPlace_ev _ _ (by simp only [List.length_cons]; omega) (fun t ht => ?_)) (Ev.now _))
  rcases List.mem_cons.1 ht with rfl | ht
  · omega
  · have := hs.2 t ht; rw [coolL_length] at this; omega
theorem spec_CoolRank_no (l : List Int) (hn : l.length ≤ 35184372088832) (hb : ¬ isBits l = true) : Ev (fun q => spec_CoolRank.f q l) (0, false) := by
  unfold spec_CoolRank.f
  exact Ev.bind (chAreBits_ev l hn) (evNeg hb (Ev.now _))
/-! laws_toIntS -/
theorem toIntS_l0 (x0 : List Int) (hn : x0.length ≤ 35184372088832) : ∀ (d : Nat) (x3 : List Int) (j : Int), 0 ≤ j → j.toNat + d = x0.length → x3.length = x0.length → x3.take j.toNat = x0.take j.toNat →
    Ev (fun k => laws_toIntS.l0 k x0 x3 j) x0 := by
  intro d
  induction d with
  | zero =>
    intro x3 j h0 hd hl ht
    refine Ev.step (fun k => by rw [laws_toIntS.l0]) ?_
    refine evNeg (by omega) ?_
    rw [take_end x0 j (by omega), take_end x3 j (by omega)] at ht
    exact evEq ht
  | succ d ih =>
    intro x3 j h0 hd hl ht
    refine Ev.step (fun k => by rw [laws_toIntS.l0]) ?_
    refine evPos (by omega) (evPos (by omega) (evPos (by omega) ?_))
    rw [wr (by omega) (by omega)]
    refine ih _ _ (by omega) (by omega) (by simpa using hl) ?_
    rw [set_takeI x3 j _ h0 (by omega), take_rd x0 j h0 (by omega), ht]
theorem toIntS_ev (l : List Int) (hn : l.length ≤ 35184372088832) : Ev (fun k => laws_toIntS.f k l) l := by
  unfold laws_toIntS.f
  refine evPos (by omega) (evPos (by simpa using hn) ?_)
  exact toIntS_l0 l hn l.length _ 0 (by omega) (by simp) (by simp) (by simp)
/-! impl_within -/
theorem within_eq (x a b : Int) : impl_within.f x a b = some (decide (a ≤ x ∧ x ≤ b)) := by
  unfold impl_within.f
  by_cases h : x ≥ a
  · rw [if_pos h]; have h' : a ≤ x := h; simp [h']
  · rw [if_neg h]; have h' : ¬ a ≤ x := h; simp [h']
/-! impl_allWithin -/
theorem allWithin_l0 (a b : Int) (xs : List Int) (hn : xs.length ≤ 35184372088832) : ∀ (d : Nat) (j : Int), 0 ≤ j → j.toNat + d = xs.length →
    Ev (fun k => impl_allWithin.l0 k a b xs (xs.length : Int) j) ((xs.drop j.toNat).all fun x => decide (a ≤ x ∧ x ≤ b)) := by
  intro d
  induction d with
  | zero =>
    intro j h0 hd
    refine Ev.step (fun k => by rw [impl_allWithin.l0]) ?_
    refine evNeg (by omega) (evEq ?_)
    rw [drop_end _ _ (by omega)]; rfl
  | succ d ih =>
    intro j h0 hd
    refine Ev.step (fun k => by rw [impl_allWithin.l0]) ?_
    refine evPos (by omega) (evPos (by omega) (evPos (by omega) ?_))
    simp only [within_eq, Option.bind_some]
    rw [wr (by omega) (by omega), drop_rd xs j h0 (by omega), List.all_cons]
    by_cases c : a ≤ rd xs j ∧ rd xs j ≤ b
    · exact evPos (by simpa using c) (evTo (ih _ (by omega) (by omega)) (by simp [c]))
    · exact evNeg (by simpa using c) (evEq (by rw [decide_eq_false c]; rfl))
theorem allWithin_ev (xs : List Int) (a b : Int) (hn : xs.length ≤ 35184372088832) : Ev (fun k => impl_allWithin.f k xs a b) (xs.all fun x => decide (a ≤ x ∧ x ≤ b)) := by
  unfold impl_allWithin.f
  exact evTo (allWithin_l0 a b xs hn xs.length 0 (by omega) (by simp)) (by simp)
/-! impl_areBits -/
theorem areBits_ev (l : List Int) (hn : l.length ≤ 35184372088832) : Ev (fun k => impl_areBits.f k l) (isBits l) := by
  unfold impl_areBits.f
  by_cases c : (l.length : Int) ≤ 12
  · refine evPos c (Ev.bind (allWithin_ev l 0 1 hn) (evEq ?_))
    rw [isBits, decide_eq_true (show l.length ≤ 12 by omega), Bool.true_and]
  · refine evNeg c (evEq ?_)
    rw [isBits, decide_eq_false (show ¬ l.length ≤ 12 by omega), Bool.false_and]
/-! impl_FromBits -/
theorem FromBits_l0 (xs : List Int) (hn : xs.length ≤ 1000000) : ∀ (d : Nat) (out : List Int) (j : Int), 0 ≤ j → j.toNat + d = xs.length → out.length ≤ j →
    Ev (fun k => impl_FromBits.l0 k out xs (xs.length : Int) j) (out ++ onesI j (xs.drop j.toNat), true) := by
  intro d
  induction d with
  | zero =>
    intro out j h0 hd ho
    refine Ev.step (fun k => by rw [impl_FromBits.l0]) ?_
    refine evNeg (by omega) (evEq ?_)
    rw [drop_end _ _ (by omega)]; simp [onesI]
  | succ d ih =>
    intro out j h0 hd ho
    refine Ev.step (fun k => by rw [impl_FromBits.l0]) ?_
    refine evPos (by omega) (evPos (by omega) (evPos (by omega) ?_))
    rw [wr (by omega) (by omega), drop_rd xs j h0 (by omega), onesI]
    by_cases c : rd xs j = 1
    · rw [if_pos c]; exact evPos c (evPos (by omega) (evTo (ih _ _ (by omega) (by omega) (by simp; omega)) (by simp)))
    · rw [if_neg c]; exact evNeg c (ih _ _ (by omega) (by omega) (by omega))
theorem FromBits_ev (l : List Int) (hn : l.length ≤ 35184372088832) : Ev (fun k => impl_FromBits.f k l) (if isBits l = true then (onesI 0 l, true) else ([], false)) := by
  unfold impl_FromBits.f
  refine Ev.bind (areBits_ev l hn) ?_
  by_cases c : isBits l = true
  · have := isBits_length c
    exact evPos c (evTo (FromBits_l0 l (by omega) l.length [] 0 (by omega) (by simp) (by simp)) (by rw [if_pos c]; simp))
  · exact evNeg c (evEq (by rw [if_neg c]))
/-! slices_Equal_int_int -/
theorem slicesEqual_l0 (a b : List Int) (hn : a.length ≤ 35184372088832) (hb : a.length = b.length) : ∀ (d : Nat) (j : Int), 0 ≤ j → j.toNat + d = a.length →
    Ev (fun k => slices_Equal_int_int.l0 k a b (a.length : Int) j) (decide (a.drop j.toNat = b.drop j.toNat)) := by
  intro d
  induction d with
  | zero =>
    intro j h0 hd
    refine Ev.step (fun k => by rw [slices_Equal_int_int.l0]) ?_
    refine evNeg (by omega) ?_
    rw [drop_end a j (by omega), drop_end b j (by omega)]
    exact evEq rfl
  | succ d ih =>
    intro j h0 hd
    refine Ev.step (fun k => by rw [slices_Equal_int_int.l0]) ?_
    refine evPos (by omega) (evPos (by omega) (evPos (by omega) (evPos (by omega) ?_)))
    rw [wr (by omega) (by omega), drop_rd a j h0 (by omega), drop_rd b j h0 (by omega)]
    by_cases c : rd a j = rd b j
    · refine evPos c (evTo (ih _ (by omega) (by omega)) ?_)
      simp [c]
    · refine evNeg c (evEq ?_)
      simp [c]
theorem slicesEqual_ev (a b : List Int) (hn : a.length ≤ 35184372088832) : Ev (fun k => slices_Equal_int_int.f k a b) (decide (a = b)) := by
  unfold slices_Equal_int_int.f
  by_cases hb : a.length = b.length
  · exact evPos (by omega) (slicesEqual_l0 a b hn hb a.length 0 (by omega) (by simp))
  · refine evNeg (by omega) (evEq ?_)
    exact (decide_eq_false (fun e => hb (by rw [e]))).symm
/-! impl_identity -/
theorem identity_l0 (n : Nat) (hn : n ≤ 1000000000) : ∀ (d : Nat) (j : Int), 0 ≤ j → j.toNat + d = n → Ev (fun k => impl_identity.l0 k (upTo j.toNat) (n : Int) j) (upTo n) := by
  intro d
  induction d with
  | zero =>
    intro j h0 hd
    refine Ev.step (fun k => by rw [impl_identity.l0]) ?_
    exact evNeg (by omega) (evEq (by rw [show j.toNat = n from by omega]))
  | succ d ih =>
    intro j h0 hd
    refine Ev.step (fun k => by rw [impl_identity.l0]) ?_
    refine evPos (by omega) (evPos (by rw [upTo_length]; omega) ?_)
    have h := ih (j + 1) (by omega) (by omega)
    rw [show (j + 1).toNat = j.toNat + 1 from by omega, upTo_succ, Int.toNat_of_nonneg h0] at h
    rw [wr (by omega) (by omega)]
    exact h
theorem identity_ev (n : Nat) (hn : n ≤ 1000000000) : Ev (fun k => impl_identity.f k (n : Int)) (upTo n) := by
  unfold impl_identity.f
  exact identity_l0 n hn n 0 (by omega) (by simp)
/-! impl_copied -/
theorem copied_eq (l : List Int) (hn : l.length ≤ 10000000000000) : impl_copied.f l = some l := by
  unfold impl_copied.f
  simp only [Option.bind_some, List.nil_append, List.length_nil, Nat.zero_add]
  rw [if_pos (by omega)]
/-! impl_cool -/
theorem cool_l1 (xs : List Int) (hn : xs.length ≤ 12) (e : Nat) (he : e ≤ xs.length) (h1 : 1 ≤ e) : ∀ (d : Nat) (out : List Int) (j : Int), 1 ≤ j → j.toNat + d = e → out = rd xs 0 :: (xs.take (j.toNat - 1) ++ xs.drop j.toNat) →
    Ev (fun k => impl_cool.l1 k xs (e : Int) out j) (rd xs (e - 1) :: (xs.take (e - 1) ++ xs.drop e)) := by
  intro d
  induction d with
  | zero =>
    intro out j h0 hd ho
    refine Ev.step (fun k => by rw [impl_cool.l1]) ?_
    have hl : out.length = xs.length := by rw [ho]; simp; omega
    rw [wr (x := (e : Int) - 1) (by omega) (by omega)]
    refine evNeg (by omega) (evPos (by omega) (evPos (by omega) (evPos (by omega) (evPos (by omega) (evEq ?_)))))
    rw [ho, show j.toNat = e from by omega]; rfl
  | succ d ih =>
    intro out j h0 hd ho
    refine Ev.step (fun k => by rw [impl_cool.l1]) ?_
    have hl : out.length = xs.length := by rw [ho]; simp; omega
    rw [wr (x := j - 1) (by omega) (by omega), wr (x := j + 1) (by omega) (by omega)]
    refine evPos (by omega) (evPos (by omega) (evPos (by omega) (evPos (by omega) (evPos (by omega) ?_))))
    refine ih _ _ (by omega) (by omega) ?_
    rw [ho]
    obtain ⟨i, rfl⟩ : ∃ i : Nat, j = i + 1 := ⟨j.toNat - 1, by omega⟩
    rw [show ((i : Int) + 1 - 1) = (i : Int) from by omega, show ((i : Int) + 1).toNat = i + 1 from by omega, show ((i : Int) + 1 + 1).toNat = i + 2 from by omega]
    have hi : i < xs.length := by omega
    have hi2 : i + 1 < xs.length := by omega
    simp only [List.set_cons_succ, Nat.add_sub_cancel]
    congr 1
    rw [rd_get xs i (by simpa using hi), show i + 2 - 1 = i + 1 from by omega]
    rw [List.drop_eq_getElem_cons hi2, List.set_append_right _ _ (by rw [List.length_take]; omega)]
    simp only [List.length_take, Int.toNat_natCast]
    rw [show i - min i xs.length = 0 from by omega, List.set_cons_zero, List.take_succ_eq_append_getElem hi, List.append_assoc]
    rfl
theorem cool_j1 (xs : List Int) (hn : xs.length ≤ 12) (e : Int) (he : e = coolM xs) : Ev (fun k => impl_cool.j1 k xs e) (coolL xs) := by
  subst he
  have hb := coolM_bound xs
  refine Ev.step (fun k => by rw [impl_cool.j1]) ?_
  simp only [copied_eq xs (by omega), Option.bind_some]
  unfold coolL
  by_cases c : coolM xs = 0
  · rw [if_pos c]
    refine Ev.step (fun k => by rw [impl_cool.l1]) ?_
    exact evNeg (by omega) (evNeg (by omega) (evEq (List.length_eq_zero_iff.1 (by omega))))
  · rw [if_neg c]
    refine evTo (cool_l1 xs hn (coolM xs) (by omega) (by omega) (coolM xs - 1) xs 1 (by omega) (by omega) ?_) ?_
    · cases xs with
      | nil => simp at hb; omega
      | cons x t => rfl
    · rfl
theorem cool_l0 (xs : List Int) (hn : xs.length ≤ 12) (M : Nat) (hM : M = coolM xs) : ∀ (d : Nat) (j : Int), 2 ≤ j → j.toNat + d = xs.length → M = coolEnd xs (j - 2).toNat (xs.length - 2 - (j - 2).toNat) →
    Ev (fun k => impl_cool.l0 k xs (xs.length : Int) j) (coolL xs) := by
  intro d
  induction d with
  | zero =>
    intro j h0 hd hm
    refine Ev.step (fun k => by rw [impl_cool.l0]) ?_
    refine evNeg (by omega) (cool_j1 xs hn _ ?_)
    rw [← hM, hm, show xs.length - 2 - (j - 2).toNat = 0 from by omega]; rfl
  | succ d ih =>
    intro j h0 hd hm
    refine Ev.step (fun k => by rw [impl_cool.l0]) ?_
    rw [wr (x := j - 2) (by omega) (by omega), wr (x := j - 1) (by omega) (by omega), wr (x := j + 1) (by omega) (by omega)]
    rw [show xs.length - 2 - (j - 2).toNat = (xs.length - 2 - (j + 1 - 2).toNat) + 1 from by omega, coolEnd] at hm
    rw [show (((j - 2).toNat : Nat) : Int) = j - 2 from by omega, show j - 2 + 1 = j - 1 from by omega, show (j - 2).toNat + 1 = (j + 1 - 2).toNat from by omega] at hm
    refine evPos (by omega) (evPos (by omega) (evPos (by omega) ?_))
    by_cases c1 : rd xs (j - 2) = 0
    · refine evPos c1 (evPos (by omega) (evPos (by omega) ?_))
      by_cases c2 : rd xs (j - 1) = 1
      · refine evPos c2 (cool_j1 xs hn _ ?_)
        rw [← hM, hm, if_pos ⟨c1, c2⟩]; omega
      · refine evNeg c2 (ih _ (by omega) (by omega) ?_)
        rw [hm, if_neg (fun h => c2 h.2)]
    · refine evNeg c1 (ih _ (by omega) (by omega) ?_)
      rw [hm, if_neg (fun h => c1 h.1)]
theorem cool_ev (xs : List Int) (hn : xs.length ≤ 12) : Ev (fun k => impl_cool.f k xs) (coolL xs) := by
  unfold impl_cool.f
  by_cases c : xs.length < 2
  · refine Ev.step (fun k => by rw [impl_cool.l0]) ?_
    refine evNeg (by omega) (cool_j1 xs hn _ ?_)
    unfold coolM; rw [show xs.length - 2 = 0 from by omega]; rfl
  · exact cool_l0 xs hn (coolM xs) rfl (xs.length - 2) 2 (by omega) (by omega) rfl
/-! impl_bitsOf -/
theorem bitsOf_l0 (n : Nat) (xs : List Int) (hn : xs.length ≤ 35184372088832) (hb : ∀ y ∈ xs, 0 ≤ y ∧ y < n) : ∀ (d : Nat) (out : List Int) (j : Int), 0 ≤ j → j.toNat + d = xs.length → out.length = n →
    Ev (fun k => impl_bitsOf.l0 k out xs (xs.length : Int) j) (setBits out (xs.drop j.toNat)) := by
  intro d
  induction d with
  | zero =>
    intro out j h0 hd ho
    refine Ev.step (fun k => by rw [impl_bitsOf.l0]) ?_
    refine evNeg (by omega) (evEq ?_)
    rw [drop_end _ _ (by omega)]; rfl
  | succ d ih =>
    intro out j h0 hd ho
    refine Ev.step (fun k => by rw [impl_bitsOf.l0]) ?_
    have hm : rd xs j ∈ xs := by rw [rd_get xs j (by omega)]; exact List.getElem_mem _
    have := hb _ hm
    refine evPos (by omega) (evPos (by omega) (evPos (by omega) (evPos (by omega) (evPos (by omega) ?_))))
    rw [wr (by omega) (by omega), drop_rd xs j h0 (by omega), setBits]
    exact ih _ _ (by omega) (by omega) (by simpa using ho)
theorem bitsOf_ev (n : Nat) (xs : List Int) (hn : xs.length ≤ 35184372088832) (hN : n ≤ 1000000) (hb : ∀ y ∈ xs, 0 ≤ y ∧ y < n) : Ev (fun k => impl_bitsOf.f k (n : Int) xs) (bitsL n xs) := by
  unfold impl_bitsOf.f
  refine evPos (by omega) (evPos (by simp; omega) ?_)
  exact evTo (bitsOf_l0 n xs hn hb xs.length _ 0 (by omega) (by simp) (by simp)) (by simp [bitsL])
/-! impl_coolList -/
theorem coolList_l0 (f : List Int) (hf : f.length ≤ 12) : ∀ (m : Nat) (out : List (List Int)) (l : List Int) (R : List (List Int)), l.length ≤ 12 → out.length + m ≤ 100000 → coolRun f m l = some R →
    Ev (fun q => impl_coolList.l0 q f out l) (out ++ R) := by
  intro m
  induction m with
  | zero => intro out l R _ _ h; simp [coolRun] at h
  | succ m ih =>
    intro out l R hl ho h
    refine Ev.step (fun q => by rw [impl_coolList.l0]) ?_
    refine Ev.bind (slicesEqual_ev l f (by omega)) ?_
    rw [coolRun] at h
    by_cases c : l = f
    · rw [if_pos c] at h; injection h with h; subst h
      exact evPos (by simpa using c) (evEq (by simp))
    · rw [if_neg c] at h
      obtain ⟨L1, h1, rfl⟩ := Option.map_eq_some_iff.1 h
      refine evNeg (by simpa using c) (evPos (by omega) (Ev.bind (cool_ev l hl) ?_))
      refine evTo (ih (out ++ [l]) (coolL l) L1 (by rw [coolL_length]; exact hl) (by simp; omega) h1) ?_
      simp
theorem coolList_ev (n k : Nat) (hn : n ≤ 12) (hk : k ≤ n) (m : Nat) (hm : m ≤ 10000) (R : List (List Int)) (h : coolRun (coolFirst n k) m (coolL (coolFirst n k)) = some R) :
    Ev (fun q => impl_coolList.f q (n : Int) (k : Int)) (coolFirst n k :: R) := by
  unfold impl_coolList.f
  have hl := coolFirst_length n k
  have hu := upTo_length k
  refine Ev.bind (identity_ev k (by omega)) (Ev.bind (bitsOf_ev n (upTo k) (by omega) (by omega) (fun y hy => by have := mem_upTo.1 hy; omega)) (Ev.bind (cool_ev (bitsL n (upTo k)) (by rw [bitsL_length]; exact hn)) ?_))
  exact coolList_l0 (coolFirst n k) (by omega) m [coolFirst n k] (coolL (coolFirst n k)) R (by rw [coolL_length]; omega) (by simp; omega) h
/-! impl_CoolRank -/
theorem CoolRank_i0 (l : List Int) (L : List (List Int)) (hL : L.length ≤ 1000000000) (hl : ∀ t ∈ L, t.length ≤ 35184372088832) : ∀ (d : Nat) (j : Int), 0 ≤ j → j.toNat + d = L.length →
    Ev (fun k => impl_CoolRank.i0 k l L j) (placeI l j (L.drop j.toNat)) := by
  intro d
  induction d with
  | zero =>
    intro j h0 hd
    refine Ev.step (fun k => by rw [impl_CoolRank.i0]) ?_
    refine evNeg (by omega) ?_
    rw [drop_end L j (by omega)]
    exact evEq rfl
  | succ d ih =>
    intro j h0 hd
    refine Ev.step (fun k => by rw [impl_CoolRank.i0]) ?_
    have hm : rd_L1 L j ∈ L := by
      unfold rd_L1
      rw [List.getD_eq_getElem?_getD, List.getElem?_eq_getElem (show j.toNat < L.length by omega)]
      exact List.getElem_mem _
    refine evPos (by omega) (evPos (by omega) (Ev.bind (slicesEqual_ev _ l (hl _ hm)) ?_))
    have hcons : L.drop j.toNat = rd_L1 L j :: L.drop (j + 1).toNat := dropD [] L j h0 (by omega)
    rw [wr (by omega) (by omega), hcons, placeI]
    by_cases c : rd_L1 L j = l
    · rw [if_pos c]; exact evPos (decide_eq_true c) (Ev.now _)
    · rw [if_neg c]; exact evNeg (by simpa using c) (ih _ (by omega) (by omega))
theorem CoolRank_yes (l : List Int) (hb : isBits l = true) (R : List (List Int)) (hR : coolRun (coolFirst l.length (onesI 0 l).length) 1000 (coolL (coolFirst l.length (onesI 0 l).length)) = some R) :
    Ev (fun q => impl_CoolRank.f q l) (placeI l 0 (coolFirst l.length (onesI 0 l).length :: R), true) := by
  unfold impl_CoolRank.f
  have h12 := isBits_length hb
  have hk := onesI_le l 0
  have hs := coolRun_small _ _ _ _ hR
  have hf := coolFirst_length l.length (onesI 0 l).length
  refine Ev.bind (FromBits_ev l (by omega)) ?_
  rw [if_pos hb]
  refine evPos rfl (Ev.bind (coolList_ev l.length (onesI 0 l).length h12 hk 1000 (by omega) R hR) (Ev.bind ?_ (Ev.now _)))
  refine evTo (CoolRank_i0 l (coolFirst l.length (onesI 0 l).length :: R) (by simp only [List.length_cons]; omega) (fun t ht => ?_) (coolFirst l.length (onesI 0 l).length :: R).length 0 (by omega) (by simp)) (by simp)
  rcases List.mem_cons.1 ht with rfl | ht
  · omega
  · have := hs.2 t ht; rw [coolL_length] at this; omega
theorem CoolRank_no (l : List Int) (hn : l.length ≤ 35184372088832) (hb : ¬ isBits l = true) : Ev (fun q => impl_CoolRank.f q l) (0, false) := by
  unfold impl_CoolRank.f
  refine Ev.bind (FromBits_ev l hn) ?_
  rw [if_neg hb]
  exact evNeg (by simp) (Ev.now _)
/-! laws_eqIntS -/
theorem eqIntS_l0 (a b : List Int) (hn : a.length ≤ 35184372088832) (hb : a.length = b.length) : ∀ (d : Nat) (j : Int), 0 ≤ j → j.toNat + d = a.length →
    Ev (fun k => laws_eqIntS.l0 k a b j) (decide (a.drop j.toNat = b.drop j.toNat)) := by
  intro d
  induction d with
  | zero =>
    intro j h0 hd
    refine Ev.step (fun k => by rw [laws_eqIntS.l0]) ?_
    refine evNeg (by omega) ?_
    rw [drop_end a j (by omega), drop_end b j (by omega)]
    exact evEq rfl
  | succ d ih =>
    intro j h0 hd
    refine Ev.step (fun k => by rw [laws_eqIntS.l0]) ?_
    refine evPos (by omega) (evPos (by omega) (evPos (by omega) ?_))
    rw [wr (by omega) (by omega), drop_rd a j h0 (by omega), drop_rd b j h0 (by omega)]
    by_cases c : rd a j = rd b j
    · refine evPos c (evTo (ih _ (by omega) (by omega)) ?_)
      simp [c]
    · refine evNeg c (evEq ?_)
      simp [c]
theorem eqIntS_ev (a b : List Int) (hn : a.length ≤ 35184372088832) : Ev (fun k => laws_eqIntS.f k a b) (decide (a = b)) := by
  unfold laws_eqIntS.f
  by_cases hb : a.length = b.length
  · exact evPos (by omega) (eqIntS_l0 a b hn hb a.length 0 (by omega) (by simp))
  · refine evNeg (by omega) (evEq ?_)
    exact (decide_eq_false (fun e => hb (by rw [e]))).symm
theorem eqIntS_self (a : List Int) (hn : a.length ≤ 35184372088832) : Ev (fun k => laws_eqIntS.f k a a) true := evTo (eqIntS_ev a a hn) (by simp)
theorem FnExactCoolRank : laws_FnExactCoolRank.Pure := by
  intro l _ hl8 _
  refine Ev.rounds (g := fun q => laws_FnExactCoolRank.f q l) ?_
  unfold laws_FnExactCoolRank.f
  by_cases hbig : (l.length : Int) > 1048576
  · exact evPos hbig (Ev.now _)
  refine evNeg hbig ?_
  have key : ∃ r1 r2, Ev (fun k => spec_CoolRank.f k l) (r1, r2) ∧ Ev (fun k => impl_CoolRank.f k l) (r1, r2) := by
    by_cases c : isBits l = true
    · obtain ⟨R, hR, _⟩ := cool_run l.length (onesI 0 l).length (isBits_length c) (onesI_le l 0)
      exact ⟨_, _, spec_CoolRank_yes l c R hR, CoolRank_yes l c R hR⟩
    · exact ⟨_, _, spec_CoolRank_no l (by omega) c, CoolRank_no l (by omega) c⟩
  obtain ⟨r1, r2, hs, hi⟩ := key
  repeat (first
    | (with_reducible exact Ev.now _)
    | (with_reducible refine Ev.bind hs ?_)
    | (with_reducible refine Ev.bind hi ?_)
    | (with_reducible refine Ev.bind (toIntS_ev _ (by omega)) ?_)
    | (with_reducible refine Ev.bind (eqIntS_self _ (by omega)) ?_)
    | (with_reducible refine Ev.bind (markIntS_ev _ 1 (by omega) (by omega) (by omega)) ?_)
    | (with_reducible refine Ev.bind (heldIntS_ev _ 1 (by omega) (by omega) (by omega)) ?_)
    | (with_reducible refine evPos rfl ?_)
    | (with_reducible refine evNeg (by omega) ?_)
    | (rw [bne_self_eq_false])
    | (simp only [bne_self_eq_false])
    | (refine evNeg (by decide) ?_)
    | (refine Ev.step (fun k => by rw [laws_FnExactCoolRank.j0]) ?_)
    | (refine Ev.step (fun k => by rw [laws_FnExactCoolRank.j1]) ?_)
    | (refine Ev.step (fun k => by rw [laws_FnExactCoolRank.j2]) ?_))

end Go.Proofs.Ytelajnmnbmamhaa.Pure
