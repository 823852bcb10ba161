/- The pure statement of FnExactNextCool: for all arguments that fit, the law as a Lean function answers true after enough rounds. -/
import Derived.Test.YtcohdpmdgplgfaaMFnExactNextCoolx1
import Derived.Test.YtcohdpmdgplgfaaMFnExactNextCoolx2
import Derived.Test.YtcohdpmdgplgfaaMFnExactNextCoolx3
import Derived.Test.YtcohdpmdgplgfaaMFnExactNextCoolx4
import Derived.Test.YtcohdpmdgplgfaaBase
import Derived.Test.YtcohdpmdgplgfaaComb
namespace Go.Proofs.Ytcohdpmdgplgfaa.Pure
open Go.RowKit Go.Proofs.Ytcohdpmdgplgfaa.MFnExactNextCool Go.Proofs.YtcohdpmdgplgfaaW.PrintWords Go.Proofs.YtcohdpmdgplgfaaW.PrintLast Go.Proofs.Ytcohdpmdgplgfaa.Base Go.Proofs.Ytcohdpmdgplgfaa.Comb
set_option linter.unusedVariables false
set_option linter.unusedSimpArgs false

/-! laws_toIntS -/
theorem toIntS_l0 (x0 : List Int) (hn : x0.length ≤ 35184372088832) : ∀ (d : Nat) (x3 : List Int) (j : Int), 0 ≤ j → j.toNat + d = x0.length → x3.length = x0.length → x3.take j.toNat = x0.take j.toNat →
    Ev (fun k => laws_toIntS.l0 k x0 x3 j) x0 := by
  intro d
  induction d with
  | zero =>
    intro x3 j h0 hd hl ht
    refine Ev.step (fun k => by rw [laws_toIntS.l0]) ?_
    refine evNeg (by omega) ?_
    rw [take_end x0 j (by omega), take_end x3 j (by omega)] at ht
    exact evEq ht
  | succ d ih =>
    intro x3 j h0 hd hl ht
    refine Ev.step (fun k => by rw [laws_toIntS.l0]) ?_
    refine evPos (by omega) (evPos (by omega) (evPos (by omega) ?_))
    rw [wr (by omega) (by omega)]
    refine ih _ _ (by omega) (by omega) (by simpa using hl) ?_
    rw [set_takeI x3 j _ h0 (by omega), take_rd x0 j h0 (by omega), ht]
theorem toIntS_ev (l : List Int) (hn : l.length ≤ 35184372088832) : Ev (fun k => laws_toIntS.f k l) l := by
  unfold laws_toIntS.f
  refine evPos (by omega) (evPos (by simpa using hn) ?_)
  exact toIntS_l0 l hn l.length _ 0 (by omega) (by simp) (by simp) (by simp)
/-! laws_eqIntS -/
theorem eqIntS_l0 (a b : List Int) (hn : a.length ≤ 35184372088832) (hb : a.length = b.length) : ∀ (d : Nat) (j : Int), 0 ≤ j → j.toNat + d = a.length →
    Ev (fun k => laws_eqIntS.l0 k a b j) (decide (a.drop j.toNat = b.drop j.toNat)) := by
  intro d
  induction d with
  | zero =>
    intro j h0 hd
    refine Ev.step (fun k => by rw [laws_eqIntS.l0]) ?_
    refine evNeg (by omega) ?_
    rw [drop_end a j (by omega), drop_end b j (by omega)]
    exact evEq rfl
  | succ d ih =>
    intro j h0 hd
    refine Ev.step (fun k => by rw [laws_eqIntS.l0]) ?_
    refine evPos (by omega) (evPos (by omega) (evPos (by omega) ?_))
    rw [wr (by omega) (by omega), drop_rd a j h0 (by omega), drop_rd b j h0 (by omega)]
    by_cases c : rd a j = rd b j
    · refine evPos c (evTo (ih _ (by omega) (by omega)) ?_)
      simp [c]
    · refine evNeg c (evEq ?_)
      simp [c]
theorem eqIntS_ev (a b : List Int) (hn : a.length ≤ 35184372088832) : Ev (fun k => laws_eqIntS.f k a b) (decide (a = b)) := by
  unfold laws_eqIntS.f
  by_cases hb : a.length = b.length
  · exact evPos (by omega) (eqIntS_l0 a b hn hb a.length 0 (by omega) (by simp))
  · refine evNeg (by omega) (evEq ?_)
    exact (decide_eq_false (fun e => hb (by rw [e]))).symm
theorem eqIntS_self (a : List Int) (hn : a.length ≤ 35184372088832) : Ev (fun k => laws_eqIntS.f k a a) true := evTo (eqIntS_ev a a hn) (by simp)
/-! laws_markIntS -/
theorem markIntS_l0 : ∀ (d : Nat) (xs : List Int) (m j : Int), 0 ≤ j → j.toNat + d = xs.length → xs.length ≤ 35184372088832 → 0 ≤ m → m + d ≤ 70368744177664 →
    Ev (fun k => laws_markIntS.l0 k xs m j) (m + d, xs.take j.toNat ++ iotaI m d) := by
  intro d
  induction d with
  | zero =>
    intro xs m j h0 hd hn hm hk
    refine Ev.step (fun k => by rw [laws_markIntS.l0]) ?_
    refine evNeg (by omega) (evEq ?_)
    rw [take_end xs j (by omega)]
    simp [iotaI]
  | succ d ih =>
    intro xs m j h0 hd hn hm hk
    refine Ev.step (fun k => by rw [laws_markIntS.l0]) ?_
    refine evPos (by omega) (evPos (by omega) ?_)
    rw [wr (by omega) (by omega), wr (by omega) (by omega)]
    refine evTo (ih (xs.set j.toNat m) (m + 1) (j + 1) (by omega) (by simp; omega) (by simpa using hn) (by omega) (by omega)) ?_
    rw [set_takeI xs j m h0 (by omega)]
    simp [iotaI]
    omega
theorem markIntS_ev (xs : List Int) (m : Int) (hn : xs.length ≤ 35184372088832) (hm : 0 ≤ m) (hk : m + xs.length ≤ 70368744177664) :
    Ev (fun k => laws_markIntS.f k xs m) (m + xs.length, iotaI m xs.length) := by
  unfold laws_markIntS.f
  refine evTo (markIntS_l0 xs.length xs m 0 (by omega) (by simp) hn hm hk) (by simp)
/-! laws_heldIntS -/
theorem heldIntS_l0 (xs : List Int) (hn : xs.length ≤ 35184372088832) : ∀ (d : Nat) (m j : Int), 0 ≤ j → j.toNat + d = xs.length → 0 ≤ m → m + d ≤ 70368744177664 → (∀ i : Int, j ≤ i → i < xs.length → rd xs i = m + (i - j)) →
    Ev (fun k => laws_heldIntS.l0 k xs m j) (m + d) := by
  intro d
  induction d with
  | zero =>
    intro m j h0 hd hm hk h
    refine Ev.step (fun k => by rw [laws_heldIntS.l0]) ?_
    exact evNeg (by omega) (evEq (by simp))
  | succ d ih =>
    intro m j h0 hd hm hk h
    refine Ev.step (fun k => by rw [laws_heldIntS.l0]) ?_
    have hr := h j (by omega) (by omega)
    refine evPos (by omega) (evPos (by omega) (evPos (by omega) ?_))
    rw [wr (by omega) (by omega), wr (by omega) (by omega)]
    refine evTo (ih (m + 1) (j + 1) (by omega) (by omega) (by omega) (by omega) (fun i h1 h2 => ?_)) (by omega)
    rw [h i (by omega) h2]; omega
theorem heldIntS_ev (n : Nat) (m : Int) (hn : n ≤ 35184372088832) (hm : 0 ≤ m) (hk : m + n ≤ 70368744177664) :
    Ev (fun k => laws_heldIntS.f k (iotaI m n) m) (m + n) := by
  unfold laws_heldIntS.f
  have hl := iotaI_length m n
  refine heldIntS_l0 (iotaI m n) (by omega) n m 0 (by omega) (by omega) hm hk (fun i h1 h2 => ?_)
  rw [iotaI_rd n m i h1 (by omega)]; omega
/-! spec_l1In -/
theorem l1In_eq (x a b : Int) : spec_l1In.f x a b = some (decide (a ≤ x ∧ x ≤ b)) := by
  unfold spec_l1In.f
  by_cases h : x ≥ a
  · rw [if_pos h]; have h' : a ≤ x := h; simp [h']
  · rw [if_neg h]; have h' : ¬ a ≤ x := h; simp [h']
/-! spec_l1All -/
theorem l1All_l0 (a b : Int) (xs : List Int) (hn : xs.length ≤ 35184372088832) : ∀ (d : Nat) (j : Int), 0 ≤ j → j.toNat + d = xs.length →
    Ev (fun k => spec_l1All.l0 k a b xs (xs.length : Int) j) ((xs.drop j.toNat).all fun x => decide (a ≤ x ∧ x ≤ b)) := by
  intro d
  induction d with
  | zero =>
    intro j h0 hd
    refine Ev.step (fun k => by rw [spec_l1All.l0]) ?_
    refine evNeg (by omega) (evEq ?_)
    rw [drop_end _ _ (by omega)]; rfl
  | succ d ih =>
    intro j h0 hd
    refine Ev.step (fun k => by rw [spec_l1All.l0]) ?_
    refine evPos (by omega) (evPos (by omega) (evPos (by omega) ?_))
    simp only [l1In_eq, Option.bind_some]
    rw [wr (by omega) (by omega), drop_rd xs j h0 (by omega), List.all_cons]
    by_cases c : a ≤ rd xs j ∧ rd xs j ≤ b
    · exact evPos (by simpa using c) (evTo (ih _ (by omega) (by omega)) (by simp [c]))
    · exact evNeg (by simpa using c) (evEq (by rw [decide_eq_false c]; rfl))
theorem l1All_ev (xs : List Int) (a b : Int) (hn : xs.length ≤ 35184372088832) : Ev (fun k => spec_l1All.f k xs a b) (xs.all fun x => decide (a ≤ x ∧ x ≤ b)) := by
  unfold spec_l1All.f
  exact evTo (l1All_l0 a b xs hn xs.length 0 (by omega) (by simp)) (by simp)
/-! spec_chAreBits -/
theorem chAreBits_ev (l : List Int) (hn : l.length ≤ 35184372088832) : Ev (fun k => spec_chAreBits.f k l) (isBits l) := by
  unfold spec_chAreBits.f
  by_cases c : (l.length : Int) ≤ 12
  · refine evPos c (Ev.bind (l1All_ev l 0 1 hn) (evEq ?_))
    rw [isBits, decide_eq_true (show l.length ≤ 12 by omega), Bool.true_and]
  · refine evNeg c (evEq ?_)
    rw [isBits, decide_eq_false (show ¬ l.length ≤ 12 by omega), Bool.false_and]
/-! spec_chCool -/
theorem chCool_l0 (xs : List Int) (hn : xs.length ≤ 12) : ∀ (d : Nat) (m j : Int), j + 1 = d → (j + 3 ≤ xs.length ∨ d = 0) → m = coolEnd xs (j + 1).toNat (xs.length - 2 - (j + 1).toNat) →
    Ev (fun k => spec_chCool.l0 k xs m j) (coolL xs) := by
  intro d
  induction d with
  | zero =>
    intro m j hj hd hm
    refine Ev.step (fun k => by rw [spec_chCool.l0]) ?_
    refine evNeg (by omega) ?_
    obtain rfl : j = -1 := by omega
    have hm' : m = coolM xs := hm
    have hb := coolM_bound xs
    unfold coolL
    rw [hm']
    by_cases c : coolM xs = 0
    · rw [if_pos c]; exact evPos (by omega) (Ev.now _)
    · rw [if_neg c]
      refine evNeg (by omega) ?_
      rw [wr (x := (coolM xs : Int) - 1) (by omega) (by omega)]
      refine evPos (by omega) (evPos (by omega) (evSome (evPos (by omega) (evPos ?_ (evSome (evPos (by omega) (evPos (by omega) (evPos ?_ (evEq ?_)))))))))
      · simp; omega
      · simp; omega
      · rw [show ((coolM xs : Int) - 1).toNat = coolM xs - 1 from by omega, Int.toNat_natCast]; simp
  | succ d ih =>
    intro m j hj hd hm
    refine Ev.step (fun k => by rw [spec_chCool.l0]) ?_
    have hlen : j + 3 ≤ xs.length := by omega
    refine evPos (by omega) (evPos (by omega) (evPos (by omega) ?_))
    rw [wr (x := j - 1) (by omega) (by omega), wr (x := j + 1) (by omega) (by omega), wr (x := j + 3) (by omega) (by omega)]
    have hs : coolEnd xs (j - 1 + 1).toNat (xs.length - 2 - (j - 1 + 1).toNat) = if rd xs j = 0 ∧ rd xs (j + 1) = 1 then (j + 3).toNat else coolEnd xs (j + 1).toNat (xs.length - 2 - (j + 1).toNat) := by
      have h1 : (j - 1 + 1).toNat = j.toNat := by omega
      rw [h1, show xs.length - 2 - j.toNat = (xs.length - 2 - (j + 1).toNat) + 1 from by omega, coolEnd]
      rw [show ((j.toNat : Nat) : Int) = j from by omega, show j.toNat + 3 = (j + 3).toNat from by omega, show j.toNat + 1 = (j + 1).toNat from by omega]
    by_cases c1 : rd xs j = 0
    · refine evPos c1 (evPos (by omega) (evPos (by omega) ?_))
      by_cases c2 : rd xs (j + 1) = 1
      · refine evPos c2 (ih _ _ (by omega) (by omega) ?_)
        rw [hs, if_pos ⟨c1, c2⟩]; omega
      · refine evNeg c2 (ih _ _ (by omega) (by omega) ?_)
        rw [hs, if_neg (fun h => c2 h.2)]; exact hm
    · refine evNeg c1 (ih _ _ (by omega) (by omega) ?_)
      rw [hs, if_neg (fun h => c1 h.1)]; exact hm
theorem chCool_ev (xs : List Int) (hn : xs.length ≤ 12) : Ev (fun k => spec_chCool.f k xs) (coolL xs) := by
  unfold spec_chCool.f
  rw [wr (by omega) (by omega)]
  by_cases c : xs.length ≤ 2
  · by_cases c3 : xs.length = 2
    · exact chCool_l0 xs hn 0 _ _ (by omega) (by omega) (by rw [show ((xs.length : Int) - 3 + 1).toNat = 0 from by omega, show xs.length - 2 - 0 = 0 from by omega]; rfl)
    · refine Ev.step (fun k => by rw [spec_chCool.l0]) ?_
      refine evNeg (by omega) ?_
      have hm : coolM xs = xs.length := by
        unfold coolM; rw [show xs.length - 2 = 0 from by omega]; rfl
      by_cases c0 : xs.length = 0
      · exact evPos (by omega) (evEq (by unfold coolL; rw [hm, if_pos c0]))
      · have hcl : coolL xs = rd xs ((xs.length : Int) - 1) :: (xs.take (xs.length - 1) ++ xs.drop xs.length) := by unfold coolL; rw [hm, if_neg c0]
        rw [hcl]
        have c1 : xs.length = 1 := by omega
        refine evNeg (by omega) ?_
        rw [wr (x := (xs.length : Int) - 1) (by omega) (by omega)]
        refine evPos (by omega) (evPos (by omega) (evSome (evPos (by omega) (evPos ?_ (evSome (evPos (by omega) (evPos (by omega) (evPos ?_ (evEq ?_)))))))))
        · simp; omega
        · simp; omega
        · rw [show ((xs.length : Int) - 1).toNat = xs.length - 1 from by omega, Int.toNat_natCast]; simp
  · refine chCool_l0 xs hn (xs.length - 2) _ _ (by omega) (by omega) ?_
    rw [show xs.length - 2 - ((xs.length : Int) - 3 + 1).toNat = 0 from by omega]; rfl
/-! spec_NextCool -/
theorem spec_NextCool_ev (l : List Int) (hn : l.length ≤ 35184372088832) : Ev (fun k => spec_NextCool.f k l) (if isBits l = true then (coolL l, true) else ([], false)) := by
  unfold spec_NextCool.f
  refine Ev.bind (chAreBits_ev l hn) ?_
  by_cases c : isBits l = true
  · rw [if_pos c]; exact evPos c (Ev.bind (chCool_ev l (isBits_length c)) (Ev.now _))
  · rw [if_neg c]; exact evNeg c (Ev.now _)
/-! impl_within -/
theorem within_eq (x a b : Int) : impl_within.f x a b = some (decide (a ≤ x ∧ x ≤ b)) := by
  unfold impl_within.f
  by_cases h : x ≥ a
  · rw [if_pos h]; have h' : a ≤ x := h; simp [h']
  · rw [if_neg h]; have h' : ¬ a ≤ x := h; simp [h']
/-! impl_allWithin -/
theorem allWithin_l0 (a b : Int) (xs : List Int) (hn : xs.length ≤ 35184372088832) : ∀ (d : Nat) (j : Int), 0 ≤ j → j.toNat + d = xs.length →
    Ev (fun k => impl_allWithin.l0 k a b xs (xs.length : Int) j) ((xs.drop j.toNat).all fun x => decide (a ≤ x ∧ x ≤ b)) := by
  intro d
  induction d with
  | zero =>
    intro j h0 hd
    refine Ev.step (fun k => by rw [impl_allWithin.l0]) ?_
    refine evNeg (by omega) (evEq ?_)
    rw [drop_end _ _ (by omega)]; rfl
  | succ d ih =>
    intro j h0 hd
    refine Ev.step (fun k => by rw [impl_allWithin.l0]) ?_
    refine evPos (by omega) (evPos (by omega) (evPos (by omega) ?_))
    simp only [within_eq, Option.bind_some]
    rw [wr (by omega) (by omega), drop_rd xs j h0 (by omega), List.all_cons]
    by_cases c : a ≤ rd xs j ∧ rd xs j ≤ b
    · exact evPos (by simpa using c) (evTo (ih _ (by omega) (by omega)) (by simp [c]))
    · exact evNeg (by simpa using c) (evEq (by rw [decide_eq_false c]; rfl))
theorem allWithin_ev (xs : List Int) (a b : Int) (hn : xs.length ≤ 35184372088832) : Ev (fun k => impl_allWithin.f k xs a b) (xs.all fun x => decide (a ≤ x ∧ x ≤ b)) := by
  unfold impl_allWithin.f
  exact evTo (allWithin_l0 a b xs hn xs.length 0 (by omega) (by simp)) (by simp)
/-! impl_areBits -/
theorem areBits_ev (l : List Int) (hn : l.length ≤ 35184372088832) : Ev (fun k => impl_areBits.f k l) (isBits l) := by
  unfold impl_areBits.f
  by_cases c : (l.length : Int) ≤ 12
  · refine evPos c (Ev.bind (allWithin_ev l 0 1 hn) (evEq ?_))
    rw [isBits, decide_eq_true (show l.length ≤ 12 by omega), Bool.true_and]
  · refine evNeg c (evEq ?_)
    rw [isBits, decide_eq_false (show ¬ l.length ≤ 12 by omega), Bool.false_and]
/-! impl_copied -/
theorem copied_eq (l : List Int) (hn : l.length ≤ 10000000000000) : impl_copied.f l = some l := by
  unfold impl_copied.f
  simp only [Option.bind_some, List.nil_append, List.length_nil, Nat.zero_add]
  rw [if_pos (by omega)]
/-! impl_cool -/
theorem cool_l1 (xs : List Int) (hn : xs.length ≤ 12) (e : Nat) (he : e ≤ xs.length) (h1 : 1 ≤ e) : ∀ (d : Nat) (out : List Int) (j : Int), 1 ≤ j → j.toNat + d = e → out = rd xs 0 :: (xs.take (j.toNat - 1) ++ xs.drop j.toNat) →
    Ev (fun k => impl_cool.l1 k xs (e : Int) out j) (rd xs (e - 1) :: (xs.take (e - 1) ++ xs.drop e)) := by
  intro d
  induction d with
  | zero =>
    intro out j h0 hd ho
    refine Ev.step (fun k => by rw [impl_cool.l1]) ?_
    have hl : out.length = xs.length := by rw [ho]; simp; omega
    rw [wr (x := (e : Int) - 1) (by omega) (by omega)]
    refine evNeg (by omega) (evPos (by omega) (evPos (by omega) (evPos (by omega) (evPos (by omega) (evEq ?_)))))
    rw [ho, show j.toNat = e from by omega]; rfl
  | succ d ih =>
    intro out j h0 hd ho
    refine Ev.step (fun k => by rw [impl_cool.l1]) ?_
    have hl : out.length = xs.length := by rw [ho]; simp; omega
    rw [wr (x := j - 1) (by omega) (by omega), wr (x := j + 1) (by omega) (by omega)]
    refine evPos (by omega) (evPos (by omega) (evPos (by omega) (evPos (by omega) (evPos (by omega) ?_))))
    refine ih _ _ (by omega) (by omega) ?_
    rw [ho]
    obtain ⟨i, rfl⟩ : ∃ i : Nat, j = i + 1 := ⟨j.toNat - 1, by omega⟩
    rw [show ((i : Int) + 1 - 1) = (i : Int) from by omega, show ((i : Int) + 1).toNat = i + 1 from by omega, show ((i : Int) + 1 + 1).toNat = i + 2 from by omega]
    have hi : i < xs.length := by omega
    have hi2 : i + 1 < xs.length := by omega
    simp only [List.set_cons_succ, Nat.add_sub_cancel]
    congr 1
    rw [rd_get xs i (by simpa using hi), show i + 2 - 1 = i + 1 from by omega]
    rw [List.drop_eq_getElem_cons hi2, List.set_append_right _ _ (by rw [List.length_take]; omega)]
    simp only [List.length_take, Int.toNat_natCast]
    rw [show i - min i xs.length = 0 from by omega, List.set_cons_zero, List.take_succ_eq_append_getElem hi, List.append_assoc]
    rfl
theorem cool_j1 (xs : List Int) (hn : xs.length ≤ 12) (e : Int) (he : e = coolM xs) : Ev (fun k => impl_cool.j1 k xs e) (coolL xs) := by
  subst he
  have hb := coolM_bound xs
  refine Ev.step (fun k => by rw [impl_cool.j1]) ?_
  simp only [copied_eq xs (by omega), Option.bind_some]
  unfold coolL
  by_cases c : coolM xs = 0
  · rw [if_pos c]
    refine Ev.step (fun k => by rw [impl_cool.l1]) ?_
    exact evNeg (by omega) (evNeg (by omega) (evEq (List.length_eq_zero_iff.1 (by omega))))
  · rw [if_neg c]
    refine evTo (cool_l1 xs hn (coolM xs) (by omega) (by omega) (coolM xs - 1) xs 1 (by omega) (by omega) ?_) ?_
    · cases xs with
      | nil => simp at hb; omega
      | cons x t => rfl
    · rfl
theorem cool_l0 (xs : List Int) (hn : xs.length ≤ 12) (M : Nat) (hM : M = coolM xs) : ∀ (d : Nat) (j : Int), 2 ≤ j → j.toNat + d = xs.length → M = coolEnd xs (j - 2).toNat (xs.length - 2 - (j - 2).toNat) →
    Ev (fun k => impl_cool.l0 k xs (xs.length : Int) j) (coolL xs) := by
  intro d
  induction d with
  | zero =>
    intro j h0 hd hm
    refine Ev.step (fun k => by rw [impl_cool.l0]) ?_
    refine evNeg (by omega) (cool_j1 xs hn _ ?_)
    rw [← hM, hm, show xs.length - 2 - (j - 2).toNat = 0 from by omega]; rfl
  | succ d ih =>
    intro j h0 hd hm
    refine Ev.step (fun k => by rw [impl_cool.l0]) ?_
    rw [wr (x := j - 2) (by omega) (by omega), wr (x := j - 1) (by omega) (by omega), wr (x := j + 1) (by omega) (by omega)]
    rw [show xs.length - 2 - (j - 2).toNat = (xs.length - 2 - (j + 1 - 2).toNat) + 1 from by omega, coolEnd] at hm
    rw [show (((j - 2).toNat : Nat) : Int) = j - 2 from by omega, show j - 2 + 1 = j - 1 from by omega, show (j - 2).toNat + 1 = (j + 1 - 2).toNat from by omega] at hm
    refine evPos (by omega) (evPos (by omega) (evPos (by omega) ?_))
    by_cases c1 : rd xs (j - 2) = 0
    · refine evPos c1 (evPos (by omega) (evPos (by omega) ?_))
      by_cases c2 : rd xs (j - 1) = 1
      · refine evPos c2 (cool_j1 xs hn _ ?_)
        rw [← hM, hm, if_pos ⟨c1, c2⟩]; omega
      · refine evNeg c2 (ih _ (by omega) (by omega) ?_)
        rw [hm, if_neg (fun h => c2 h.2)]
    · refine evNeg c1 (ih _ (by omega) (by omega) ?_)
      rw [hm, if_neg (fun h => c1 h.1)]
theorem cool_ev (xs : List Int) (hn : xs.length ≤ 12) : Ev (fun k => impl_cool.f k xs) (coolL xs) := by
  unfold impl_cool.f
  by_cases c : xs.length < 2
  · refine Ev.step (fun k => by rw [impl_cool.l0]) ?_
    refine evNeg (by omega) (cool_j1 xs hn _ ?_)
    unfold coolM; rw [show xs.length - 2 = 0 from by omega]; rfl
  · exact cool_l0 xs hn (coolM xs) rfl (xs.length - 2) 2 (by omega) (by omega) rfl
/-! impl_NextCool -/
theorem impl_NextCool_ev (l : List Int) (hn : l.length ≤ 35184372088832) : Ev (fun k => impl_NextCool.f k l) (if isBits l = true then (coolL l, true) else ([], false)) := by
  unfold impl_NextCool.f
  refine Ev.bind (areBits_ev l hn) ?_
  by_cases c : isBits l = true
  · rw [if_pos c]; exact evPos c (Ev.bind (cool_ev l (isBits_length c)) (Ev.now _))
  · rw [if_neg c]; exact evNeg c (Ev.now _)
theorem FnExactNextCool : laws_FnExactNextCool.Pure := by
  intro l _ hl8 _
  refine Ev.rounds (g := fun q => laws_FnExactNextCool.f q l) ?_
  unfold laws_FnExactNextCool.f
  by_cases hbig : (l.length : Int) > 1048576
  · exact evPos hbig (Ev.now _)
  refine evNeg hbig ?_
  have hg : ∃ g b, (if isBits l = true then (coolL l, true) else ([], false)) = (g, b) ∧ g.length ≤ 1000 := by
    by_cases c : isBits l = true
    · rw [if_pos c]; have := isBits_length c; exact ⟨_, _, rfl, by rw [coolL_length]; omega⟩
    · rw [if_neg c]; exact ⟨_, _, rfl, by simp⟩
  obtain ⟨g, b, he, hgl⟩ := hg
  have hs : Ev (fun k => spec_NextCool.f k l) (g, b) := he ▸ spec_NextCool_ev l (by omega)
  have hi : Ev (fun k => impl_NextCool.f k l) (g, b) := he ▸ impl_NextCool_ev l (by omega)
  repeat (first
    | (with_reducible exact Ev.now _)
    | (with_reducible refine Ev.bind hs ?_)
    | (with_reducible refine Ev.bind hi ?_)
    | (with_reducible refine Ev.bind (toIntS_ev _ (by omega)) ?_)
    | (with_reducible refine Ev.bind (eqIntS_self _ (by omega)) ?_)
    | (with_reducible refine Ev.bind (markIntS_ev _ 1 (by omega) (by omega) (by omega)) ?_)
    | (with_reducible refine Ev.bind (heldIntS_ev _ 1 (by omega) (by omega) (by omega)) ?_)
    | (with_reducible refine evPos rfl ?_)
    | (with_reducible refine evNeg (by omega) ?_)
    | (rw [bne_self_eq_false])
    | (simp only [bne_self_eq_false])
    | (refine evNeg (by decide) ?_)
    | (refine Ev.step (fun k => by rw [laws_FnExactNextCool.j0]) ?_)
    | (refine Ev.step (fun k => by rw [laws_FnExactNextCool.j1]) ?_)
    | (refine Ev.step (fun k => by rw [laws_FnExactNextCool.j2]) ?_))

end Go.Proofs.Ytcohdpmdgplgfaa.Pure
