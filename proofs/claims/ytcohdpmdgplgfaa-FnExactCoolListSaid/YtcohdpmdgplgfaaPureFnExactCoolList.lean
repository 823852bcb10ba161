/- The pure statement of FnExactCoolList: for all arguments that fit, the law as a Lean function answers true after enough rounds. -/
import Derived.Test.YtcohdpmdgplgfaaMFnExactCoolListx1
import Derived.Test.YtcohdpmdgplgfaaMFnExactCoolListx2
import Derived.Test.YtcohdpmdgplgfaaMFnExactCoolListx3
import Derived.Test.YtcohdpmdgplgfaaMFnExactCoolListx4
import Derived.Test.YtcohdpmdgplgfaaBase
import Derived.Test.YtcohdpmdgplgfaaComb
namespace Go.Proofs.Ytcohdpmdgplgfaa.Pure
open Go.RowKit Go.Proofs.Ytcohdpmdgplgfaa.MFnExactCoolList Go.Proofs.YtcohdpmdgplgfaaW.PrintWords Go.Proofs.YtcohdpmdgplgfaaW.PrintLast Go.Proofs.Ytcohdpmdgplgfaa.Base Go.Proofs.Ytcohdpmdgplgfaa.Comb
set_option linter.unusedVariables false
set_option linter.unusedSimpArgs false

/-! laws_eqIntS -/
theorem eqIntS_l0 (a b : List Int) (hn : a.length ≤ 35184372088832) (hb : a.length = b.length) : ∀ (d : Nat) (j : Int), 0 ≤ j → j.toNat + d = a.length →
    Ev (fun k => laws_eqIntS.l0 k a b j) (decide (a.drop j.toNat = b.drop j.toNat)) := by
  intro d
  induction d with
  | zero =>
    intro j h0 hd
    refine Ev.step (fun k => by rw [laws_eqIntS.l0]) ?_
    refine evNeg (by omega) ?_
    rw [drop_end a j (by omega), drop_end b j (by omega)]
    exact evEq rfl
  | succ d ih =>
    intro j h0 hd
    refine Ev.step (fun k => by rw [laws_eqIntS.l0]) ?_
    refine evPos (by omega) (evPos (by omega) (evPos (by omega) ?_))
    rw [wr (by omega) (by omega), drop_rd a j h0 (by omega), drop_rd b j h0 (by omega)]
    by_cases c : rd a j = rd b j
    · refine evPos c (evTo (ih _ (by omega) (by omega)) ?_)
      simp [c]
    · refine evNeg c (evEq ?_)
      simp [c]
theorem eqIntS_ev (a b : List Int) (hn : a.length ≤ 35184372088832) : Ev (fun k => laws_eqIntS.f k a b) (decide (a = b)) := by
  unfold laws_eqIntS.f
  by_cases hb : a.length = b.length
  · exact evPos (by omega) (eqIntS_l0 a b hn hb a.length 0 (by omega) (by simp))
  · refine evNeg (by omega) (evEq ?_)
    exact (decide_eq_false (fun e => hb (by rw [e]))).symm
theorem eqIntS_self (a : List Int) (hn : a.length ≤ 35184372088832) : Ev (fun k => laws_eqIntS.f k a a) true := evTo (eqIntS_ev a a hn) (by simp)
/-! laws_eqIntSS -/
theorem eqIntSS_self (L : List (List Int)) (hn : L.length ≤ 1000000000) (hl : ∀ t ∈ L, t.length ≤ 35184372088832) : Ev (fun k => laws_eqIntSS.f k L L) true := by
  have key : ∀ (d : Nat) (j : Int), 0 ≤ j → j.toNat + d = L.length → Ev (fun k => laws_eqIntSS.l0 k L L j) true := by
    intro d
    induction d with
    | zero =>
      intro j h0 hd
      refine Ev.step (fun k => by rw [laws_eqIntSS.l0]) ?_
      exact evNeg (by omega) (Ev.now _)
    | succ d ih =>
      intro j h0 hd
      refine Ev.step (fun k => by rw [laws_eqIntSS.l0]) ?_
      have hm : rd_L1 L j ∈ L := by
        unfold rd_L1
        rw [List.getD_eq_getElem?_getD, List.getElem?_eq_getElem (show j.toNat < L.length by omega)]
        exact List.getElem_mem _
      refine evPos (by omega) (evPos (by omega) (evPos (by omega) (Ev.bind (eqIntS_self _ (hl _ hm)) (evPos rfl ?_))))
      rw [wr (by omega) (by omega)]
      exact ih _ (by omega) (by omega)
  unfold laws_eqIntSS.f
  exact evPos rfl (key L.length 0 (by omega) (by simp))
/-! laws_markIntS -/
theorem markIntS_l0 : ∀ (d : Nat) (xs : List Int) (m j : Int), 0 ≤ j → j.toNat + d = xs.length → xs.length ≤ 35184372088832 → 0 ≤ m → m + d ≤ 70368744177664 →
    Ev (fun k => laws_markIntS.l0 k xs m j) (m + d, xs.take j.toNat ++ iotaI m d) := by
  intro d
  induction d with
  | zero =>
    intro xs m j h0 hd hn hm hk
    refine Ev.step (fun k => by rw [laws_markIntS.l0]) ?_
    refine evNeg (by omega) (evEq ?_)
    rw [take_end xs j (by omega)]
    simp [iotaI]
  | succ d ih =>
    intro xs m j h0 hd hn hm hk
    refine Ev.step (fun k => by rw [laws_markIntS.l0]) ?_
    refine evPos (by omega) (evPos (by omega) ?_)
    rw [wr (by omega) (by omega), wr (by omega) (by omega)]
    refine evTo (ih (xs.set j.toNat m) (m + 1) (j + 1) (by omega) (by simp; omega) (by simpa using hn) (by omega) (by omega)) ?_
    rw [set_takeI xs j m h0 (by omega)]
    simp [iotaI]
    omega
theorem markIntS_ev (xs : List Int) (m : Int) (hn : xs.length ≤ 35184372088832) (hm : 0 ≤ m) (hk : m + xs.length ≤ 70368744177664) :
    Ev (fun k => laws_markIntS.f k xs m) (m + xs.length, iotaI m xs.length) := by
  unfold laws_markIntS.f
  refine evTo (markIntS_l0 xs.length xs m 0 (by omega) (by simp) hn hm hk) (by simp)
/-! laws_markIntSS -/
theorem markIntSS_l0 (B : Nat) (hB : B ≤ 1100000) : ∀ (d : Nat) (L : List (List Int)) (m j : Int), 0 ≤ j → j.toNat + d = L.length → L.length ≤ 1100000 → (∀ t ∈ L, t.length ≤ B) → 0 ≤ m → m + d * B ≤ 70368744177664 →
    Ev (fun k => laws_markIntSS.l0 k L m j) (m + sumLen (L.drop j.toNat), L.take j.toNat ++ iotaSS m (L.drop j.toNat)) := by
  intro d
  induction d with
  | zero =>
    intro L m j h0 hd hn hl hm hk
    refine Ev.step (fun k => by rw [laws_markIntSS.l0]) ?_
    refine evNeg (by omega) (evEq ?_)
    rw [take_end L j (by omega), drop_end L j (by omega)]
    simp [sumLen, iotaSS]
  | succ d ih =>
    intro L m j h0 hd hn hl hm hk
    refine Ev.step (fun k => by rw [laws_markIntSS.l0]) ?_
    have hm1 : rd_L1 L j ∈ L := by
      unfold rd_L1
      rw [List.getD_eq_getElem?_getD, List.getElem?_eq_getElem (show j.toNat < L.length by omega)]
      exact List.getElem_mem _
    have hb := hl _ hm1
    have hmul : (d + 1) * B = d * B + B := Nat.succ_mul d B
    have hk2 : ((d + 1 : Nat) : Int) * (B : Int) = d * B + B := by exact_mod_cast hmul
    have hnn : 0 ≤ (d : Int) * (B : Int) := Int.mul_nonneg (by omega) (by omega)
    refine evPos (by omega) (evPos (by omega) (Ev.bind (markIntS_ev _ m (by omega) hm (by omega)) ?_))
    rw [wr (by omega) (by omega)]
    refine evTo (ih (L.set j.toNat (iotaI m (rd_L1 L j).length)) (m + (rd_L1 L j).length) (j + 1) (by omega) (by simp; omega) (by simpa using hn) (fun t ht => ?_) (by omega) (by omega)) ?_
    · rcases List.mem_or_eq_of_mem_set ht with ht | rfl
      · exact hl t ht
      · rw [iotaI_length]; exact hb
    · have hdrop : (L.set j.toNat (iotaI m (rd_L1 L j).length)).drop (j + 1).toNat = L.drop (j + 1).toNat := by
        rw [List.drop_set, if_pos (by omega)]
      have htake : (L.set j.toNat (iotaI m (rd_L1 L j).length)).take (j + 1).toNat = L.take j.toNat ++ [iotaI m (rd_L1 L j).length] := by
        have hjl : j.toNat < L.length := by omega
        rw [show (j + 1).toNat = j.toNat + 1 from by omega, List.take_succ_eq_append_getElem (by simpa using hjl)]
        simp [List.take_set_of_le]
      have hcons : L.drop j.toNat = rd_L1 L j :: L.drop (j + 1).toNat := dropD [] L j h0 (by omega)
      rw [hdrop, htake, hcons]
      simp only [sumLen, iotaSS, List.append_assoc, List.singleton_append]
      congr 1; omega
theorem markIntSS_ev (L : List (List Int)) (m : Int) (B : Nat) (hB : B ≤ 1100000) (hn : L.length ≤ 1100000) (hl : ∀ t ∈ L, t.length ≤ B) (hm : 0 ≤ m) (hm2 : m ≤ 2200000) :
    Ev (fun k => laws_markIntSS.f k L m) (m + sumLen L, iotaSS m L) := by
  unfold laws_markIntSS.f
  have h1 : L.length * B ≤ 1210000000000 := Nat.le_trans (Nat.mul_le_mul hn hB) (by decide)
  have h2 : ((L.length * B : Nat) : Int) ≤ 1210000000000 := by omega
  rw [Int.natCast_mul] at h2
  exact evTo (markIntSS_l0 B hB L.length L m 0 (by omega) (by simp) hn hl hm (by omega)) (by simp)
/-! laws_heldIntS -/
theorem heldIntS_l0 (xs : List Int) (hn : xs.length ≤ 35184372088832) : ∀ (d : Nat) (m j : Int), 0 ≤ j → j.toNat + d = xs.length → 0 ≤ m → m + d ≤ 70368744177664 → (∀ i : Int, j ≤ i → i < xs.length → rd xs i = m + (i - j)) →
    Ev (fun k => laws_heldIntS.l0 k xs m j) (m + d) := by
  intro d
  induction d with
  | zero =>
    intro m j h0 hd hm hk h
    refine Ev.step (fun k => by rw [laws_heldIntS.l0]) ?_
    exact evNeg (by omega) (evEq (by simp))
  | succ d ih =>
    intro m j h0 hd hm hk h
    refine Ev.step (fun k => by rw [laws_heldIntS.l0]) ?_
    have hr := h j (by omega) (by omega)
    refine evPos (by omega) (evPos (by omega) (evPos (by omega) ?_))
    rw [wr (by omega) (by omega), wr (by omega) (by omega)]
    refine evTo (ih (m + 1) (j + 1) (by omega) (by omega) (by omega) (by omega) (fun i h1 h2 => ?_)) (by omega)
    rw [h i (by omega) h2]; omega
theorem heldIntS_ev (n : Nat) (m : Int) (hn : n ≤ 35184372088832) (hm : 0 ≤ m) (hk : m + n ≤ 70368744177664) :
    Ev (fun k => laws_heldIntS.f k (iotaI m n) m) (m + n) := by
  unfold laws_heldIntS.f
  have hl := iotaI_length m n
  refine heldIntS_l0 (iotaI m n) (by omega) n m 0 (by omega) (by omega) hm hk (fun i h1 h2 => ?_)
  rw [iotaI_rd n m i h1 (by omega)]; omega
/-! laws_heldIntSS -/
theorem heldIntSS_l0 (B : Nat) (hB : B ≤ 1100000) (L0 : List (List Int)) (hn : L0.length ≤ 1100000) : ∀ (d : Nat) (T : List (List Int)) (m j : Int), 0 ≤ j → j.toNat + d = L0.length → T.length = d → L0.drop j.toNat = iotaSS m T → (∀ t ∈ T, t.length ≤ B) → 0 ≤ m → m + d * B ≤ 70368744177664 →
    Ev (fun k => laws_heldIntSS.l0 k L0 m j) (m + sumLen T) := by
  intro d
  induction d with
  | zero =>
    intro T m j h0 hd hT hL hl hm hk
    refine Ev.step (fun k => by rw [laws_heldIntSS.l0]) ?_
    refine evNeg (by omega) (evEq ?_)
    rw [List.length_eq_zero_iff.1 hT]; simp [sumLen]
  | succ d ih =>
    intro T m j h0 hd hT hL hl hm hk
    refine Ev.step (fun k => by rw [laws_heldIntSS.l0]) ?_
    cases T with
    | nil => simp at hT
    | cons t T =>
      have hcons : L0.drop j.toNat = rd_L1 L0 j :: L0.drop (j + 1).toNat := dropD [] L0 j h0 (by omega)
      rw [hcons] at hL
      simp only [iotaSS, List.cons.injEq] at hL
      have hb := hl t (by simp)
      have hmul : (d + 1) * B = d * B + B := Nat.succ_mul d B
      have hk2 : ((d + 1 : Nat) : Int) * (B : Int) = d * B + B := by exact_mod_cast hmul
      have hnn : 0 ≤ (d : Int) * (B : Int) := Int.mul_nonneg (by omega) (by omega)
      refine evPos (by omega) (evPos (by omega) ?_)
      rw [hL.1]
      refine Ev.bind (heldIntS_ev t.length m (by omega) hm (by omega)) (evNeg (by omega) ?_)
      rw [wr (by omega) (by omega)]
      refine evTo (ih T (m + t.length) (j + 1) (by omega) (by omega) (by simpa using hT) hL.2 (fun t' ht => hl t' (by simp [ht])) (by omega) (by omega)) ?_
      simp only [sumLen]; omega
theorem heldIntSS_ev (L : List (List Int)) (m : Int) (B : Nat) (hB : B ≤ 1100000) (hn : L.length ≤ 1100000) (hl : ∀ t ∈ L, t.length ≤ B) (hm : 0 ≤ m) (hm2 : m ≤ 2200000) :
    Ev (fun k => laws_heldIntSS.f k (iotaSS m L) m) (m + sumLen L) := by
  unfold laws_heldIntSS.f
  have h1 : L.length * B ≤ 1210000000000 := Nat.le_trans (Nat.mul_le_mul hn hB) (by decide)
  have h2 : ((L.length * B : Nat) : Int) ≤ 1210000000000 := by omega
  rw [Int.natCast_mul] at h2
  have h3 := iotaSS_length m L
  exact heldIntSS_l0 B hB (iotaSS m L) (by omega) L.length L m 0 (by omega) (by omega) rfl (by simp) hl hm (by omega)
/-- The law's own functions go through a list of lists. -/
theorem markSS_all (L : List (List Int)) (B : Nat) (hB : B ≤ 1100000) (hn : L.length ≤ 1100000) (hl : ∀ t ∈ L, t.length ≤ B) :
    ∃ (L' : List (List Int)) (m : Int), Ev (fun k => laws_eqIntSS.f k L L) true ∧ Ev (fun k => laws_markIntSS.f k L 1) (m, L') ∧ Ev (fun k => laws_heldIntSS.f k L' 1) m ∧ 0 ≤ m ∧ L'.length = L.length :=
  ⟨iotaSS 1 L, 1 + sumLen L, eqIntSS_self L (by omega) (fun t ht => by have := hl t ht; omega), markIntSS_ev L 1 B hB hn hl (by omega) (by omega), heldIntSS_ev L 1 B hB hn hl (by omega) (by omega), by have := sumLen_nonneg L; omega, iotaSS_length 1 L⟩
/-! spec_l1In -/
theorem l1In_eq (x a b : Int) : spec_l1In.f x a b = some (decide (a ≤ x ∧ x ≤ b)) := by
  unfold spec_l1In.f
  by_cases h : x ≥ a
  · rw [if_pos h]; have h' : a ≤ x := h; simp [h']
  · rw [if_neg h]; have h' : ¬ a ≤ x := h; simp [h']
/-! spec_raItems -/
theorem raItems_eq (x : Int) : spec_raItems.f x = some (decide (0 ≤ x ∧ x ≤ 12)) := by
  unfold spec_raItems.f; rw [l1In_eq]; rfl
/-! spec_chSize -/
theorem chSize_eq (n k : Int) : spec_chSize.f n k = some (decide (0 ≤ n ∧ n ≤ 12 ∧ 0 ≤ k ∧ k ≤ n)) := by
  unfold spec_chSize.f
  simp only [raItems_eq, l1In_eq, Option.bind_some]
  by_cases h : 0 ≤ n ∧ n ≤ 12
  · rw [if_pos (by simpa using h)]; simp [h]
  · rw [if_neg (by simpa using h)]; congr 1; exact (decide_eq_false (by omega)).symm
/-! spec_raUpTo -/
theorem raUpTo_l0 (n : Nat) (hn : n ≤ 1000000000) : ∀ (d : Nat) (j : Int), 0 ≤ j → j.toNat + d = n → Ev (fun k => spec_raUpTo.l0 k (n : Int) (upTo j.toNat) j) (upTo n) := by
  intro d
  induction d with
  | zero =>
    intro j h0 hd
    refine Ev.step (fun k => by rw [spec_raUpTo.l0]) ?_
    exact evNeg (by omega) (evEq (by rw [show j.toNat = n from by omega]))
  | succ d ih =>
    intro j h0 hd
    refine Ev.step (fun k => by rw [spec_raUpTo.l0]) ?_
    refine evPos (by omega) (evPos (by rw [upTo_length]; omega) ?_)
    have h := ih (j + 1) (by omega) (by omega)
    rw [show (j + 1).toNat = j.toNat + 1 from by omega, upTo_succ, Int.toNat_of_nonneg h0] at h
    rw [wr (by omega) (by omega)]
    exact h
theorem raUpTo_ev (n : Nat) (hn : n ≤ 1000000000) : Ev (fun k => spec_raUpTo.f k (n : Int)) (upTo n) := by
  unfold spec_raUpTo.f
  exact raUpTo_l0 n hn n 0 (by omega) (by simp)
/-! spec_l1Same -/
theorem l1Same_l0 (a b : List Int) (hn : a.length ≤ 35184372088832) (hb : a.length = b.length) : ∀ (d : Nat) (j : Int), 0 ≤ j → j.toNat + d = a.length →
    Ev (fun k => spec_l1Same.l0 k a b (a.length : Int) j) (decide (a.drop j.toNat = b.drop j.toNat)) := by
  intro d
  induction d with
  | zero =>
    intro j h0 hd
    refine Ev.step (fun k => by rw [spec_l1Same.l0]) ?_
    refine evNeg (by omega) ?_
    rw [drop_end a j (by omega), drop_end b j (by omega)]
    exact evEq rfl
  | succ d ih =>
    intro j h0 hd
    refine Ev.step (fun k => by rw [spec_l1Same.l0]) ?_
    refine evPos (by omega) (evPos (by omega) (evPos (by omega) (evPos (by omega) ?_)))
    rw [wr (by omega) (by omega), drop_rd a j h0 (by omega), drop_rd b j h0 (by omega)]
    by_cases c : rd a j = rd b j
    · refine evPos c (evTo (ih _ (by omega) (by omega)) ?_)
      simp [c]
    · refine evNeg c (evEq ?_)
      simp [c]
theorem l1Same_ev (a b : List Int) (hn : a.length ≤ 35184372088832) : Ev (fun k => spec_l1Same.f k a b) (decide (a = b)) := by
  unfold spec_l1Same.f
  by_cases hb : a.length = b.length
  · exact evPos (by omega) (l1Same_l0 a b hn hb a.length 0 (by omega) (by simp))
  · refine evNeg (by omega) (evEq ?_)
    exact (decide_eq_false (fun e => hb (by rw [e]))).symm
/-! spec_chBits -/
theorem chBits_l0 (n : Nat) (xs : List Int) (hn : xs.length ≤ 35184372088832) (hb : ∀ y ∈ xs, 0 ≤ y ∧ y < n) : ∀ (d : Nat) (out : List Int) (j : Int), 0 ≤ j → j.toNat + d = xs.length → out.length = n →
    Ev (fun k => spec_chBits.l0 k out xs (xs.length : Int) j) (setBits out (xs.drop j.toNat)) := by
  intro d
  induction d with
  | zero =>
    intro out j h0 hd ho
    refine Ev.step (fun k => by rw [spec_chBits.l0]) ?_
    refine evNeg (by omega) (evEq ?_)
    rw [drop_end _ _ (by omega)]; rfl
  | succ d ih =>
    intro out j h0 hd ho
    refine Ev.step (fun k => by rw [spec_chBits.l0]) ?_
    have hm : rd xs j ∈ xs := by rw [rd_get xs j (by omega)]; exact List.getElem_mem _
    have := hb _ hm
    refine evPos (by omega) (evPos (by omega) (evPos (by omega) (evPos (by omega) (evPos (by omega) ?_))))
    rw [wr (by omega) (by omega), drop_rd xs j h0 (by omega), setBits]
    exact ih _ _ (by omega) (by omega) (by simpa using ho)
theorem chBits_ev (n : Nat) (xs : List Int) (hn : xs.length ≤ 35184372088832) (hN : n ≤ 1000000) (hb : ∀ y ∈ xs, 0 ≤ y ∧ y < n) : Ev (fun k => spec_chBits.f k (n : Int) xs) (bitsL n xs) := by
  unfold spec_chBits.f
  refine evPos (by omega) (evPos (by simp; omega) ?_)
  exact evTo (chBits_l0 n xs hn hb xs.length _ 0 (by omega) (by simp) (by simp)) (by simp [bitsL])
/-! spec_chCool -/
theorem chCool_l0 (xs : List Int) (hn : xs.length ≤ 12) : ∀ (d : Nat) (m j : Int), j + 1 = d → (j + 3 ≤ xs.length ∨ d = 0) → m = coolEnd xs (j + 1).toNat (xs.length - 2 - (j + 1).toNat) →
    Ev (fun k => spec_chCool.l0 k xs m j) (coolL xs) := by
  intro d
  induction d with
  | zero =>
    intro m j hj hd hm
    refine Ev.step (fun k => by rw [spec_chCool.l0]) ?_
    refine evNeg (by omega) ?_
    obtain rfl : j = -1 := by omega
    have hm' : m = coolM xs := hm
    have hb := coolM_bound xs
    unfold coolL
    rw [hm']
    by_cases c : coolM xs = 0
    · rw [if_pos c]; exact evPos (by omega) (Ev.now _)
    · rw [if_neg c]
      refine evNeg (by omega) ?_
      rw [wr (x := (coolM xs : Int) - 1) (by omega) (by omega)]
      refine evPos (by omega) (evPos (by omega) (evSome (evPos (by omega) (evPos ?_ (evSome (evPos (by omega) (evPos (by omega) (evPos ?_ (evEq ?_)))))))))
      · simp; omega
      · simp; omega
      · rw [show ((coolM xs : Int) - 1).toNat = coolM xs - 1 from by omega, Int.toNat_natCast]; simp
  | succ d ih =>
    intro m j hj hd hm
    refine Ev.step (fun k => by rw [spec_chCool.l0]) ?_
    have hlen : j + 3 ≤ xs.length := by omega
    refine evPos (by omega) (evPos (by omega) (evPos (by omega) ?_))
    rw [wr (x := j - 1) (by omega) (by omega), wr (x := j + 1) (by omega) (by omega), wr (x := j + 3) (by omega) (by omega)]
    have hs : coolEnd xs (j - 1 + 1).toNat (xs.length - 2 - (j - 1 + 1).toNat) = if rd xs j = 0 ∧ rd xs (j + 1) = 1 then (j + 3).toNat else coolEnd xs (j + 1).toNat (xs.length - 2 - (j + 1).toNat) := by
      have h1 : (j - 1 + 1).toNat = j.toNat := by omega
      rw [h1, show xs.length - 2 - j.toNat = (xs.length - 2 - (j + 1).toNat) + 1 from by omega, coolEnd]
      rw [show ((j.toNat : Nat) : Int) = j from by omega, show j.toNat + 3 = (j + 3).toNat from by omega, show j.toNat + 1 = (j + 1).toNat from by omega]
    by_cases c1 : rd xs j = 0
    · refine evPos c1 (evPos (by omega) (evPos (by omega) ?_))
      by_cases c2 : rd xs (j + 1) = 1
      · refine evPos c2 (ih _ _ (by omega) (by omega) ?_)
        rw [hs, if_pos ⟨c1, c2⟩]; omega
      · refine evNeg c2 (ih _ _ (by omega) (by omega) ?_)
        rw [hs, if_neg (fun h => c2 h.2)]; exact hm
    · refine evNeg c1 (ih _ _ (by omega) (by omega) ?_)
      rw [hs, if_neg (fun h => c1 h.1)]; exact hm
theorem chCool_ev (xs : List Int) (hn : xs.length ≤ 12) : Ev (fun k => spec_chCool.f k xs) (coolL xs) := by
  unfold spec_chCool.f
  rw [wr (by omega) (by omega)]
  by_cases c : xs.length ≤ 2
  · by_cases c3 : xs.length = 2
    · exact chCool_l0 xs hn 0 _ _ (by omega) (by omega) (by rw [show ((xs.length : Int) - 3 + 1).toNat = 0 from by omega, show xs.length - 2 - 0 = 0 from by omega]; rfl)
    · refine Ev.step (fun k => by rw [spec_chCool.l0]) ?_
      refine evNeg (by omega) ?_
      have hm : coolM xs = xs.length := by
        unfold coolM; rw [show xs.length - 2 = 0 from by omega]; rfl
      by_cases c0 : xs.length = 0
      · exact evPos (by omega) (evEq (by unfold coolL; rw [hm, if_pos c0]))
      · have hcl : coolL xs = rd xs ((xs.length : Int) - 1) :: (xs.take (xs.length - 1) ++ xs.drop xs.length) := by unfold coolL; rw [hm, if_neg c0]
        rw [hcl]
        have c1 : xs.length = 1 := by omega
        refine evNeg (by omega) ?_
        rw [wr (x := (xs.length : Int) - 1) (by omega) (by omega)]
        refine evPos (by omega) (evPos (by omega) (evSome (evPos (by omega) (evPos ?_ (evSome (evPos (by omega) (evPos (by omega) (evPos ?_ (evEq ?_)))))))))
        · simp; omega
        · simp; omega
        · rw [show ((xs.length : Int) - 1).toNat = xs.length - 1 from by omega, Int.toNat_natCast]; simp
  · refine chCool_l0 xs hn (xs.length - 2) _ _ (by omega) (by omega) ?_
    rw [show xs.length - 2 - ((xs.length : Int) - 3 + 1).toNat = 0 from by omega]; rfl
/-! spec_chCoolList -/
theorem chCoolList_l0 (f : List Int) (hf : f.length ≤ 12) : ∀ (m : Nat) (out : List (List Int)) (l : List Int) (R : List (List Int)), l.length ≤ 12 → out.length + m ≤ 100000 → coolRun f m l = some R →
    Ev (fun q => spec_chCoolList.l0 q f out l) (out ++ R) := by
  intro m
  induction m with
  | zero => intro out l R _ _ h; simp [coolRun] at h
  | succ m ih =>
    intro out l R hl ho h
    refine Ev.step (fun q => by rw [spec_chCoolList.l0]) ?_
    refine Ev.bind (l1Same_ev l f (by omega)) ?_
    rw [coolRun] at h
    by_cases c : l = f
    · rw [if_pos c] at h; injection h with h; subst h
      exact evPos (by simpa using c) (evEq (by simp))
    · rw [if_neg c] at h
      obtain ⟨L1, h1, rfl⟩ := Option.map_eq_some_iff.1 h
      refine evNeg (by simpa using c) (evPos (by omega) (Ev.bind (chCool_ev l hl) ?_))
      refine evTo (ih (out ++ [l]) (coolL l) L1 (by rw [coolL_length]; exact hl) (by simp; omega) h1) ?_
      simp
theorem chCoolList_ev (n k : Nat) (hn : n ≤ 12) (hk : k ≤ n) (m : Nat) (hm : m ≤ 10000) (R : List (List Int)) (h : coolRun (coolFirst n k) m (coolL (coolFirst n k)) = some R) :
    Ev (fun q => spec_chCoolList.f q (n : Int) (k : Int)) (coolFirst n k :: R) := by
  unfold spec_chCoolList.f
  have hl := coolFirst_length n k
  have hu := upTo_length k
  refine Ev.bind (raUpTo_ev k (by omega)) (Ev.bind (chBits_ev n (upTo k) (by omega) (by omega) (fun y hy => by have := mem_upTo.1 hy; omega)) (Ev.bind (chCool_ev (bitsL n (upTo k)) (by rw [bitsL_length]; exact hn)) ?_))
  exact chCoolList_l0 (coolFirst n k) (by omega) m [coolFirst n k] (coolL (coolFirst n k)) R (by rw [coolL_length]; omega) (by simp; omega) h
/-! spec_CoolList -/
theorem spec_CoolList_ev (n k : Nat) (hn : n ≤ 12) (hk : k ≤ n) (m : Nat) (hm : m ≤ 10000) (R : List (List Int)) (h : coolRun (coolFirst n k) m (coolL (coolFirst n k)) = some R) :
    Ev (fun q => spec_CoolList.f q (n : Int) (k : Int)) (coolFirst n k :: R, true) := by
  unfold spec_CoolList.f
  simp only [chSize_eq, Option.bind_some]
  exact evPos (by simp; omega) (Ev.bind (chCoolList_ev n k hn hk m hm R h) (Ev.now _))
theorem spec_CoolList_no (n k : Int) (h : ¬ (0 ≤ n ∧ n ≤ 12 ∧ 0 ≤ k ∧ k ≤ n)) : Ev (fun q => spec_CoolList.f q n k) ([], false) := by
  unfold spec_CoolList.f
  simp only [chSize_eq, Option.bind_some]
  exact evNeg (by simpa using h) (Ev.now _)
/-! impl_within -/
theorem within_eq (x a b : Int) : impl_within.f x a b = some (decide (a ≤ x ∧ x ≤ b)) := by
  unfold impl_within.f
  by_cases h : x ≥ a
  · rw [if_pos h]; have h' : a ≤ x := h; simp [h']
  · rw [if_neg h]; have h' : ¬ a ≤ x := h; simp [h']
/-! impl_isChoice -/
theorem isChoice_eq (n k : Int) : impl_isChoice.f n k = some (decide (0 ≤ n ∧ n ≤ 12 ∧ 0 ≤ k ∧ k ≤ n)) := by
  unfold impl_isChoice.f
  simp only [within_eq, Option.bind_some]
  by_cases h : 0 ≤ n ∧ n ≤ 12
  · rw [if_pos (by simpa using h)]; simp [h]
  · rw [if_neg (by simpa using h)]; congr 1; exact (decide_eq_false (by omega)).symm
/-! impl_bitsOf -/
theorem bitsOf_l0 (n : Nat) (xs : List Int) (hn : xs.length ≤ 35184372088832) (hb : ∀ y ∈ xs, 0 ≤ y ∧ y < n) : ∀ (d : Nat) (out : List Int) (j : Int), 0 ≤ j → j.toNat + d = xs.length → out.length = n →
    Ev (fun k => impl_bitsOf.l0 k out xs (xs.length : Int) j) (setBits out (xs.drop j.toNat)) := by
  intro d
  induction d with
  | zero =>
    intro out j h0 hd ho
    refine Ev.step (fun k => by rw [impl_bitsOf.l0]) ?_
    refine evNeg (by omega) (evEq ?_)
    rw [drop_end _ _ (by omega)]; rfl
  | succ d ih =>
    intro out j h0 hd ho
    refine Ev.step (fun k => by rw [impl_bitsOf.l0]) ?_
    have hm : rd xs j ∈ xs := by rw [rd_get xs j (by omega)]; exact List.getElem_mem _
    have := hb _ hm
    refine evPos (by omega) (evPos (by omega) (evPos (by omega) (evPos (by omega) (evPos (by omega) ?_))))
    rw [wr (by omega) (by omega), drop_rd xs j h0 (by omega), setBits]
    exact ih _ _ (by omega) (by omega) (by simpa using ho)
theorem bitsOf_ev (n : Nat) (xs : List Int) (hn : xs.length ≤ 35184372088832) (hN : n ≤ 1000000) (hb : ∀ y ∈ xs, 0 ≤ y ∧ y < n) : Ev (fun k => impl_bitsOf.f k (n : Int) xs) (bitsL n xs) := by
  unfold impl_bitsOf.f
  refine evPos (by omega) (evPos (by simp; omega) ?_)
  exact evTo (bitsOf_l0 n xs hn hb xs.length _ 0 (by omega) (by simp) (by simp)) (by simp [bitsL])
/-! impl_copied -/
theorem copied_eq (l : List Int) (hn : l.length ≤ 10000000000000) : impl_copied.f l = some l := by
  unfold impl_copied.f
  simp only [Option.bind_some, List.nil_append, List.length_nil, Nat.zero_add]
  rw [if_pos (by omega)]
/-! impl_cool -/
theorem cool_l1 (xs : List Int) (hn : xs.length ≤ 12) (e : Nat) (he : e ≤ xs.length) (h1 : 1 ≤ e) : ∀ (d : Nat) (out : List Int) (j : Int), 1 ≤ j → j.toNat + d = e → out = rd xs 0 :: (xs.take (j.toNat - 1) ++ xs.drop j.toNat) →
    Ev (fun k => impl_cool.l1 k xs (e : Int) out j) (rd xs (e - 1) :: (xs.take (e - 1) ++ xs.drop e)) := by
  intro d
  induction d with
  | zero =>
    intro out j h0 hd ho
    refine Ev.step (fun k => by rw [impl_cool.l1]) ?_
    have hl : out.length = xs.length := by rw [ho]; simp; omega
    rw [wr (x := (e : Int) - 1) (by omega) (by omega)]
    refine evNeg (by omega) (evPos (by omega) (evPos (by omega) (evPos (by omega) (evPos (by omega) (evEq ?_)))))
    rw [ho, show j.toNat = e from by omega]; rfl
  | succ d ih =>
    intro out j h0 hd ho
    refine Ev.step (fun k => by rw [impl_cool.l1]) ?_
    have hl : out.length = xs.length := by rw [ho]; simp; omega
    rw [wr (x := j - 1) (by omega) (by omega), wr (x := j + 1) (by omega) (by omega)]
    refine evPos (by omega) (evPos (by omega) (evPos (by omega) (evPos (by omega) (evPos (by omega) ?_))))
    refine ih _ _ (by omega) (by omega) ?_
    rw [ho]
    obtain ⟨i, rfl⟩ : ∃ i : Nat, j = i + 1 := ⟨j.toNat - 1, by omega⟩
    rw [show ((i : Int) + 1 - 1) = (i : Int) from by omega, show ((i : Int) + 1).toNat = i + 1 from by omega, show ((i : Int) + 1 + 1).toNat = i + 2 from by omega]
    have hi : i < xs.length := by omega
    have hi2 : i + 1 < xs.length := by omega
    simp only [List.set_cons_succ, Nat.add_sub_cancel]
    congr 1
    rw [rd_get xs i (by simpa using hi), show i + 2 - 1 = i + 1 from by omega]
    rw [List.drop_eq_getElem_cons hi2, List.set_append_right _ _ (by rw [List.length_take]; omega)]
    simp only [List.length_take, Int.toNat_natCast]
    rw [show i - min i xs.length = 0 from by omega, List.set_cons_zero, List.take_succ_eq_append_getElem hi, List.append_assoc]
    rfl
theorem cool_j1 (xs : List Int) (hn : xs.length ≤ 12) (e : Int) (he : e = coolM xs) : Ev (fun k => impl_cool.j1 k xs e) (coolL xs) := by
  subst he
  have hb := coolM_bound xs
  refine Ev.step (fun k => by rw [impl_cool.j1]) ?_
  simp only [copied_eq xs (by omega), Option.bind_some]
  unfold coolL
  by_cases c : coolM xs = 0
  · rw [if_pos c]
    refine Ev.step (fun k => by rw [impl_cool.l1]) ?_
    exact evNeg (by omega) (evNeg (by omega) (evEq (List.length_eq_zero_iff.1 (by omega))))
  · rw [if_neg c]
    refine evTo (cool_l1 xs hn (coolM xs) (by omega) (by omega) (coolM xs - 1) xs 1 (by omega) (by omega) ?_) ?_
    · cases xs with
      | nil => simp at hb; omega
      | cons x t => rfl
    · rfl
theorem cool_l0 (xs : List Int) (hn : xs.length ≤ 12) (M : Nat) (hM : M = coolM xs) : ∀ (d : Nat) (j : Int), 2 ≤ j → j.toNat + d = xs.length → M = coolEnd xs (j - 2).toNat (xs.length - 2 - (j - 2).toNat) →
    Ev (fun k => impl_cool.l0 k xs (xs.length : Int) j) (coolL xs) := by
  intro d
  induction d with
  | zero =>
    intro j h0 hd hm
    refine Ev.step (fun k => by rw [impl_cool.l0]) ?_
    refine evNeg (by omega) (cool_j1 xs hn _ ?_)
    rw [← hM, hm, show xs.length - 2 - (j - 2).toNat = 0 from by omega]; rfl
  | succ d ih =>
    intro j h0 hd hm
    refine Ev.step (fun k => by rw [impl_cool.l0]) ?_
    rw [wr (x := j - 2) (by omega) (by omega), wr (x := j - 1) (by omega) (by omega), wr (x := j + 1) (by omega) (by omega)]
    rw [show xs.length - 2 - (j - 2).toNat = (xs.length - 2 - (j + 1 - 2).toNat) + 1 from by omega, coolEnd] at hm
    rw [show (((j - 2).toNat : Nat) : Int) = j - 2 from by omega, show j - 2 + 1 = j - 1 from by omega, show (j - 2).toNat + 1 = (j + 1 - 2).toNat from by omega] at hm
    refine evPos (by omega) (evPos (by omega) (evPos (by omega) ?_))
    by_cases c1 : rd xs (j - 2) = 0
    · refine evPos c1 (evPos (by omega) (evPos (by omega) ?_))
      by_cases c2 : rd xs (j - 1) = 1
      · refine evPos c2 (cool_j1 xs hn _ ?_)
        rw [← hM, hm, if_pos ⟨c1, c2⟩]; omega
      · refine evNeg c2 (ih _ (by omega) (by omega) ?_)
        rw [hm, if_neg (fun h => c2 h.2)]
    · refine evNeg c1 (ih _ (by omega) (by omega) ?_)
      rw [hm, if_neg (fun h => c1 h.1)]
theorem cool_ev (xs : List Int) (hn : xs.length ≤ 12) : Ev (fun k => impl_cool.f k xs) (coolL xs) := by
  unfold impl_cool.f
  by_cases c : xs.length < 2
  · refine Ev.step (fun k => by rw [impl_cool.l0]) ?_
    refine evNeg (by omega) (cool_j1 xs hn _ ?_)
    unfold coolM; rw [show xs.length - 2 = 0 from by omega]; rfl
  · exact cool_l0 xs hn (coolM xs) rfl (xs.length - 2) 2 (by omega) (by omega) rfl
/-! impl_identity -/
theorem identity_l0 (n : Nat) (hn : n ≤ 1000000000) : ∀ (d : Nat) (j : Int), 0 ≤ j → j.toNat + d = n → Ev (fun k => impl_identity.l0 k (upTo j.toNat) (n : Int) j) (upTo n) := by
  intro d
  induction d with
  | zero =>
    intro j h0 hd
    refine Ev.step (fun k => by rw [impl_identity.l0]) ?_
    exact evNeg (by omega) (evEq (by rw [show j.toNat = n from by omega]))
  | succ d ih =>
    intro j h0 hd
    refine Ev.step (fun k => by rw [impl_identity.l0]) ?_
    refine evPos (by omega) (evPos (by rw [upTo_length]; omega) ?_)
    have h := ih (j + 1) (by omega) (by omega)
    rw [show (j + 1).toNat = j.toNat + 1 from by omega, upTo_succ, Int.toNat_of_nonneg h0] at h
    rw [wr (by omega) (by omega)]
    exact h
theorem identity_ev (n : Nat) (hn : n ≤ 1000000000) : Ev (fun k => impl_identity.f k (n : Int)) (upTo n) := by
  unfold impl_identity.f
  exact identity_l0 n hn n 0 (by omega) (by simp)
/-! slices_Equal_int_int -/
theorem slicesEqual_l0 (a b : List Int) (hn : a.length ≤ 35184372088832) (hb : a.length = b.length) : ∀ (d : Nat) (j : Int), 0 ≤ j → j.toNat + d = a.length →
    Ev (fun k => slices_Equal_int_int.l0 k a b (a.length : Int) j) (decide (a.drop j.toNat = b.drop j.toNat)) := by
  intro d
  induction d with
  | zero =>
    intro j h0 hd
    refine Ev.step (fun k => by rw [slices_Equal_int_int.l0]) ?_
    refine evNeg (by omega) ?_
    rw [drop_end a j (by omega), drop_end b j (by omega)]
    exact evEq rfl
  | succ d ih =>
    intro j h0 hd
    refine Ev.step (fun k => by rw [slices_Equal_int_int.l0]) ?_
    refine evPos (by omega) (evPos (by omega) (evPos (by omega) (evPos (by omega) ?_)))
    rw [wr (by omega) (by omega), drop_rd a j h0 (by omega), drop_rd b j h0 (by omega)]
    by_cases c : rd a j = rd b j
    · refine evPos c (evTo (ih _ (by omega) (by omega)) ?_)
      simp [c]
    · refine evNeg c (evEq ?_)
      simp [c]
theorem slicesEqual_ev (a b : List Int) (hn : a.length ≤ 35184372088832) : Ev (fun k => slices_Equal_int_int.f k a b) (decide (a = b)) := by
  unfold slices_Equal_int_int.f
  by_cases hb : a.length = b.length
  · exact evPos (by omega) (slicesEqual_l0 a b hn hb a.length 0 (by omega) (by simp))
  · refine evNeg (by omega) (evEq ?_)
    exact (decide_eq_false (fun e => hb (by rw [e]))).symm
/-! impl_coolList -/
theorem coolList_l0 (f : List Int) (hf : f.length ≤ 12) : ∀ (m : Nat) (out : List (List Int)) (l : List Int) (R : List (List Int)), l.length ≤ 12 → out.length + m ≤ 100000 → coolRun f m l = some R →
    Ev (fun q => impl_coolList.l0 q f out l) (out ++ R) := by
  intro m
  induction m with
  | zero => intro out l R _ _ h; simp [coolRun] at h
  | succ m ih =>
    intro out l R hl ho h
    refine Ev.step (fun q => by rw [impl_coolList.l0]) ?_
    refine Ev.bind (slicesEqual_ev l f (by omega)) ?_
    rw [coolRun] at h
    by_cases c : l = f
    · rw [if_pos c] at h; injection h with h; subst h
      exact evPos (by simpa using c) (evEq (by simp))
    · rw [if_neg c] at h
      obtain ⟨L1, h1, rfl⟩ := Option.map_eq_some_iff.1 h
      refine evNeg (by simpa using c) (evPos (by omega) (Ev.bind (cool_ev l hl) ?_))
      refine evTo (ih (out ++ [l]) (coolL l) L1 (by rw [coolL_length]; exact hl) (by simp; omega) h1) ?_
      simp
theorem coolList_ev (n k : Nat) (hn : n ≤ 12) (hk : k ≤ n) (m : Nat) (hm : m ≤ 10000) (R : List (List Int)) (h : coolRun (coolFirst n k) m (coolL (coolFirst n k)) = some R) :
    Ev (fun q => impl_coolList.f q (n : Int) (k : Int)) (coolFirst n k :: R) := by
  unfold impl_coolList.f
  have hl := coolFirst_length n k
  have hu := upTo_length k
  refine Ev.bind (identity_ev k (by omega)) (Ev.bind (bitsOf_ev n (upTo k) (by omega) (by omega) (fun y hy => by have := mem_upTo.1 hy; omega)) (Ev.bind (cool_ev (bitsL n (upTo k)) (by rw [bitsL_length]; exact hn)) ?_))
  exact coolList_l0 (coolFirst n k) (by omega) m [coolFirst n k] (coolL (coolFirst n k)) R (by rw [coolL_length]; omega) (by simp; omega) h
/-! impl_CoolList -/
theorem CoolList_ev (n k : Nat) (hn : n ≤ 12) (hk : k ≤ n) (m : Nat) (hm : m ≤ 10000) (R : List (List Int)) (h : coolRun (coolFirst n k) m (coolL (coolFirst n k)) = some R) :
    Ev (fun q => impl_CoolList.f q (n : Int) (k : Int)) (coolFirst n k :: R, true) := by
  unfold impl_CoolList.f
  simp only [isChoice_eq, Option.bind_some]
  exact evPos (by simp; omega) (Ev.bind (coolList_ev n k hn hk m hm R h) (Ev.now _))
theorem CoolList_no (n k : Int) (h : ¬ (0 ≤ n ∧ n ≤ 12 ∧ 0 ≤ k ∧ k ≤ n)) : Ev (fun q => impl_CoolList.f q n k) ([], false) := by
  unfold impl_CoolList.f
  simp only [isChoice_eq, Option.bind_some]
  exact evNeg (by simpa using h) (Ev.now _)
/-- What is to be shown of the law. -/
def FnExactCoolList_Pure : Prop := ∀ (n k : Int), (Lit.int .i64 n).wf = true → (Lit.int .i64 k).wf = true → ∃ q, laws_FnExactCoolList.Fine q n k
theorem cool_comes : ((List.range 13).all fun n => (List.range (n + 1)).all fun k => (coolRun (coolFirst n k) 1000 (coolL (coolFirst n k))).isSome) = true := by decide +kernel
theorem FnExactCoolList : FnExactCoolList_Pure := by
  intro n k wn wk
  have key : ∃ (L : List (List Int)) (b : Bool), Ev (fun q => spec_CoolList.f q n k) (L, b) ∧ Ev (fun q => impl_CoolList.f q n k) (L, b) ∧ L.length ≤ 1100000 ∧ ∀ t ∈ L, t.length ≤ 12 := by
    by_cases h : 0 ≤ n ∧ n ≤ 12 ∧ 0 ≤ k ∧ k ≤ n
    · obtain ⟨N, rfl⟩ := Int.eq_ofNat_of_zero_le h.1
      obtain ⟨K, rfl⟩ := Int.eq_ofNat_of_zero_le h.2.2.1
      have hc := List.all_eq_true.1 (List.all_eq_true.1 cool_comes N (List.mem_range.2 (by omega))) K (List.mem_range.2 (by omega))
      obtain ⟨R, hR⟩ := Option.isSome_iff_exists.1 hc
      have hs := coolRun_small _ _ _ _ hR
      have hl := coolFirst_length N K
      refine ⟨_, _, spec_CoolList_ev N K (by omega) (by omega) 1000 (by omega) R hR, CoolList_ev N K (by omega) (by omega) 1000 (by omega) R hR, by simp only [List.length_cons]; omega, fun t ht => ?_⟩
      rcases List.mem_cons.1 ht with rfl | ht
      · omega
      · have := hs.2 t ht; rw [coolL_length] at this; omega
    · exact ⟨[], false, spec_CoolList_no n k h, CoolList_no n k h, by simp, by simp⟩
  obtain ⟨g, b, ⟨K1, h1⟩, ⟨K2, h2⟩, hgl, hgt⟩ := key
  obtain ⟨L', m, ⟨K3, h3⟩, ⟨K4, h4⟩, ⟨K5, h5⟩, h6, h7⟩ := markSS_all g 12 (by omega) hgl hgt
  exact ⟨K1 + K2 + K3 + K4 + K5, g, L', b, m, h1 _ (by omega), h2 _ (by omega), h3 _ (by omega), h4 _ (by omega), h5 _ (by omega), h6, h7⟩

end Go.Proofs.Ytcohdpmdgplgfaa.Pure
