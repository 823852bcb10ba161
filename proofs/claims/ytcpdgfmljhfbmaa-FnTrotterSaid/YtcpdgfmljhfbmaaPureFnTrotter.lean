/- The pure statement of FnTrotter: for all arguments that fit, the law as a Lean function answers true after enough rounds. -/
import Derived.Test.YtcpdgfmljhfbmaaMFnTrotterx1
import Derived.Test.YtcpdgfmljhfbmaaMFnTrotterx2
import Derived.Test.YtcpdgfmljhfbmaaMFnTrotterx3
import Derived.Test.YtcpdgfmljhfbmaaMFnTrotterx4
import Derived.Test.YtcpdgfmljhfbmaaMFnTrotterx5
import Derived.Test.YtcpdgfmljhfbmaaMFnTrotterx6
import Derived.Test.YtcpdgfmljhfbmaaMFnTrotterx7
import Derived.Test.YtcpdgfmljhfbmaaMFnTrotterx8
import Derived.Test.YtcpdgfmljhfbmaaBase
import Derived.Test.YtcpdgfmljhfbmaaComb
import Derived.Test.YtcpdgfmljhfbmaaTrot
import Derived.Test.YtcpdgfmljhfbmaaMoves
import Derived.Test.YtcpdgfmljhfbmaaPerms
import Derived.Test.YtcpdgfmljhfbmaaTrotRank
import Derived.Test.YtcpdgfmljhfbmaaSgn
import Derived.Test.YtcpdgfmljhfbmaaTrotX
namespace Go.Proofs.Ytcpdgfmljhfbmaa.Pure
open Go.RowKit Go.Proofs.Ytcpdgfmljhfbmaa.MFnTrotter Go.Proofs.YtcpdgfmljhfbmaaW.PrintWords Go.Proofs.YtcpdgfmljhfbmaaW.PrintLast Go.Proofs.Ytcpdgfmljhfbmaa.Base Go.Proofs.Ytcpdgfmljhfbmaa.Comb Go.Proofs.Ytcpdgfmljhfbmaa.Trot Go.Proofs.Ytcpdgfmljhfbmaa.Moves Go.Proofs.Ytcpdgfmljhfbmaa.Perms Go.Proofs.Ytcpdgfmljhfbmaa.TrotRank Go.Proofs.Ytcpdgfmljhfbmaa.Sgn Go.Proofs.Ytcpdgfmljhfbmaa.TrotX
set_option linter.unusedVariables false
set_option linter.unusedSimpArgs false

/-! laws_big -/
theorem big_eq (a b : List Int) : ∃ t, laws_big.f a b = some t ∧ (t = false → a.length ≤ 1048576 ∧ b.length ≤ 1048576) := by
  unfold laws_big.f
  by_cases c : (a.length : Int) > 1048576
  · exact ⟨true, by rw [if_pos c], fun h => by cases h⟩
  · rw [if_neg c, wr (by omega) (by omega)]
    exact ⟨_, rfl, fun h => by have := of_decide_eq_false h; omega⟩
/-! impl_identity -/
theorem identity_l0 (n : Nat) (hn : n ≤ 1000000000) : ∀ (d : Nat) (j : Int), 0 ≤ j → j.toNat + d = n → Ev (fun k => impl_identity.l0 k (upTo j.toNat) (n : Int) j) (upTo n) := by
  intro d
  induction d with
  | zero =>
    intro j h0 hd
    refine Ev.step (fun k => by rw [impl_identity.l0]) ?_
    exact evNeg (by omega) (evEq (by rw [show j.toNat = n from by omega]))
  | succ d ih =>
    intro j h0 hd
    refine Ev.step (fun k => by rw [impl_identity.l0]) ?_
    refine evPos (by omega) (evPos (by rw [upTo_length]; omega) ?_)
    have h := ih (j + 1) (by omega) (by omega)
    rw [show (j + 1).toNat = j.toNat + 1 from by omega, upTo_succ, Int.toNat_of_nonneg h0] at h
    rw [wr (by omega) (by omega)]
    exact h
theorem identity_ev (n : Nat) (hn : n ≤ 1000000000) : Ev (fun k => impl_identity.f k (n : Int)) (upTo n) := by
  unfold impl_identity.f
  exact identity_l0 n hn n 0 (by omega) (by simp)
/-! slices_Equal_int_int -/
theorem slicesEqual_l0 (a b : List Int) (hn : a.length ≤ 35184372088832) (hb : a.length = b.length) : ∀ (d : Nat) (j : Int), 0 ≤ j → j.toNat + d = a.length →
    Ev (fun k => slices_Equal_int_int.l0 k a b (a.length : Int) j) (decide (a.drop j.toNat = b.drop j.toNat)) := by
  intro d
  induction d with
  | zero =>
    intro j h0 hd
    refine Ev.step (fun k => by rw [slices_Equal_int_int.l0]) ?_
    refine evNeg (by omega) ?_
    rw [drop_end a j (by omega), drop_end b j (by omega)]
    exact evEq rfl
  | succ d ih =>
    intro j h0 hd
    refine Ev.step (fun k => by rw [slices_Equal_int_int.l0]) ?_
    refine evPos (by omega) (evPos (by omega) (evPos (by omega) (evPos (by omega) ?_)))
    rw [wr (by omega) (by omega), drop_rd a j h0 (by omega), drop_rd b j h0 (by omega)]
    by_cases c : rd a j = rd b j
    · refine evPos c (evTo (ih _ (by omega) (by omega)) ?_)
      simp [c]
    · refine evNeg c (evEq ?_)
      simp [c]
theorem slicesEqual_ev (a b : List Int) (hn : a.length ≤ 35184372088832) : Ev (fun k => slices_Equal_int_int.f k a b) (decide (a = b)) := by
  unfold slices_Equal_int_int.f
  by_cases hb : a.length = b.length
  · exact evPos (by omega) (slicesEqual_l0 a b hn hb a.length 0 (by omega) (by simp))
  · refine evNeg (by omega) (evEq ?_)
    exact (decide_eq_false (fun e => hb (by rw [e]))).symm
/-! impl_IsPermutation -/
theorem IsPermutation_ev (l : List Int) (hl : l.length ≤ 35184372088832) : Ev (fun q => impl_IsPermutation.f q l) (isPm l) := by
  unfold impl_IsPermutation.f isPm
  by_cases c : l.length ≤ 12
  · refine evPos c (Ev.bind (identity_ev l.length (by omega)) ?_)
    have hs : (srt l).length = l.length := (srt_perm l).length_eq
    refine evTo (slicesEqual_ev (srt l) (upTo l.length) (by omega)) ?_
    rw [decide_eq_true c, Bool.true_and]
  · refine evNeg c (evEq ?_)
    rw [decide_eq_false c, Bool.false_and]
/-! impl_within -/
theorem within_eq (x a b : Int) : impl_within.f x a b = some (decide (a ≤ x ∧ x ≤ b)) := by
  unfold impl_within.f
  by_cases h : x ≥ a
  · rw [if_pos h]; have h' : a ≤ x := h; simp [h']
  · rw [if_neg h]; have h' : ¬ a ≤ x := h; simp [h']
/-! impl_isMove -/
theorem isMove_eq (n c i j : Int) (h0 : 0 ≤ n) (hn : n ≤ 12) : impl_isMove.f n c i j = some (isMv n c i j) := by
  unfold impl_isMove.f isMv
  simp only [within_eq, Option.bind_some]
  by_cases c0 : c = 0
  · rw [if_pos c0]
    by_cases c1 : 0 ≤ i
    · rw [if_pos c1]
      by_cases c2 : i < j
      · rw [if_pos c2]; congr 1; apply decide_eq_decide.2; omega
      · rw [if_neg c2]; congr 1; exact (decide_eq_false (by omega)).symm
    · rw [if_neg c1]; congr 1; exact (decide_eq_false (by omega)).symm
  · rw [if_neg c0]
    by_cases c1 : c = 1
    · rw [if_pos c1]
      by_cases c3 : 2 ≤ i ∧ i ≤ n
      · rw [if_pos (by simpa using c3)]
        congr 1; rw [Bool.eq_iff_iff]; simp; omega
      · rw [if_neg (by simpa using c3)]
        congr 1; exact (decide_eq_false (by omega)).symm
    · rw [if_neg c1]
      by_cases c2 : c = 2
      · rw [if_pos c2]
        by_cases c3 : 2 ≤ i ∧ i ≤ n
        · rw [if_pos (by simpa using c3)]
          congr 1; rw [Bool.eq_iff_iff]; simp; omega
        · rw [if_neg (by simpa using c3)]
          congr 1; exact (decide_eq_false (by omega)).symm
      · rw [if_neg c2]
        congr 1; exact (decide_eq_false (by omega)).symm
/-! impl_copied -/
theorem copied_eq (l : List Int) (hn : l.length ≤ 10000000000000) : impl_copied.f l = some l := by
  unfold impl_copied.f
  simp only [Option.bind_some, List.nil_append, List.length_nil, Nat.zero_add]
  rw [if_pos (by omega)]
/-! impl_moved -/
theorem moved_r0 : ∀ (n : Nat) (p m s : List Int), m.length ≤ n → Ev (fun k => impl_moved.r0 k (p ++ m ++ s) (p.length : Int) ((p.length : Int) + m.length - 1)) (p ++ m.reverse ++ s) := by
  intro n
  induction n with
  | zero =>
    intro p m s hm
    obtain rfl : m = [] := List.length_eq_zero_iff.1 (by omega)
    refine Ev.step (fun q => by rw [impl_moved.r0]) ?_
    exact evNeg (by simp; omega) (evEq (by simp))
  | succ n ih =>
    intro p m s hm
    refine Ev.step (fun q => by rw [impl_moved.r0]) ?_
    match m, hm with
    | [], _ => exact evNeg (by simp; omega) (evEq (by simp))
    | [x], _ => exact evNeg (by simp) (evEq (by simp))
    | x :: y :: t, hm =>
      obtain ⟨u, z, hz⟩ : ∃ u z, y :: t = u ++ [z] := ⟨(y :: t).dropLast, (y :: t).getLast (by simp), (List.dropLast_concat_getLast (by simp)).symm⟩
      rw [hz]
      have hl : u.length + 1 = t.length + 1 := by have := congrArg List.length hz; simp at this; omega
      simp only [List.length_cons] at hm
      refine evPos (by simp; omega) ?_
      have e1 : (p.length : Int).toNat = p.length := Int.toNat_natCast _
      have e2 : ((p.length : Int) + ((x :: (u ++ [z])).length : Nat) - 1).toNat = p.length + u.length + 1 := by simp; omega
      have r1 : rd (p ++ x :: (u ++ [z]) ++ s) (p.length : Int) = x := by
        unfold rd; rw [e1]; simp
      have r2 : rd (p ++ x :: (u ++ [z]) ++ s) ((p.length : Int) + ((x :: (u ++ [z])).length : Nat) - 1) = z := by
        unfold rd; rw [e2]
        rw [List.getD_eq_getElem?_getD, List.append_assoc, List.getElem?_append_right (by omega), show p.length + u.length + 1 - p.length = u.length + 1 by omega]
        simp
      rw [r1, r2, e1, e2]
      have hset : ((p ++ x :: (u ++ [z]) ++ s).set p.length z).set (p.length + u.length + 1) x = (p ++ [z]) ++ u ++ ([x] ++ s) := by
        rw [List.append_assoc p, List.set_append_right _ _ (by omega), Nat.sub_self, List.cons_append, List.set_cons_zero, List.set_append_right _ _ (by omega), show p.length + u.length + 1 - p.length = u.length + 1 by omega, List.set_cons_succ]
        rw [List.append_assoc u, List.set_append_right _ _ (by omega), Nat.sub_self]
        simp
      rw [hset]
      refine evTo (Ev.congr (fun k => ?_) (ih (p ++ [z]) u ([x] ++ s) (by omega))) ?_
      · congr 1
        · simp
        · simp; omega
      · simp
theorem moved_ev (l : List Int) (hl : l.length ≤ 1000) (a b c : Int) (hg : Mgood l.length a b c) : Ev (fun q => impl_moved.f q l a b c) (mv l a b c) := by
  unfold impl_moved.f
  rw [copied_eq l (by omega)]
  refine evSome (evPos (by omega) ?_)
  rcases hg with ⟨rfl, h1, h2, h3⟩ | ⟨rfl, h1, h2, rfl⟩ | ⟨rfl, h1, h2, rfl⟩
  · exact evPos rfl (evPos (by omega) (evPos (by omega) (evPos (by omega) (evPos (by omega) (evEq rfl)))))
  · refine evNeg (by decide) (evPos rfl (evPos (by omega) (evPos (by omega) ?_)))
    have h := moved_r0 b.toNat [] (l.take b.toNat) (l.drop b.toNat) (by rw [List.length_take]; omega)
    rw [List.length_take, show min b.toNat l.length = b.toNat by omega] at h
    refine evTo (Ev.congr (fun k => ?_) h) (by simp [mv])
    rw [List.nil_append, List.take_append_drop]
    congr 1
    simp; omega
  · refine evNeg (by decide) (evNeg (by decide) (evPos rfl (evPos (by omega) (evPos (by omega) (evEq ?_)))))
    obtain ⟨n, hn⟩ : ∃ n : Nat, b = (n : Int) + 1 := ⟨b.toNat - 1, by omega⟩
    subst hn
    rw [show ((n : Int) + 1).toNat = n + 1 by omega, show ((n : Int) + 1 - 1).toNat = n by omega]
    match l, h2 with
    | x :: t, h2 =>
      simp at h2
      have e : rd (x :: t) 0 = x := rfl
      rw [e]
      simp only [mv, List.take_succ_cons, List.drop_succ_cons, List.drop_zero]
      rw [show ((n : Int) + 1).toNat = n + 1 by omega]
      simp only [List.take_succ_cons, List.drop_succ_cons, List.drop_zero, List.take_zero]
      rw [if_neg (by decide), if_neg (by decide)]
      have hd : (x :: t).drop n = (x :: t)[n]'(by simp; omega) :: t.drop n := by
        rw [List.drop_eq_getElem_cons (by simp; omega)]; simp
      rw [hd, List.set_append_right _ _ (by rw [List.length_take]; omega), List.length_take, show n - min n t.length = 0 by omega]
      simp
/-! impl_ApplyMove -/
/-- A permutation behind a move. -/
def apM (l : List Int) (a b c : Int) : List Int × Bool := if isPm l = true ∧ isMv l.length a b c = true then (mv l a b c, true) else ([], false)
theorem isMv_good {n a b c : Int} (h : isMv n a b c = true) : Mgood n a b c := by
  simp only [isMv, decide_eq_true_eq] at h; unfold Mgood; omega
theorem ApplyMove_ev (l : List Int) (hl : l.length ≤ 1048576) (a b c : Int) : Ev (fun q => impl_ApplyMove.f q l a b c) (apM l a b c) := by
  unfold impl_ApplyMove.f apM
  refine Ev.bind (IsPermutation_ev l (by omega)) ?_
  by_cases hp : isPm l = true
  · have h12 := (isPm_perm hp).1
    refine evPos hp ?_
    rw [isMove_eq _ _ _ _ (by omega) (by omega)]
    by_cases hv : isMv l.length a b c = true
    · exact evSome (evPos hv (Ev.bind (moved_ev l (by omega) a b c (isMv_good hv)) (evEq (by rw [if_pos ⟨hp, hv⟩]))))
    · exact evSome (evNeg hv (evEq (by rw [if_neg (fun h => hv h.2)])))
  · exact evNeg hp (evEq (by rw [if_neg (fun h => hp h.1)]))
/-! laws_uSame -/
theorem uSame_l0 (a : List Int) (hn : a.length ≤ 35184372088832) : ∀ (d : Nat) (j : Int), 0 ≤ j → j.toNat + d = a.length → Ev (fun k => laws_uSame.l0 k a a (a.length : Int) j) true := by
  intro d
  induction d with
  | zero =>
    intro j h0 hd
    refine Ev.step (fun k => by rw [laws_uSame.l0]) ?_
    exact evNeg (by omega) (Ev.now _)
  | succ d ih =>
    intro j h0 hd
    refine Ev.step (fun k => by rw [laws_uSame.l0]) ?_
    refine evPos (by omega) (evPos (by omega) (evPos (by omega) (evPos (by omega) (evPos rfl ?_))))
    rw [wr (by omega) (by omega)]
    exact ih _ (by omega) (by omega)
theorem uSame_self (a : List Int) (hn : a.length ≤ 35184372088832) : Ev (fun k => laws_uSame.f k a a) true := by
  unfold laws_uSame.f
  exact evPos rfl (uSame_l0 a hn a.length 0 (by omega) (by simp))
/-! impl_inversions -/
theorem inversions_l1 (l out x10 : List Int) (v x11 x12 : Int) (T : List Int) (hT : T.length ≤ 1000) (ho : out.length ≤ 1000) (r : List Int) : ∀ (d : Nat) (j c : Int), 0 ≤ j → j.toNat + d = T.length → 0 ≤ c → c ≤ j →
    Ev (fun k => impl_inversions.l0 k l (out ++ [c + cnt v (T.drop j.toNat)]) x10 x11 (wrap64 (x12 + 1))) r → Ev (fun k => impl_inversions.l1 k l out v c x10 x11 x12 T (T.length : Int) j) r := by
  intro d
  induction d with
  | zero =>
    intro j c h0 hd hc hcj h
    refine Ev.step (fun k => by rw [impl_inversions.l1]) ?_
    rw [drop_end T j (by omega), cnt] at h
    exact evNeg (by omega) (evPos (by omega) (by simpa using h))
  | succ d ih =>
    intro j c h0 hd hc hcj h
    refine Ev.step (fun k => by rw [impl_inversions.l1]) ?_
    refine evPos (by omega) (evPos (by omega) (evPos (by omega) ?_))
    rw [drop_rd T j h0 (by omega), cnt] at h
    rw [wr (x := c + 1) (by omega) (by omega), wr (x := j + 1) (by omega) (by omega)]
    by_cases q : rd T j > v
    · rw [if_pos q] at h
      refine evPos q (ih (j + 1) (c + 1) (by omega) (by omega) (by omega) (by omega) ?_)
      have e : c + 1 + (cnt v (T.drop (j + 1).toNat) : Int) = c + ((1 + cnt v (T.drop (j + 1).toNat) : Nat) : Int) := by push_cast; omega
      rw [e]; exact h
    · rw [if_neg q] at h
      refine evNeg q (ih (j + 1) c (by omega) (by omega) (by omega) (by omega) ?_)
      have e : c + (cnt v (T.drop (j + 1).toNat) : Int) = c + ((0 + cnt v (T.drop (j + 1).toNat) : Nat) : Int) := by push_cast; omega
      rw [e]; exact h
theorem inversions_l0 (l : List Int) (hl : l.length ≤ 1000) : ∀ (d : Nat) (out : List Int) (i : Int), 0 ≤ i → i.toNat + d = l.length → out.length = i.toNat →
    Ev (fun k => impl_inversions.l0 k l out l (l.length : Int) i) (out ++ invL (l.take i.toNat) (l.drop i.toNat)) := by
  intro d
  induction d with
  | zero =>
    intro out i h0 hd ho
    refine Ev.step (fun k => by rw [impl_inversions.l0]) ?_
    refine evNeg (by omega) (evEq ?_)
    rw [drop_end l i (by omega), invL, List.append_nil]
  | succ d ih =>
    intro out i h0 hd ho
    refine Ev.step (fun k => by rw [impl_inversions.l0]) ?_
    refine evPos (by omega) (evPos (by omega) (evPos (by omega) (evPos (by omega) ?_)))
    refine inversions_l1 l out l (rd l i) (l.length : Int) i (l.take i.toNat) (by rw [List.length_take]; omega) (by omega) _ (l.take i.toNat).length 0 0 (by omega) (by simp) (by omega) (by omega) ?_
    rw [wr (by omega) (by omega)]
    refine evTo (ih _ (i + 1) (by omega) (by omega) (by simp; omega)) ?_
    rw [drop_rd l i h0 (by omega), invL, take_rd l i h0 (by omega)]
    simp
theorem inversions_ev (l : List Int) (hl : l.length ≤ 1000) : Ev (fun k => impl_inversions.f k l) (invL [] l) := by
  unfold impl_inversions.f
  exact evTo (inversions_l0 l hl l.length [] 0 (by omega) (by simp) rfl) (by simp)
/-! impl_sign -/
theorem sign_l0 (L : List Int) (hL : L.length ≤ 1000) (hb : ∀ x ∈ L, 0 ≤ x ∧ x ≤ 1000) : ∀ (d : Nat) (s j : Int), 0 ≤ j → j.toNat + d = L.length → 0 ≤ s → s + 1000 * d ≤ 10000000 →
    Ev (fun k => impl_sign.l0 k s L (L.length : Int) j) (1 - 2 * Int.tmod (s + sumL (L.drop j.toNat)) 2) := by
  intro d
  induction d with
  | zero =>
    intro s j h0 hd hs hk
    refine Ev.step (fun k => by rw [impl_sign.l0]) ?_
    rw [drop_end L j (by omega), sumL, Int.add_zero]
    have h1 : 0 ≤ Int.tmod s 2 := Int.tmod_nonneg _ hs
    have h2 : Int.tmod s 2 < 2 := Int.tmod_lt_of_pos _ (by omega)
    refine evNeg (by omega) (evEq ?_)
    rw [wr (x := 2 * Int.tmod s 2) (by omega) (by omega), wr (by omega) (by omega)]
  | succ d ih =>
    intro s j h0 hd hs hk
    refine Ev.step (fun k => by rw [impl_sign.l0]) ?_
    have hx := hb (rd L j) (by rw [rd_get L j (by omega)]; exact List.getElem_mem _)
    refine evPos (by omega) (evPos (by omega) (evPos (by omega) ?_))
    rw [wr (x := s + rd L j) (by omega) (by omega), wr (x := j + 1) (by omega) (by omega), drop_rd L j h0 (by omega), sumL]
    refine evTo (ih (s + rd L j) (j + 1) (by omega) (by omega) (by omega) (by omega)) ?_
    rw [Int.add_assoc]
theorem sign_ev (l : List Int) (hl : l.length ≤ 500) : Ev (fun k => impl_sign.f k l) (sg l) := by
  unfold impl_sign.f
  refine Ev.bind (inversions_ev l (by omega)) ?_
  have hlen := invL_length l []
  have hb := invL_mem l []
  refine evTo (sign_l0 (invL [] l) (by omega) (fun x hx => by have := hb x hx; simp at this; omega) l.length 0 0 (by omega) (by omega) (by omega) (by omega)) ?_
  rw [show (0 : Int).toNat = 0 from rfl, List.drop_zero, Int.zero_add, sumL_invL]
  unfold sg
  rw [Int.tmod_eq_emod_of_nonneg (by omega)]
  push_cast
  rfl
/-! impl_SignOf -/
theorem SignOf_ev (l : List Int) (hl : l.length ≤ 1048576) : Ev (fun q => impl_SignOf.f q l) (if isPm l = true then (sg l, true) else (0, false)) := by
  unfold impl_SignOf.f
  refine Ev.bind (IsPermutation_ev l (by omega)) ?_
  by_cases c : isPm l = true
  · rw [if_pos c]; exact evPos c (Ev.bind (sign_ev l (by have := (isPm_perm c).1; omega)) (Ev.now _))
  · rw [if_neg c]; exact evNeg c (Ev.now _)
/-! spec_l1Cur_next -/
theorem u64_lt (x : Int) : 0 ≤ IntKind.u64.wrap x ∧ IntKind.u64.wrap x < 18446744073709551616 := by rw [IntKind.wrap_u64]; omega
theorem low8 (x : Int) : 0 ≤ wrap64 (Go.bits .and .u64 (IntKind.u64.wrap x / 1099511627776) 255) ∧ wrap64 (Go.bits .and .u64 (IntKind.u64.wrap x / 1099511627776) 255) ≤ 255 := by
  have hu := u64_lt x
  generalize IntKind.u64.wrap x = y at hu ⊢
  have h := Go.bits_mask .u64 63 (by decide) (fun n h0 h1 => by rw [IntKind.wrap_u64]; omega) 8 (by decide) (y / 1099511627776) (by omega) (by omega)
  have e : ((2 : Int) ^ 8 - 1) = 255 := by decide
  have e2 : ((2 : Int) ^ 8) = 256 := by decide
  rw [e, e2] at h
  rw [h, wr (by omega) (by omega)]
  omega
/-- The bytes of a reader. -/
def Byt (l : List Int) : Prop := l.length ≤ 2000000 ∧ ∀ x ∈ l, 0 ≤ x ∧ x ≤ 255
theorem byt_of {l : List Int} (h1 : l.length ≤ 1048576) (h2 : ∀ x ∈ l, (Lit.int .u8 x).wf = true) : Byt l := by
  refine ⟨by omega, fun x hx => ?_⟩
  have := h2 x hx
  simp [Lit.wf, IntKind.min, IntKind.max, IntKind.signed, IntKind.bits] at this
  omega
theorem cur_next (l : List Int) (hl : Byt l) (a s : Int) (h0 : 0 ≤ a) (h1 : a ≤ 1000000000000) : ∃ v s', spec_l1Cur_next.f l a s = some (v, a + 1, s') ∧ 0 ≤ v ∧ v ≤ 255 := by
  obtain ⟨hn, hb⟩ := hl
  unfold spec_l1Cur_next.f
  rw [wr (x := a + 1) (by omega) (by omega)]
  by_cases c : a < l.length
  · have hr := hb (rd l a) (by rw [rd_get l a (by omega)]; exact List.getElem_mem _)
    rw [if_pos c, if_pos h0, if_pos (by omega)]
    refine ⟨_, _, rfl, ?_⟩
    rw [wr (by omega) (by omega)]
    exact hr
  · rw [if_neg c, if_neg (by omega)]
    exact ⟨_, _, rfl, low8 _⟩
/-! spec_l1Cur_pick -/
theorem cur_pick (l : List Int) (hl : Byt l) (a s n : Int) (h0 : 0 ≤ a) (h1 : a ≤ 900000000000) : ∃ v a' s', spec_l1Cur_pick.f l a s n = some (v, a', s') ∧ a ≤ a' ∧ a' ≤ a + 2 ∧ 0 ≤ v ∧ (v = 0 ∨ v < n) := by
  unfold spec_l1Cur_pick.f
  by_cases c : n ≤ 1
  · rw [if_pos c]; exact ⟨_, _, _, rfl, by omega, by omega, by omega, .inl rfl⟩
  rw [if_neg c]
  obtain ⟨v, s', e, h2, h3⟩ := cur_next l hl a s h0 (by omega)
  rw [e]
  simp only [Option.bind_some]
  by_cases c2 : n > 200
  · rw [if_pos c2]
    obtain ⟨v2, s2, e2, h4, h5⟩ := cur_next l hl (a + 1) s' (by omega) (by omega)
    rw [e2]
    simp only [Option.bind_some]
    rw [if_neg (by omega), wr (x := v * 256) (by omega) (by omega), wr (by omega) (by omega)]
    exact ⟨_, _, _, rfl, by omega, by omega, Int.tmod_nonneg _ (by omega), .inr (Int.tmod_lt_of_pos _ (by omega))⟩
  · rw [if_neg c2, if_neg (by omega)]
    exact ⟨_, _, _, rfl, by omega, by omega, Int.tmod_nonneg _ (by omega), .inr (Int.tmod_lt_of_pos _ (by omega))⟩
/-! spec_l1Cur_one -/
theorem cur_one (l : List Int) (hl : Byt l) (a s n : Int) (h0 : 0 ≤ a) (h1 : a ≤ 900000000000) : ∃ b a' s', spec_l1Cur_one.f l a s n = some (b, a', s') ∧ a ≤ a' ∧ a' ≤ a + 2 := by
  unfold spec_l1Cur_one.f
  obtain ⟨v, a', s', e, h2, h3, h4, h5⟩ := cur_pick l hl a s n h0 h1
  rw [e]
  simp only [Option.bind_some]
  exact ⟨_, _, _, rfl, h2, h3⟩
/-! spec_l1Cur_among -/
theorem cur_among (l : List Int) (hl : Byt l) (a s : Int) (xs : List Int) (hx : 0 < xs.length) (h0 : 0 ≤ a) (h1 : a ≤ 900000000000) : ∃ v a' s', spec_l1Cur_among.f l a s xs = some (v, a', s') ∧ a ≤ a' ∧ a' ≤ a + 2 ∧ v ∈ xs := by
  unfold spec_l1Cur_among.f
  obtain ⟨v, a', s', e, h2, h3, h4, h5⟩ := cur_pick l hl a s (xs.length : Int) h0 h1
  rw [e]
  simp only [Option.bind_some]
  rw [if_pos h4, if_pos (by omega)]
  refine ⟨_, _, _, rfl, h2, h3, ?_⟩
  rw [rd_get xs v (by omega)]
  exact List.getElem_mem _
/-! spec_l1Cur_items -/
theorem cur_items (l : List Int) (hl : Byt l) (a s : Int) (h0 : 0 ≤ a) (h1 : a ≤ 800000000000) : ∃ v a' s', spec_l1Cur_items.f l a s = some (v, a', s') ∧ a ≤ a' ∧ a' ≤ a + 4 ∧ -1 ≤ v ∧ v ≤ 13 := by
  unfold spec_l1Cur_items.f
  obtain ⟨b, a1, s1, e, h2, h3⟩ := cur_one l hl a s 15 h0 (by omega)
  rw [e]
  simp only [Option.bind_some]
  by_cases c : b = true
  · rw [if_pos c]
    obtain ⟨v4, a4, s4, e4, g5, g6, g7⟩ := cur_among l hl a1 s1 [-1, 0, 12, 13] (by simp) (by omega) (by omega)
    rw [e4]
    simp only [Option.bind_some]
    simp at g7
    exact ⟨_, _, _, rfl, by omega, by omega, by omega, by omega⟩
  · rw [if_neg c]
    obtain ⟨v4, a4, s4, e4, g5, g6, g7, g8⟩ := cur_pick l hl a1 s1 9 (by omega) (by omega)
    rw [e4]
    simp only [Option.bind_some]
    exact ⟨_, _, _, rfl, by omega, by omega, by omega, by omega⟩
/-! spec_raFactorial -/
theorem raFactorial_tab : ((List.range 13).all fun n => spec_raFactorial.f 20 (n : Int) == some (fac n : Int)) = true := by decide +kernel
theorem raFactorial_ev (n : Nat) (hn : n ≤ 12) : Ev (fun r => spec_raFactorial.f r (n : Int)) (fac n : Int) := by
  refine evTab (g := fun r => spec_raFactorial.f r (n : Int)) (spec_raFactorial.mono _) 20 ?_
  exact beq_iff_eq.1 (List.all_eq_true.1 raFactorial_tab n (List.mem_range.2 (by omega)))
/-! spec_l1Least -/
theorem least_eq (a b : Int) : spec_l1Least.f a b = some (if a < b then a else b) := by
  unfold spec_l1Least.f
  split <;> rfl
/-! spec_l1Cur_rank -/
theorem cur_rank (l : List Int) (hl : Byt l) (a s n : Int) (h0 : 0 ≤ a) (h1 : a ≤ 700000000000) : ∃ r a' s', spec_l1Cur_rank.f l a s n = some (r, a', s') ∧ a ≤ a' ∧ a' ≤ a + 10 := by
  unfold spec_l1Cur_rank.f
  obtain ⟨v, a1, s1, e, h2, h3, h4, h5⟩ := cur_pick l hl a s 12 h0 (by omega)
  rw [e]
  simp only [Option.bind_some]
  by_cases c : v = 0
  · rw [if_pos c]
    obtain ⟨v4, a4, s4, e4, g5, g6, g7⟩ := cur_among l hl a1 s1 [-1, n, wrap64 (n + 1), 4611686018427387904] (by simp) (by omega) (by omega)
    rw [e4]
    simp only [Option.bind_some]
    exact ⟨_, _, _, rfl, by omega, by omega⟩
  rw [if_neg c]
  by_cases c2 : v = 1
  · rw [if_pos c2]; exact ⟨_, _, _, rfl, by omega, by omega⟩
  rw [if_neg c2]
  by_cases c3 : v = 2
  · rw [if_pos c3]; exact ⟨_, _, _, rfl, by omega, by omega⟩
  rw [if_neg c3]
  by_cases c4 : n < 2
  · rw [if_pos c4]; exact ⟨_, _, _, rfl, by omega, by omega⟩
  rw [if_neg c4]
  obtain ⟨v2, a2, s2, e2, g1, g2, g3, g4⟩ := cur_pick l hl a1 s1 60000 (by omega) (by omega)
  rw [e2]
  simp only [Option.bind_some]
  obtain ⟨v3, a3, s3, e3, g5, g6, g7, g8⟩ := cur_pick l hl a2 s2 60000 (by omega) (by omega)
  rw [e3]
  simp only [Option.bind_some]
  rw [if_neg (by omega)]
  exact ⟨_, _, _, rfl, by omega, by omega⟩
/-! spec_DrawPermutationAt -/
theorem drawPermutationAt_ev (l : List Int) (hl : Byt l) : ∃ n r, Ev (fun k => spec_DrawPermutationAt.f k l) (n, r) := by
  unfold spec_DrawPermutationAt.f
  obtain ⟨n, a1, s1, e, g1, g2, _, _⟩ := cur_items l hl 0 0 (by omega) (by omega)
  have hm : ∃ m : Nat, m ≤ 12 ∧ (spec_l1Least.f n 12).bind (fun t => spec_l1Most.f 0 t) = some (m : Int) := by
    refine ⟨(if n < 12 then n else 12).toNat, by split <;> omega, ?_⟩
    rw [least_eq, Option.bind_some]
    unfold spec_l1Most.f
    by_cases c : (0 : Int) > (if n < 12 then n else 12)
    · rw [if_pos c]; congr 1; split at c <;> split <;> omega
    · rw [if_neg c]; congr 1; split at c <;> split <;> omega
  obtain ⟨m, m1, hm⟩ := hm
  obtain ⟨t, ht1, ht2⟩ := Option.bind_eq_some_iff.1 hm
  obtain ⟨r, a2, s2, e2, _, _⟩ := cur_rank l hl a1 s1 (fac m : Int) (by omega) (by omega)
  refine ⟨n, r, ?_⟩
  rw [e]
  simp only [Option.bind_some]
  rw [ht1]
  simp only [Option.bind_some]
  rw [ht2]
  refine evSome (Ev.bind (raFactorial_ev m m1) ?_)
  rw [e2]
  exact evSome (Ev.now _)
/-! spec_DrawTrotterAt -/
theorem drawTrotterAt_ev (l : List Int) (hl : Byt l) : ∃ n r, Ev (fun k => spec_DrawTrotterAt.f k l) (n, r) := by
  unfold spec_DrawTrotterAt.f
  obtain ⟨n, r, h⟩ := drawPermutationAt_ev l hl
  exact ⟨n, r, Ev.bind h (Ev.now _)⟩
/-! impl_factorial -/
theorem factorial_tab : ((List.range 13).all fun n => impl_factorial.f 20 (n : Int) == some (fac n : Int)) = true := by decide +kernel
theorem factorial_ev (n : Nat) (hn : n ≤ 12) : Ev (fun r => impl_factorial.f r (n : Int)) (fac n : Int) := by
  refine evTab (g := fun r => impl_factorial.f r (n : Int)) (impl_factorial.mono _) 20 ?_
  exact beq_iff_eq.1 (List.all_eq_true.1 factorial_tab n (List.mem_range.2 (by omega)))
/-! impl_trotterAt -/
theorem trotterAt_ev : ∀ (n : Nat) (r : Int), n ≤ 12 → 0 ≤ r → r < (fac n : Nat) → Ev (fun q => impl_trotterAt.f q (n : Int) r) (trot n r) := by
  intro n
  induction n with
  | zero =>
    intro r _ _ _
    refine Ev.step (fun q => by rw [impl_trotterAt.f]) ?_
    exact evPos rfl (Ev.now _)
  | succ n ih =>
    intro r hn h0 hr
    refine Ev.step (fun q => by rw [impl_trotterAt.f]) ?_
    have hf := fac_le12 (n + 1) hn
    have hd := div_range n r h0 hr
    have hp := place_range n r
    have hl := trot_length n (r / ((n : Int) + 1))
    have hm1 := Int.emod_nonneg r (show ((n : Int) + 1) ≠ 0 by omega)
    have hm2 := Int.emod_lt_of_pos r (show 0 < ((n : Int) + 1) by omega)
    have hfn := fac_le12 n (by omega)
    refine evNeg (by omega) ?_
    rw [show ((n + 1 : Nat) : Int) = (n : Int) + 1 from by omega, Int.tdiv_eq_ediv_of_nonneg h0, Int.tmod_eq_emod_of_nonneg h0]
    simp (disch := omega) only [wr]
    rw [show (n : Int) + 1 - 1 = (n : Int) from by omega]
    refine Ev.bind (ih _ (by omega) hd.1 hd.2) ?_
    rw [Int.tmod_eq_emod_of_nonneg hd.1]
    unfold slices_Insert_int_int.f
    by_cases c : r / ((n : Int) + 1) % 2 = 0
    · have he : place n r = n - r % ((n : Int) + 1) := if_pos c
      refine evPos c (evPos (by omega) (evPos (by omega) (evPos (by omega) (evEq ?_))))
      rw [trot, he]
    · have he : place n r = r % ((n : Int) + 1) := if_neg c
      refine evNeg c (evPos (by omega) (evPos (by omega) (evPos (by omega) (evEq ?_))))
      rw [trot, he]
/-! impl_TrotterAt -/
theorem TrotterAt_ev (n r : Int) : Ev (fun q => impl_TrotterAt.f q n r) (if 0 ≤ n ∧ n ≤ 12 ∧ 0 ≤ r ∧ r < (fac n.toNat : Nat) then (trot n.toNat r, true) else ([], false)) := by
  unfold impl_TrotterAt.f
  simp only [within_eq, Option.bind_some]
  by_cases h : 0 ≤ n ∧ n ≤ 12
  · obtain ⟨N, rfl⟩ := Int.eq_ofNat_of_zero_le h.1
    have hf := fac_le12 N (by omega)
    rw [Int.toNat_natCast]
    refine evPos (by simp; omega) (Ev.bind (factorial_ev N (by omega)) ?_)
    rw [wr (by omega) (by omega)]
    by_cases c : 0 ≤ r ∧ r < (fac N : Nat)
    · refine evPos (by simp; omega) (Ev.bind (trotterAt_ev N r (by omega) c.1 c.2) (evEq ?_))
      rw [if_pos (by omega)]
    · refine evNeg (by simp; omega) (evEq ?_)
      rw [if_neg (by omega)]
  · refine evNeg (by simp; omega) (evEq ?_)
    rw [if_neg (by omega)]
/-! spec_l1In -/
theorem l1In_eq (x a b : Int) : spec_l1In.f x a b = some (decide (a ≤ x ∧ x ≤ b)) := by
  unfold spec_l1In.f
  by_cases h : x ≥ a
  · rw [if_pos h]; have h' : a ≤ x := h; simp [h']
  · rw [if_neg h]; have h' : ¬ a ≤ x := h; simp [h']
/-! spec_raItems -/
theorem raItems_eq (x : Int) : spec_raItems.f x = some (decide (0 ≤ x ∧ x ≤ 12)) := by
  unfold spec_raItems.f; rw [l1In_eq]; rfl
/-! spec_l1Own -/
theorem l1Own_eq (l : List Int) (hn : l.length ≤ 10000000000000) : spec_l1Own.f l = some l := by
  unfold spec_l1Own.f
  simp only [Option.bind_some, List.nil_append, List.length_nil, Nat.zero_add]
  rw [if_pos (by omega)]
/-! spec_moTrotter -/
theorem moTrotter_ev : ∀ (n : Nat) (r : Int), n ≤ 12 → 0 ≤ r → r < (fac n : Nat) → Ev (fun q => spec_moTrotter.f q (n : Int) r) (trot n r) := by
  intro n
  induction n with
  | zero =>
    intro r _ _ _
    refine Ev.step (fun q => by rw [spec_moTrotter.f]) ?_
    exact evPos rfl (Ev.now _)
  | succ n ih =>
    intro r hn h0 hr
    refine Ev.step (fun q => by rw [spec_moTrotter.f]) ?_
    have hf := fac_le12 (n + 1) hn
    have hd := div_range n r h0 hr
    have hp := place_range n r
    have hl := trot_length n (r / ((n : Int) + 1))
    have hm1 := Int.emod_nonneg r (show ((n : Int) + 1) ≠ 0 by omega)
    have hm2 := Int.emod_lt_of_pos r (show 0 < ((n : Int) + 1) by omega)
    have hfn := fac_le12 n (by omega)
    refine evNeg (by omega) ?_
    rw [show ((n + 1 : Nat) : Int) = (n : Int) + 1 from by omega, Int.tdiv_eq_ediv_of_nonneg h0, Int.tmod_eq_emod_of_nonneg h0]
    simp (disch := omega) only [wr]
    rw [show (n : Int) + 1 - 1 = (n : Int) from by omega]
    refine Ev.bind (ih _ (by omega) hd.1 hd.2) ?_
    rw [Int.tmod_eq_emod_of_nonneg hd.1]
    have hlt (i : Nat) (hi : i ≤ n) : ((trot n (r / ((n : Int) + 1))).take i).length = i := by rw [List.length_take]; omega
    by_cases c : r / ((n : Int) + 1) % 2 = 0
    · have he : place n r = n - r % ((n : Int) + 1) := if_pos c
      have h1 := hlt (n - r % ((n : Int) + 1)).toNat (by omega)
      refine evPos c (evPos (by omega) (evPos (by omega) ?_))
      rw [l1Own_eq _ (by omega)]
      refine evSome (evPos (by omega) (evSome (evSome (evPos (by simp; omega) (evEq ?_)))))
      rw [trot, he, insertIdx_take _ _ _ (by omega)]
    · have he : place n r = r % ((n : Int) + 1) := if_neg c
      have h1 := hlt (r % ((n : Int) + 1)).toNat (by omega)
      refine evNeg c (evPos (by omega) (evPos (by omega) ?_))
      rw [l1Own_eq _ (by omega)]
      refine evSome (evPos (by omega) (evSome (evSome (evPos (by simp; omega) (evEq ?_)))))
      rw [trot, he, insertIdx_take _ _ _ (by omega)]
/-! spec_TrotterAt -/
theorem spec_TrotterAt_ev (n r : Int) : Ev (fun q => spec_TrotterAt.f q n r) (if 0 ≤ n ∧ n ≤ 12 ∧ 0 ≤ r ∧ r < (fac n.toNat : Nat) then (trot n.toNat r, true) else ([], false)) := by
  unfold spec_TrotterAt.f
  simp only [raItems_eq, l1In_eq, Option.bind_some]
  by_cases h : 0 ≤ n ∧ n ≤ 12
  · obtain ⟨N, rfl⟩ := Int.eq_ofNat_of_zero_le h.1
    have hf := fac_le12 N (by omega)
    rw [Int.toNat_natCast]
    refine evPos (by simp; omega) (Ev.bind (raFactorial_ev N (by omega)) ?_)
    rw [wr (by omega) (by omega)]
    by_cases c : 0 ≤ r ∧ r < (fac N : Nat)
    · refine evPos (by simp; omega) (Ev.bind (moTrotter_ev N r (by omega) c.1 c.2) (evEq ?_))
      rw [if_pos (by omega)]
    · refine evNeg (by simp; omega) (evEq ?_)
      rw [if_neg (by omega)]
  · refine evNeg (by simp; omega) (evEq ?_)
    rw [if_neg (by omega)]
/-! slices_Index_int_int -/
theorem Index_l0 (x : Int) (xs : List Int) (hn : xs.length ≤ 35184372088832) : ∀ (d : Nat) (j : Int), 0 ≤ j → j.toNat + d = xs.length →
    Ev (fun k => slices_Index_int_int.l0 k xs x (xs.length : Int) j) (findI x j (xs.drop j.toNat)) := by
  intro d
  induction d with
  | zero =>
    intro j h0 hd
    refine Ev.step (fun k => by rw [slices_Index_int_int.l0]) ?_
    refine evNeg (by omega) (evEq ?_)
    rw [drop_end _ _ (by omega)]; rfl
  | succ d ih =>
    intro j h0 hd
    refine Ev.step (fun k => by rw [slices_Index_int_int.l0]) ?_
    refine evPos (by omega) (evPos (by omega) (evPos (by omega) ?_))
    rw [wr (by omega) (by omega), drop_rd xs j h0 (by omega), findI]
    by_cases c : x = rd xs j
    · rw [if_pos c]; exact evPos c (Ev.now _)
    · rw [if_neg c]; exact evNeg c (ih _ (by omega) (by omega))
theorem Index_ev (xs : List Int) (x : Int) (hn : xs.length ≤ 35184372088832) : Ev (fun k => slices_Index_int_int.f k xs x) (findI x 0 xs) := by
  unfold slices_Index_int_int.f
  exact evTo (Index_l0 x xs hn xs.length 0 (by omega) (by simp)) (by simp)
/-! impl_trotterRank -/
theorem trotterRank_ev : ∀ (n : Nat) (l : List Int), n ≤ 12 → l.Perm (upTo n) → Ev (fun q => impl_trotterRank.f q l) (trk n l) := by
  intro n
  induction n with
  | zero =>
    intro l hn h
    have hl : l.length = 0 := by rw [h.length_eq, upTo_length]
    refine Ev.step (fun q => by rw [impl_trotterRank.f]) ?_
    exact evPos (by omega) (evEq rfl)
  | succ n ih =>
    intro l hn h
    have hl : l.length = n + 1 := by rw [h.length_eq, upTo_length]
    have hm : (n : Int) ∈ l := h.mem_iff.2 (mem_upTo.2 ⟨by omega, by omega⟩)
    obtain ⟨p, hp, he, hx⟩ := findI_at (n : Int) l 0 hm
    have hc := cutAt_perm l n p h hx hp
    obtain ⟨i1, i2, _⟩ := trk_all n (cutAt l p) hc
    have hf := fac_le12 n (by omega)
    have hm1 : 0 ≤ trk n (cutAt l p) * ((n : Int) + 1) := Int.mul_nonneg i1 (by omega)
    have hm2 : trk n (cutAt l p) * ((n : Int) + 1) ≤ 479001600 * 13 := Int.mul_le_mul (by omega) (by omega) (by omega) (by omega)
    refine Ev.step (fun q => by rw [impl_trotterRank.f]) ?_
    refine evNeg (by omega) ?_
    rw [hl, wr (x := ((n + 1 : Nat) : Int) - 1) (by omega) (by omega), show ((n + 1 : Nat) : Int) - 1 = (n : Int) from by omega, show ((n + 1 : Nat) : Int) = (n : Int) + 1 from by omega]
    refine Ev.bind (evTo (Index_ev l (n : Int) (by omega)) (show _ = (p : Int) by omega)) ?_
    rw [copied_eq l (by omega)]
    refine evSome ?_
    unfold slices_Delete_int_int.f
    rw [wr (by omega) (by omega), if_pos (by omega), if_pos (by omega), if_pos (by omega), show ((p : Int)).toNat = p from by omega, show ((p : Int) + 1).toNat = p + 1 from by omega]
    refine evSome (Ev.bind (ih (cutAt l p) (by omega) hc) ?_)
    have hpn : (findI (n : Int) 0 l).toNat = p := by omega
    rw [trk, hpn, Int.tmod_eq_emod_of_nonneg i1]
    simp (disch := omega) only [wr]
    unfold tup
    by_cases c : trk n (cutAt l p) % 2 = 0
    · refine evPos c (evEq ?_); rw [if_pos c]
    · refine evNeg c (evEq ?_); rw [if_neg c]
/-! impl_TrotterRank -/
theorem TrotterRank_ev (l : List Int) (hl : l.length ≤ 1048576) : Ev (fun q => impl_TrotterRank.f q l) (if isPm l = true then (trk l.length l, true) else (0, false)) := by
  unfold impl_TrotterRank.f
  refine Ev.bind (IsPermutation_ev l (by omega)) ?_
  by_cases c : isPm l = true
  · rw [if_pos c]
    refine evPos c (Ev.bind (trotterRank_ev l.length l (isPm_perm c).1 (isPm_perm c).2) (Ev.now _))
  · rw [if_neg c]
    exact evNeg c (Ev.now _)
/-! impl_NextTrotter -/
theorem NextTrotter_l0 (a b : List Int) (hn : a.length ≤ 35184372088832) (hb : a.length = b.length) : ∀ (d : Nat) (j : Int), 0 ≤ j → j.toNat + d = a.length → a.drop j.toNat ≠ b.drop j.toNat →
    Ev (fun k => impl_NextTrotter.l0 k a b j) (b, fdI j (a.drop j.toNat) (b.drop j.toNat), true) := by
  intro d
  induction d with
  | zero =>
    intro j h0 hd hne
    exact absurd (by rw [drop_end a j (by omega), drop_end b j (by omega)]) hne
  | succ d ih =>
    intro j h0 hd hne
    refine Ev.step (fun k => by rw [impl_NextTrotter.l0]) ?_
    refine evPos (by omega) (evPos (by omega) (evPos (by omega) ?_))
    rw [wr (by omega) (by omega)]
    rw [drop_rd a j h0 (by omega), drop_rd b j h0 (by omega)] at hne ⊢
    rw [fdI]
    by_cases c : rd a j = rd b j
    · rw [if_pos c]; exact evPos c (ih _ (by omega) (by omega) (fun e => hne (by rw [c, e])))
    · rw [if_neg c]; exact evNeg c (Ev.now _)
theorem NextTrotter_ev (l : List Int) (hl : l.length ≤ 1048576) : Ev (fun q => impl_NextTrotter.f q l) (ntrot l) := by
  unfold impl_NextTrotter.f
  refine Ev.bind (TrotterRank_ev l hl) ?_
  by_cases c : isPm l = true
  · obtain ⟨p1, p2⟩ := isPm_perm c
    obtain ⟨t1, t2, t3⟩ := trk_all l.length l p2
    have hf := fac_le12 l.length p1
    rw [if_pos c]
    refine evPos rfl ?_
    rw [wr (by omega) (by omega)]
    refine Ev.bind (TrotterAt_ev _ _) ?_
    rw [Int.toNat_natCast]
    by_cases c2 : trk l.length l + 1 < (fac l.length : Nat)
    · rw [if_pos (by omega)]
      refine evPos rfl (evTo (NextTrotter_l0 l _ (by omega) (by rw [trot_length]) l.length 0 (by omega) (by simp) (by simpa using ntrot_ne l c c2)) ?_)
      unfold ntrot
      rw [if_pos ⟨c, c2⟩]
      simp
    · rw [if_neg (by omega)]
      refine evNeg (by simp) (evEq ?_)
      unfold ntrot
      rw [if_neg (fun h => c2 h.2)]
  · rw [if_neg c]
    refine evNeg (by simp) (evEq ?_)
    unfold ntrot
    rw [if_neg (fun h => c h.1)]
/-! spec_l1Cur_order -/
theorem order_j1 (l : List Int) (hl : Byt l) (out : List Int) (b : Bool) (a s : Int) (ho : out.length ≤ 20) (hb : b = true → 0 < out.length) (h0 : 0 ≤ a) (h1 : a ≤ 700000000000) :
    ∃ r a' s', r.length ≤ 20 ∧ a ≤ a' ∧ a' ≤ a + 4 ∧ Ev (fun k => spec_l1Cur_order.j1 k out b l a s) (r, a', s') := by
  cases b
  · exact ⟨out, a, s, ho, by omega, by omega, Ev.step (fun k => by rw [spec_l1Cur_order.j1]) (evNeg (by simp) (Ev.now _))⟩
  · have hpos := hb rfl
    obtain ⟨v, a1, s1, e, g1, g2, g3, g4⟩ := cur_pick l hl a s (out.length : Int) h0 (by omega)
    obtain ⟨v2, a2, s2, e2, g5, g6, _⟩ := cur_among l hl a1 s1 [-1, 0, (out.length : Int), 4611686018427387904] (by simp) (by omega) (by omega)
    refine ⟨out.set v.toNat v2, a2, s2, by simpa using ho, by omega, by omega, Ev.step (fun k => by rw [spec_l1Cur_order.j1]) ?_⟩
    refine evPos rfl ?_
    rw [e]
    refine evSome ?_
    rw [e2]
    exact evSome (evPos g3 (evPos (by omega) (Ev.now _)))
theorem order_l0 (l : List Int) (hl : Byt l) (n : Int) : ∀ (d : Nat) (out : List Int) (a s : Int), out.length + d = 20 → 0 ≤ a → a + 2 * d + 20 ≤ 700000000000 →
    ∃ r a' s', r.length ≤ 20 ∧ a ≤ a' ∧ a' ≤ a + 2 * d + 20 ∧ Ev (fun k => spec_l1Cur_order.l0 k n out (out.length : Int) l a s) (r, a', s') := by
  have hend : ∀ (d : Nat) (out : List Int) (a s : Int), out.length ≤ 20 → 0 ≤ a → a + 2 * d + 20 ≤ 700000000000 → ¬ (out.length : Int) < (if n < 20 then n else 20) → ∃ r a' s', r.length ≤ 20 ∧ a ≤ a' ∧ a' ≤ a + 2 * d + 20 ∧ Ev (fun k => spec_l1Cur_order.l0 k n out (out.length : Int) l a s) (r, a', s') := by
    intro d out a s ho h1 h2 hc
    by_cases c : (out.length : Int) > 0
    · obtain ⟨b, a1, s1, e, g1, g2⟩ := cur_one l hl a s 25 h1 (by omega)
      obtain ⟨r, a', s', r1, r2, r3, hr⟩ := order_j1 l hl out b a1 s1 ho (fun _ => by omega) (by omega) (by omega)
      refine ⟨r, a', s', r1, by omega, by omega, Ev.step (fun k => by rw [spec_l1Cur_order.l0]) ?_⟩
      rw [least_eq]
      refine evSome (evNeg hc (evPos c ?_))
      rw [e]
      exact evSome hr
    · obtain ⟨r, a', s', r1, r2, r3, hr⟩ := order_j1 l hl out false a s ho (fun h => by cases h) (by omega) (by omega)
      refine ⟨r, a', s', r1, by omega, by omega, Ev.step (fun k => by rw [spec_l1Cur_order.l0]) ?_⟩
      rw [least_eq]
      exact evSome (evNeg hc (evNeg c hr))
  intro d
  induction d with
  | zero =>
    intro out a s hd h1 h2
    exact hend 0 out a s (by omega) h1 h2 (by split <;> omega)
  | succ d ih =>
    intro out a s hd h1 h2
    by_cases hc : (out.length : Int) < (if n < 20 then n else 20)
    · obtain ⟨v, a1, s1, e, g1, g2, g3, g4⟩ := cur_pick l hl a s ((out.length : Int) + 1) h1 (by omega)
      have hv : v.toNat ≤ out.length := by omega
      have hlen : (([] ++ out.take v.toNat) ++ [(out.length : Int)] ++ out.drop v.toNat).length = out.length + 1 := by simp; omega
      obtain ⟨r, a', s', r1, r2, r3, hr⟩ := ih (([] ++ out.take v.toNat) ++ [(out.length : Int)] ++ out.drop v.toNat) a1 s1 (by rw [hlen]; omega) (by omega) (by omega)
      rw [hlen] at hr
      refine ⟨r, a', s', r1, by omega, by omega, Ev.step (fun k => by rw [spec_l1Cur_order.l0]) ?_⟩
      rw [least_eq, wr (x := (out.length : Int) + 1) (by omega) (by omega)]
      refine evSome (evPos hc ?_)
      rw [e]
      have h6 : (out.take v.toNat).length ≤ 20 := by rw [List.length_take]; omega
      have h7 : (out.drop v.toNat).length ≤ 20 := by rw [List.length_drop]; omega
      refine evSome (evSome (evPos g3 (evPos (by omega) (evSome (evPos (by simp; omega) (evSome (evPos (by simp; omega) (evSome (evSome (evPos (by simp; omega) ?_))))))))))
      rw [show (out.length : Int) + 1 = ((out.length + 1 : Nat) : Int) from by omega]
      exact hr
    · exact hend (d + 1) out a s (by omega) h1 h2 hc
theorem cur_order (l : List Int) (hl : Byt l) (a s n : Int) (h0 : 0 ≤ a) (h1 : a ≤ 600000000000) : ∃ r a' s', r.length ≤ 20 ∧ a ≤ a' ∧ a' ≤ a + 60 ∧ Ev (fun k => spec_l1Cur_order.f k l a s n) (r, a', s') := by
  unfold spec_l1Cur_order.f
  obtain ⟨r, a', s', r1, r2, r3, hr⟩ := order_l0 l hl n 20 [] a s (by simp) h0 (by omega)
  exact ⟨r, a', s', r1, r2, by omega, hr⟩
/-! spec_DrawNextTrotter -/
theorem drawNextTrotter_j0 (l : List Int) (hl : Byt l) (n : Int) (b : Bool) (hb : b = true → 2 ≤ n ∧ n ≤ 12) (a s : Int) (h0 : 0 ≤ a) (h1 : a ≤ 600000000000) : ∃ r, r.length ≤ 20 ∧ Ev (fun k => spec_DrawNextTrotter.j0 k n b l a s) r := by
  cases b
  · obtain ⟨r, a', s', r1, _, _, hr⟩ := cur_order l hl a s n h0 h1
    exact ⟨r, r1, Ev.step (fun k => by rw [spec_DrawNextTrotter.j0]) (evNeg (by simp) (Ev.bind hr (Ev.now _)))⟩
  · obtain ⟨n0, n1⟩ := hb rfl
    obtain ⟨m, rfl⟩ := Int.eq_ofNat_of_zero_le (show 0 ≤ n by omega)
    have hp := fac_pos m
    have hf := fac_le12 m (by omega)
    have ht := moTrotter_ev m ((fac m : Int) - 1) (by omega) (by omega) (by omega)
    refine ⟨trot m ((fac m : Int) - 1), by rw [trot_length]; omega, Ev.step (fun k => by rw [spec_DrawNextTrotter.j0]) (evPos rfl (Ev.bind (raFactorial_ev m (by omega)) ?_))⟩
    rw [wr (by omega) (by omega)]
    exact Ev.bind ht (Ev.now _)
theorem drawNextTrotter_ev (l : List Int) (hl : Byt l) : ∃ r, r.length ≤ 20 ∧ Ev (fun k => spec_DrawNextTrotter.f k l) r := by
  unfold spec_DrawNextTrotter.f
  obtain ⟨n, a1, s1, e, g1, g2, _, _⟩ := cur_items l hl 0 0 (by omega) (by omega)
  rw [e]
  simp only [Option.bind_some]
  rw [l1In_eq]
  simp only [Option.bind_some]
  by_cases c : 2 ≤ n ∧ n ≤ 12
  · obtain ⟨b, a2, s2, e2, g3, g4⟩ := cur_one l hl a1 s1 6 (by omega) (by omega)
    obtain ⟨r, r1, hr⟩ := drawNextTrotter_j0 l hl n b (fun _ => c) a2 s2 (by omega) (by omega)
    refine ⟨r, r1, evPos (by simpa using c) ?_⟩
    rw [e2]
    exact evSome hr
  · obtain ⟨r, r1, hr⟩ := drawNextTrotter_j0 l hl n false (fun h => by cases h) a1 s1 (by omega) (by omega)
    exact ⟨r, r1, evNeg (by simpa using c) hr⟩
/-! spec_l1Has -/
theorem l1Has_l0 (x : Int) (xs : List Int) (hn : xs.length ≤ 35184372088832) : ∀ (d : Nat) (j : Int), 0 ≤ j → j.toNat + d = xs.length →
    Ev (fun k => spec_l1Has.l0 k x xs (xs.length : Int) j) (decide (x ∈ xs.drop j.toNat)) := by
  intro d
  induction d with
  | zero =>
    intro j h0 hd
    refine Ev.step (fun k => by rw [spec_l1Has.l0]) ?_
    refine evNeg (by omega) (evEq ?_)
    rw [drop_end _ _ (by omega)]; simp
  | succ d ih =>
    intro j h0 hd
    refine Ev.step (fun k => by rw [spec_l1Has.l0]) ?_
    refine evPos (by omega) (evPos (by omega) (evPos (by omega) ?_))
    rw [wr (by omega) (by omega), drop_rd xs j h0 (by omega)]
    by_cases c : rd xs j = x
    · exact evPos c (evEq (by simp [c]))
    · exact evNeg c (evTo (ih _ (by omega) (by omega)) (by simp [List.mem_cons, Ne.symm c]))
theorem l1Has_ev (xs : List Int) (x : Int) (hn : xs.length ≤ 35184372088832) : Ev (fun k => spec_l1Has.f k xs x) (decide (x ∈ xs)) := by
  unfold spec_l1Has.f
  exact evTo (l1Has_l0 x xs hn xs.length 0 (by omega) (by simp)) (by simp)
/-! spec_raPermutation -/
theorem raPermutation_l0 (l : List Int) (hl : l.length ≤ 1048576) : ∀ (d : Nat) (i : Int), 0 ≤ i → i.toNat + d = l.length →
    Ev (fun q => spec_raPermutation.l0 q l l (l.length : Int) i) (decide (∀ j (h : j < l.length), i.toNat ≤ j → j < 12 ∧ (0 ≤ l[j] ∧ l[j] ≤ (l.length : Int) - 1) ∧ l[j] ∉ l.take j)) := by
  intro d
  induction d with
  | zero =>
    intro i h0 hd
    refine Ev.step (fun k => by rw [spec_raPermutation.l0]) ?_
    refine evNeg (by omega) (evEq (decide_eq_true ?_).symm)
    intro j h hj; omega
  | succ d ih =>
    intro i h0 hd
    refine Ev.step (fun k => by rw [spec_raPermutation.l0]) ?_
    have hil : i.toNat < l.length := by omega
    have e : rd l i = l[i.toNat] := by unfold rd; rw [List.getD_eq_getElem?_getD, List.getElem?_eq_getElem hil]; rfl
    refine evPos (by omega) (evPos h0 (evPos (by omega) ?_))
    by_cases c1 : i ≥ 12
    · refine evPos c1 (evEq (decide_eq_false ?_).symm)
      intro h
      have := (h i.toNat hil (Nat.le_refl _)).1
      omega
    · refine evNeg c1 ?_
      rw [l1In_eq, wr (by omega) (by omega), wr (by omega) (by omega)]
      refine evSome ?_
      by_cases c2 : 0 ≤ rd l i ∧ rd l i ≤ (l.length : Int) - 1
      · refine evPos (by simpa using c2) (evPos (by omega) (Ev.bind (l1Has_ev _ _ (by rw [List.length_take]; omega)) ?_))
        by_cases c3 : rd l i ∈ l.take i.toNat
        · refine evPos (decide_eq_true c3) (evEq (decide_eq_false ?_).symm)
          intro h
          rw [e] at c3
          exact (h i.toNat hil (Nat.le_refl _)).2.2 c3
        · refine evNeg (by simpa using c3) (evTo (ih (i + 1) (by omega) (by omega)) ?_)
          apply decide_eq_decide.2
          constructor
          · intro h j hj hij
            by_cases ej : j = i.toNat
            · subst ej
              rw [e] at c2 c3
              exact ⟨by omega, c2, c3⟩
            · exact h j hj (by omega)
          · intro h j hj hij
            exact h j hj (by omega)
      · refine evNeg (by simpa using c2) (evEq (decide_eq_false ?_).symm)
        intro h
        rw [e] at c2
        exact c2 (h i.toNat hil (Nat.le_refl _)).2.1
theorem raPermutation_ev (l : List Int) (hl : l.length ≤ 1048576) : Ev (fun q => spec_raPermutation.f q l) (isPm l) := by
  unfold spec_raPermutation.f
  refine evTo (raPermutation_l0 l hl l.length 0 (by omega) (by simp)) ?_
  rw [Bool.eq_iff_iff, isPm_iff, decide_eq_true_eq]
  constructor
  · intro h j hj; exact h j hj (by simp)
  · intro h j hj _; exact h j hj
/-! spec_gcPlace -/
theorem gcPlace_l0 (x : Int) (xs : List Int) (hn : xs.length ≤ 35184372088832) : ∀ (d : Nat) (j : Int), 0 ≤ j → j.toNat + d = xs.length →
    Ev (fun k => spec_gcPlace.l0 k x xs (xs.length : Int) j) (findI x j (xs.drop j.toNat)) := by
  intro d
  induction d with
  | zero =>
    intro j h0 hd
    refine Ev.step (fun k => by rw [spec_gcPlace.l0]) ?_
    refine evNeg (by omega) (evEq ?_)
    rw [drop_end _ _ (by omega)]; rfl
  | succ d ih =>
    intro j h0 hd
    refine Ev.step (fun k => by rw [spec_gcPlace.l0]) ?_
    refine evPos (by omega) (evPos (by omega) (evPos (by omega) ?_))
    rw [wr (by omega) (by omega), drop_rd xs j h0 (by omega), findI]
    by_cases c : x = rd xs j
    · rw [if_pos c]; exact evPos c (Ev.now _)
    · rw [if_neg c]; exact evNeg c (ih _ (by omega) (by omega))
theorem gcPlace_ev (xs : List Int) (x : Int) (hn : xs.length ≤ 35184372088832) : Ev (fun k => spec_gcPlace.f k xs x) (findI x 0 xs) := by
  unfold spec_gcPlace.f
  exact evTo (gcPlace_l0 x xs hn xs.length 0 (by omega) (by simp)) (by simp)
/-! spec_raWithout -/
theorem raWithout_eq (l : List Int) (hl : l.length ≤ 1000000) (p : Int) (h0 : 0 ≤ p) (h1 : p < l.length) : spec_raWithout.f l p = some (l.take p.toNat ++ l.drop (p + 1).toNat) := by
  unfold spec_raWithout.f
  rw [if_pos h0, if_pos (by omega), l1Own_eq _ (by rw [List.length_take]; omega), wr (by omega) (by omega)]
  simp only [Option.bind_some]
  rw [if_pos (by omega), if_pos (by omega), if_pos (by rw [List.length_take, List.length_drop]; omega)]
/-! spec_moTrotterRank -/
theorem moTrotterRank_ev : ∀ (n : Nat) (l : List Int), n ≤ 12 → l.Perm (upTo n) → Ev (fun q => spec_moTrotterRank.f q l) (trk n l) := by
  intro n
  induction n with
  | zero =>
    intro l hn h
    have hl : l.length = 0 := by rw [h.length_eq, upTo_length]
    refine Ev.step (fun q => by rw [spec_moTrotterRank.f]) ?_
    exact evPos (by omega) (evEq rfl)
  | succ n ih =>
    intro l hn h
    have hl : l.length = n + 1 := by rw [h.length_eq, upTo_length]
    have hm : (n : Int) ∈ l := h.mem_iff.2 (mem_upTo.2 ⟨by omega, by omega⟩)
    obtain ⟨p, hp, he, hx⟩ := findI_at (n : Int) l 0 hm
    have hc := cutAt_perm l n p h hx hp
    obtain ⟨i1, i2, _⟩ := trk_all n (cutAt l p) hc
    have hf := fac_le12 n (by omega)
    have hm1 : 0 ≤ trk n (cutAt l p) * ((n : Int) + 1) := Int.mul_nonneg i1 (by omega)
    have hm2 : trk n (cutAt l p) * ((n : Int) + 1) ≤ 479001600 * 13 := Int.mul_le_mul (by omega) (by omega) (by omega) (by omega)
    refine Ev.step (fun q => by rw [spec_moTrotterRank.f]) ?_
    refine evNeg (by omega) ?_
    rw [hl, wr (x := ((n + 1 : Nat) : Int) - 1) (by omega) (by omega), show ((n + 1 : Nat) : Int) - 1 = (n : Int) from by omega, show ((n + 1 : Nat) : Int) = (n : Int) + 1 from by omega]
    refine Ev.bind (evTo (gcPlace_ev l (n : Int) (by omega)) (show _ = (p : Int) by omega)) ?_
    rw [raWithout_eq l (by omega) p (by omega) (by omega), show ((p : Int)).toNat = p from by omega, show ((p : Int) + 1).toNat = p + 1 from by omega]
    refine evSome (Ev.bind (ih (cutAt l p) (by omega) hc) ?_)
    have hpn : (findI (n : Int) 0 l).toNat = p := by omega
    rw [trk, hpn, Int.tmod_eq_emod_of_nonneg i1]
    simp (disch := omega) only [wr]
    unfold tup
    by_cases c : trk n (cutAt l p) % 2 = 0
    · refine evPos c (evEq ?_); rw [if_pos c]
    · refine evNeg c (evEq ?_); rw [if_neg c]
/-! spec_moFirst -/
theorem moFirst_l0 (a b : List Int) (hn : a.length ≤ 35184372088832) (hb : a.length = b.length) : ∀ (d : Nat) (j : Int), 0 ≤ j → j.toNat + d = a.length →
    Ev (fun k => spec_moFirst.l0 k b a (a.length : Int) j) (fdI j (a.drop j.toNat) (b.drop j.toNat)) := by
  intro d
  induction d with
  | zero =>
    intro j h0 hd
    refine Ev.step (fun k => by rw [spec_moFirst.l0]) ?_
    refine evNeg (by omega) (evEq ?_)
    rw [drop_end a j (by omega)]; rfl
  | succ d ih =>
    intro j h0 hd
    refine Ev.step (fun k => by rw [spec_moFirst.l0]) ?_
    refine evPos (by omega) (evPos (by omega) (evPos (by omega) (evPos (by omega) ?_)))
    rw [wr (by omega) (by omega), drop_rd a j h0 (by omega), drop_rd b j h0 (by omega), fdI]
    by_cases c : rd a j = rd b j
    · rw [if_pos c]; exact evPos c (ih _ (by omega) (by omega))
    · rw [if_neg c]; exact evNeg c (Ev.now _)
theorem moFirst_ev (a b : List Int) (hn : a.length ≤ 35184372088832) (hb : a.length = b.length) : Ev (fun k => spec_moFirst.f k a b) (fdI 0 a b) := by
  unfold spec_moFirst.f
  exact evTo (moFirst_l0 a b hn hb a.length 0 (by omega) (by simp)) (by simp)
/-! spec_NextTrotter -/
theorem spec_NextTrotter_ev (l : List Int) (hl : l.length ≤ 1048576) : Ev (fun q => spec_NextTrotter.f q l) (ntrot l) := by
  unfold spec_NextTrotter.f
  refine Ev.bind (raPermutation_ev l (by omega)) ?_
  by_cases c : isPm l = true
  · obtain ⟨p1, p2⟩ := isPm_perm c
    obtain ⟨t1, t2, t3⟩ := trk_all l.length l p2
    have hf := fac_le12 l.length p1
    refine evPos c (Ev.bind (moTrotterRank_ev l.length l p1 p2) (Ev.bind (raFactorial_ev l.length (by omega)) ?_))
    rw [wr (by omega) (by omega)]
    refine Ev.step (fun q => by rw [spec_NextTrotter.j0]) ?_
    by_cases c2 : trk l.length l + 1 < (fac l.length : Nat)
    · refine evNeg (by simp; omega) (Ev.bind (moTrotterRank_ev l.length l p1 p2) ?_)
      rw [wr (by omega) (by omega)]
      refine Ev.bind (moTrotter_ev l.length _ p1 (by omega) c2) (Ev.bind (moFirst_ev _ _ (by omega) (by rw [trot_length])) (evEq ?_))
      unfold ntrot
      rw [if_pos ⟨c, c2⟩]
    · refine evPos (by simp; omega) (evEq ?_)
      unfold ntrot
      rw [if_neg (fun h => c2 h.2)]
  · refine evNeg c ?_
    refine Ev.step (fun q => by rw [spec_NextTrotter.j0]) (evPos rfl (evEq ?_))
    unfold ntrot
    rw [if_neg (fun h => c h.1)]
/-! spec_TrotterRank -/
theorem spec_TrotterRank_ev (l : List Int) (hl : l.length ≤ 1048576) : Ev (fun q => spec_TrotterRank.f q l) (if isPm l = true then (trk l.length l, true) else (0, false)) := by
  unfold spec_TrotterRank.f
  refine Ev.bind (raPermutation_ev l (by omega)) ?_
  by_cases c : isPm l = true
  · rw [if_pos c]
    refine evPos c (Ev.bind (moTrotterRank_ev l.length l (isPm_perm c).1 (isPm_perm c).2) (Ev.now _))
  · rw [if_neg c]
    exact evNeg c (Ev.now _)
-- trot_parity next_swap isPm_perm sg
theorem ntrot_len (l : List Int) : (ntrot l).1.length ≤ 1000 := by
  unfold ntrot
  split
  · rename_i h
    have := (isPm_perm h.1).1
    simp only [trot_length]; omega
  · simp
theorem trTail2 (l : List Int) (hl : Byt l) : Ev (fun q => laws_FnTrotter.j2 q l) true := by
  refine Ev.step (fun k => by rw [laws_FnTrotter.j2]) ?_
  obtain ⟨r, hr, hd⟩ := drawNextTrotter_ev l hl
  have h1 := NextTrotter_ev r (by omega)
  have h2 := spec_NextTrotter_ev r (by omega)
  have h3 := TrotterRank_ev r (by omega)
  have h4 := spec_TrotterRank_ev r (by omega)
  have hn := ntrot_len r
  refine Ev.bind hd (Ev.bind h1 (Ev.bind h2 (Ev.bind h3 (Ev.bind h4 ?_))))
  exact evPos (by simp) (Ev.bind (uSame_self (ntrot r).1 (by omega)) (evPos rfl (evPos rfl (evPos (by simp) (evEq (by simp))))))
theorem FnTrotter : laws_FnTrotter.Pure := by
  intro l0 l1 hm0 hb0 hw0 hm1 hb1 hw1
  refine Ev.rounds (g := fun q => laws_FnTrotter.f q l0 l1) ?_
  unfold laws_FnTrotter.f
  obtain ⟨t, ht, hbig⟩ := big_eq l0 l1
  rw [ht]
  refine evSome ?_
  cases t
  rotate_left
  · exact evPos rfl (Ev.now _)
  obtain ⟨q0, q1⟩ := hbig rfl
  have y0 := byt_of q0 hw0
  have y1 := byt_of q1 hw1
  refine evNeg (by simp) ?_
  obtain ⟨n, r, hd⟩ := drawTrotterAt_ev l0 y0
  have h1 := TrotterAt_ev n r
  have h2 := spec_TrotterAt_ev n r
  refine Ev.bind hd ?_
  by_cases c : 0 ≤ n ∧ n ≤ 12 ∧ 0 ≤ r ∧ r < (fac n.toNat : Nat)
  rotate_left
  · rw [if_neg c] at h1 h2
    refine Ev.bind h1 (Ev.bind h2 (evNeg (by simp) (Ev.bind (uSame_self [] (by simp)) ?_)))
    refine Ev.step (fun k => by rw [laws_FnTrotter.j0]) ?_
    exact evNeg (by simp) (evNeg (by simp) (trTail2 l1 y1))
  rw [if_pos c] at h1 h2
  obtain ⟨N, rfl⟩ := Int.eq_ofNat_of_zero_le c.1
  rw [Int.toNat_natCast] at h1 h2 c
  have hN : N ≤ 12 := by omega
  have hf := fac_le12 N hN
  have hlen := trot_length N r
  have hpm := trot_isPm N hN r
  have htr := trk_trot N r c.2.2.1 c.2.2.2
  have h3 := TrotterRank_ev (trot N r) (by omega)
  rw [if_pos hpm, hlen, htr] at h3
  have h4 := NextTrotter_ev (trot N r) (by omega)
  have h5 := TrotterAt_ev (N : Int) (r + 1)
  rw [Int.toNat_natCast] at h5
  have h6 := SignOf_ev (trot N r) (by omega)
  rw [if_pos hpm] at h6
  have hpar := trot_parity N r c.2.2.1
  rw [if_pos c.2.2.2] at hpar
  have hsg : ((sg (trot N r) == 1) != (Int.tmod r 2 == 0)) = false := by
    unfold sg
    rw [hpar, Int.tmod_eq_emod_of_nonneg c.2.2.1]
    rcases (show r % 2 = 0 ∨ r % 2 = 1 by omega) with h | h
    · rw [h, show r.toNat % 2 = 0 from by omega]; rfl
    · rw [h, show r.toNat % 2 = 1 from by omega]; rfl
  refine Ev.bind h1 (Ev.bind h2 (evNeg (by simp) (Ev.bind (uSame_self (trot N r) (by omega)) ?_)))
  refine Ev.step (fun k => by rw [laws_FnTrotter.j0]) ?_
  refine evNeg (by simp) (evPos rfl (Ev.bind h3 (Ev.bind h4 ?_)))
  rw [wr (x := r + 1) (by omega) (by omega)]
  refine Ev.bind h5 (Ev.bind h6 (evPos rfl (evPos rfl ?_)))
  by_cases c2 : r + 1 < (fac N : Nat)
  · have hnt : ntrot (trot N r) = (trot N (r + 1), fdI 0 (trot N r) (trot N (r + 1)), true) := by
      unfold ntrot
      rw [hlen, htr, if_pos ⟨hpm, c2⟩]
    have hl2 := trot_length N (r + 1)
    obtain ⟨i, i1, i2, i3⟩ := next_swap N r c.2.2.1 c2
    rw [hnt, if_pos (by omega), i2]
    refine evNeg (by simp) (Ev.bind (uSame_self (trot N (r + 1)) (by omega)) (evPos rfl (evPos rfl ?_)))
    rw [hsg]
    refine Ev.step (fun k => by rw [laws_FnTrotter.j1]) ?_
    have hap := ApplyMove_ev (trot N r) (by omega) 0 (i : Int) ((i : Int) + 1)
    have hmv : isMv ((trot N r).length : Int) 0 (i : Int) ((i : Int) + 1) = true := by
      rw [hlen]; exact decide_eq_true (Or.inl ⟨rfl, by omega, by omega, by omega⟩)
    unfold apM at hap
    rw [if_pos ⟨hpm, hmv⟩, i3] at hap
    refine evNeg (by simp) (evPos rfl ?_)
    rw [wr (x := (i : Int) + 1) (by omega) (by omega)]
    exact Ev.bind hap (evPos rfl (Ev.bind (uSame_self (trot N (r + 1)) (by omega)) (evPos rfl (trTail2 l1 y1))))
  · have hnt : ntrot (trot N r) = ([], 0, false) := by
      unfold ntrot
      rw [hlen, htr, if_neg (fun h => c2 h.2)]
    rw [hnt, if_neg (by omega)]
    refine evNeg (by simp) (Ev.bind (uSame_self [] (by simp)) (evPos rfl (evPos rfl ?_)))
    rw [hsg]
    refine Ev.step (fun k => by rw [laws_FnTrotter.j1]) ?_
    exact evNeg (by simp) (evNeg (by simp) (trTail2 l1 y1))

end Go.Proofs.Ytcpdgfmljhfbmaa.Pure
