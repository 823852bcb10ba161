import Derived.Test.YtllhnnjkonghlaaMFnGreedyListsx1
import Derived.Test.YtllhnnjkonghlaaMFnGreedyListsx2
import Derived.Test.YtllhnnjkonghlaaMFnGreedyListsx3
import Derived.Test.YtllhnnjkonghlaaMFnGreedyListsx4
import Derived.Test.YtllhnnjkonghlaaMFnGreedyListsx5
import Derived.Test.YtllhnnjkonghlaaMFnGreedyListsx6
import Derived.Test.YtllhnnjkonghlaaMFnGreedyListsx7
import Derived.Test.YtllhnnjkonghlaaMFnGreedyListsx8
import Derived.Test.YtllhnnjkonghlaaMFnGreedyListsx9
import Derived.Test.YtllhnnjkonghlaaMFnGreedyListsx10
import Derived.Test.YtllhnnjkonghlaaMFnGreedyListsx11
import Derived.Test.YtllhnnjkonghlaaBase
import Derived.Test.YtllhnnjkonghlaaComb
import Derived.Test.YtllhnnjkonghlaaTrot
import Derived.Test.YtllhnnjkonghlaaMoves
import Derived.Test.YtllhnnjkonghlaaPerms
import Derived.Test.YtllhnnjkonghlaaPerm5
import Derived.Test.YtllhnnjkonghlaaPmX
import Derived.Test.YtllhnnjkonghlaaLag
namespace Go.Proofs.Ytllhnnjkonghlaa.Pure
open Go.RowKit Go.Proofs.Ytllhnnjkonghlaa.MFnGreedyLists Go.Proofs.YtllhnnjkonghlaaW.PrintWords Go.Proofs.YtllhnnjkonghlaaW.PrintLast Go.Proofs.Ytllhnnjkonghlaa.Base Go.Proofs.Ytllhnnjkonghlaa.Comb Go.Proofs.Ytllhnnjkonghlaa.Trot Go.Proofs.Ytllhnnjkonghlaa.Moves Go.Proofs.Ytllhnnjkonghlaa.Perms Go.Proofs.Ytllhnnjkonghlaa.Perm5 Go.Proofs.Ytllhnnjkonghlaa.PmX Go.Proofs.Ytllhnnjkonghlaa.Lag
set_option linter.unusedVariables false
set_option linter.unusedSimpArgs false
def fol (L : List S45) : List Int → List Int → List (List Int)
  | _, [] => []
  | now, k :: t => mv now (rd_T45 L k).f0 (rd_T45 L k).f1 (rd_T45 L k).f2 :: fol L (mv now (rd_T45 L k).f0 (rd_T45 L k).f1 (rd_T45 L k).f2) t
theorem fol_length (L : List S45) : ∀ (t now : List Int), (fol L now t).length = t.length
  | [], _ => rfl
  | k :: t, now => by simp [fol, fol_length L t]
theorem rd_good (L : List S45) (P : S45 → Prop) (h : ∀ m ∈ L, P m) (k : Int) (h0 : 0 ≤ k) (h1 : k < L.length) : P (rd_T45 L k) := by
  have hl : k.toNat < L.length := by omega
  have e : rd_T45 L k = L[k.toNat] := by unfold rd_T45; rw [List.getD_eq_getElem?_getD, List.getElem?_eq_getElem hl]; rfl
  rw [e]; exact h _ (List.getElem_mem hl)
def cntR (o : List Int) : Int := (o.countP (fun x => decide (0 ≤ x)) : Nat)
theorem big_eq (a b : List Int) : ∃ t, laws_big.f a b = some t ∧ (t = false → a.length ≤ 1048576 ∧ b.length ≤ 1048576) := by
  unfold laws_big.f
  by_cases c : (a.length : Int) > 1048576
  · exact ⟨true, by rw [if_pos c], fun h => by cases h⟩
  · rw [if_neg c, wr (by omega) (by omega)]
    exact ⟨_, rfl, fun h => by have := of_decide_eq_false h; omega⟩
theorem within_eq (x a b : Int) : impl_within.f x a b = some (decide (a ≤ x ∧ x ≤ b)) := by
  unfold impl_within.f
  by_cases h : x ≥ a
  · rw [if_pos h]; have h' : a ≤ x := h; simp [h']
  · rw [if_neg h]; have h' : ¬ a ≤ x := h; simp [h']
theorem isMove_eq (n c i j : Int) (h0 : 0 ≤ n) (hn : n ≤ 12) : impl_isMove.f n c i j = some (isMv n c i j) := by
  unfold impl_isMove.f isMv
  simp only [within_eq, Option.bind_some]
  by_cases c0 : c = 0
  · rw [if_pos c0]
    by_cases c1 : 0 ≤ i
    · rw [if_pos c1]
      by_cases c2 : i < j
      · rw [if_pos c2]; congr 1; apply decide_eq_decide.2; omega
      · rw [if_neg c2]; congr 1; exact (decide_eq_false (by omega)).symm
    · rw [if_neg c1]; congr 1; exact (decide_eq_false (by omega)).symm
  · rw [if_neg c0]
    by_cases c1 : c = 1
    · rw [if_pos c1]
      by_cases c3 : 2 ≤ i ∧ i ≤ n
      · rw [if_pos (by simpa using c3)]
        congr 1; rw [Bool.eq_iff_iff]; simp; omega
      · rw [if_neg (by simpa using c3)]
        congr 1; exact (decide_eq_false (by omega)).symm
    · rw [if_neg c1]
      by_cases c2 : c = 2
      · rw [if_pos c2]
        by_cases c3 : 2 ≤ i ∧ i ≤ n
        · rw [if_pos (by simpa using c3)]
          congr 1; rw [Bool.eq_iff_iff]; simp; omega
        · rw [if_neg (by simpa using c3)]
          congr 1; exact (decide_eq_false (by omega)).symm
      · rw [if_neg c2]
        congr 1; exact (decide_eq_false (by omega)).symm
theorem l1In_eq (x a b : Int) : spec_l1In.f x a b = some (decide (a ≤ x ∧ x ≤ b)) := by
  unfold spec_l1In.f
  by_cases h : x ≥ a
  · rw [if_pos h]; have h' : a ≤ x := h; simp [h']
  · rw [if_neg h]; have h' : ¬ a ≤ x := h; simp [h']
theorem moGood_eq (n c i j : Int) (h0 : 0 ≤ n) (hn : n ≤ 12) : spec_moGood.f n c i j = some (isMv n c i j) := by
  unfold spec_moGood.f isMv
  rw [wr (x := n - 1) (by omega) (by omega)]
  simp only [l1In_eq, Option.bind_some]
  by_cases c0 : c = 0
  · rw [if_pos c0]
    by_cases c1 : 1 ≤ j ∧ j ≤ n - 1
    · rw [if_pos (by simpa using c1), wr (by omega) (by omega)]
      congr 1; apply decide_eq_decide.2; omega
    · rw [if_neg (by simpa using c1)]
      congr 1; exact (decide_eq_false (by omega)).symm
  · rw [if_neg c0]
    by_cases c1 : c = 1
    · rw [if_pos c1]
      by_cases c3 : 2 ≤ i ∧ i ≤ n
      · rw [if_pos (by simpa using c3)]
        congr 1; rw [Bool.eq_iff_iff]; simp; omega
      · rw [if_neg (by simpa using c3)]
        congr 1; exact (decide_eq_false (by omega)).symm
    · rw [if_neg c1]
      by_cases c2 : c = 2
      · rw [if_pos c2]
        by_cases c3 : 2 ≤ i ∧ i ≤ n
        · rw [if_pos (by simpa using c3)]
          congr 1; rw [Bool.eq_iff_iff]; simp; omega
        · rw [if_neg (by simpa using c3)]
          congr 1; exact (decide_eq_false (by omega)).symm
      · rw [if_neg c2]
        congr 1; exact (decide_eq_false (by omega)).symm
def okTask (n : Int) (l : List S45) : Bool := (l.all fun m => isMv n m.f0 m.f1 m.f2) && (decide (1 ≤ n ∧ n ≤ 5) && decide ((l.length : Int) ≤ 12))
theorem moGood_some (n a b c : Int) : spec_moGood.f n a b c = some ((spec_moGood.f n a b c).getD false) := by
  unfold spec_moGood.f
  simp only [l1In_eq, Option.bind_some]
  repeat' split
  all_goals rfl
theorem moTask_l0 (n : Int) (g : S45 → Bool) (hg : ∀ m : S45, spec_moGood.f n m.f0 m.f1 m.f2 = some (g m)) (l : List S45) (hl : l.length ≤ 1048576) : ∀ (d : Nat) (i : Int), 0 ≤ i → i.toNat + d = l.length →
    Ev (fun k => spec_moTask.l0 k n l l (l.length : Int) i) (((l.drop i.toNat).all g) && (decide (1 ≤ n ∧ n ≤ 5) && decide ((l.length : Int) ≤ 12))) := by
  intro d
  induction d with
  | zero =>
    intro i h0 hd
    refine Ev.step (fun k => by rw [spec_moTask.l0]) ?_
    rw [List.drop_of_length_le (by omega)]
    refine evNeg (by omega) ?_
    rw [l1In_eq]
    refine evSome ?_
    by_cases c : 1 ≤ n ∧ n ≤ 5
    · exact evPos (by simpa using c) (evEq (by simp [c]))
    · refine evNeg (by simpa using c) (evEq ?_)
      rw [decide_eq_false c]; simp
  | succ d ih =>
    intro i h0 hd
    refine Ev.step (fun k => by rw [spec_moTask.l0]) ?_
    refine evPos (by omega) (evPos h0 (evPos (by omega) ?_))
    rw [hg, wr (by omega) (by omega), List.drop_eq_getElem_cons (show i.toNat < l.length by omega), List.all_cons]
    have e : rd_T45 l i = l[i.toNat] := by unfold rd_T45; rw [List.getD_eq_getElem?_getD, List.getElem?_eq_getElem (by omega)]; rfl
    rw [e]
    refine evSome ?_
    by_cases c : g l[i.toNat] = true
    · refine evPos c (evTo (ih (i + 1) (by omega) (by omega)) ?_)
      rw [c, show (i + 1).toNat = i.toNat + 1 by omega]; simp
    · refine evNeg c (evEq ?_)
      rw [Bool.eq_false_iff.mpr c]; simp
theorem moTask_ev (n : Int) (l : List S45) (hl : l.length ≤ 1048576) : Ev (fun k => spec_moTask.f k n l) (okTask n l) := by
  unfold spec_moTask.f okTask
  by_cases c : 1 ≤ n ∧ n ≤ 5
  · exact evTo (moTask_l0 n (fun m => isMv n m.f0 m.f1 m.f2) (fun m => moGood_eq n _ _ _ (by omega) (by omega)) l hl l.length 0 (by omega) (by simp)) (by simp)
  · refine evTo (moTask_l0 n _ (fun m => moGood_some n m.f0 m.f1 m.f2) l hl l.length 0 (by omega) (by simp)) ?_
    rw [decide_eq_false c]; simp
theorem isMove_some (n a b c : Int) : impl_isMove.f n a b c = some ((impl_isMove.f n a b c).getD false) := by
  unfold impl_isMove.f
  simp only [within_eq, Option.bind_some]
  repeat' split
  all_goals rfl
theorem areMoves_l0 (n : Int) (g : S45 → Bool) (hg : ∀ m : S45, impl_isMove.f n m.f0 m.f1 m.f2 = some (g m)) (l : List S45) (hl : l.length ≤ 1048576) : ∀ (d : Nat) (i : Int), 0 ≤ i → i.toNat + d = l.length →
    Ev (fun k => impl_areMoves.l0 k n l l (l.length : Int) i) (((l.drop i.toNat).all g) && (decide (1 ≤ n ∧ n ≤ 5) && decide ((l.length : Int) ≤ 12))) := by
  intro d
  induction d with
  | zero =>
    intro i h0 hd
    refine Ev.step (fun k => by rw [impl_areMoves.l0]) ?_
    rw [List.drop_of_length_le (by omega)]
    refine evNeg (by omega) ?_
    rw [within_eq]
    refine evSome ?_
    by_cases c : 1 ≤ n ∧ n ≤ 5
    · exact evPos (by simpa using c) (evEq (by simp [c]))
    · refine evNeg (by simpa using c) (evEq ?_)
      rw [decide_eq_false c]; simp
  | succ d ih =>
    intro i h0 hd
    refine Ev.step (fun k => by rw [impl_areMoves.l0]) ?_
    refine evPos (by omega) (evPos h0 (evPos (by omega) ?_))
    rw [hg, wr (by omega) (by omega), List.drop_eq_getElem_cons (show i.toNat < l.length by omega), List.all_cons]
    have e : rd_T45 l i = l[i.toNat] := by unfold rd_T45; rw [List.getD_eq_getElem?_getD, List.getElem?_eq_getElem (by omega)]; rfl
    rw [e]
    refine evSome ?_
    by_cases c : g l[i.toNat] = true
    · refine evPos c (evTo (ih (i + 1) (by omega) (by omega)) ?_)
      rw [c, show (i + 1).toNat = i.toNat + 1 by omega]; simp
    · refine evNeg c (evEq ?_)
      rw [Bool.eq_false_iff.mpr c]; simp
theorem areMoves_ev (n : Int) (l : List S45) (hl : l.length ≤ 1048576) : Ev (fun k => impl_areMoves.f k n l) (okTask n l) := by
  unfold impl_areMoves.f okTask
  by_cases c : 1 ≤ n ∧ n ≤ 5
  · exact evTo (areMoves_l0 n (fun m => isMv n m.f0 m.f1 m.f2) (fun m => isMove_eq n _ _ _ (by omega) (by omega)) l hl l.length 0 (by omega) (by simp)) (by simp)
  · refine evTo (areMoves_l0 n _ (fun m => isMove_some n m.f0 m.f1 m.f2) l hl l.length 0 (by omega) (by simp)) ?_
    rw [decide_eq_false c]; simp
theorem factorial_tab : ((List.range 13).all fun n => impl_factorial.f 20 (n : Int) == some (fac n : Int)) = true := by decide +kernel
theorem factorial_ev (n : Nat) (hn : n ≤ 12) : Ev (fun r => impl_factorial.f r (n : Int)) (fac n : Int) := by
  refine evTab (g := fun r => impl_factorial.f r (n : Int)) (impl_factorial.mono _) 20 ?_
  exact beq_iff_eq.1 (List.all_eq_true.1 factorial_tab n (List.mem_range.2 (by omega)))
theorem copied_eq (l : List Int) (hn : l.length ≤ 10000000000000) : impl_copied.f l = some l := by
  unfold impl_copied.f
  simp only [Option.bind_some, List.nil_append, List.length_nil, Nat.zero_add]
  rw [if_pos (by omega)]
theorem moved_r0 : ∀ (n : Nat) (p m s : List Int), m.length ≤ n → Ev (fun k => impl_moved.r0 k (p ++ m ++ s) (p.length : Int) ((p.length : Int) + m.length - 1)) (p ++ m.reverse ++ s) := by
  intro n
  induction n with
  | zero =>
    intro p m s hm
    obtain rfl : m = [] := List.length_eq_zero_iff.1 (by omega)
    refine Ev.step (fun q => by rw [impl_moved.r0]) ?_
    exact evNeg (by simp; omega) (evEq (by simp))
  | succ n ih =>
    intro p m s hm
    refine Ev.step (fun q => by rw [impl_moved.r0]) ?_
    match m, hm with
    | [], _ => exact evNeg (by simp; omega) (evEq (by simp))
    | [x], _ => exact evNeg (by simp) (evEq (by simp))
    | x :: y :: t, hm =>
      obtain ⟨u, z, hz⟩ : ∃ u z, y :: t = u ++ [z] := ⟨(y :: t).dropLast, (y :: t).getLast (by simp), (List.dropLast_concat_getLast (by simp)).symm⟩
      rw [hz]
      have hl : u.length + 1 = t.length + 1 := by have := congrArg List.length hz; simp at this; omega
      simp only [List.length_cons] at hm
      refine evPos (by simp; omega) ?_
      have e1 : (p.length : Int).toNat = p.length := Int.toNat_natCast _
      have e2 : ((p.length : Int) + ((x :: (u ++ [z])).length : Nat) - 1).toNat = p.length + u.length + 1 := by simp; omega
      have r1 : rd (p ++ x :: (u ++ [z]) ++ s) (p.length : Int) = x := by
        unfold rd; rw [e1]; simp
      have r2 : rd (p ++ x :: (u ++ [z]) ++ s) ((p.length : Int) + ((x :: (u ++ [z])).length : Nat) - 1) = z := by
        unfold rd; rw [e2]
        rw [List.getD_eq_getElem?_getD, List.append_assoc, List.getElem?_append_right (by omega), show p.length + u.length + 1 - p.length = u.length + 1 by omega]
        simp
      rw [r1, r2, e1, e2]
      have hset : ((p ++ x :: (u ++ [z]) ++ s).set p.length z).set (p.length + u.length + 1) x = (p ++ [z]) ++ u ++ ([x] ++ s) := by
        rw [List.append_assoc p, List.set_append_right _ _ (by omega), Nat.sub_self, List.cons_append, List.set_cons_zero, List.set_append_right _ _ (by omega), show p.length + u.length + 1 - p.length = u.length + 1 by omega, List.set_cons_succ]
        rw [List.append_assoc u, List.set_append_right _ _ (by omega), Nat.sub_self]
        simp
      rw [hset]
      refine evTo (Ev.congr (fun k => ?_) (ih (p ++ [z]) u ([x] ++ s) (by omega))) ?_
      · congr 1
        · simp
        · simp; omega
      · simp
theorem moved_ev (l : List Int) (hl : l.length ≤ 1000) (a b c : Int) (hg : Mgood l.length a b c) : Ev (fun q => impl_moved.f q l a b c) (mv l a b c) := by
  unfold impl_moved.f
  rw [copied_eq l (by omega)]
  refine evSome (evPos (by omega) ?_)
  rcases hg with ⟨rfl, h1, h2, h3⟩ | ⟨rfl, h1, h2, rfl⟩ | ⟨rfl, h1, h2, rfl⟩
  · exact evPos rfl (evPos (by omega) (evPos (by omega) (evPos (by omega) (evPos (by omega) (evEq rfl)))))
  · refine evNeg (by decide) (evPos rfl (evPos (by omega) (evPos (by omega) ?_)))
    have h := moved_r0 b.toNat [] (l.take b.toNat) (l.drop b.toNat) (by rw [List.length_take]; omega)
    rw [List.length_take, show min b.toNat l.length = b.toNat by omega] at h
    refine evTo (Ev.congr (fun k => ?_) h) (by simp [mv])
    rw [List.nil_append, List.take_append_drop]
    congr 1
    simp; omega
  · refine evNeg (by decide) (evNeg (by decide) (evPos rfl (evPos (by omega) (evPos (by omega) (evEq ?_)))))
    obtain ⟨n, hn⟩ : ∃ n : Nat, b = (n : Int) + 1 := ⟨b.toNat - 1, by omega⟩
    subst hn
    rw [show ((n : Int) + 1).toNat = n + 1 by omega, show ((n : Int) + 1 - 1).toNat = n by omega]
    match l, h2 with
    | x :: t, h2 =>
      simp at h2
      have e : rd (x :: t) 0 = x := rfl
      rw [e]
      simp only [mv, List.take_succ_cons, List.drop_succ_cons, List.drop_zero]
      rw [show ((n : Int) + 1).toNat = n + 1 by omega]
      simp only [List.take_succ_cons, List.drop_succ_cons, List.drop_zero, List.take_zero]
      rw [if_neg (by decide), if_neg (by decide)]
      have hd : (x :: t).drop n = (x :: t)[n]'(by simp; omega) :: t.drop n := by
        rw [List.drop_eq_getElem_cons (by simp; omega)]; simp
      rw [hd, List.set_append_right _ _ (by rw [List.length_take]; omega), List.length_take, show n - min n t.length = 0 by omega]
      simp
theorem permutationRank_tab : ((List.range 6).all fun n => (List.range (facN n)).all fun r => impl_permutationRank.f 60 (PA n r) == some (r : Int)) = true := by decide +kernel
theorem permutationRank_ev (n r : Nat) (hn : n ≤ 5) (hr : r < facN n) : Ev (fun q => impl_permutationRank.f q (PA n r)) (r : Int) := by
  refine evTab (g := fun q => impl_permutationRank.f q (PA n r)) (impl_permutationRank.mono _) 60 ?_
  exact beq_iff_eq.1 (List.all_eq_true.1 (List.all_eq_true.1 permutationRank_tab n (List.mem_range.2 (by omega))) r (List.mem_range.2 hr))
theorem identity_l0 (n : Nat) (hn : n ≤ 1000000000) : ∀ (d : Nat) (j : Int), 0 ≤ j → j.toNat + d = n → Ev (fun k => impl_identity.l0 k (upTo j.toNat) (n : Int) j) (upTo n) := by
  intro d
  induction d with
  | zero =>
    intro j h0 hd
    refine Ev.step (fun k => by rw [impl_identity.l0]) ?_
    exact evNeg (by omega) (evEq (by rw [show j.toNat = n from by omega]))
  | succ d ih =>
    intro j h0 hd
    refine Ev.step (fun k => by rw [impl_identity.l0]) ?_
    refine evPos (by omega) (evPos (by rw [upTo_length]; omega) ?_)
    have h := ih (j + 1) (by omega) (by omega)
    rw [show (j + 1).toNat = j.toNat + 1 from by omega, upTo_succ, Int.toNat_of_nonneg h0] at h
    rw [wr (by omega) (by omega)]
    exact h
theorem identity_ev (n : Nat) (hn : n ≤ 1000000000) : Ev (fun k => impl_identity.f k (n : Int)) (upTo n) := by
  unfold impl_identity.f
  exact identity_l0 n hn n 0 (by omega) (by simp)
theorem permutationAt_tab : ((List.range 6).all fun n => (List.range (facN n)).all fun r => impl_permutationAt.f 40 (n : Int) (r : Int) == some (PA n r)) = true := by decide +kernel
theorem permutationAt_ev (n r : Nat) (hn : n ≤ 5) (hr : r < facN n) : Ev (fun q => impl_permutationAt.f q (n : Int) (r : Int)) (PA n r) := by
  refine evTab (g := fun q => impl_permutationAt.f q (n : Int) (r : Int)) (impl_permutationAt.mono _ _) 40 ?_
  exact beq_iff_eq.1 (List.all_eq_true.1 (List.all_eq_true.1 permutationAt_tab n (List.mem_range.2 (by omega))) r (List.mem_range.2 hr))
theorem impl_ReachCount_l0 (o : List Int) (ho : o.length ≤ 1000) : ∀ (d : Nat) (c i : Int), 0 ≤ i → i.toNat + d = o.length → 0 ≤ c → c ≤ i →
    Ev (fun k => impl_ReachCount.l0 k c o (o.length : Int) i) (c + cntR (o.drop i.toNat), true) := by
  intro d
  induction d with
  | zero =>
    intro c i h0 hd hc hci
    refine Ev.step (fun k => by rw [impl_ReachCount.l0]) ?_
    refine evNeg (by omega) (evEq ?_)
    rw [List.drop_of_length_le (by omega)]; simp [cntR]
  | succ d ih =>
    intro c i h0 hd hc hci
    refine Ev.step (fun k => by rw [impl_ReachCount.l0]) ?_
    refine evPos (by omega) (evPos h0 (evPos (by omega) ?_))
    simp (disch := omega) only [wr]
    have e := drop_rd o i h0 (by omega)
    by_cases c0 : rd o i ≥ 0
    · refine evPos c0 (evTo (ih (c + 1) (i + 1) (by omega) (by omega) (by omega) (by omega)) ?_)
      rw [e]; unfold cntR; rw [List.countP_cons_of_pos (by simpa using c0)]; simp; omega
    · refine evNeg c0 (evTo (ih c (i + 1) (by omega) (by omega) (by omega) (by omega)) ?_)
      rw [e]; unfold cntR; rw [List.countP_cons_of_neg (by simpa using c0)]
theorem uSame_l0 (a : List Int) (hn : a.length ≤ 35184372088832) : ∀ (d : Nat) (j : Int), 0 ≤ j → j.toNat + d = a.length → Ev (fun k => laws_uSame.l0 k a a (a.length : Int) j) true := by
  intro d
  induction d with
  | zero =>
    intro j h0 hd
    refine Ev.step (fun k => by rw [laws_uSame.l0]) ?_
    exact evNeg (by omega) (Ev.now _)
  | succ d ih =>
    intro j h0 hd
    refine Ev.step (fun k => by rw [laws_uSame.l0]) ?_
    refine evPos (by omega) (evPos (by omega) (evPos (by omega) (evPos (by omega) (evPos rfl ?_))))
    rw [wr (by omega) (by omega)]
    exact ih _ (by omega) (by omega)
theorem uSame_self (a : List Int) (hn : a.length ≤ 35184372088832) : Ev (fun k => laws_uSame.f k a a) true := by
  unfold laws_uSame.f
  exact evPos rfl (uSame_l0 a hn a.length 0 (by omega) (by simp))
theorem slicesEqual_l0 (a b : List Int) (hn : a.length ≤ 35184372088832) (hb : a.length = b.length) : ∀ (d : Nat) (j : Int), 0 ≤ j → j.toNat + d = a.length →
    Ev (fun k => slices_Equal_int_int.l0 k a b (a.length : Int) j) (decide (a.drop j.toNat = b.drop j.toNat)) := by
  intro d
  induction d with
  | zero =>
    intro j h0 hd
    refine Ev.step (fun k => by rw [slices_Equal_int_int.l0]) ?_
    refine evNeg (by omega) ?_
    rw [drop_end a j (by omega), drop_end b j (by omega)]
    exact evEq rfl
  | succ d ih =>
    intro j h0 hd
    refine Ev.step (fun k => by rw [slices_Equal_int_int.l0]) ?_
    refine evPos (by omega) (evPos (by omega) (evPos (by omega) (evPos (by omega) ?_)))
    rw [wr (by omega) (by omega), drop_rd a j h0 (by omega), drop_rd b j h0 (by omega)]
    by_cases c : rd a j = rd b j
    · refine evPos c (evTo (ih _ (by omega) (by omega)) ?_)
      simp [c]
    · refine evNeg c (evEq ?_)
      simp [c]
theorem slicesEqual_ev (a b : List Int) (hn : a.length ≤ 35184372088832) : Ev (fun k => slices_Equal_int_int.f k a b) (decide (a = b)) := by
  unfold slices_Equal_int_int.f
  by_cases hb : a.length = b.length
  · exact evPos (by omega) (slicesEqual_l0 a b hn hb a.length 0 (by omega) (by simp))
  · refine evNeg (by omega) (evEq ?_)
    exact (decide_eq_false (fun e => hb (by rw [e]))).symm
theorem IsPermutation_ev (l : List Int) (hl : l.length ≤ 35184372088832) : Ev (fun q => impl_IsPermutation.f q l) (isPm l) := by
  unfold impl_IsPermutation.f isPm
  by_cases c : l.length ≤ 12
  · refine evPos c (Ev.bind (identity_ev l.length (by omega)) ?_)
    have hs : (srt l).length = l.length := (srt_perm l).length_eq
    refine evTo (slicesEqual_ev (srt l) (upTo l.length) (by omega)) ?_
    rw [decide_eq_true c, Bool.true_and]
  · refine evNeg c (evEq ?_)
    rw [decide_eq_false c, Bool.false_and]
def apM (l : List Int) (a b c : Int) : List Int × Bool := if isPm l = true ∧ isMv l.length a b c = true then (mv l a b c, true) else ([], false)
theorem isMv_good {n a b c : Int} (h : isMv n a b c = true) : Mgood n a b c := by
  simp only [isMv, decide_eq_true_eq] at h; unfold Mgood; omega
theorem ApplyMove_ev (l : List Int) (hl : l.length ≤ 1048576) (a b c : Int) : Ev (fun q => impl_ApplyMove.f q l a b c) (apM l a b c) := by
  unfold impl_ApplyMove.f apM
  refine Ev.bind (IsPermutation_ev l (by omega)) ?_
  by_cases hp : isPm l = true
  · have h12 := (isPm_perm hp).1
    refine evPos hp ?_
    rw [isMove_eq _ _ _ _ (by omega) (by omega)]
    by_cases hv : isMv l.length a b c = true
    · exact evSome (evPos hv (Ev.bind (moved_ev l (by omega) a b c (isMv_good hv)) (evEq (by rw [if_pos ⟨hp, hv⟩]))))
    · exact evSome (evNeg hv (evEq (by rw [if_neg (fun h => hv h.2)])))
  · exact evNeg hp (evEq (by rw [if_neg (fun h => hp h.1)]))
theorem allWithin_l0 (a b : Int) (xs : List Int) (hn : xs.length ≤ 35184372088832) : ∀ (d : Nat) (j : Int), 0 ≤ j → j.toNat + d = xs.length →
    Ev (fun k => impl_allWithin.l0 k a b xs (xs.length : Int) j) ((xs.drop j.toNat).all fun x => decide (a ≤ x ∧ x ≤ b)) := by
  intro d
  induction d with
  | zero =>
    intro j h0 hd
    refine Ev.step (fun k => by rw [impl_allWithin.l0]) ?_
    refine evNeg (by omega) (evEq ?_)
    rw [drop_end _ _ (by omega)]; rfl
  | succ d ih =>
    intro j h0 hd
    refine Ev.step (fun k => by rw [impl_allWithin.l0]) ?_
    refine evPos (by omega) (evPos (by omega) (evPos (by omega) ?_))
    simp only [within_eq, Option.bind_some]
    rw [wr (by omega) (by omega), drop_rd xs j h0 (by omega), List.all_cons]
    by_cases c : a ≤ rd xs j ∧ rd xs j ≤ b
    · exact evPos (by simpa using c) (evTo (ih _ (by omega) (by omega)) (by simp [c]))
    · exact evNeg (by simpa using c) (evEq (by rw [decide_eq_false c]; rfl))
theorem allWithin_ev (xs : List Int) (a b : Int) (hn : xs.length ≤ 35184372088832) : Ev (fun k => impl_allWithin.f k xs a b) (xs.all fun x => decide (a ≤ x ∧ x ≤ b)) := by
  unfold impl_allWithin.f
  exact evTo (allWithin_l0 a b xs hn xs.length 0 (by omega) (by simp)) (by simp)
theorem Follow_l0 (n : Nat) (hn : n ≤ 5) (L : List S45) (hL : L.length ≤ 12) (hg : ∀ m ∈ L, Mgood n m.f0 m.f1 m.f2) (s : List Int) (hs : s.length ≤ 1099) (hr : ∀ k ∈ s, 0 ≤ k ∧ k < L.length) : ∀ (d : Nat) (X : List (List Int)) (now : List Int) (i : Int), 0 ≤ i → i.toNat + d = s.length → now.length = n → (X.length : Int) = i →
    Ev (fun k => impl_FollowMoves.l0 k L s (X ++ [now]) i) (X ++ [now] ++ fol L now (s.drop i.toNat), true) := by
  intro d
  induction d with
  | zero =>
    intro X now i h0 hd hnow hX
    refine Ev.step (fun k => by rw [impl_FollowMoves.l0]) ?_
    refine evNeg (by omega) (evEq ?_)
    rw [drop_end s i (by omega)]; simp [fol]
  | succ d ih =>
    intro X now i h0 hd hnow hX
    refine Ev.step (fun k => by rw [impl_FollowMoves.l0]) ?_
    have hil : i.toNat < s.length := by omega
    have hk := hr (rd s i) (by rw [rd_get s i hil]; exact List.getElem_mem hil)
    have hgd := rd_good L _ hg (rd s i) hk.1 hk.2
    have hx : rd_L3 (X ++ [now]) i = now := by
      unfold rd_L3
      rw [List.getD_eq_getElem?_getD, List.getElem?_append_right (by omega), show i.toNat - X.length = 0 from by omega]; rfl
    rw [hx]
    refine evPos (by omega) (evPos h0 (evPos (by simp; omega) (evPos hk.1 (evPos hk.2 (Ev.bind (moved_ev now (by omega) _ _ _ (by rw [hnow]; exact hgd)) (evPos (by simp; omega) ?_))))))
    rw [wr (by omega) (by omega), drop_rd s i h0 (by omega), fol]
    refine evTo (ih (X ++ [now]) _ (i + 1) (by omega) (by omega) (by rw [mv_length]; exact hnow) (by simp; omega)) ?_
    simp
theorem l1Has_l0 (x : Int) (xs : List Int) (hn : xs.length ≤ 35184372088832) : ∀ (d : Nat) (j : Int), 0 ≤ j → j.toNat + d = xs.length →
    Ev (fun k => spec_l1Has.l0 k x xs (xs.length : Int) j) (decide (x ∈ xs.drop j.toNat)) := by
  intro d
  induction d with
  | zero =>
    intro j h0 hd
    refine Ev.step (fun k => by rw [spec_l1Has.l0]) ?_
    refine evNeg (by omega) (evEq ?_)
    rw [drop_end _ _ (by omega)]; simp
  | succ d ih =>
    intro j h0 hd
    refine Ev.step (fun k => by rw [spec_l1Has.l0]) ?_
    refine evPos (by omega) (evPos (by omega) (evPos (by omega) ?_))
    rw [wr (by omega) (by omega), drop_rd xs j h0 (by omega)]
    by_cases c : rd xs j = x
    · exact evPos c (evEq (by simp [c]))
    · exact evNeg c (evTo (ih _ (by omega) (by omega)) (by simp [List.mem_cons, Ne.symm c]))
theorem l1Has_ev (xs : List Int) (x : Int) (hn : xs.length ≤ 35184372088832) : Ev (fun k => spec_l1Has.f k xs x) (decide (x ∈ xs)) := by
  unfold spec_l1Has.f
  exact evTo (l1Has_l0 x xs hn xs.length 0 (by omega) (by simp)) (by simp)
theorem raPermutation_l0 (l : List Int) (hl : l.length ≤ 1048576) : ∀ (d : Nat) (i : Int), 0 ≤ i → i.toNat + d = l.length →
    Ev (fun q => spec_raPermutation.l0 q l l (l.length : Int) i) (decide (∀ j (h : j < l.length), i.toNat ≤ j → j < 12 ∧ (0 ≤ l[j] ∧ l[j] ≤ (l.length : Int) - 1) ∧ l[j] ∉ l.take j)) := by
  intro d
  induction d with
  | zero =>
    intro i h0 hd
    refine Ev.step (fun k => by rw [spec_raPermutation.l0]) ?_
    refine evNeg (by omega) (evEq (decide_eq_true ?_).symm)
    intro j h hj; omega
  | succ d ih =>
    intro i h0 hd
    refine Ev.step (fun k => by rw [spec_raPermutation.l0]) ?_
    have hil : i.toNat < l.length := by omega
    have e : rd l i = l[i.toNat] := by unfold rd; rw [List.getD_eq_getElem?_getD, List.getElem?_eq_getElem hil]; rfl
    refine evPos (by omega) (evPos h0 (evPos (by omega) ?_))
    by_cases c1 : i ≥ 12
    · refine evPos c1 (evEq (decide_eq_false ?_).symm)
      intro h
      have := (h i.toNat hil (Nat.le_refl _)).1
      omega
    · refine evNeg c1 ?_
      rw [l1In_eq, wr (by omega) (by omega), wr (by omega) (by omega)]
      refine evSome ?_
      by_cases c2 : 0 ≤ rd l i ∧ rd l i ≤ (l.length : Int) - 1
      · refine evPos (by simpa using c2) (evPos (by omega) (Ev.bind (l1Has_ev _ _ (by rw [List.length_take]; omega)) ?_))
        by_cases c3 : rd l i ∈ l.take i.toNat
        · refine evPos (decide_eq_true c3) (evEq (decide_eq_false ?_).symm)
          intro h
          rw [e] at c3
          exact (h i.toNat hil (Nat.le_refl _)).2.2 c3
        · refine evNeg (by simpa using c3) (evTo (ih (i + 1) (by omega) (by omega)) ?_)
          apply decide_eq_decide.2
          constructor
          · intro h j hj hij
            by_cases ej : j = i.toNat
            · subst ej
              rw [e] at c2 c3
              exact ⟨by omega, c2, c3⟩
            · exact h j hj (by omega)
          · intro h j hj hij
            exact h j hj (by omega)
      · refine evNeg (by simpa using c2) (evEq (decide_eq_false ?_).symm)
        intro h
        rw [e] at c2
        exact c2 (h i.toNat hil (Nat.le_refl _)).2.1
theorem raPermutation_ev (l : List Int) (hl : l.length ≤ 1048576) : Ev (fun q => spec_raPermutation.f q l) (isPm l) := by
  unfold spec_raPermutation.f
  refine evTo (raPermutation_l0 l hl l.length 0 (by omega) (by simp)) ?_
  rw [Bool.eq_iff_iff, isPm_iff, decide_eq_true_eq]
  constructor
  · intro h j hj; exact h j hj (by simp)
  · intro h j hj _; exact h j hj
def okLists (n : Int) (L : List (List Int)) : Bool := (L.all fun l => decide ((l.length : Int) = n) && isPm l) && decide ((L.length : Int) ≤ 1100)
theorem moLists_l0 (n : Int) (L : List (List Int)) (hL : L.length ≤ 1048576) (hl : ∀ t ∈ L, t.length ≤ 1048576) : ∀ (d : Nat) (j : Int), 0 ≤ j → j.toNat + d = L.length →
    Ev (fun k => spec_moLists.l0 k n L L (L.length : Int) j) (((L.drop j.toNat).all fun l => decide ((l.length : Int) = n) && isPm l) && decide ((L.length : Int) ≤ 1100)) := by
  intro d
  induction d with
  | zero =>
    intro j h0 hd
    refine Ev.step (fun k => by rw [spec_moLists.l0]) ?_
    refine evNeg (by omega) (evEq ?_)
    rw [drop_end L j (by omega)]; simp
  | succ d ih =>
    intro j h0 hd
    have hj : j.toNat < L.length := by omega
    have e : rd_L3 L j = L[j.toNat] := by unfold rd_L3; rw [List.getD_eq_getElem?_getD, List.getElem?_eq_getElem hj]; rfl
    have ed : L.drop j.toNat = L[j.toNat] :: L.drop (j + 1).toNat := by
      rw [show (j + 1).toNat = j.toNat + 1 from by omega]; exact List.drop_eq_getElem_cons hj
    refine Ev.step (fun k => by rw [spec_moLists.l0]) ?_
    refine evPos (by omega) (evPos h0 (evPos (by omega) ?_))
    rw [e, wr (by omega) (by omega), ed, List.all_cons]
    by_cases c : (L[j.toNat].length : Int) = n
    · refine evPos c (Ev.bind (raPermutation_ev _ (by have := hl _ (List.getElem_mem hj); omega)) ?_)
      by_cases c2 : isPm L[j.toNat] = true
      · refine evPos c2 (evTo (ih (j + 1) (by omega) (by omega)) ?_)
        rw [decide_eq_true c, c2]; simp
      · refine evNeg c2 (evEq ?_)
        simp only [Bool.not_eq_true] at c2
        rw [c2]; simp
    · refine evNeg c (evEq ?_)
      rw [decide_eq_false c]; simp
theorem moLists_ev (n : Int) (L : List (List Int)) (hL : L.length ≤ 1048576) (hl : ∀ t ∈ L, t.length ≤ 1048576) : Ev (fun k => spec_moLists.f k n L) (okLists n L) := by
  unfold spec_moLists.f
  exact evTo (moLists_l0 n L hL hl L.length 0 (by omega) (by simp)) (by simp [okLists])
theorem arePermutations_l0 (n : Int) (L : List (List Int)) (hL : L.length ≤ 1048576) (hl : ∀ t ∈ L, t.length ≤ 1048576) : ∀ (d : Nat) (j : Int), 0 ≤ j → j.toNat + d = L.length →
    Ev (fun k => impl_arePermutations.l0 k n L L (L.length : Int) j) (((L.drop j.toNat).all fun l => decide ((l.length : Int) = n) && isPm l) && decide ((L.length : Int) ≤ 1100)) := by
  intro d
  induction d with
  | zero =>
    intro j h0 hd
    refine Ev.step (fun k => by rw [impl_arePermutations.l0]) ?_
    refine evNeg (by omega) (evEq ?_)
    rw [drop_end L j (by omega)]; simp
  | succ d ih =>
    intro j h0 hd
    have hj : j.toNat < L.length := by omega
    have e : rd_L3 L j = L[j.toNat] := by unfold rd_L3; rw [List.getD_eq_getElem?_getD, List.getElem?_eq_getElem hj]; rfl
    have ed : L.drop j.toNat = L[j.toNat] :: L.drop (j + 1).toNat := by
      rw [show (j + 1).toNat = j.toNat + 1 from by omega]; exact List.drop_eq_getElem_cons hj
    refine Ev.step (fun k => by rw [impl_arePermutations.l0]) ?_
    refine evPos (by omega) (evPos h0 (evPos (by omega) ?_))
    rw [e, wr (by omega) (by omega), ed, List.all_cons]
    by_cases c : (L[j.toNat].length : Int) = n
    · refine evPos c (Ev.bind (IsPermutation_ev _ (by have := hl _ (List.getElem_mem hj); omega)) ?_)
      by_cases c2 : isPm L[j.toNat] = true
      · refine evPos c2 (evTo (ih (j + 1) (by omega) (by omega)) ?_)
        rw [decide_eq_true c, c2]; simp
      · refine evNeg c2 (evEq ?_)
        simp only [Bool.not_eq_true] at c2
        rw [c2]; simp
    · refine evNeg c (evEq ?_)
      rw [decide_eq_false c]; simp
theorem arePermutations_ev (n : Int) (L : List (List Int)) (hL : L.length ≤ 1048576) (hl : ∀ t ∈ L, t.length ≤ 1048576) : Ev (fun k => impl_arePermutations.f k n L) (okLists n L) := by
  unfold impl_arePermutations.f
  exact evTo (arePermutations_l0 n L hL hl L.length 0 (by omega) (by simp)) (by simp [okLists])
theorem l1Own_eq (l : List Int) (hn : l.length ≤ 10000000000000) : spec_l1Own.f l = some l := by
  unfold spec_l1Own.f
  simp only [Option.bind_some, List.nil_append, List.length_nil, Nat.zero_add]
  rw [if_pos (by omega)]
theorem moApply_l0 (l : List Int) (hl : l.length ≤ 1000) (b : Int) (hb : b ≤ l.length) (a c : Int) : ∀ (d : Nat) (x5 : List Int) (i : Int), 0 ≤ i → i + d = b → x5.length = l.length → x5.take i.toNat = (l.take b.toNat).reverse.take i.toNat → x5.drop i.toNat = l.drop i.toNat →
    Ev (fun k => spec_moApply.l0 k l x5 i a b c) ((l.take b.toNat).reverse ++ l.drop b.toNat) := by
  intro d
  induction d with
  | zero =>
    intro x5 i h0 hi h5 ht hd
    refine Ev.step (fun k => by rw [spec_moApply.l0]) ?_
    refine evNeg (by omega) (evEq ?_)
    obtain rfl : i = b := by omega
    rw [← List.take_append_drop i.toNat x5, ht, hd, List.take_of_length_le (by rw [List.length_reverse, List.length_take]; omega)]
  | succ d ih =>
    intro x5 i h0 hi h5 ht hd
    refine Ev.step (fun k => by rw [spec_moApply.l0]) ?_
    simp (disch := omega) only [wr]
    refine evPos (by omega) (evPos (by omega) (evPos (by omega) (evPos (by omega) (evPos (by omega) ?_))))
    refine ih _ (i + 1) (by omega) (by omega) (by simpa using h5) ?_ ?_
    · rw [set_takeI _ _ _ h0 (by omega), ht, show (i + 1).toNat = i.toNat + 1 by omega, List.take_add_one, List.getElem?_reverse (by rw [List.length_take]; omega), List.length_take, show min b.toNat l.length - 1 - i.toNat = (b - 1 - i).toNat by omega, List.getElem?_take, if_pos (by omega)]
      unfold rd
      rw [List.getD_eq_getElem?_getD, List.getElem?_eq_getElem (show (b - 1 - i).toNat < l.length by omega)]
      rfl
    · rw [show (i + 1).toNat = i.toNat + 1 by omega, List.drop_set_of_lt (by omega), ← List.drop_drop, ← List.drop_drop, hd]
theorem moApply_l1 (l : List Int) (hl : l.length ≤ 1000) (b : Int) (hb0 : 1 ≤ b) (hb : b ≤ l.length) (a c : Int) : ∀ (d : Nat) (x5 : List Int) (i : Int), 0 ≤ i → i + d = b → x5.length = l.length → x5.take i.toNat = ((l.take b.toNat).drop 1 ++ (l.take b.toNat).take 1).take i.toNat → x5.drop i.toNat = l.drop i.toNat →
    Ev (fun k => spec_moApply.l1 k l x5 i a b c) ((l.take b.toNat).drop 1 ++ (l.take b.toNat).take 1 ++ l.drop b.toNat) := by
  intro d
  have hlen : ((l.take b.toNat).drop 1 ++ (l.take b.toNat).take 1).length = b.toNat := by
    simp; omega
  induction d with
  | zero =>
    intro x5 i h0 hi h5 ht hd
    refine Ev.step (fun k => by rw [spec_moApply.l1]) ?_
    refine evNeg (by omega) (evEq ?_)
    obtain rfl : i = b := by omega
    rw [← List.take_append_drop i.toNat x5, ht, hd, List.take_of_length_le (by omega)]
  | succ d ih =>
    intro x5 i h0 hi h5 ht hd
    refine Ev.step (fun k => by rw [spec_moApply.l1]) ?_
    simp (disch := omega) only [wr]
    rw [Int.tmod_eq_emod_of_nonneg (by omega)]
    have hm : (i + 1) % b = if i + 1 < b then i + 1 else 0 := by
      split
      · exact Int.emod_eq_of_lt (by omega) (by omega)
      · rw [show i + 1 = b by omega, Int.emod_self]
    rw [hm]
    refine evPos (by omega) (evNeg (by omega) (evPos (by split <;> omega) (evPos (by split <;> omega) (evPos (by omega) (evPos (by omega) ?_)))))
    refine ih _ (i + 1) (by omega) (by omega) (by simpa using h5) ?_ ?_
    · rw [set_takeI _ _ _ h0 (by omega), ht, show (i + 1).toNat = i.toNat + 1 by omega, List.take_add_one (l := _ ++ _)]
      congr 1
      unfold rd
      by_cases c : i + 1 < b
      · rw [if_pos c, List.getElem?_append_left (by simp; omega), List.getElem?_drop, List.getElem?_take, if_pos (by omega), show 1 + i.toNat = (i + 1).toNat by omega, List.getD_eq_getElem?_getD, List.getElem?_eq_getElem (by omega)]
        rfl
      · rw [if_neg c, List.getElem?_append_right (by simp; omega)]
        have e : i.toNat - ((l.take b.toNat).drop 1).length = 0 := by simp; omega
        rw [e, List.getElem?_take, if_pos (by omega), List.getElem?_take, if_pos (by omega), List.getD_eq_getElem?_getD, show (0 : Int).toNat = 0 from rfl, List.getElem?_eq_getElem (show 0 < l.length by omega)]
        rfl
    · rw [show (i + 1).toNat = i.toNat + 1 by omega, List.drop_set_of_lt (by omega), ← List.drop_drop, ← List.drop_drop, hd]
theorem moApply_ev (l : List Int) (hl : l.length ≤ 1000) (a b c : Int) (hg : Mgood l.length a b c) : Ev (fun q => spec_moApply.f q l a b c) (mv l a b c) := by
  unfold spec_moApply.f
  rw [l1Own_eq l (by omega)]
  refine evSome ?_
  rcases hg with ⟨rfl, h1, h2, h3⟩ | ⟨rfl, h1, h2, rfl⟩ | ⟨rfl, h1, h2, rfl⟩
  · exact evPos rfl (evPos (by omega) (evPos (by omega) (evPos (by omega) (evPos (by omega) (evPos (by omega) (evPos (by omega) (evEq rfl)))))))
  · refine evNeg (by decide) (evPos rfl ?_)
    refine evTo (moApply_l0 l hl b h2 1 0 b.toNat l 0 (by omega) (by omega) rfl (by simp) (by simp)) (by simp [mv])
  · refine evNeg (by decide) (evNeg (by decide) ?_)
    refine evTo (moApply_l1 l hl b (by omega) h2 2 0 b.toNat l 0 (by omega) (by omega) rfl (by simp) (by simp)) (by simp [mv])
theorem l1Same_l0 (a b : List Int) (hn : a.length ≤ 35184372088832) (hb : a.length = b.length) : ∀ (d : Nat) (j : Int), 0 ≤ j → j.toNat + d = a.length →
    Ev (fun k => spec_l1Same.l0 k a b (a.length : Int) j) (decide (a.drop j.toNat = b.drop j.toNat)) := by
  intro d
  induction d with
  | zero =>
    intro j h0 hd
    refine Ev.step (fun k => by rw [spec_l1Same.l0]) ?_
    refine evNeg (by omega) ?_
    rw [drop_end a j (by omega), drop_end b j (by omega)]
    exact evEq rfl
  | succ d ih =>
    intro j h0 hd
    refine Ev.step (fun k => by rw [spec_l1Same.l0]) ?_
    refine evPos (by omega) (evPos (by omega) (evPos (by omega) (evPos (by omega) ?_)))
    rw [wr (by omega) (by omega), drop_rd a j h0 (by omega), drop_rd b j h0 (by omega)]
    by_cases c : rd a j = rd b j
    · refine evPos c (evTo (ih _ (by omega) (by omega)) ?_)
      simp [c]
    · refine evNeg c (evEq ?_)
      simp [c]
theorem l1Same_ev (a b : List Int) (hn : a.length ≤ 35184372088832) : Ev (fun k => spec_l1Same.f k a b) (decide (a = b)) := by
  unfold spec_l1Same.f
  by_cases hb : a.length = b.length
  · exact evPos (by omega) (l1Same_l0 a b hn hb a.length 0 (by omega) (by simp))
  · refine evNeg (by omega) (evEq ?_)
    exact (decide_eq_false (fun e => hb (by rw [e]))).symm
def leads (a b : List Int) (m : S45) : Bool := decide (mv a m.f0 m.f1 m.f2 = b)
theorem moWhich_l0 (a b : List Int) (M : List S45) (ha : a.length ≤ 1000) (hM : M.length ≤ 1048576) (hg : ∀ m ∈ M, Mgood a.length m.f0 m.f1 m.f2) : ∀ (d : Nat) (i : Int), 0 ≤ i → i.toNat + d = M.length →
    Ev (fun k => spec_moWhich.l0 k a b M (M.length : Int) i) (pIdx (leads a b) i (M.drop i.toNat)) := by
  intro d
  induction d with
  | zero =>
    intro i h0 hd
    refine Ev.step (fun k => by rw [spec_moWhich.l0]) ?_
    refine evNeg (by omega) (evEq ?_)
    rw [List.drop_of_length_le (by omega)]; rfl
  | succ d ih =>
    intro i h0 hd
    have hil : i.toNat < M.length := by omega
    have e : rd_T45 M i = M[i.toNat] := by unfold rd_T45; rw [List.getD_eq_getElem?_getD, List.getElem?_eq_getElem hil]; rfl
    refine Ev.step (fun k => by rw [spec_moWhich.l0]) ?_
    refine evPos (by omega) (evPos h0 (evPos (by omega) ?_))
    rw [wr (by omega) (by omega), List.drop_eq_getElem_cons hil, pIdx, e]
    refine Ev.bind (moApply_ev a ha _ _ _ (hg _ (List.getElem_mem hil))) (Ev.bind (l1Same_ev _ _ (by rw [mv_length]; omega)) ?_)
    by_cases c : leads a b M[i.toNat] = true
    · rw [if_pos c]; exact evPos c (Ev.now _)
    · rw [if_neg c]
      refine evNeg c (evTo (ih (i + 1) (by omega) (by omega)) ?_)
      rw [show (i + 1).toNat = i.toNat + 1 from by omega]
theorem moWhich_ev (a b : List Int) (M : List S45) (ha : a.length ≤ 1000) (hM : M.length ≤ 1048576) (hg : ∀ m ∈ M, Mgood a.length m.f0 m.f1 m.f2) : Ev (fun k => spec_moWhich.f k a b M) (pIdx (leads a b) 0 M) := by
  unfold spec_moWhich.f
  exact evTo (moWhich_l0 a b M ha hM hg M.length 0 (by omega) (by simp)) (by simp)
def stepsR (M : List S45) : List Int → List Int → List (List Int) → List Int × Bool
  | acc, _, [] => (acc, true)
  | acc, a, b :: T => if pIdx (leads a b) 0 M < 0 then ([], false) else stepsR M (acc ++ [pIdx (leads a b) 0 M]) b T
def stepsL (M : List S45) : List (List Int) → List Int × Bool
  | [] => ([], true)
  | a :: T => stepsR M [] a T
theorem stepsR_length (M : List S45) : ∀ (T : List (List Int)) (acc a : List Int), (stepsR M acc a T).1.length ≤ acc.length + T.length
  | [], acc, a => by simp [stepsR]
  | b :: T, acc, a => by
    rw [stepsR]
    split
    · simp
    · have := stepsR_length M T (acc ++ [pIdx (leads a b) 0 M]) b
      simp at this ⊢; omega
theorem stepsL_length (M : List S45) (L : List (List Int)) : (stepsL M L).1.length ≤ L.length := by
  cases L with
  | nil => simp [stepsL]
  | cons a T => have := stepsR_length M T [] a; simp [stepsL] at this ⊢; omega
theorem steps_idx_ev (g : Nat → S45 → Option Bool) (p : S45 → Bool) (L : List S45) (hn : L.length ≤ 1048576) (hg : ∀ x ∈ L, Ev (fun k => g k x) (p x)) : ∀ (d : Nat) (i : Int), 0 ≤ i → i.toNat + d = L.length →
    Ev (fun k => impl_steps.idx g k L i) (pIdx p i (L.drop i.toNat)) := by
  intro d
  induction d with
  | zero =>
    intro i h0 hd
    refine Ev.step (fun k => by rw [impl_steps.idx]) ?_
    refine evNeg (by omega) (evEq ?_)
    rw [List.drop_of_length_le (by omega)]; rfl
  | succ d ih =>
    intro i h0 hd
    refine Ev.step (fun k => by rw [impl_steps.idx]) ?_
    have hil : i.toNat < L.length := by omega
    have e : rd_T45 L i = L[i.toNat] := by unfold rd_T45; rw [List.getD_eq_getElem?_getD, List.getElem?_eq_getElem hil]; rfl
    refine evPos (by omega) (evPos h0 ?_)
    rw [wr (by omega) (by omega), List.drop_eq_getElem_cons hil, pIdx, e]
    refine Ev.bind (hg _ (List.getElem_mem hil)) ?_
    by_cases c : p L[i.toNat] = true
    · rw [if_pos c]; exact evPos c (Ev.now _)
    · rw [if_neg c]
      refine evNeg c (evTo (ih (i + 1) (by omega) (by omega)) ?_)
      rw [show (i + 1).toNat = i.toNat + 1 from by omega]
theorem steps_l0 (n : Nat) (hn : n ≤ 12) (M : List S45) (hM : M.length ≤ 1048576) (hg : ∀ m ∈ M, Mgood n m.f0 m.f1 m.f2) (L : List (List Int)) (hL : L.length ≤ 1100) (hl : ∀ t ∈ L, t.length = n) : ∀ (d : Nat) (out : List Int) (i : Nat), i + d = L.length → (h1 : 1 ≤ i) → out.length ≤ i →
    Ev (fun k => impl_steps.l0 k L M out (i : Int)) (stepsR M out (L.getD (i - 1) []) (L.drop i)) := by
  intro d
  induction d with
  | zero =>
    intro out i hd h1 ho
    refine Ev.step (fun k => by rw [impl_steps.l0]) ?_
    refine evNeg (by omega) (evEq ?_)
    rw [List.drop_of_length_le (by omega)]; rfl
  | succ d ih =>
    intro out i hd h1 ho
    have hi : i < L.length := by omega
    have hp : i - 1 < L.length := by omega
    have e1 : rd_L3 L (i : Int) = L[i] := by unfold rd_L3; rw [Int.toNat_natCast, List.getD_eq_getElem?_getD, List.getElem?_eq_getElem hi]; rfl
    have e2 : rd_L3 L ((i : Int) - 1) = L[i - 1] := by unfold rd_L3; rw [show ((i : Int) - 1).toNat = i - 1 from by omega, List.getD_eq_getElem?_getD, List.getElem?_eq_getElem hp]; rfl
    have e3 : L.getD (i - 1) [] = L[i - 1] := by rw [List.getD_eq_getElem?_getD, List.getElem?_eq_getElem hp]; rfl
    have ha := hl _ (List.getElem_mem hp)
    refine Ev.step (fun k => by rw [impl_steps.l0]) ?_
    rw [e3, List.drop_eq_getElem_cons hi, stepsR]
    have hidx := steps_idx_ev (impl_steps.g L (i : Int)) (leads L[i - 1] L[i]) M hM (fun m hm => by
      unfold impl_steps.g
      refine evPos (by omega) (evPos (by omega) (evPos (by omega) ?_))
      rw [e1, e2]
      refine Ev.bind (moved_ev _ (by omega) _ _ _ (by rw [ha]; exact hg m hm)) ?_
      exact slicesEqual_ev _ _ (by rw [mv_length]; omega)) M.length 0 (by omega) (by simp)
    refine evPos (by omega) (Ev.bind hidx ?_)
    simp only [Int.toNat_zero, List.drop_zero]
    by_cases c : pIdx (leads L[i - 1] L[i]) 0 M < 0
    · rw [if_pos c]; exact evPos c (Ev.now _)
    · rw [if_neg c]
      refine evNeg c (evPos (by omega) ?_)
      rw [wr (by omega) (by omega), show (i : Int) + 1 = ((i + 1 : Nat) : Int) from by omega]
      refine evTo (ih _ (i + 1) (by omega) (by omega) (by simp; omega)) ?_
      rw [show i + 1 - 1 = i from by omega, List.getD_eq_getElem?_getD, List.getElem?_eq_getElem hi]
      rfl
theorem steps_ev (n : Nat) (hn : n ≤ 12) (M : List S45) (hM : M.length ≤ 1048576) (hg : ∀ m ∈ M, Mgood n m.f0 m.f1 m.f2) (L : List (List Int)) (hL : L.length ≤ 1100) (hl : ∀ t ∈ L, t.length = n) : Ev (fun k => impl_steps.f k L M) (stepsL M L) := by
  unfold impl_steps.f
  cases L with
  | nil =>
    refine Ev.step (fun k => by rw [impl_steps.l0]) ?_
    exact evNeg (by simp) (Ev.now _)
  | cons a T => exact evTo (steps_l0 n hn M hM hg (a :: T) hL hl T.length [] 1 (by simp; omega) (by omega) (by simp)) (by simp [stepsL])
theorem IsMoveList_l0 (n : Nat) (hn : n ≤ 5) (L : List (List Int)) (hL : L.length ≤ 1100) (hl : ∀ t ∈ L, isPm t = true ∧ t.length = n) : ∀ (d : Nat) (i : Int) (acc : List Int), 0 ≤ i → i.toNat + d = L.length → acc.length ≤ i.toNat →
    Ev (fun q => impl_IsMoveList.l0 q L i acc) (metF acc (L.drop i.toNat)) := by
  intro d
  induction d with
  | zero =>
    intro i acc h0 hd ha
    refine Ev.step (fun k => by rw [impl_IsMoveList.l0]) ?_
    refine evNeg (by omega) (evEq ?_)
    rw [List.drop_of_length_le (by omega)]; rfl
  | succ d ih =>
    intro i acc h0 hd ha
    have hil : i.toNat < L.length := by omega
    have e : rd_L3 L i = L[i.toNat] := by unfold rd_L3; rw [List.getD_eq_getElem?_getD, List.getElem?_eq_getElem hil]; rfl
    obtain ⟨hp, hlen⟩ := hl _ (List.getElem_mem hil)
    obtain ⟨hr, hpa⟩ := PA_of hn hp hlen
    have hf : facN n ≤ 120 := by rw [facN_eq]; exact Nat.le_trans (fac_mono hn) (by decide)
    have hrank := permutationRank_ev n (rk L[i.toNat]) hn hr
    rw [hpa] at hrank
    refine Ev.step (fun k => by rw [impl_IsMoveList.l0]) ?_
    refine evPos (by omega) (evPos h0 ?_)
    rw [e, wr (by omega) (by omega)]
    refine Ev.bind hrank (evPos ?_ (evPos (by omega) ?_))
    · simp [Lit.wf, IntKind.min, IntKind.max, IntKind.signed, IntKind.bits]; omega
    · have hle : (if (Moves.rk L[i.toNat] : Int) ∈ acc then acc else (Moves.rk L[i.toNat] : Int) :: acc).length ≤ (i + 1).toNat := by
        by_cases c_ : (Moves.rk L[i.toNat] : Int) ∈ acc
        · rw [if_pos c_]; omega
        · rw [if_neg c_, List.length_cons]; omega
      refine evTo (ih (i + 1) _ (by omega) (by omega) hle) ?_
      rw [show (i + 1).toNat = i.toNat + 1 from by omega, List.drop_eq_getElem_cons hil, metF]
theorem uLists_self (L : List (List Int)) (hn : L.length ≤ 1000000000) (hl : ∀ t ∈ L, t.length ≤ 35184372088832) : Ev (fun k => laws_uLists.f k L L) true := by
  have key : ∀ (d : Nat) (j : Int), 0 ≤ j → j.toNat + d = L.length → Ev (fun k => laws_uLists.l0 k L L (L.length : Int) j) true := by
    intro d
    induction d with
    | zero =>
      intro j h0 hd
      refine Ev.step (fun k => by rw [laws_uLists.l0]) ?_
      exact evNeg (by omega) (Ev.now _)
    | succ d ih =>
      intro j h0 hd
      refine Ev.step (fun k => by rw [laws_uLists.l0]) ?_
      have hm : rd_L3 L j ∈ L := by
        unfold rd_L3
        rw [List.getD_eq_getElem?_getD, List.getElem?_eq_getElem (show j.toNat < L.length by omega)]
        exact List.getElem_mem _
      refine evPos (by omega) (evPos (by omega) (evPos (by omega) (evPos (by omega) (Ev.bind (uSame_self _ (hl _ hm)) (evPos rfl ?_)))))
      rw [wr (by omega) (by omega)]
      exact ih _ (by omega) (by omega)
  unfold laws_uLists.f
  exact evPos rfl (key L.length 0 (by omega) (by simp))
theorem u64_lt (x : Int) : 0 ≤ IntKind.u64.wrap x ∧ IntKind.u64.wrap x < 18446744073709551616 := by rw [IntKind.wrap_u64]; omega
theorem low8 (x : Int) : 0 ≤ wrap64 (Go.bits .and .u64 (IntKind.u64.wrap x / 1099511627776) 255) ∧ wrap64 (Go.bits .and .u64 (IntKind.u64.wrap x / 1099511627776) 255) ≤ 255 := by
  have hu := u64_lt x
  generalize IntKind.u64.wrap x = y at hu ⊢
  have h := Go.bits_mask .u64 63 (by decide) (fun n h0 h1 => by rw [IntKind.wrap_u64]; omega) 8 (by decide) (y / 1099511627776) (by omega) (by omega)
  have e : ((2 : Int) ^ 8 - 1) = 255 := by decide
  have e2 : ((2 : Int) ^ 8) = 256 := by decide
  rw [e, e2] at h
  rw [h, wr (by omega) (by omega)]
  omega
def Byt (l : List Int) : Prop := l.length ≤ 2000000 ∧ ∀ x ∈ l, 0 ≤ x ∧ x ≤ 255
theorem byt_of {l : List Int} (h1 : l.length ≤ 1048576) (h2 : ∀ x ∈ l, (Lit.int .u8 x).wf = true) : Byt l := by
  refine ⟨by omega, fun x hx => ?_⟩
  have := h2 x hx
  simp [Lit.wf, IntKind.min, IntKind.max, IntKind.signed, IntKind.bits] at this
  omega
theorem cur_next (l : List Int) (hl : Byt l) (a s : Int) (h0 : 0 ≤ a) (h1 : a ≤ 1000000000000) : ∃ v s', spec_l1Cur_next.f l a s = some (v, a + 1, s') ∧ 0 ≤ v ∧ v ≤ 255 := by
  obtain ⟨hn, hb⟩ := hl
  unfold spec_l1Cur_next.f
  rw [wr (x := a + 1) (by omega) (by omega)]
  by_cases c : a < l.length
  · have hr := hb (rd l a) (by rw [rd_get l a (by omega)]; exact List.getElem_mem _)
    rw [if_pos c, if_pos h0, if_pos (by omega)]
    refine ⟨_, _, rfl, ?_⟩
    rw [wr (by omega) (by omega)]
    exact hr
  · rw [if_neg c, if_neg (by omega)]
    exact ⟨_, _, rfl, low8 _⟩
theorem cur_pick (l : List Int) (hl : Byt l) (a s n : Int) (h0 : 0 ≤ a) (h1 : a ≤ 900000000000) : ∃ v a' s', spec_l1Cur_pick.f l a s n = some (v, a', s') ∧ a ≤ a' ∧ a' ≤ a + 2 ∧ 0 ≤ v ∧ (v = 0 ∨ v < n) := by
  unfold spec_l1Cur_pick.f
  by_cases c : n ≤ 1
  · rw [if_pos c]; exact ⟨_, _, _, rfl, by omega, by omega, by omega, .inl rfl⟩
  rw [if_neg c]
  obtain ⟨v, s', e, h2, h3⟩ := cur_next l hl a s h0 (by omega)
  rw [e]
  simp only [Option.bind_some]
  by_cases c2 : n > 200
  · rw [if_pos c2]
    obtain ⟨v2, s2, e2, h4, h5⟩ := cur_next l hl (a + 1) s' (by omega) (by omega)
    rw [e2]
    simp only [Option.bind_some]
    rw [if_neg (by omega), wr (x := v * 256) (by omega) (by omega), wr (by omega) (by omega)]
    exact ⟨_, _, _, rfl, by omega, by omega, Int.tmod_nonneg _ (by omega), .inr (Int.tmod_lt_of_pos _ (by omega))⟩
  · rw [if_neg c2, if_neg (by omega)]
    exact ⟨_, _, _, rfl, by omega, by omega, Int.tmod_nonneg _ (by omega), .inr (Int.tmod_lt_of_pos _ (by omega))⟩
theorem cur_among (l : List Int) (hl : Byt l) (a s : Int) (xs : List Int) (hx : 0 < xs.length) (h0 : 0 ≤ a) (h1 : a ≤ 900000000000) : ∃ v a' s', spec_l1Cur_among.f l a s xs = some (v, a', s') ∧ a ≤ a' ∧ a' ≤ a + 2 ∧ v ∈ xs := by
  unfold spec_l1Cur_among.f
  obtain ⟨v, a', s', e, h2, h3, h4, h5⟩ := cur_pick l hl a s (xs.length : Int) h0 h1
  rw [e]
  simp only [Option.bind_some]
  rw [if_pos h4, if_pos (by omega)]
  refine ⟨_, _, _, rfl, h2, h3, ?_⟩
  rw [rd_get xs v (by omega)]
  exact List.getElem_mem _
theorem cur_one (l : List Int) (hl : Byt l) (a s n : Int) (h0 : 0 ≤ a) (h1 : a ≤ 900000000000) : ∃ b a' s', spec_l1Cur_one.f l a s n = some (b, a', s') ∧ a ≤ a' ∧ a' ≤ a + 2 := by
  unfold spec_l1Cur_one.f
  obtain ⟨v, a', s', e, h2, h3, h4, h5⟩ := cur_pick l hl a s n h0 h1
  rw [e]
  simp only [Option.bind_some]
  exact ⟨_, _, _, rfl, h2, h3⟩
theorem move_j0b (l : List Int) (hl : Byt l) (n : Int) (b : Bool) (a s : Int) (h0 : 0 ≤ a) (h1 : a ≤ 600000000000) : ∃ x y z a' s', Ev (fun k => spec_l1Cur_move.j0 k n b l a s) (x, y, z, a', s') ∧ a ≤ a' ∧ a' ≤ a + 6 := by
  cases b
  · obtain ⟨v, a1, s1, e, g1, g2, g3, g4⟩ := cur_pick l hl a s 3 h0 (by omega)
    obtain ⟨v2, a2, s2, e2, g5, g6, _, _⟩ := cur_pick l hl a1 s1 (wrap64 (n - 1)) (by omega) (by omega)
    by_cases c : v = 0
    · obtain ⟨v3, a3, s3, e3, g7, g8, _, _⟩ := cur_pick l hl a2 s2 (wrap64 (1 + v2)) (by omega) (by omega)
      refine ⟨0, v3, wrap64 (1 + v2), a3, s3, Ev.step (fun k => by rw [spec_l1Cur_move.j0]) (evNeg (by simp) ?_), by omega, by omega⟩
      rw [e]
      refine evSome (evPos c ?_)
      rw [e2]
      refine evSome ?_
      rw [e3]
      exact evSome (Ev.now _)
    · by_cases c2 : v = 1
      · refine ⟨1, wrap64 (2 + v2), 0, a2, s2, Ev.step (fun k => by rw [spec_l1Cur_move.j0]) (evNeg (by simp) ?_), by omega, by omega⟩
        rw [e]
        refine evSome (evNeg c (evPos c2 ?_))
        rw [e2]
        exact evSome (Ev.now _)
      · refine ⟨2, wrap64 (2 + v2), 0, a2, s2, Ev.step (fun k => by rw [spec_l1Cur_move.j0]) (evNeg (by simp) ?_), by omega, by omega⟩
        rw [e]
        refine evSome (evNeg c (evNeg c2 ?_))
        rw [e2]
        exact evSome (Ev.now _)
  · obtain ⟨v, a1, s1, e, g1, g2, _⟩ := cur_among l hl a s [-1, 0, 1, 2, 3] (by simp) h0 (by omega)
    obtain ⟨v2, a2, s2, e2, g3, g4, _⟩ := cur_among l hl a1 s1 [-1, 0, 1, 2, 99] (by simp) (by omega) (by omega)
    obtain ⟨v3, a3, s3, e3, g5, g6, _⟩ := cur_among l hl a2 s2 [0, 1, -9223372036854775808] (by simp) (by omega) (by omega)
    refine ⟨v, v2, v3, a3, s3, Ev.step (fun k => by rw [spec_l1Cur_move.j0]) (evPos rfl ?_), by omega, by omega⟩
    rw [e]
    refine evSome ?_
    rw [e2]
    refine evSome ?_
    rw [e3]
    exact evSome (Ev.now _)
theorem cur_move_b (l : List Int) (hl : Byt l) (a s n : Int) (h0 : 0 ≤ a) (h1 : a ≤ 500000000000) : ∃ x y z a' s', Ev (fun k => spec_l1Cur_move.f k l a s n) (x, y, z, a', s') ∧ a ≤ a' ∧ a' ≤ a + 8 := by
  unfold spec_l1Cur_move.f
  obtain ⟨b, a1, s1, e, g1, g2⟩ := cur_one l hl a s 40 h0 (by omega)
  by_cases c : b = true
  · obtain ⟨x, y, z, a', s', h, g3, g4⟩ := move_j0b l hl n true a1 s1 (by omega) (by omega)
    refine ⟨x, y, z, a', s', ?_, by omega, by omega⟩
    rw [e]
    exact evSome (evPos c h)
  · obtain ⟨x, y, z, a', s', h, g3, g4⟩ := move_j0b l hl n (decide (n < 2)) a1 s1 (by omega) (by omega)
    refine ⟨x, y, z, a', s', ?_, by omega, by omega⟩
    rw [e]
    exact evSome (evNeg c h)
theorem moves_l1 (l : List Int) (hl : Byt l) (n : Int) : ∀ (d : Nat) (M : List S45) (a s : Int), M.length + d = 13 → 0 ≤ a → a ≤ 400000000000 - 20 * d →
    ∃ M' a' s', Ev (fun k => spec_l1Cur_moves.l1 k n M l a s) (n, M', a', s') ∧ M'.length ≤ 100 ∧ 0 ≤ a' ∧ a' ≤ a + 20 * d + 2 := by
  intro d
  induction d with
  | zero =>
    intro M a s hM h0 h1
    obtain ⟨v, a1, s1, e, g1, g2, g3, g4⟩ := cur_pick l hl a s 2 h0 (by omega)
    refine ⟨M, a1, s1, Ev.step (fun k => by rw [spec_l1Cur_moves.l1]) ?_, by omega, by omega, by omega⟩
    rw [e]
    refine evSome (evNeg (by rw [wr (by omega) (by omega)]; omega) (Ev.now _))
  | succ d ih =>
    intro M a s hM h0 h1
    obtain ⟨v, a1, s1, e, g1, g2, g3, g4⟩ := cur_pick l hl a s 2 h0 (by omega)
    by_cases c : (M.length : Int) < wrap64 (12 + v)
    · by_cases c2 : n > 1
      · obtain ⟨x, y, z, a2, s2, e2, g5, g6⟩ := cur_move_b l hl a1 s1 n (by omega) (by omega)
        obtain ⟨M', a', s', h, q1, q2, q3⟩ := ih (M ++ [⟨x, y, z⟩]) a2 s2 (by simp; omega) (by omega) (by omega)
        refine ⟨M', a', s', Ev.step (fun k => by rw [spec_l1Cur_moves.l1]) ?_, q1, q2, by omega⟩
        rw [e]
        exact evSome (evPos c (evPos c2 (Ev.bind e2 (evPos (by omega) h))))
      · refine ⟨M, a1, s1, Ev.step (fun k => by rw [spec_l1Cur_moves.l1]) ?_, by omega, by omega, by omega⟩
        rw [e]
        exact evSome (evPos c (evNeg c2 (Ev.now _)))
    · refine ⟨M, a1, s1, Ev.step (fun k => by rw [spec_l1Cur_moves.l1]) ?_, by omega, by omega, by omega⟩
      rw [e]
      exact evSome (evNeg c (Ev.now _))
theorem moves_l2 (l : List Int) (n : Int) (hn : n ≤ 6) (a s : Int) : ∀ (d : Nat) (M : List S45) (i : Int), (n - i).toNat = d → 1 ≤ i → i ≤ 10 → (M.length : Int) ≤ i →
    ∃ M', Ev (fun k => spec_l1Cur_moves.l2 k n M i l a s) (n, M', a, s) ∧ M'.length ≤ 100 := by
  intro d
  induction d with
  | zero =>
    intro M i hd h1 h2 hM
    exact ⟨M, Ev.step (fun k => by rw [spec_l1Cur_moves.l2]) (evNeg (by omega) (Ev.now _)), by omega⟩
  | succ d ih =>
    intro M i hd h1 h2 hM
    obtain ⟨M', h, q⟩ := ih (M ++ [⟨0, wrap64 (i - 1), i⟩]) (i + 1) (by omega) (by omega) (by omega) (by simp; omega)
    refine ⟨M', Ev.step (fun k => by rw [spec_l1Cur_moves.l2]) (evPos (by omega) (evPos (by omega) ?_)), q⟩
    rw [wr (x := i + 1) (by omega) (by omega)]
    exact h
theorem moves_l3 (l : List Int) (n : Int) (hn : n ≤ 6) (a s : Int) : ∀ (d : Nat) (M : List S45) (i : Int), (n + 1 - i).toNat = d → 1 ≤ i → i ≤ 10 → (M.length : Int) ≤ i →
    ∃ M', Ev (fun k => spec_l1Cur_moves.l3 k n M i l a s) (n, M', a, s) ∧ M'.length ≤ 100 := by
  intro d
  induction d with
  | zero =>
    intro M i hd h1 h2 hM
    exact ⟨M, Ev.step (fun k => by rw [spec_l1Cur_moves.l3]) (evNeg (by omega) (Ev.now _)), by omega⟩
  | succ d ih =>
    intro M i hd h1 h2 hM
    obtain ⟨M', h, q⟩ := ih (M ++ [⟨1, i, 0⟩]) (i + 1) (by omega) (by omega) (by omega) (by simp; omega)
    refine ⟨M', Ev.step (fun k => by rw [spec_l1Cur_moves.l3]) (evPos (by omega) (evPos (by omega) ?_)), q⟩
    rw [wr (x := i + 1) (by omega) (by omega)]
    exact h
theorem moves_j5 (l : List Int) (n : Int) (hn : n ≤ 6) (M : List S45) (hM : M.length ≤ 100) (b : Bool) (a s : Int) : ∃ M', Ev (fun k => spec_l1Cur_moves.j5 k n M b l a s) (n, M', a, s) ∧ M'.length ≤ 100 := by
  cases b
  · exact ⟨M, Ev.step (fun k => by rw [spec_l1Cur_moves.j5]) (evNeg (by simp) (Ev.now _)), hM⟩
  · obtain ⟨M', h, q⟩ := moves_l3 l n hn a s _ [] 2 rfl (by omega) (by omega) (by simp)
    exact ⟨M', Ev.step (fun k => by rw [spec_l1Cur_moves.j5]) (evPos rfl h), q⟩
theorem moves_j3 (l : List Int) (n : Int) (hn : n ≤ 6) (M : List S45) (hM : M.length ≤ 100) (v : Int) (b : Bool) (a s : Int) : ∃ M', Ev (fun k => spec_l1Cur_moves.j3 k n M v b l a s) (n, M', a, s) ∧ M'.length ≤ 100 := by
  cases b
  · by_cases c : v = 5
    · obtain ⟨M', h, q⟩ := moves_j5 l n hn M hM (v == 5) a s
      exact ⟨M', Ev.step (fun k => by rw [spec_l1Cur_moves.j3]) (evNeg (by simp) (evPos c h)), q⟩
    · obtain ⟨M', h, q⟩ := moves_j5 l n hn M hM (v == 6) a s
      exact ⟨M', Ev.step (fun k => by rw [spec_l1Cur_moves.j3]) (evNeg (by simp) (evNeg c h)), q⟩
  · obtain ⟨M', h, q⟩ := moves_l2 l n hn a s _ [] 1 rfl (by omega) (by omega) (by simp)
    exact ⟨M', Ev.step (fun k => by rw [spec_l1Cur_moves.j3]) (evPos rfl h), q⟩
theorem moves_j1 (l : List Int) (hl : Byt l) (n : Int) (hn : n ≤ 6) (M : List S45) (hM : M.length ≤ 13) (a s : Int) (h0 : 0 ≤ a) (h1 : a ≤ 300000000000) : ∃ n' M' a' s', Ev (fun k => spec_l1Cur_moves.j1 k n M l a s) (n', M', a', s') ∧ M'.length ≤ 100 ∧ 0 ≤ a' ∧ a' ≤ a + 1000 := by
  obtain ⟨v, a1, s1, e, g1, g2, g3, g4⟩ := cur_pick l hl a s 16 h0 (by omega)
  by_cases c0 : v = 0
  · obtain ⟨v2, a2, s2, e2, g5, g6, _⟩ := cur_among l hl a1 s1 [-1, 0, 5, 6] (by simp) (by omega) (by omega)
    refine ⟨v2, M, a2, s2, Ev.step (fun k => by rw [spec_l1Cur_moves.j1]) ?_, by omega, by omega, by omega⟩
    rw [e]
    refine evSome (evPos c0 ?_)
    rw [e2]
    exact evSome (Ev.now _)
  by_cases c1 : v = 1
  · obtain ⟨M', a', s', h, q1, q2, q3⟩ := moves_l1 l hl n (13 - M.length) M a1 s1 (by omega) (by omega) (by omega)
    refine ⟨n, M', a', s', Ev.step (fun k => by rw [spec_l1Cur_moves.j1]) ?_, q1, q2, by omega⟩
    rw [e]
    exact evSome (evNeg c0 (evPos c1 h))
  have h3 := fun b => moves_j3 l n hn M (by omega) v b a1 s1
  by_cases c2 : v = 2
  · obtain ⟨M', h, q⟩ := h3 (v == 2)
    refine ⟨n, M', a1, s1, Ev.step (fun k => by rw [spec_l1Cur_moves.j1]) ?_, q, by omega, by omega⟩
    rw [e]
    exact evSome (evNeg c0 (evNeg c1 (evPos c2 h)))
  by_cases c3 : v = 3
  · obtain ⟨M', h, q⟩ := h3 (v == 3)
    refine ⟨n, M', a1, s1, Ev.step (fun k => by rw [spec_l1Cur_moves.j1]) ?_, q, by omega, by omega⟩
    rw [e]
    exact evSome (evNeg c0 (evNeg c1 (evNeg c2 (evPos c3 h))))
  · obtain ⟨M', h, q⟩ := h3 (v == 4)
    refine ⟨n, M', a1, s1, Ev.step (fun k => by rw [spec_l1Cur_moves.j1]) ?_, q, by omega, by omega⟩
    rw [e]
    exact evSome (evNeg c0 (evNeg c1 (evNeg c2 (evNeg c3 h))))
theorem moves_l0 (l : List Int) (hl : Byt l) (n : Int) (hn : n ≤ 6) : ∀ (d : Nat) (M : List S45) (x a s : Int), x.toNat = d → x ≤ 8 → M.length + d ≤ 13 → 0 ≤ a → a ≤ 200000000000 - 20 * d →
    ∃ n' M' a' s', Ev (fun k => spec_l1Cur_moves.l0 k n M x l a s) (n', M', a', s') ∧ M'.length ≤ 100 ∧ 0 ≤ a' ∧ a' ≤ a + 20 * d + 1000 := by
  intro d
  induction d with
  | zero =>
    intro M x a s hx hx8 hM h0 h1
    obtain ⟨n', M', a', s', h, q1, q2, q3⟩ := moves_j1 l hl n hn M (by omega) a s h0 (by omega)
    exact ⟨n', M', a', s', Ev.step (fun k => by rw [spec_l1Cur_moves.l0]) (evNeg (by omega) h), q1, q2, by omega⟩
  | succ d ih =>
    intro M x a s hx hx8 hM h0 h1
    by_cases c : n > 1
    · obtain ⟨x1, y, z, a2, s2, e2, g5, g6⟩ := cur_move_b l hl a s n (by omega) (by omega)
      obtain ⟨n', M', a', s', h, q1, q2, q3⟩ := ih (M ++ [⟨x1, y, z⟩]) (x - 1) a2 s2 (by omega) (by omega) (by simp; omega) (by omega) (by omega)
      refine ⟨n', M', a', s', Ev.step (fun k => by rw [spec_l1Cur_moves.l0]) (evPos (by omega) (evPos c (Ev.bind e2 ?_))), q1, q2, by omega⟩
      refine evPos (by omega) ?_
      rw [wr (x := x - 1) (by omega) (by omega)]
      exact h
    · obtain ⟨n', M', a', s', h, q1, q2, q3⟩ := moves_j1 l hl n hn M (by omega) a s h0 (by omega)
      exact ⟨n', M', a', s', Ev.step (fun k => by rw [spec_l1Cur_moves.l0]) (evPos (by omega) (evNeg c h)), q1, q2, by omega⟩
theorem cur_moves (l : List Int) (hl : Byt l) (a s : Int) (h0 : 0 ≤ a) (h1 : a ≤ 100000000000) : ∃ n M a' s', Ev (fun k => spec_l1Cur_moves.f k l a s) (n, M, a', s') ∧ M.length ≤ 100 ∧ 0 ≤ a' ∧ a' ≤ a + 2000 := by
  unfold spec_l1Cur_moves.f
  obtain ⟨n, a1, s1, e1, g1, g2, g3⟩ := cur_among l hl a s [1, 2, 3, 3, 4, 4, 5] (by simp) h0 (by omega)
  obtain ⟨m, a2, s2, e2, g4, g5, g6⟩ := cur_among l hl a1 s1 [2, 4, 5] (by simp) (by omega) (by omega)
  obtain ⟨v, a3, s3, e3, g7, g8, g9, g10⟩ := cur_pick l hl a2 s2 m (by omega) (by omega)
  have hn : n ≤ 6 := by simp at g3; omega
  have hm : m ≤ 5 := by simp at g6; omega
  obtain ⟨n', M', a', s', h, q1, q2, q3⟩ := moves_l0 l hl n hn v.toNat [] v a3 s3 rfl (by omega) (by simp; omega) (by omega) (by omega)
  refine ⟨n', M', a', s', ?_, q1, q2, by omega⟩
  rw [e1]
  refine evSome ?_
  rw [e2]
  refine evSome ?_
  rw [e3]
  exact evSome h
theorem drawGreedyList_ev (l : List Int) (hl : Byt l) : ∃ n M, Ev (fun k => spec_DrawGreedyList.f k l) (n, M) ∧ M.length ≤ 100 := by
  obtain ⟨n, M, a', s', h, q1, q2, q3⟩ := cur_moves l hl 0 0 (by omega) (by omega)
  unfold spec_DrawGreedyList.f
  exact ⟨n, M, Ev.bind h (Ev.now _), q1⟩
theorem raPlace_l0 (l : List Int) (L : List (List Int)) (hL : L.length ≤ 1000000000) (hl : ∀ t ∈ L, t.length ≤ 35184372088832) : ∀ (d : Nat) (j : Int), 0 ≤ j → j.toNat + d = L.length →
    Ev (fun k => spec_raPlace.l0 k l L (L.length : Int) j) (placeI l j (L.drop j.toNat)) := by
  intro d
  induction d with
  | zero =>
    intro j h0 hd
    refine Ev.step (fun k => by rw [spec_raPlace.l0]) ?_
    refine evNeg (by omega) ?_
    rw [drop_end L j (by omega)]
    exact evEq rfl
  | succ d ih =>
    intro j h0 hd
    refine Ev.step (fun k => by rw [spec_raPlace.l0]) ?_
    have hm : rd_L3 L j ∈ L := by
      unfold rd_L3
      rw [List.getD_eq_getElem?_getD, List.getElem?_eq_getElem (show j.toNat < L.length by omega)]
      exact List.getElem_mem _
    refine evPos (by omega) (evPos (by omega) (evPos (by omega) (Ev.bind (l1Same_ev _ l (hl _ hm)) ?_)))
    have hcons : L.drop j.toNat = rd_L3 L j :: L.drop (j + 1).toNat := dropD [] L j h0 (by omega)
    rw [wr (by omega) (by omega), hcons, placeI]
    by_cases c : rd_L3 L j = l
    · rw [if_pos c]; exact evPos (decide_eq_true c) (Ev.now _)
    · rw [if_neg c]; exact evNeg (by simpa using c) (ih _ (by omega) (by omega))
theorem raPlace_ev (L : List (List Int)) (l : List Int) (hL : L.length ≤ 1000000000) (hl : ∀ t ∈ L, t.length ≤ 35184372088832) : Ev (fun k => spec_raPlace.f k L l) (placeI l 0 L) := by
  unfold spec_raPlace.f
  exact evTo (raPlace_l0 l L hL hl L.length 0 (by omega) (by simp)) (by simp)
def newP (X : List (List Int)) (m : S45) : Bool := decide (mv (lastL X) m.f0 m.f1 m.f2 ∉ X)
theorem rdL_last (X : List (List Int)) (h : 0 < X.length) : rd_L3 X ((X.length : Int) - 1) = lastL X := by
  unfold rd_L3 lastL
  rw [show ((X.length : Int) - 1).toNat = X.length - 1 from by omega]
theorem rdT_get (L : List S45) (i : Nat) (h : i < L.length) : rd_T45 L (i : Int) = L[i] := by
  unfold rd_T45; rw [Int.toNat_natCast, List.getD_eq_getElem?_getD, List.getElem?_eq_getElem h]; rfl
theorem moNew_l0 (n : Nat) (hn : n ≤ 5) (X : List (List Int)) (h0 : 0 < X.length) (hX : X.length ≤ 1000) (hl : ∀ t ∈ X, t.length = n) (L : List S45) (hL : L.length ≤ 1048576) (hg : ∀ m ∈ L, Mgood n m.f0 m.f1 m.f2) : ∀ (d : Nat) (i : Int), 0 ≤ i → i.toNat + d = L.length →
    Ev (fun k => spec_moNew.l0 k X L (L.length : Int) i) (pIdx (newP X) i (L.drop i.toNat)) := by
  intro d
  induction d with
  | zero =>
    intro i h1 hd
    refine Ev.step (fun k => by rw [spec_moNew.l0]) ?_
    refine evNeg (by omega) (evEq ?_)
    rw [List.drop_of_length_le (by omega)]; rfl
  | succ d ih =>
    intro i h1 hd
    have hil : i.toNat < L.length := by omega
    have e : rd_T45 L i = L[i.toNat] := by unfold rd_T45; rw [List.getD_eq_getElem?_getD, List.getElem?_eq_getElem hil]; rfl
    have hlast := hl _ (lastL_mem h0)
    refine Ev.step (fun k => by rw [spec_moNew.l0]) ?_
    rw [wr (by omega) (by omega), wr (by omega) (by omega), rdL_last X h0, List.drop_eq_getElem_cons hil, pIdx, e]
    refine evPos (by omega) (evPos h1 (evPos (by omega) (evPos (by omega) (evPos (by omega) ?_))))
    refine Ev.bind (moApply_ev _ (by omega) _ _ _ (by rw [hlast]; exact hg _ (List.getElem_mem hil))) (Ev.bind (raPlace_ev X _ (by omega) (fun t ht => by have := hl t ht; omega)) ?_)
    have hpm := placeI_mem X (mv (lastL X) L[i.toNat].f0 L[i.toNat].f1 L[i.toNat].f2) 0 (by omega)
    by_cases c : mv (lastL X) L[i.toNat].f0 L[i.toNat].f1 L[i.toNat].f2 ∈ X
    · have h2 := hpm.2 c
      rw [if_neg (show ¬ newP X L[i.toNat] = true by simp [newP, c])]
      refine evNeg (by omega) (evTo (ih (i + 1) (by omega) (by omega)) ?_)
      rw [show (i + 1).toNat = i.toNat + 1 from by omega]
    · have h2 : ¬ 0 ≤ placeI (mv (lastL X) L[i.toNat].f0 L[i.toNat].f1 L[i.toNat].f2) 0 X := fun h => c (hpm.1 h)
      rw [if_pos (show newP X L[i.toNat] = true by simp [newP, c])]
      exact evPos (by omega) (Ev.now _)
theorem moNew_ev (n : Nat) (hn : n ≤ 5) (X : List (List Int)) (h0 : 0 < X.length) (hX : X.length ≤ 1000) (hl : ∀ t ∈ X, t.length = n) (L : List S45) (hL : L.length ≤ 1048576) (hg : ∀ m ∈ L, Mgood n m.f0 m.f1 m.f2) : Ev (fun k => spec_moNew.f k X L) (pIdx (newP X) 0 L) := by
  unfold spec_moNew.f
  exact evTo (moNew_l0 n hn X h0 hX hl L hL hg L.length 0 (by omega) (by simp)) (by simp)
def gre (L : List S45) : Nat → List (List Int) → List (List Int)
  | 0, X => X
  | d + 1, X => if pIdx (newP X) 0 L < 0 then X else gre L d (X ++ [mv (lastL X) (rd_T45 L (pIdx (newP X) 0 L)).f0 (rd_T45 L (pIdx (newP X) 0 L)).f1 (rd_T45 L (pIdx (newP X) 0 L)).f2])
structure GInv (n : Nat) (X : List (List Int)) : Prop where
  pos : 0 < X.length
  pm : ∀ t ∈ X, isPm t = true ∧ t.length = n
  nd : X.Nodup
theorem pIdx_move (X : List (List Int)) (L : List S45) (h : ¬ pIdx (newP X) 0 L < 0) : ∃ i : Nat, ∃ hi : i < L.length, pIdx (newP X) 0 L = i ∧ rd_T45 L (pIdx (newP X) 0 L) = L[i] ∧ mv (lastL X) L[i].f0 L[i].f1 L[i].f2 ∉ X := by
  rcases pIdx_at (newP X) L 0 with h1 | ⟨i, hi, e, hp⟩
  · rw [h1] at h; exact absurd (by decide) h
  · refine ⟨i, hi, by omega, ?_, by simpa [newP] using hp⟩
    rw [e, Int.zero_add, rdT_get L i hi]
theorem GInv.next {n : Nat} {X : List (List Int)} (hn : n ≤ 5) (h : GInv n X) (m : S45) (hg : Mgood n m.f0 m.f1 m.f2) (hx : mv (lastL X) m.f0 m.f1 m.f2 ∉ X) : GInv n (X ++ [mv (lastL X) m.f0 m.f1 m.f2]) := by
  have hl := h.pm _ (lastL_mem h.pos)
  refine ⟨by simp, fun t ht => ?_, ?_⟩
  · rcases List.mem_append.1 ht with ht | ht
    · exact h.pm t ht
    · rw [List.mem_singleton.1 ht]; exact isPm_mv hn hl.1 hl.2 _ _ _ hg
  · rw [List.nodup_append]
    refine ⟨h.nd, by simp, fun a ha b hb e => ?_⟩
    rw [List.mem_singleton.1 hb] at e
    exact hx (e ▸ ha)
theorem facN_5 {n : Nat} (hn : n ≤ 5) : facN n ≤ 120 := by rw [facN_eq]; exact Nat.le_trans (fac_mono hn) (by decide)
theorem Greedy_idx_ev (g : Nat → S45 → Option Bool) (p : S45 → Bool) (L : List S45) (hn : L.length ≤ 1048576) (hg : ∀ x ∈ L, Ev (fun k => g k x) (p x)) : ∀ (d : Nat) (i : Int), 0 ≤ i → i.toNat + d = L.length →
    Ev (fun k => impl_GreedyList.idx g k L i) (pIdx p i (L.drop i.toNat)) := by
  intro d
  induction d with
  | zero =>
    intro i h0 hd
    refine Ev.step (fun k => by rw [impl_GreedyList.idx]) ?_
    refine evNeg (by omega) (evEq ?_)
    rw [List.drop_of_length_le (by omega)]; rfl
  | succ d ih =>
    intro i h0 hd
    refine Ev.step (fun k => by rw [impl_GreedyList.idx]) ?_
    have hil : i.toNat < L.length := by omega
    have e : rd_T45 L i = L[i.toNat] := by unfold rd_T45; rw [List.getD_eq_getElem?_getD, List.getElem?_eq_getElem hil]; rfl
    refine evPos (by omega) (evPos h0 ?_)
    rw [wr (by omega) (by omega), List.drop_eq_getElem_cons hil, pIdx, e]
    refine Ev.bind (hg _ (List.getElem_mem hil)) ?_
    by_cases c : p L[i.toNat] = true
    · rw [if_pos c]; exact evPos c (Ev.now _)
    · rw [if_neg c]
      refine evNeg c (evTo (ih (i + 1) (by omega) (by omega)) ?_)
      rw [show (i + 1).toNat = i.toNat + 1 from by omega]
theorem Greedy_l0 (n : Nat) (hn : n ≤ 5) (L : List S45) (hL : L.length ≤ 1048576) (hg : ∀ m ∈ L, Mgood n m.f0 m.f1 m.f2) : ∀ (d : Nat) (X : List (List Int)) (M : List Int), X.length + d = facN n + 1 → GInv n X → M.length ≤ X.length → (∀ l, isPm l = true → l.length = n → ((Moves.rk l : Int) ∈ M ↔ l ∈ X)) →
    Ev (fun k => impl_GreedyList.l0 k L X M) (gre L d X) := by
  intro d
  have hf := facN_5 hn
  induction d with
  | zero =>
    intro X M hd h _ _
    have := perms_le hn X h.pm h.nd
    omega
  | succ d ih =>
    intro X M hd h hml hM
    have hp := h.pos
    have hlast := h.pm _ (lastL_mem h.pos)
    have rank : ∀ l, isPm l = true → l.length = n → Ev (fun k => impl_permutationRank.f k l) (Moves.rk l : Int) ∧ (Lit.int .i64 (Moves.rk l : Int)).wf = true := by
      intro l h1 h2
      obtain ⟨r1, r2⟩ := PA_of hn h1 h2
      have hr := permutationRank_ev n (Moves.rk l) hn r1
      rw [r2] at hr
      refine ⟨hr, ?_⟩
      simp [Lit.wf, IntKind.min, IntKind.max, IntKind.signed, IntKind.bits]; omega
    have hidx := Greedy_idx_ev (impl_GreedyList.g M (lastL X)) (newP X) L hL (fun m hm => by
      unfold impl_GreedyList.g
      have hmv := isPm_mv hn hlast.1 hlast.2 _ _ _ (hg m hm)
      obtain ⟨k1, k2⟩ := rank _ hmv.1 hmv.2
      refine Ev.bind (moved_ev _ (by omega) _ _ _ (by rw [hlast.2]; exact hg m hm)) (Ev.bind k1 (evPos k2 (evEq ?_)))
      have := hM _ hmv.1 hmv.2
      simp [newP, this]) L.length 0 (by omega) (by simp)
    simp only [Int.toNat_zero, List.drop_zero] at hidx
    refine Ev.step (fun k => by rw [impl_GreedyList.l0]) ?_
    rw [gre, rdL_last X hp]
    refine evPos hp (evPos (by omega) (evPos (by omega) (Ev.bind hidx ?_)))
    by_cases c : pIdx (newP X) 0 L < 0
    · rw [if_pos c]
      exact evPos c (Ev.now _)
    · obtain ⟨i, hi, e1, e2, hx⟩ := pIdx_move X L c
      rw [if_neg c, e2]
      have hgi := hg _ (List.getElem_mem hi)
      have h2 := h.next hn L[i] hgi hx
      have hmv := isPm_mv hn hlast.1 hlast.2 _ _ _ hgi
      obtain ⟨k1, k2⟩ := rank _ hmv.1 hmv.2
      have hnm : ¬ (Moves.rk (mv (lastL X) L[i].f0 L[i].f1 L[i].f2) : Int) ∈ M := fun h_ => hx ((hM _ hmv.1 hmv.2).1 h_)
      refine evNeg c (evPos (by omega) (Ev.bind (moved_ev _ (by omega) _ _ _ (by rw [hlast.2]; exact hgi)) (Ev.bind k1 (evPos k2 ?_))))
      rw [if_neg hnm]
      refine ih _ _ (by simp; omega) h2 (by simp; omega) (fun l h3 h4 => ?_)
      rw [List.mem_cons, List.mem_append, List.mem_singleton, hM l h3 h4]
      constructor
      · rintro (h5 | h5)
        · exact .inr (rk_inj hn h3 h4 hmv.1 hmv.2 (by exact_mod_cast h5))
        · exact .inl h5
      · rintro (h5 | h5)
        · exact .inr h5
        · exact .inl (by rw [h5])
theorem raUpTo_l0 (n : Nat) (hn : n ≤ 1000000000) : ∀ (d : Nat) (j : Int), 0 ≤ j → j.toNat + d = n → Ev (fun k => spec_raUpTo.l0 k (n : Int) (upTo j.toNat) j) (upTo n) := by
  intro d
  induction d with
  | zero =>
    intro j h0 hd
    refine Ev.step (fun k => by rw [spec_raUpTo.l0]) ?_
    exact evNeg (by omega) (evEq (by rw [show j.toNat = n from by omega]))
  | succ d ih =>
    intro j h0 hd
    refine Ev.step (fun k => by rw [spec_raUpTo.l0]) ?_
    refine evPos (by omega) (evPos (by rw [upTo_length]; omega) ?_)
    have h := ih (j + 1) (by omega) (by omega)
    rw [show (j + 1).toNat = j.toNat + 1 from by omega, upTo_succ, Int.toNat_of_nonneg h0] at h
    rw [wr (by omega) (by omega)]
    exact h
theorem raUpTo_ev (n : Nat) (hn : n ≤ 1000000000) : Ev (fun k => spec_raUpTo.f k (n : Int)) (upTo n) := by
  unfold spec_raUpTo.f
  exact raUpTo_l0 n hn n 0 (by omega) (by simp)
theorem spec_Greedy_l0 (n : Nat) (hn : n ≤ 5) (L : List S45) (hL : L.length ≤ 1048576) (hg : ∀ m ∈ L, Mgood n m.f0 m.f1 m.f2) : ∀ (d : Nat) (X : List (List Int)), X.length + d = facN n + 1 → GInv n X →
    Ev (fun k => spec_GreedyList.l0 k L X (pIdx (newP X) 0 L)) (gre L d X, true) := by
  intro d
  have hf := facN_5 hn
  induction d with
  | zero =>
    intro X hd h
    have := perms_le hn X h.pm h.nd
    omega
  | succ d ih =>
    intro X hd h
    have hp := h.pos
    have hlast := h.pm _ (lastL_mem h.pos)
    refine Ev.step (fun k => by rw [spec_GreedyList.l0]) ?_
    rw [gre, wr (by omega) (by omega), rdL_last X hp]
    by_cases c : pIdx (newP X) 0 L < 0
    · rw [if_pos c]
      exact evNeg (by omega) (Ev.now _)
    · obtain ⟨i, hi, e1, e2, hx⟩ := pIdx_move X L c
      rw [if_neg c, e2]
      have hgi := hg _ (List.getElem_mem hi)
      refine evPos (by omega) (evPos (by omega) (evPos (by omega) (evPos (by omega) (evPos (by omega) (Ev.bind (moApply_ev _ (by omega) _ _ _ (by rw [hlast.2]; exact hgi)) (evPos (by omega) (evSome ?_)))))))
      have h2 := h.next hn L[i] hgi hx
      exact Ev.bind (moNew_ev n hn _ h2.pos (by simp; omega) (fun t ht => (h2.pm t ht).2) L hL hg) (ih _ (by simp; omega) h2)
theorem uHas_l0 (x : Int) (xs : List Int) (hn : xs.length ≤ 35184372088832) : ∀ (d : Nat) (j : Int), 0 ≤ j → j.toNat + d = xs.length →
    Ev (fun k => laws_uHas.l0 k x xs (xs.length : Int) j) (decide (x ∈ xs.drop j.toNat)) := by
  intro d
  induction d with
  | zero =>
    intro j h0 hd
    refine Ev.step (fun k => by rw [laws_uHas.l0]) ?_
    refine evNeg (by omega) (evEq ?_)
    rw [drop_end _ _ (by omega)]; simp
  | succ d ih =>
    intro j h0 hd
    refine Ev.step (fun k => by rw [laws_uHas.l0]) ?_
    refine evPos (by omega) (evPos (by omega) (evPos (by omega) ?_))
    rw [wr (by omega) (by omega), drop_rd xs j h0 (by omega)]
    by_cases c : rd xs j = x
    · exact evPos c (evEq (by simp [c]))
    · exact evNeg c (evTo (ih _ (by omega) (by omega)) (by simp [List.mem_cons, Ne.symm c]))
theorem uHas_ev (xs : List Int) (x : Int) (hn : xs.length ≤ 35184372088832) : Ev (fun k => laws_uHas.f k xs x) (decide (x ∈ xs)) := by
  unfold laws_uHas.f
  exact evTo (uHas_l0 x xs hn xs.length 0 (by omega) (by simp)) (by simp)
theorem raFactorial_tab : ((List.range 13).all fun n => spec_raFactorial.f 20 (n : Int) == some (fac n : Int)) = true := by decide +kernel
theorem raFactorial_ev (n : Nat) (hn : n ≤ 12) : Ev (fun r => spec_raFactorial.f r (n : Int)) (fac n : Int) := by
  refine evTab (g := fun r => spec_raFactorial.f r (n : Int)) (spec_raFactorial.mono _) 20 ?_
  exact beq_iff_eq.1 (List.all_eq_true.1 raFactorial_tab n (List.mem_range.2 (by omega)))
theorem least_eq (a b : Int) : spec_l1Least.f a b = some (if a < b then a else b) := by
  unfold spec_l1Least.f
  split <;> rfl
theorem order_j1 (l : List Int) (hl : Byt l) (out : List Int) (b : Bool) (a s : Int) (ho : out.length ≤ 20) (hb : b = true → 0 < out.length) (h0 : 0 ≤ a) (h1 : a ≤ 700000000000) :
    ∃ r a' s', r.length ≤ 20 ∧ a ≤ a' ∧ a' ≤ a + 4 ∧ Ev (fun k => spec_l1Cur_order.j1 k out b l a s) (r, a', s') := by
  cases b
  · exact ⟨out, a, s, ho, by omega, by omega, Ev.step (fun k => by rw [spec_l1Cur_order.j1]) (evNeg (by simp) (Ev.now _))⟩
  · have hpos := hb rfl
    obtain ⟨v, a1, s1, e, g1, g2, g3, g4⟩ := cur_pick l hl a s (out.length : Int) h0 (by omega)
    obtain ⟨v2, a2, s2, e2, g5, g6, _⟩ := cur_among l hl a1 s1 [-1, 0, (out.length : Int), 4611686018427387904] (by simp) (by omega) (by omega)
    refine ⟨out.set v.toNat v2, a2, s2, by simpa using ho, by omega, by omega, Ev.step (fun k => by rw [spec_l1Cur_order.j1]) ?_⟩
    refine evPos rfl ?_
    rw [e]
    refine evSome ?_
    rw [e2]
    exact evSome (evPos g3 (evPos (by omega) (Ev.now _)))
theorem order_l0 (l : List Int) (hl : Byt l) (n : Int) : ∀ (d : Nat) (out : List Int) (a s : Int), out.length + d = 20 → 0 ≤ a → a + 2 * d + 20 ≤ 700000000000 →
    ∃ r a' s', r.length ≤ 20 ∧ a ≤ a' ∧ a' ≤ a + 2 * d + 20 ∧ Ev (fun k => spec_l1Cur_order.l0 k n out (out.length : Int) l a s) (r, a', s') := by
  have hend : ∀ (d : Nat) (out : List Int) (a s : Int), out.length ≤ 20 → 0 ≤ a → a + 2 * d + 20 ≤ 700000000000 → ¬ (out.length : Int) < (if n < 20 then n else 20) → ∃ r a' s', r.length ≤ 20 ∧ a ≤ a' ∧ a' ≤ a + 2 * d + 20 ∧ Ev (fun k => spec_l1Cur_order.l0 k n out (out.length : Int) l a s) (r, a', s') := by
    intro d out a s ho h1 h2 hc
    by_cases c : (out.length : Int) > 0
    · obtain ⟨b, a1, s1, e, g1, g2⟩ := cur_one l hl a s 25 h1 (by omega)
      obtain ⟨r, a', s', r1, r2, r3, hr⟩ := order_j1 l hl out b a1 s1 ho (fun _ => by omega) (by omega) (by omega)
      refine ⟨r, a', s', r1, by omega, by omega, Ev.step (fun k => by rw [spec_l1Cur_order.l0]) ?_⟩
      rw [least_eq]
      refine evSome (evNeg hc (evPos c ?_))
      rw [e]
      exact evSome hr
    · obtain ⟨r, a', s', r1, r2, r3, hr⟩ := order_j1 l hl out false a s ho (fun h => by cases h) (by omega) (by omega)
      refine ⟨r, a', s', r1, by omega, by omega, Ev.step (fun k => by rw [spec_l1Cur_order.l0]) ?_⟩
      rw [least_eq]
      exact evSome (evNeg hc (evNeg c hr))
  intro d
  induction d with
  | zero =>
    intro out a s hd h1 h2
    exact hend 0 out a s (by omega) h1 h2 (by split <;> omega)
  | succ d ih =>
    intro out a s hd h1 h2
    by_cases hc : (out.length : Int) < (if n < 20 then n else 20)
    · obtain ⟨v, a1, s1, e, g1, g2, g3, g4⟩ := cur_pick l hl a s ((out.length : Int) + 1) h1 (by omega)
      have hv : v.toNat ≤ out.length := by omega
      have hlen : (([] ++ out.take v.toNat) ++ [(out.length : Int)] ++ out.drop v.toNat).length = out.length + 1 := by simp; omega
      obtain ⟨r, a', s', r1, r2, r3, hr⟩ := ih (([] ++ out.take v.toNat) ++ [(out.length : Int)] ++ out.drop v.toNat) a1 s1 (by rw [hlen]; omega) (by omega) (by omega)
      rw [hlen] at hr
      refine ⟨r, a', s', r1, by omega, by omega, Ev.step (fun k => by rw [spec_l1Cur_order.l0]) ?_⟩
      rw [least_eq, wr (x := (out.length : Int) + 1) (by omega) (by omega)]
      refine evSome (evPos hc ?_)
      rw [e]
      have h6 : (out.take v.toNat).length ≤ 20 := by rw [List.length_take]; omega
      have h7 : (out.drop v.toNat).length ≤ 20 := by rw [List.length_drop]; omega
      refine evSome (evSome (evPos g3 (evPos (by omega) (evSome (evPos (by simp; omega) (evSome (evPos (by simp; omega) (evSome (evSome (evPos (by simp; omega) ?_))))))))))
      rw [show (out.length : Int) + 1 = ((out.length + 1 : Nat) : Int) from by omega]
      exact hr
    · exact hend (d + 1) out a s (by omega) h1 h2 hc
theorem cur_order (l : List Int) (hl : Byt l) (a s n : Int) (h0 : 0 ≤ a) (h1 : a ≤ 600000000000) : ∃ r a' s', r.length ≤ 20 ∧ a ≤ a' ∧ a' ≤ a + 60 ∧ Ev (fun k => spec_l1Cur_order.f k l a s n) (r, a', s') := by
  unfold spec_l1Cur_order.f
  obtain ⟨r, a', s', r1, r2, r3, hr⟩ := order_l0 l hl n 20 [] a s (by simp) h0 (by omega)
  exact ⟨r, a', s', r1, r2, by omega, hr⟩
theorem moTrotter_ev : ∀ (n : Nat) (r : Int), n ≤ 12 → 0 ≤ r → r < (fac n : Nat) → Ev (fun q => spec_moTrotter.f q (n : Int) r) (trot n r) := by
  intro n
  induction n with
  | zero =>
    intro r _ _ _
    refine Ev.step (fun q => by rw [spec_moTrotter.f]) ?_
    exact evPos rfl (Ev.now _)
  | succ n ih =>
    intro r hn h0 hr
    refine Ev.step (fun q => by rw [spec_moTrotter.f]) ?_
    have hf := fac_le12 (n + 1) hn
    have hd := div_range n r h0 hr
    have hp := place_range n r
    have hl := trot_length n (r / ((n : Int) + 1))
    have hm1 := Int.emod_nonneg r (show ((n : Int) + 1) ≠ 0 by omega)
    have hm2 := Int.emod_lt_of_pos r (show 0 < ((n : Int) + 1) by omega)
    have hfn := fac_le12 n (by omega)
    refine evNeg (by omega) ?_
    rw [show ((n + 1 : Nat) : Int) = (n : Int) + 1 from by omega, Int.tdiv_eq_ediv_of_nonneg h0, Int.tmod_eq_emod_of_nonneg h0]
    simp (disch := omega) only [wr]
    rw [show (n : Int) + 1 - 1 = (n : Int) from by omega]
    refine Ev.bind (ih _ (by omega) hd.1 hd.2) ?_
    rw [Int.tmod_eq_emod_of_nonneg hd.1]
    have hlt (i : Nat) (hi : i ≤ n) : ((trot n (r / ((n : Int) + 1))).take i).length = i := by rw [List.length_take]; omega
    by_cases c : r / ((n : Int) + 1) % 2 = 0
    · have he : place n r = n - r % ((n : Int) + 1) := if_pos c
      have h1 := hlt (n - r % ((n : Int) + 1)).toNat (by omega)
      refine evPos c (evPos (by omega) (evPos (by omega) ?_))
      rw [l1Own_eq _ (by omega)]
      refine evSome (evPos (by omega) (evSome (evSome (evPos (by simp; omega) (evEq ?_)))))
      rw [trot, he, insertIdx_take _ _ _ (by omega)]
    · have he : place n r = r % ((n : Int) + 1) := if_neg c
      have h1 := hlt (r % ((n : Int) + 1)).toNat (by omega)
      refine evNeg c (evPos (by omega) (evPos (by omega) ?_))
      rw [l1Own_eq _ (by omega)]
      refine evSome (evPos (by omega) (evSome (evSome (evPos (by simp; omega) (evEq ?_)))))
      rw [trot, he, insertIdx_take _ _ _ (by omega)]
theorem drawML_j2 (l : List Int) (hl : Byt l) (n : Int) (M : List S45) (L : List (List Int)) (hL : L.length ≤ 1000) (ht : ∀ t ∈ L, t.length ≤ 30) (b : Bool) (hb : b = true → 0 < L.length) (a s : Int) (ha : 0 ≤ a) (ha2 : a ≤ 500000000000) :
    ∃ L', Ev (fun q => spec_DrawIsMoveList.j2 q n M L b l a s) (n, L', M) ∧ L'.length ≤ 1000 ∧ ∀ t ∈ L', t.length ≤ 30 := by
  cases b
  · by_cases c : (L.length : Int) > 0
    · obtain ⟨o, s1, s2, e1, g1, g2⟩ := cur_one l hl a s 8 ha (by omega)
      cases o
      · refine ⟨L, Ev.step (fun q => by rw [spec_DrawIsMoveList.j2]) ?_, hL, ht⟩
        refine evNeg (by simp) (evPos c ?_)
        rw [e1]
        exact evSome (evNeg (by simp) (Ev.now _))
      · refine ⟨L.take ((L.length : Int) - 1).toNat, Ev.step (fun q => by rw [spec_DrawIsMoveList.j2]) ?_, by simp; omega, fun t h => ht t (List.mem_of_mem_take h)⟩
        refine evNeg (by simp) (evPos c ?_)
        rw [e1, wr (by omega) (by omega)]
        exact evSome (evPos rfl (evPos (by omega) (evPos (by omega) (Ev.now _))))
    · refine ⟨L, Ev.step (fun q => by rw [spec_DrawIsMoveList.j2]) ?_, hL, ht⟩
      exact evNeg (by simp) (evNeg c (Ev.now _))
  · have hp := hb rfl
    obtain ⟨v, s1, s2, e1, g1, g2, g3, g4⟩ := cur_pick l hl a s (L.length : Int) ha (by omega)
    obtain ⟨r, s3, s4, hr, g5, g6, e2⟩ := cur_order l hl s1 s2 n (by omega) (by omega)
    obtain ⟨o, s5, s6, e3, g7, g8⟩ := cur_one l hl s3 s4 8 (by omega) (by omega)
    have hm : ∀ t ∈ L.set v.toNat r, t.length ≤ 30 := fun t h => by
      rcases List.mem_or_eq_of_mem_set h with h | h
      · exact ht t h
      · rw [h]; omega
    cases o
    · refine ⟨L.set v.toNat r, Ev.step (fun q => by rw [spec_DrawIsMoveList.j2]) ?_, by simp; omega, hm⟩
      refine evPos rfl ?_
      rw [e1]
      refine evSome (Ev.bind e2 (evPos g3 (evPos (by omega) (evSome (evPos (by omega) ?_)))))
      rw [e3]
      exact evSome (evNeg (by simp) (Ev.now _))
    · refine ⟨(L.set v.toNat r).take ((L.length : Int) - 1).toNat, Ev.step (fun q => by rw [spec_DrawIsMoveList.j2]) ?_, by simp; omega, fun t h => hm t (List.mem_of_mem_take h)⟩
      refine evPos rfl ?_
      rw [e1]
      refine evSome (Ev.bind e2 (evPos g3 (evPos (by omega) (evSome (evPos (by omega) ?_)))))
      rw [e3, wr (by omega) (by omega)]
      exact evSome (evPos rfl (evPos (by omega) (evPos (by omega) (Ev.now _))))
theorem drawML_j1 (l : List Int) (hl : Byt l) (n : Int) (M : List S45) (L : List (List Int)) (hL : L.length ≤ 1000) (ht : ∀ t ∈ L, t.length ≤ 30) (a s : Int) (ha : 0 ≤ a) (ha2 : a ≤ 400000000000) :
    ∃ L', Ev (fun q => spec_DrawIsMoveList.j1 q n M L l a s) (n, L', M) ∧ L'.length ≤ 1000 ∧ ∀ t ∈ L', t.length ≤ 30 := by
  by_cases c : (L.length : Int) > 0
  · obtain ⟨o, s1, s2, e1, g1, g2⟩ := cur_one l hl a s 8 ha (by omega)
    obtain ⟨L', e, h1, h2⟩ := drawML_j2 l hl n M L hL ht o (fun _ => by omega) s1 s2 (by omega) (by omega)
    refine ⟨L', Ev.step (fun q => by rw [spec_DrawIsMoveList.j1]) ?_, h1, h2⟩
    refine evPos c ?_
    rw [e1]
    exact evSome e
  · obtain ⟨L', e, h1, h2⟩ := drawML_j2 l hl n M L hL ht false (fun h => by cases h) a s (by omega) (by omega)
    exact ⟨L', Ev.step (fun q => by rw [spec_DrawIsMoveList.j1]) (evNeg c e), h1, h2⟩
theorem drawML_l0 (l : List Int) (hl : Byt l) (N : Nat) (hN : N ≤ 4) (M : List S45) (a s : Int) (ha : 0 ≤ a) (ha2 : a ≤ 400000000000) : ∀ (d r : Nat) (L : List (List Int)), r + d = fac N → L.length ≤ r → (∀ t ∈ L, t.length ≤ 30) →
    ∃ L', Ev (fun q => spec_DrawIsMoveList.l0 q (N : Int) M L (r : Int) l a s) ((N : Int), L', M) ∧ L'.length ≤ 1000 ∧ ∀ t ∈ L', t.length ≤ 30 := by
  have hf : fac N ≤ 24 := fac_mono hN
  intro d
  induction d with
  | zero =>
    intro r L hr hL ht
    obtain ⟨L', e, h1, h2⟩ := drawML_j1 l hl (N : Int) M L (by omega) ht a s ha ha2
    refine ⟨L', Ev.step (fun q => by rw [spec_DrawIsMoveList.l0]) ?_, h1, h2⟩
    exact Ev.bind (raFactorial_ev N (by omega)) (evNeg (by omega) e)
  | succ d ih =>
    intro r L hr hL ht
    have hm := moTrotter_ev N (r : Int) (by omega) (by omega) (by omega)
    obtain ⟨L', e, h1, h2⟩ := ih (r + 1) (L ++ [trot N r]) (by omega) (by simp; omega) (fun t h => by
      rcases List.mem_append.1 h with h | h
      · exact ht t h
      · rw [List.mem_singleton.1 h, trot_length]; omega)
    refine ⟨L', Ev.step (fun q => by rw [spec_DrawIsMoveList.l0]) ?_, h1, h2⟩
    refine Ev.bind (raFactorial_ev N (by omega)) (evPos (by omega) (Ev.bind hm (evPos (by omega) ?_)))
    rw [wr (by omega) (by omega), show (r : Int) + 1 = ((r + 1 : Nat) : Int) from by omega]
    exact e
theorem moSteps_l0 (n : Nat) (hn : n ≤ 12) (M : List S45) (hM : M.length ≤ 1048576) (hg : ∀ m ∈ M, Mgood n m.f0 m.f1 m.f2) (L : List (List Int)) (hL : L.length ≤ 1100) (hl : ∀ t ∈ L, t.length = n) : ∀ (d : Nat) (out : List Int) (i : Nat), i + d = L.length → (h1 : 1 ≤ i) → out.length ≤ i →
    Ev (fun k => spec_moSteps.l0 k L M out (i : Int)) (stepsR M out (L.getD (i - 1) []) (L.drop i)) := by
  intro d
  induction d with
  | zero =>
    intro out i hd h1 ho
    refine Ev.step (fun k => by rw [spec_moSteps.l0]) ?_
    refine evNeg (by omega) (evEq ?_)
    rw [List.drop_of_length_le (by omega)]; rfl
  | succ d ih =>
    intro out i hd h1 ho
    have hi : i < L.length := by omega
    have hp : i - 1 < L.length := by omega
    have e1 : rd_L3 L (i : Int) = L[i] := by unfold rd_L3; rw [Int.toNat_natCast, List.getD_eq_getElem?_getD, List.getElem?_eq_getElem hi]; rfl
    have e2 : rd_L3 L ((i : Int) - 1) = L[i - 1] := by unfold rd_L3; rw [show ((i : Int) - 1).toNat = i - 1 from by omega, List.getD_eq_getElem?_getD, List.getElem?_eq_getElem hp]; rfl
    have e3 : L.getD (i - 1) [] = L[i - 1] := by rw [List.getD_eq_getElem?_getD, List.getElem?_eq_getElem hp]; rfl
    have ha := hl _ (List.getElem_mem hp)
    refine Ev.step (fun k => by rw [spec_moSteps.l0]) ?_
    rw [wr (by omega) (by omega), e1, e2, e3, List.drop_eq_getElem_cons hi, stepsR]
    refine evPos (by omega) (evPos (by omega) (evPos (by omega) (evPos (by omega) (Ev.bind (moWhich_ev _ _ M (by omega) hM (by rw [ha]; exact hg)) ?_))))
    by_cases c : pIdx (leads L[i - 1] L[i]) 0 M < 0
    · rw [if_pos c]; exact evPos c (Ev.now _)
    · rw [if_neg c]
      refine evNeg c (evPos (by omega) ?_)
      rw [wr (by omega) (by omega), show (i : Int) + 1 = ((i + 1 : Nat) : Int) from by omega]
      refine evTo (ih _ (i + 1) (by omega) (by omega) (by simp; omega)) ?_
      rw [show i + 1 - 1 = i from by omega, List.getD_eq_getElem?_getD, List.getElem?_eq_getElem hi]
      rfl
theorem moSteps_ev (n : Nat) (hn : n ≤ 12) (M : List S45) (hM : M.length ≤ 1048576) (hg : ∀ m ∈ M, Mgood n m.f0 m.f1 m.f2) (L : List (List Int)) (hL : L.length ≤ 1100) (hl : ∀ t ∈ L, t.length = n) : Ev (fun k => spec_moSteps.f k L M) (stepsL M L) := by
  unfold spec_moSteps.f
  cases L with
  | nil =>
    refine Ev.step (fun k => by rw [spec_moSteps.l0]) ?_
    exact evNeg (by simp) (Ev.now _)
  | cons a T => exact evTo (moSteps_l0 n hn M hM hg (a :: T) hL hl T.length [] 1 (by simp; omega) (by omega) (by simp)) (by simp [stepsL])
theorem moAll_l0 (n : Nat) (hn : n ≤ 12) (L : List (List Int)) (hL : L.length ≤ 1048576) (hl : ∀ t ∈ L, t.length ≤ 1048576) : ∀ (d : Nat) (i : Int), 0 ≤ i → i.toNat + d = L.length →
    Ev (fun q => spec_moAll.l0 q (n : Int) L L (L.length : Int) i) (decide (∀ j (h : j < L.length), i.toNat ≤ j → L[j] ∉ L.take j) && decide (L.length = fac n)) := by
  intro d
  induction d with
  | zero =>
    intro i h0 hd
    refine Ev.step (fun k => by rw [spec_moAll.l0]) ?_
    refine evNeg (by omega) (Ev.bind (raFactorial_ev n hn) (evEq ?_))
    rw [decide_eq_true (show ∀ j (h : j < L.length), i.toNat ≤ j → L[j] ∉ L.take j from fun j h hj => by omega), Bool.true_and, Bool.eq_iff_iff]
    simp
    omega
  | succ d ih =>
    intro i h0 hd
    refine Ev.step (fun k => by rw [spec_moAll.l0]) ?_
    have hil : i.toNat < L.length := by omega
    have e : rd_L3 L i = L[i.toNat] := by unfold rd_L3; rw [List.getD_eq_getElem?_getD, List.getElem?_eq_getElem hil]; rfl
    refine evPos (by omega) (evPos h0 (evPos (by omega) (evPos (by omega) ?_)))
    rw [e, wr (by omega) (by omega)]
    refine Ev.bind (raPlace_ev _ _ (by rw [List.length_take]; omega) (fun t ht => by have := hl t (List.mem_of_mem_take ht); omega)) ?_
    by_cases c : L[i.toNat] ∈ L.take i.toNat
    · refine evPos ((placeI_mem _ _ 0 (by omega)).2 c) (evEq ?_)
      rw [decide_eq_false (fun h => h i.toNat hil (Nat.le_refl _) c)]; rfl
    · refine evNeg (fun h => c ((placeI_mem _ _ 0 (by omega)).1 h)) (evTo (ih (i + 1) (by omega) (by omega)) ?_)
      congr 1
      apply decide_eq_decide.2
      constructor
      · intro h j hj hij
        by_cases ej : j = i.toNat
        · subst ej; exact c
        · exact h j hj (by omega)
      · intro h j hj hij
        exact h j hj (by omega)
theorem moAll_ev (n : Nat) (hn : n ≤ 12) (L : List (List Int)) (hL : L.length ≤ 1048576) (hl : ∀ t ∈ L, t.length ≤ 1048576) : Ev (fun q => spec_moAll.f q (n : Int) L) (decide (L.Nodup) && decide (L.length = fac n)) := by
  unfold spec_moAll.f
  refine evTo (moAll_l0 n hn L hL hl L.length 0 (by omega) (by simp)) ?_
  congr 1
  apply decide_eq_decide.2
  rw [nodup_takeG]
  simp
theorem fac_facN : ∀ n, fac n = facN n
  | 0 => rfl
  | n + 1 => by rw [fac, facN, fac_facN n]
theorem facN_le : ∀ n, n ≤ 5 → facN n ≤ 120 ∧ 1 ≤ facN n := by decide
def ints (R : List Nat) : List Int := R.map fun (r : Nat) => (r : Int)
def sx (n q : Nat) (m : S45) : Nat := Moves.rk (mv (PA n q) m.f0 m.f1 m.f2)
def Gof (M : List S45) (a b c : Int) : Prop := ∃ m ∈ M, m.f0 = a ∧ m.f1 = b ∧ m.f2 = c
theorem rd_setN (out : List Int) (r s : Nat) (v : Int) (hr : r < out.length) : rd (out.set r v) (s : Int) = if s = r then v else rd out (s : Int) := by
  unfold rd
  rw [Int.toNat_natCast, List.getD_eq_getElem?_getD, List.getD_eq_getElem?_getD, List.getElem?_set]
  by_cases c : r = s
  · subst c; rw [if_pos rfl, if_pos hr, if_pos rfl]; rfl
  · rw [if_neg c, if_neg (fun e => c e.symm)]
structure Inv (n : Nat) (M : List S45) (out : List Int) (R : List Nat) (i : Nat) : Prop where
  len : out.length = facN n
  ranks : ∀ r ∈ R, r < facN n
  vals : ∀ x ∈ out, -1 ≤ x ∧ x < R.length
  sum : out.countP (fun x => decide (x < 0)) + R.length = facN n
  mem : ∀ r, r < facN n → (0 ≤ rd out (r : Int) ↔ r ∈ R)
  nd : R.Nodup
  zero : rd out ((0 : Nat) : Int) = 0
  srt : ∀ a b ra rb : Nat, a ≤ b → R[a]? = some ra → R[b]? = some rb → rd out (ra : Int) ≤ rd out (rb : Int)
  top : ∀ q, R[i]? = some q → ∀ r ∈ R, rd out (r : Int) ≤ rd out (q : Int) + 1
  don : ∀ k q, k < i → R[k]? = some q → ∀ m ∈ M, 0 ≤ rd out (sx n q m : Int) ∧ rd out (sx n q m : Int) ≤ rd out (q : Int) + 1
  rch : ∀ r ∈ R, Rch (Gof M) (upTo n) (PA n r)
theorem some_lt {α : Type} {R : List α} {i : Nat} {q : α} (h : R[i]? = some q) : i < R.length := by
  rcases Nat.lt_or_ge i R.length with h' | h'
  · exact h'
  · rw [List.getElem?_eq_none h'] at h; cases h
theorem Inv.step {n : Nat} {M : List S45} {out : List Int} {R : List Nat} {i q : Nat} (h : Inv n M out R i) (hq : R[i]? = some q) (m : S45) (hm : m ∈ M) (r : Nat) (hr : r < facN n) (hpa : PA n r = mv (PA n q) m.f0 m.f1 m.f2) (hneg : rd out (r : Int) < 0) (v : Int) (hve : v = rd out (q : Int) + 1) (h0 : 0 ≤ v) (hv : v ≤ R.length) : Inv n M (out.set r v) (R ++ [r]) i := by
  have hl := h.len
  have hro : r < out.length := by omega
  have hnr : r ∉ R := fun hx => by have := (h.mem r hr).2 hx; omega
  have hil := some_lt hq
  have hqm : q ∈ R := List.mem_of_getElem? hq
  have hne : ∀ s : Nat, 0 ≤ rd out (s : Int) → s ≠ r := fun s hs e => by subst e; omega
  have hneR : ∀ s ∈ R, s ≠ r := fun s hs e => hnr (e ▸ hs)
  have hset := fun s => rd_setN out r s v hro
  have hg : rd out (r : Int) = out[r] := by unfold rd; rw [Int.toNat_natCast, List.getD_eq_getElem?_getD, List.getElem?_eq_getElem hro]; rfl
  have hneg' := hneg
  rw [hg] at hneg'
  have hcase : ∀ a ra, (R ++ [r])[a]? = some ra → (R[a]? = some ra ∧ ra ∈ R) ∨ (a = R.length ∧ ra = r) := by
    intro a ra e
    rcases Nat.lt_or_ge a R.length with h' | h'
    · rw [List.getElem?_append_left h'] at e
      exact .inl ⟨e, List.mem_of_getElem? e⟩
    · have := some_lt e
      rw [List.length_append, List.length_singleton] at this
      have ea : a = R.length := by omega
      subst ea
      rw [List.getElem?_append_right (Nat.le_refl _), Nat.sub_self] at e
      exact .inr ⟨rfl, by simpa using e.symm⟩
  refine ⟨by simpa using hl, fun q hq => ?_, fun x hx => ?_, ?_, fun s hs => ?_, ?_, ?_, fun a b ra rb hab ea eb => ?_, fun q' hq' s hs => ?_, fun k q' hk hq' m' hm' => ?_, fun s hs => ?_⟩
  · rcases List.mem_append.1 hq with hq | hq
    · exact h.ranks q hq
    · rw [List.mem_singleton.1 hq]; exact hr
  · rcases List.mem_or_eq_of_mem_set hx with hx | rfl
    · have := h.vals x hx
      rw [List.length_append, List.length_singleton]; omega
    · rw [List.length_append, List.length_singleton]; omega
  · have hs := h.sum
    rw [List.countP_set hro, List.length_append, List.length_singleton]
    have hp : 0 < out.countP (fun x => decide (x < 0)) := List.countP_pos_iff.2 ⟨out[r], List.getElem_mem _, by simpa using hneg'⟩
    simp only [decide_eq_true hneg', if_true, decide_eq_false (show ¬ v < 0 by omega)]
    simp; omega
  · rw [hset s, List.mem_append, List.mem_singleton]
    by_cases c : s = r
    · rw [if_pos c]; exact ⟨fun _ => .inr c, fun _ => h0⟩
    · rw [if_neg c, h.mem s hs]; exact ⟨fun h => .inl h, fun h => h.resolve_right c⟩
  · rw [List.nodup_append]
    refine ⟨h.nd, by simp, fun a ha b hb e => ?_⟩
    rw [List.mem_singleton.1 hb] at e
    exact hnr (e ▸ ha)
  · rw [hset 0, if_neg (hne 0 (by rw [h.zero]; omega)), h.zero]
  · rw [hset, hset]
    rcases hcase a ra ea with ⟨ea, ma⟩ | ⟨ea, rfl⟩
    · rw [if_neg (hneR ra ma)]
      rcases hcase b rb eb with ⟨eb, mb⟩ | ⟨eb, rfl⟩
      · rw [if_neg (hneR rb mb)]; exact h.srt a b ra rb hab ea eb
      · rw [if_pos rfl, hve]; exact h.top q hq ra ma
    · rcases hcase b rb eb with ⟨eb, mb⟩ | ⟨eb, rfl⟩
      · have := some_lt eb; omega
      · exact Int.le_refl _
  · rw [List.getElem?_append_left hil, hq] at hq'
    obtain rfl : q = q' := by simpa using hq'
    rw [hset, hset, if_neg (hneR q hqm)]
    rcases List.mem_append.1 hs with hs | hs
    · rw [if_neg (hneR s hs)]; exact h.top q hq s hs
    · rw [List.mem_singleton.1 hs, if_pos rfl, hve]; exact Int.le_refl _
  · rw [List.getElem?_append_left (by omega)] at hq'
    have h1 := h.don k q' hk hq' m' hm'
    rw [hset, hset, if_neg (hneR q' (List.mem_of_getElem? hq')), if_neg (hne _ h1.1)]
    exact h1
  · rcases List.mem_append.1 hs with hs | hs
    · exact h.rch s hs
    · rw [List.mem_singleton.1 hs, hpa]
      exact .step _ _ _ ⟨m, hm, rfl, rfl, rfl⟩ (h.rch q hqm)
structure DFin (n : Nat) (M : List S45) (o : List Int) (R : List Nat) : Prop where
  len : o.length = facN n
  vals : ∀ x ∈ o, -1 ≤ x ∧ x ≤ 1000
  ranks : ∀ r ∈ R, r < facN n
  sum : o.countP (fun x => decide (x < 0)) + R.length = facN n
  mem : ∀ r, r < facN n → (0 ≤ rd o (r : Int) ↔ r ∈ R)
  nd : R.Nodup
  zero : rd o ((0 : Nat) : Int) = 0
  don : ∀ q ∈ R, ∀ m ∈ M, 0 ≤ rd o (sx n q m : Int) ∧ rd o (sx n q m : Int) ≤ rd o (q : Int) + 1
  rch : ∀ r ∈ R, Rch (Gof M) (upTo n) (PA n r)
theorem Inv.fin {n : Nat} {M : List S45} {out : List Int} {R : List Nat} {i : Nat} (hn : n ≤ 5) (h : Inv n M out R i) (hi : R.length ≤ i) : DFin n M out R := by
  have hf := facN_le n hn
  have hs := h.sum
  refine ⟨h.len, fun x hx => ?_, h.ranks, h.sum, h.mem, h.nd, h.zero, fun q hq m hm => ?_, h.rch⟩
  · have := h.vals x hx; omega
  · obtain ⟨k, hk, e⟩ := List.getElem_of_mem hq
    exact h.don k q (by omega) (by rw [List.getElem?_eq_getElem hk, e]) m hm
theorem dist_inner (n : Nat) (hn : n ≤ 5) (M : List S45) (hM : ∀ m ∈ M, Mgood n m.f0 m.f1 m.f2) (hML : M.length ≤ 12) (i q : Nat) (hq : q < facN n) (P : List Int → Prop) : ∀ (d : Nat) (j : Int), 0 ≤ j → j.toNat + d = M.length →
    ∀ (out : List Int) (R : List Nat), Inv n M out R i → R[i]? = some q → (∀ m ∈ M.take j.toNat, 0 ≤ rd out (sx n q m : Int) ∧ rd out (sx n q m : Int) ≤ rd out (q : Int) + 1) →
    (∀ out' R', Inv n M out' R' i → R'[i]? = some q → (∀ m ∈ M, 0 ≤ rd out' (sx n q m : Int) ∧ rd out' (sx n q m : Int) ≤ rd out' (q : Int) + 1) → ∃ o, Ev (fun k => impl_distances.l1 k (n : Int) M out' (ints R') ((i : Int) + 1)) o ∧ P o) →
    ∃ o, Ev (fun k => impl_distances.l2 k (n : Int) M out (ints R) (i : Int) (PA n q) M (M.length : Int) j) o ∧ P o := by
  intro d
  have hf := facN_le n hn
  induction d with
  | zero =>
    intro j h0 hd out R hI hR hcur hK
    have hil : i < R.length := by
      rcases Nat.lt_or_ge i R.length with h | h
      · exact h
      · rw [List.getElem?_eq_none h] at hR; cases hR
    have hs := hI.sum
    rw [List.take_of_length_le (by omega)] at hcur
    obtain ⟨o, h2, hP⟩ := hK out R hI hR hcur
    refine ⟨o, Ev.step (fun k => by rw [impl_distances.l2]) (evNeg (by omega) ?_), hP⟩
    rw [wr (by omega) (by omega)]; exact h2
  | succ d ih =>
    intro j h0 hd out R hI hR hcur hK
    have hil : i < R.length := by
      rcases Nat.lt_or_ge i R.length with h | h
      · exact h
      · rw [List.getElem?_eq_none h] at hR; cases hR
    have hs := hI.sum
    have hol := hI.len
    have hm : rd_T45 M j ∈ M := by
      unfold rd_T45
      rw [List.getD_eq_getElem?_getD, List.getElem?_eq_getElem (show j.toNat < M.length by omega)]
      exact List.getElem_mem _
    have hg := hM _ hm
    have htk : M.take (j + 1).toNat = M.take j.toNat ++ [rd_T45 M j] := takeD _ M j h0 (by omega)
    generalize hmm : rd_T45 M j = m at hg hm htk
    obtain ⟨hpl, _⟩ := PA_rk n q hn hq
    obtain ⟨hr, hpa⟩ := PA_mv n q hn hq m.f0 m.f1 m.f2 hg
    have hrq : rd (ints R) (i : Int) = (q : Int) := by
      unfold rd ints
      rw [Int.toNat_natCast, List.getD_eq_getElem?_getD, List.getElem?_map, hR]; rfl
    have hsx : sx n q m = Moves.rk (mv (PA n q) m.f0 m.f1 m.f2) := rfl
    generalize hr' : Moves.rk (mv (PA n q) m.f0 m.f1 m.f2) = r at hr hpa hsx
    have em := moved_ev (PA n q) (by omega) m.f0 m.f1 m.f2 (by rw [hpl]; exact hg)
    rw [← hpa] at em
    have e2 := permutationRank_ev n r hn hr
    have hil2 : (ints R).length = R.length := by simp [ints]
    have hmem (s : Nat) (hs : s < facN n) : rd out (s : Int) ∈ out := by
      unfold rd
      rw [Int.toNat_natCast, List.getD_eq_getElem?_getD, List.getElem?_eq_getElem (by omega)]
      exact List.getElem_mem _
    by_cases c : rd out (r : Int) < 0
    · have hvq := hI.vals _ (hmem q hq)
      have hqv : 0 ≤ rd out (q : Int) + 1 := by omega
      obtain ⟨o, h2, hP⟩ := ih (j + 1) (by omega) (by omega) (out.set r (rd out (q : Int) + 1)) (R ++ [r]) (hI.step hR m hm r hr hpa c _ rfl hqv (by omega)) (by rw [List.getElem?_append_left hil]; exact hR) (fun m' hm' => by
        have hq0 := (hI.mem q hq).2 (List.mem_of_getElem? hR)
        have hqr : q ≠ r := fun e => by subst e; omega
        rw [rd_setN out r _ _ (by omega), rd_setN out r q _ (by omega), if_neg hqr]
        rw [htk, List.mem_append, List.mem_singleton] at hm'
        rcases hm' with hm' | rfl
        · have h3 := hcur m' hm'
          rw [if_neg (fun e => by rw [e] at h3; omega)]
          exact h3
        · rw [if_pos hsx]; exact ⟨hqv, Int.le_refl _⟩) hK
      refine ⟨o, Ev.step (fun k => by rw [impl_distances.l2]) ?_, hP⟩
      · refine evPos (by omega) (evPos h0 (evPos (by omega) ?_))
        rw [hmm]
        refine Ev.bind em (Ev.bind e2 (evPos (by omega) (evPos (by omega) (evPos c (evPos (by omega) (evPos (by omega) ?_))))))
        rw [hrq]
        refine evPos (by omega) (evPos (by omega) (evPos (by omega) ?_))
        rw [wr (by omega) (by omega), wr (by omega) (by omega), Int.toNat_natCast]
        simpa [ints] using h2
    · obtain ⟨o, h2, hP⟩ := ih (j + 1) (by omega) (by omega) out R hI hR (fun m' hm' => by
        rw [htk, List.mem_append, List.mem_singleton] at hm'
        rcases hm' with hm' | rfl
        · exact hcur m' hm'
        · rw [hsx]; exact ⟨by omega, hI.top q hR r ((hI.mem r hr).1 (by omega))⟩) hK
      refine ⟨o, Ev.step (fun k => by rw [impl_distances.l2]) ?_, hP⟩
      · refine evPos (by omega) (evPos h0 (evPos (by omega) ?_))
        rw [hmm]
        refine Ev.bind em (Ev.bind e2 (evPos (by omega) (evPos (by omega) (evNeg c ?_))))
        rw [wr (by omega) (by omega)]
        exact h2
theorem dist_outer (n : Nat) (hn : n ≤ 5) (M : List S45) (hM : ∀ m ∈ M, Mgood n m.f0 m.f1 m.f2) (hML : M.length ≤ 12) : ∀ (d i : Nat), i + d = facN n → ∀ (out : List Int) (R : List Nat), Inv n M out R i → i ≤ R.length →
    ∃ o, Ev (fun k => impl_distances.l1 k (n : Int) M out (ints R) (i : Int)) o ∧ (∃ R, DFin n M o R) := by
  intro d
  have hf := facN_le n hn
  induction d with
  | zero =>
    intro i hi out R hI hiR
    have hs := hI.sum
    refine ⟨out, Ev.step (fun k => by rw [impl_distances.l1]) (evNeg (by simp [ints]; omega) (Ev.now _)), R, hI.fin hn (by omega)⟩
  | succ d ih =>
    intro i hi out R hI hiR
    have hs := hI.sum
    by_cases c : i < R.length
    · obtain ⟨q, hq⟩ : ∃ q, R[i]? = some q := ⟨_, List.getElem?_eq_getElem c⟩
      have hqf : q < facN n := hI.ranks q (List.mem_of_getElem? hq)
      obtain ⟨o, h2, hP⟩ := dist_inner n hn M hM hML i q hqf (fun o => ∃ R, DFin n M o R) M.length 0 (by omega) (by simp) out R hI hq (by simp) (fun out' R' hI' hq' hcur => by
        have hil : i < R'.length := by
          rcases Nat.lt_or_ge i R'.length with h | h
          · exact h
          · rw [List.getElem?_eq_none h] at hq'; cases hq'
        have hI2 : Inv n M out' R' (i + 1) := by
          refine { hI' with top := fun q' e r hr => ?_, don := fun k q' hk e m hm => ?_ }
          · have h3 := hI'.srt i (i + 1) q q' (by omega) hq' e
            have h4 := hI'.top q hq' r hr
            omega
          · rcases Nat.lt_or_ge k i with hk' | hk'
            · exact hI'.don k q' hk' e m hm
            · obtain rfl : k = i := by omega
              rw [hq'] at e
              obtain rfl : q = q' := by simpa using e
              exact hcur m hm
        obtain ⟨o, h2, hP⟩ := ih (i + 1) (by omega) out' R' hI2 (by omega)
        exact ⟨o, by simpa using h2, hP⟩)
      refine ⟨o, Ev.step (fun k => by rw [impl_distances.l1]) (evPos (by simp [ints]; omega) (evPos (by omega) ?_)), hP⟩
      have hrq : rd (ints R) (i : Int) = (q : Int) := by
        unfold rd ints
        rw [Int.toNat_natCast, List.getD_eq_getElem?_getD, List.getElem?_map, hq]; rfl
      rw [hrq]
      exact Ev.bind (permutationAt_ev n q hn hqf) h2
    · refine ⟨out, Ev.step (fun k => by rw [impl_distances.l1]) (evNeg (by simp [ints]; omega) (Ev.now _)), R, hI.fin hn (by omega)⟩
theorem start_tab : ((List.range 6).all fun n => PA n 0 == upTo n && (((List.replicate (facN n) (-1 : Int)).set 0 0).countP (fun x => decide (x < 0)) + 1 == facN n)) = true := by decide +kernel
theorem start_inv (n : Nat) (hn : n ≤ 5) (M : List S45) : PA n 0 = upTo n ∧ Inv n M ((List.replicate (facN n) (-1)).set 0 0) [0] 0 := by
  have h := List.all_eq_true.1 start_tab n (List.mem_range.2 (by omega))
  simp only [Bool.and_eq_true, beq_iff_eq] at h
  have hf := facN_le n hn
  have h00 : rd ((List.replicate (facN n) (-1)).set 0 0) ((0 : Nat) : Int) = 0 := by rw [rd_setN _ 0 0 _ (by simp; omega), if_pos rfl]
  have hcase : ∀ a ra : Nat, [0][a]? = some ra → ra = 0 := by
    intro a ra e
    have := List.mem_of_getElem? e
    exact List.mem_singleton.1 this
  refine ⟨h.1, by simp, fun r hr => ?_, fun x hx => ?_, h.2, fun r hr => ?_, by simp, h00, fun a b ra rb hab ea eb => ?_, fun q hq r hr => ?_, fun k q hk => absurd hk (by omega), fun r hr => ?_⟩
  · rw [List.mem_singleton.1 hr]; omega
  · rcases List.mem_or_eq_of_mem_set hx with hx | rfl
    · rw [(List.mem_replicate.1 hx).2]; simp
    · simp
  · rw [rd_setN _ 0 r _ (by simp; omega), List.mem_singleton]
    by_cases c : r = 0
    · rw [if_pos c]; exact ⟨fun _ => c, fun _ => Int.le_refl _⟩
    · rw [if_neg c]
      have e : rd (List.replicate (facN n) (-1)) (r : Int) = -1 := by
        rw [rd_get _ _ (by simp; omega)]; simp
      rw [e]
      exact ⟨fun h => by omega, fun h => absurd h c⟩
  · rw [hcase a ra ea, hcase b rb eb]; exact Int.le_refl _
  · rw [hcase 0 q hq, List.mem_singleton.1 hr]; omega
  · rw [List.mem_singleton.1 hr, h.1]; exact .refl _
theorem impl_start (n : Nat) (hn : n ≤ 5) (M : List S45) (o : List Int) (h : Ev (fun k => impl_distances.l1 k (n : Int) M ((List.replicate (facN n) (-1)).set 0 0) [0] 0) o) : ∀ (d i : Nat), i + d = facN n → ∀ x : List Int, x.length = facN n → x.take i = List.replicate i (-1) →
    Ev (fun k => impl_distances.l0 k (n : Int) M x ((facN n : Nat) : Int) (i : Int)) o := by
  intro d
  have hf := facN_le n hn
  induction d with
  | zero =>
    intro i hi x hx ht
    refine Ev.step (fun k => by rw [impl_distances.l0]) ?_
    refine evNeg (by omega) (evPos (by omega) ?_)
    obtain rfl : i = facN n := by omega
    rw [List.take_of_length_le (by omega)] at ht
    rw [ht]
    exact h
  | succ d ih =>
    intro i hi x hx ht
    refine Ev.step (fun k => by rw [impl_distances.l0]) ?_
    refine evPos (by omega) (evPos (by omega) (evPos (by omega) ?_))
    rw [wr (by omega) (by omega), show (i : Int) + 1 = ((i + 1 : Nat) : Int) from by omega]
    refine ih (i + 1) (by omega) _ (by simpa using hx) ?_
    have := set_takeG x (i : Int) (-1) (by omega) (by omega)
    rw [show ((i : Int) + 1).toNat = i + 1 by omega, Int.toNat_natCast] at this
    rw [Int.toNat_natCast, this, ht, List.replicate_succ']
theorem distances_full (n : Nat) (hn : n ≤ 5) (M : List S45) (hM : ∀ m ∈ M, Mgood n m.f0 m.f1 m.f2) (hML : M.length ≤ 12) :
    ∃ o, Ev (fun k => impl_distances.f k (n : Int) M) o ∧ ∃ R, DFin n M o R := by
  have hf := facN_le n hn
  obtain ⟨o, h2, hP⟩ := dist_outer n hn M hM hML (facN n) 0 (by omega) _ [0] (start_inv n hn M).2 (by simp)
  refine ⟨o, ?_, hP⟩
  · unfold impl_distances.f
    refine Ev.bind (factorial_ev n (by omega)) ?_
    rw [fac_facN]
    refine evPos (by omega) (evPos (by omega) (evSome ?_))
    rw [List.length_replicate, Int.toNat_natCast]
    exact impl_start n hn M o (by simpa [ints] using h2) (facN n) 0 (by omega) _ (by simp) (by simp)
theorem fol_snoc (L : List S45) (k : Int) : ∀ (t now : List Int), now :: fol L now (t ++ [k]) = now :: fol L now t ++ [mv (lastL (now :: fol L now t)) (rd_T45 L k).f0 (rd_T45 L k).f1 (rd_T45 L k).f2]
  | [], now => by simp [fol, lastL]
  | j :: t, now => by
    have ih := fol_snoc L k t (mv now (rd_T45 L j).f0 (rd_T45 L j).f1 (rd_T45 L j).f2)
    rw [List.cons_append, fol, ih, fol]
    have e : ∀ (a b : List Int) (T : List (List Int)), lastL (a :: b :: T) = lastL (b :: T) := by
      intro a b T
      unfold lastL
      simp
    rw [e]
    simp
structure WInv (n : Nat) (L : List S45) (X : List (List Int)) : Prop where
  inv : GInv n X
  way : ∃ s, X = upTo n :: fol L (upTo n) s ∧ ∀ k ∈ s, 0 ≤ k ∧ k < (L.length : Int)
  rch : ∀ t ∈ X, Rch (Gof L) (upTo n) t
theorem WInv.next {n : Nat} {L : List S45} {X : List (List Int)} (hn : n ≤ 5) (hg : ∀ m ∈ L, Mgood n m.f0 m.f1 m.f2) (h : WInv n L X) (i : Nat) (hi : i < L.length) (hx : mv (lastL X) L[i].f0 L[i].f1 L[i].f2 ∉ X) : WInv n L (X ++ [mv (lastL X) L[i].f0 L[i].f1 L[i].f2]) := by
  refine ⟨h.inv.next hn L[i] (hg _ (List.getElem_mem hi)) hx, ?_, fun t ht => ?_⟩
  · obtain ⟨s, e, hs⟩ := h.way
    refine ⟨s ++ [(i : Int)], ?_, fun k hk => ?_⟩
    · rw [fol_snoc, ← e, rdT_get L i hi]
    · rcases List.mem_append.1 hk with hk | hk
      · exact hs k hk
      · rw [List.mem_singleton.1 hk]; omega
  · rcases List.mem_append.1 ht with ht | ht
    · exact h.rch t ht
    · rw [List.mem_singleton.1 ht]
      exact .step _ _ _ ⟨L[i], List.getElem_mem hi, rfl, rfl, rfl⟩ (h.rch _ (lastL_mem h.inv.pos))
theorem gre_way (n : Nat) (hn : n ≤ 5) (L : List S45) (hg : ∀ m ∈ L, Mgood n m.f0 m.f1 m.f2) : ∀ (d : Nat) (X : List (List Int)), X.length + d = facN n + 1 → WInv n L X → WInv n L (gre L d X) ∧ ∀ m ∈ L, mv (lastL (gre L d X)) m.f0 m.f1 m.f2 ∈ gre L d X
  | 0, X, hd, h => by
    have := perms_le hn X h.inv.pm h.inv.nd
    omega
  | d + 1, X, hd, h => by
    rw [gre]
    by_cases c : pIdx (newP X) 0 L < 0
    · rw [if_pos c]
      refine ⟨h, fun m hm => ?_⟩
      have h1 : ¬ L.any (newP X) = true := fun h2 => by have := (pIdx_any (newP X) L 0 (by omega)).2 h2; omega
      have h2 : ¬ newP X m = true := fun h3 => h1 (List.any_eq_true.2 ⟨m, hm, h3⟩)
      simpa [newP] using h2
    · obtain ⟨i, hi, e1, e2, hx⟩ := pIdx_move X L c
      rw [if_neg c, e2]
      exact gre_way n hn L hg d _ (by simp; omega) (h.next hn hg i hi hx)
theorem okTask_good {n : Int} {M : List S45} (hok : okTask n M = true) : ∃ N : Nat, n = (N : Int) ∧ 1 ≤ N ∧ N ≤ 5 ∧ M.length ≤ 12 ∧ ∀ m ∈ M, Mgood N m.f0 m.f1 m.f2 := by
  have h := hok
  simp only [okTask, Bool.and_eq_true, decide_eq_true_eq, List.all_eq_true] at h
  obtain ⟨N, rfl⟩ := Int.eq_ofNat_of_zero_le (show 0 ≤ n by omega)
  exact ⟨N, rfl, by omega, by omega, by omega, fun m hm => by have := h.1 m hm; simp only [isMv, decide_eq_true_eq] at this; unfold Mgood; omega⟩
theorem greedy_both (n : Int) (M : List S45) (hML : M.length ≤ 1048576) : ∃ (X : List (List Int)) (b : Bool), Ev (fun q => spec_GreedyList.f q n M) (X, b) ∧ Ev (fun q => impl_GreedyList.f q n M) (X, b) ∧ X.length ≤ 200 ∧ (∀ t ∈ X, t.length ≤ 12) ∧ (b = true → okTask n M = true ∧ WInv n.toNat M X ∧ ∀ m ∈ M, mv (lastL X) m.f0 m.f1 m.f2 ∈ X) := by
  have ht := moTask_ev n M (by omega)
  have hi := areMoves_ev n M (by omega)
  unfold spec_GreedyList.f impl_GreedyList.f
  by_cases hok : okTask n M = true
  rotate_left
  · exact ⟨[], false, Ev.bind ht (evNeg hok (Ev.now _)), Ev.bind hi (evNeg hok (Ev.now _)), by simp, by simp, fun h => by cases h⟩
  obtain ⟨N, rfl, hN1, hN, hM12, hgd⟩ := okTask_good hok
  have hf := facN_5 hN
  have hf0 := facN_pos N
  have hu := upTo_length N
  have h0 : GInv N [upTo N] := ⟨by simp, fun t ht => by rw [List.mem_singleton.1 ht]; exact ⟨isPm_upTo (by omega), hu⟩, by simp⟩
  have r1 := spec_Greedy_l0 N hN M (by omega) hgd (facN N) [upTo N] (by simp; omega) h0
  have r2 := Greedy_l0 N hN M (by omega) hgd (facN N) [upTo N] [0] (by simp; omega) h0 (by simp) (fun t h1 h2 => by
    rw [List.mem_singleton, List.mem_singleton]
    constructor
    · intro e
      exact rk_inj hN h1 h2 (isPm_upTo (by omega)) hu (by rw [rk_upTo hN]; omega)
    · intro e
      rw [e, rk_upTo hN]; rfl)
  have hw : WInv N M [upTo N] := ⟨h0, ⟨[], by simp [fol], by simp⟩, fun t ht => by rw [List.mem_singleton.1 ht]; exact .refl _⟩
  obtain ⟨w1, w2⟩ := gre_way N hN M hgd (facN N) [upTo N] (by simp; omega) hw
  have hle := perms_le hN _ w1.inv.pm w1.inv.nd
  refine ⟨_, true, Ev.bind ht (evPos hok (Ev.bind (raUpTo_ev N (by omega)) (evSome (Ev.bind (moNew_ev N hN [upTo N] (by simp) (by simp) (fun t ht => (h0.pm t ht).2) M (by omega) hgd) r1)))), Ev.bind hi (evPos hok (Ev.bind (identity_ev N (by omega)) (Ev.bind r2 (Ev.now _)))), by omega, fun t ht => by have := (w1.inv.pm t ht).2; omega, fun _ => ⟨hok, ?_, w2⟩⟩
  rw [Int.toNat_natCast]
  exact w1
theorem stepsR_fol (L : List S45) : ∀ (s : List Int) (now acc : List Int), (∀ k ∈ s, 0 ≤ k ∧ k < (L.length : Int)) → (stepsR L acc now (fol L now s)).2 = true
  | [], now, acc, _ => rfl
  | k :: t, now, acc, h => by
    rw [fol, stepsR]
    have hk := h k (by simp)
    have hil : k.toNat < L.length := by omega
    have e : rd_T45 L k = L[k.toNat] := by unfold rd_T45; rw [List.getD_eq_getElem?_getD, List.getElem?_eq_getElem hil]; rfl
    have ha : L.any (leads now (mv now (rd_T45 L k).f0 (rd_T45 L k).f1 (rd_T45 L k).f2)) = true := by
      rw [List.any_eq_true]
      exact ⟨L[k.toNat], List.getElem_mem hil, by unfold leads; rw [e]; simp⟩
    have hp := (pIdx_any _ L 0 (by omega)).2 ha
    rw [if_neg (by omega)]
    exact stepsR_fol L t _ _ (fun j hj => h j (by simp [hj]))
theorem stepsR_back (M : List S45) : ∀ (T : List (List Int)) (a acc : List Int), (stepsR M acc a T).2 = true → ∃ s, (stepsR M acc a T).1 = acc ++ s ∧ (∀ k ∈ s, 0 ≤ k ∧ k < (M.length : Int)) ∧ fol M a s = T
  | [], a, acc, _ => ⟨[], by simp [stepsR], by simp, rfl⟩
  | b :: T, a, acc, h => by
    rw [stepsR] at h ⊢
    by_cases c : pIdx (leads a b) 0 M < 0
    · rw [if_pos c] at h; cases h
    · rw [if_neg c] at h ⊢
      obtain ⟨s, e1, e2, e3⟩ := stepsR_back M T b _ h
      rcases pIdx_at (leads a b) M 0 with h1 | ⟨i, hi, e, hp⟩
      · rw [h1] at c; exact absurd (by decide) c
      · refine ⟨pIdx (leads a b) 0 M :: s, by rw [e1]; simp, fun k hk => ?_, ?_⟩
        · rcases List.mem_cons.1 hk with rfl | hk
          · omega
          · exact e2 k hk
        · have er : rd_T45 M (pIdx (leads a b) 0 M) = M[i] := by rw [e, Int.zero_add, rdT_get M i hi]
          have hb : mv a M[i].f0 M[i].f1 M[i].f2 = b := of_decide_eq_true hp
          rw [fol, er, hb, e3]
theorem follow_back (N : Nat) (hN : N ≤ 5) (M : List S45) (hok : okTask (N : Int) M = true) (hML : M.length ≤ 12) (hgd : ∀ m ∈ M, Mgood N m.f0 m.f1 m.f2) (X : List (List Int)) (hX : X.length ≤ 200) (hW : WInv N M X) : ∃ G, Ev (fun q => impl_MovesOf.f q (N : Int) X M) (G, true) ∧ Ev (fun q => impl_FollowMoves.f q (N : Int) M G) (X, true) ∧ stepsL M X = (G, true) := by
  obtain ⟨s, e, hs⟩ := hW.way
  have hst : (stepsL M X).2 = true := by rw [e]; exact stepsR_fol M s _ _ hs
  have hbk : ∃ s', (stepsL M X).1 = s' ∧ (∀ k ∈ s', 0 ≤ k ∧ k < (M.length : Int)) ∧ X = upTo N :: fol M (upTo N) s' := by
    rw [e] at hst ⊢
    obtain ⟨s', e1, e2, e3⟩ := stepsR_back M _ _ _ hst
    exact ⟨s', by simpa [stepsL] using e1, e2, by rw [e3]⟩
  obtain ⟨G, e1, e2, e3⟩ := hbk
  have hGl : G.length + 1 = X.length := by rw [e3]; simp [fol_length]
  have hpm := hW.inv.pm
  have ho : okLists (N : Int) X = true := by
    simp only [okLists, Bool.and_eq_true, decide_eq_true_eq, List.all_eq_true]
    exact ⟨fun t ht => ⟨by have := (hpm t ht).2; omega, (hpm t ht).1⟩, by omega⟩
  have hb := arePermutations_ev (N : Int) X (by omega) (fun t ht => by have := (hpm t ht).2; omega)
  rw [ho] at hb
  have hm2 := steps_ev N (by omega) M (by omega) hgd X (by omega) (fun t ht => (hpm t ht).2)
  have hse : stepsL M X = (G, true) := by rw [← e1, ← hst]
  rw [hse] at hm2
  refine ⟨G, ?_, ?_, hse⟩
  · unfold impl_MovesOf.f
    exact Ev.bind (areMoves_ev _ M (by omega)) (evPos hok (Ev.bind hb (evPos rfl (Ev.bind hm2 (Ev.now _)))))
  · have hw := allWithin_ev G 0 (wrap64 ((M.length : Int) - 1)) (by omega)
    have hr : (G.all fun x => decide (0 ≤ x ∧ x ≤ wrap64 ((M.length : Int) - 1))) = true := by
      rw [List.all_eq_true]
      intro x hx
      have := e2 x hx
      rw [wr (by omega) (by omega)]
      simp only [decide_eq_true_eq]
      omega
    rw [hr] at hw
    have r2 := Follow_l0 N (by omega) M (by omega) hgd G (by omega) e2 G.length [] (upTo N) 0 (by omega) (by simp) (upTo_length N) (by simp)
    unfold impl_FollowMoves.f
    exact Ev.bind (areMoves_ev _ M (by omega)) (evPos hok (evNeg (by omega) (Ev.bind hw (evPos rfl (Ev.bind (identity_ev N (by omega)) (evTo r2 (by rw [e3]; simp)))))))
theorem cntR_full {N : Nat} {M : List S45} {o : List Int} {R : List Nat} (D : DFin N M o R) : cntR o = (R.length : Int) := by
  have h := List.length_eq_countP_add_countP (fun x : Int => decide (x < 0)) (l := o)
  have hs := D.sum
  rw [D.len] at h
  have e : o.countP (fun a => decide ¬(decide (a < 0) = true)) = o.countP (fun x => decide (0 ≤ x)) := by
    refine List.countP_congr (fun x _ => ?_)
    simp only [decide_eq_true_eq]
    omega
  rw [e] at h
  unfold cntR
  omega
theorem reach_count (N : Nat) (hN : N ≤ 5) (M : List S45) (hok : okTask (N : Int) M = true) (hML : M.length ≤ 12) (hgd : ∀ m ∈ M, Mgood N m.f0 m.f1 m.f2) (X : List (List Int)) (hW : WInv N M X) : ∃ c : Int, Ev (fun q => impl_ReachCount.f q (N : Int) M) (c, true) ∧ (X.length : Int) ≤ c := by
  obtain ⟨o, h1, R, D⟩ := distances_full N hN M hgd hML
  have hf := facN_le N hN
  have hol := D.len
  have h2 := impl_ReachCount_l0 o (by omega) o.length 0 0 (by omega) (by simp) (by omega) (by omega)
  refine ⟨0 + cntR (o.drop (0 : Int).toNat), ?_, ?_⟩
  · unfold impl_ReachCount.f
    exact Ev.bind (areMoves_ev _ _ (by omega)) (evPos hok (Ev.bind h1 h2))
  · have h0 : 0 ∈ R := (D.mem 0 (by omega)).1 (by rw [D.zero]; omega)
    have hP0 : PA N 0 = upTo N := (start_inv N hN M).1
    have key : ∀ u l, Rch (Gof M) u l → u = upTo N → l ∈ R.map (PA N) := by
      intro u l h
      induction h with
      | refl => intro e; rw [e, ← hP0]; exact List.mem_map.2 ⟨0, h0, rfl⟩
      | @step l' a b c g h ih =>
        intro e
        obtain ⟨q, hq, e1⟩ := List.mem_map.1 (ih e)
        obtain ⟨m, hm, rfl, rfl, rfl⟩ := g
        obtain ⟨s1, s2⟩ : sx N q m < facN N ∧ PA N (sx N q m) = mv (PA N q) m.f0 m.f1 m.f2 := PA_mv N q hN (D.ranks q hq) _ _ _ (hgd m hm)
        have h3 := D.don q hq m hm
        rw [← e1, ← s2]
        exact List.mem_map.2 ⟨_, (D.mem _ s1).1 h3.1, rfl⟩
    have hle := nodup_le X (R.map (PA N)) hW.inv.nd (fun t ht => key _ _ (hW.rch t ht) rfl)
    rw [List.length_map] at hle
    simp only [Int.toNat_zero, List.drop_zero, cntR_full D]
    omega
def rks (X : List (List Int)) : List Int := X.map fun l => (Moves.rk l : Int)
theorem rks_mem {n : Nat} (hn : n ≤ 5) {X : List (List Int)} (hX : ∀ t ∈ X, isPm t = true ∧ t.length = n) {l : List Int} (hl : isPm l = true ∧ l.length = n) : (Moves.rk l : Int) ∈ rks X ↔ l ∈ X := by
  unfold rks
  rw [List.mem_map]
  constructor
  · rintro ⟨t, ht, e⟩
    have := rk_inj hn (hX t ht).1 (hX t ht).2 hl.1 hl.2 (by omega)
    exact this ▸ ht
  · intro h; exact ⟨l, h, rfl⟩
theorem pr_ev {n : Nat} (hn : n ≤ 5) {l : List Int} (hl : isPm l = true ∧ l.length = n) : Ev (fun k => impl_PermutationRank.f k l) ((Moves.rk l : Int), true) := by
  obtain ⟨r1, r2⟩ := PA_of hn hl.1 hl.2
  have hr := permutationRank_ev n (Moves.rk l) hn r1
  rw [r2] at hr
  unfold impl_PermutationRank.f
  exact Ev.bind (IsPermutation_ev l (by omega)) (evPos hl.1 (Ev.bind hr (Ev.now _)))
def mlV (n : Int) (L : List (List Int)) (M : List S45) : Bool × Bool := if okTask n M = true ∧ okLists n L = true then ((stepsL M L).2 && (decide L.Nodup && decide (L.length = fac n.toNat)), true) else (false, false)
def moV (n : Int) (L : List (List Int)) (M : List S45) : List Int × Bool := if okTask n M = true ∧ okLists n L = true then stepsL M L else ([], false)
theorem okLists_parts {n : Int} {L : List (List Int)} (h : okLists n L = true) : L.length ≤ 1100 ∧ ∀ t ∈ L, (t.length : Int) = n ∧ isPm t = true := by
  simp only [okLists, Bool.and_eq_true, decide_eq_true_eq, List.all_eq_true] at h
  exact ⟨by omega, h.1⟩
theorem ml_both (n : Int) (L : List (List Int)) (M : List S45) (hML : M.length ≤ 1048576) (r3 : L.length ≤ 1048576) (r4 : ∀ t ∈ L, t.length ≤ 1048576) : Ev (fun q => spec_IsMoveList.f q n L M) (mlV n L M) ∧ Ev (fun q => impl_IsMoveList.f q n L M) (mlV n L M) := by
  have ht := moTask_ev n M (by omega)
  have hi := areMoves_ev n M (by omega)
  unfold spec_IsMoveList.f impl_IsMoveList.f
  by_cases hok : okTask n M = true
  rotate_left
  · have e : mlV n L M = (false, false) := by unfold mlV; rw [if_neg (fun h => hok h.1)]
    rw [e]
    refine ⟨Ev.bind ht (evNeg hok ?_), Ev.bind hi (evNeg hok (Ev.now _))⟩
    refine Ev.step (fun k => by rw [spec_IsMoveList.j0]) ?_
    exact evPos rfl (Ev.now _)
  obtain ⟨N, rfl, hN1, hN, hM12, hgd⟩ := okTask_good hok
  have ha := moLists_ev N L r3 r4
  have hb := arePermutations_ev N L r3 r4
  by_cases ho : okLists N L = true
  rotate_left
  · have e : mlV N L M = (false, false) := by unfold mlV; rw [if_neg (fun h => ho h.2)]
    rw [e]
    simp only [Bool.not_eq_true] at ho
    rw [ho] at ha hb
    refine ⟨Ev.bind ht (evPos hok (Ev.bind ha ?_)), Ev.bind hi (evPos hok (Ev.bind hb (evNeg (by simp) (Ev.now _))))⟩
    refine Ev.step (fun k => by rw [spec_IsMoveList.j0]) ?_
    exact evPos rfl (Ev.now _)
  have e : mlV N L M = ((stepsL M L).2 && (decide L.Nodup && decide (L.length = fac N)), true) := by unfold mlV; rw [if_pos ⟨hok, ho⟩, Int.toNat_natCast]
  rw [e]
  obtain ⟨o1, o2⟩ := okLists_parts ho
  rw [ho] at ha hb
  have hlen : ∀ t ∈ L, t.length = N := fun t ht => by have := (o2 t ht).1; omega
  have hpm : ∀ t ∈ L, isPm t = true ∧ t.length = N := fun t ht => ⟨(o2 t ht).2, hlen t ht⟩
  have hm1 := moSteps_ev N (by omega) M (by omega) hgd L o1 hlen
  have hm2 := steps_ev N (by omega) M (by omega) hgd L o1 hlen
  have hl0 := IsMoveList_l0 N hN L o1 hpm L.length 0 [] (by omega) (by simp) (by simp)
  simp only [Int.toNat_zero, List.drop_zero] at hl0
  obtain ⟨⟨st, sb⟩, hsl⟩ : ∃ r, stepsL M L = r := ⟨_, rfl⟩
  rw [hsl] at hm1 hm2 ⊢
  cases sb
  · refine ⟨Ev.bind ht (evPos hok (Ev.bind ha ?_)), Ev.bind hi (evPos hok (Ev.bind hb (evPos rfl (Ev.bind hl0 (Ev.bind hm2 (evNeg (by simp) (Ev.now _)))))))⟩
    refine Ev.step (fun k => by rw [spec_IsMoveList.j0]) ?_
    exact evNeg (by simp) (Ev.bind hm1 (evNeg (by simp) (Ev.now _)))
  · have hall := moAll_ev N (by omega) L r3 r4
    refine ⟨Ev.bind ht (evPos hok (Ev.bind ha ?_)), Ev.bind hi (evPos hok (Ev.bind hb (evPos rfl (Ev.bind hl0 (Ev.bind hm2 (evPos rfl (Ev.bind (factorial_ev N (by omega)) ?_)))))))⟩
    · refine Ev.step (fun k => by rw [spec_IsMoveList.j0]) ?_
      exact evNeg (by simp) (Ev.bind hm1 (evPos rfl (Ev.bind hall (Ev.now _))))
    · have hmi := metF_iff L []
      simp only [List.length_nil, Nat.zero_add, List.not_mem_nil, not_false_eq_true, implies_true, and_true] at hmi
      rw [map_nodup hN L hpm] at hmi
      by_cases cf : L.length = fac N
      · refine evPos (by omega) (evEq ?_)
        rw [decide_eq_true cf, Bool.and_true, Bool.true_and]
        congr 1
        exact decide_eq_decide.2 hmi
      · refine evNeg (by omega) (evEq ?_)
        rw [decide_eq_false cf, Bool.and_false, Bool.and_false]
theorem mo_both (n : Int) (L : List (List Int)) (M : List S45) (hML : M.length ≤ 1048576) (r3 : L.length ≤ 1048576) (r4 : ∀ t ∈ L, t.length ≤ 1048576) : Ev (fun q => spec_MovesOf.f q n L M) (moV n L M) ∧ Ev (fun q => impl_MovesOf.f q n L M) (moV n L M) ∧ (moV n L M).1.length ≤ 1100 := by
  have ht := moTask_ev n M (by omega)
  have hi := areMoves_ev n M (by omega)
  unfold spec_MovesOf.f impl_MovesOf.f
  by_cases hok : okTask n M = true
  rotate_left
  · have e : moV n L M = ([], false) := by unfold moV; rw [if_neg (fun h => hok h.1)]
    rw [e]
    exact ⟨Ev.bind ht (evNeg hok (Ev.now _)), Ev.bind hi (evNeg hok (Ev.now _)), by simp⟩
  obtain ⟨N, rfl, hN1, hN, hM12, hgd⟩ := okTask_good hok
  have ha := moLists_ev N L r3 r4
  have hb := arePermutations_ev N L r3 r4
  by_cases ho : okLists N L = true
  rotate_left
  · have e : moV N L M = ([], false) := by unfold moV; rw [if_neg (fun h => ho h.2)]
    rw [e]
    exact ⟨Ev.bind ht (evPos hok (Ev.bind ha (evNeg ho (Ev.now _)))), Ev.bind hi (evPos hok (Ev.bind hb (evNeg ho (Ev.now _)))), by simp⟩
  have e : moV N L M = stepsL M L := by unfold moV; rw [if_pos ⟨hok, ho⟩]
  rw [e]
  obtain ⟨o1, o2⟩ := okLists_parts ho
  have hlen : ∀ t ∈ L, t.length = N := fun t ht => by have := (o2 t ht).1; omega
  have hsl := stepsL_length M L
  exact ⟨Ev.bind ht (evPos hok (Ev.bind ha (evPos ho (Ev.bind (moSteps_ev N (by omega) M (by omega) hgd L o1 hlen) (Ev.now _))))), Ev.bind hi (evPos hok (Ev.bind hb (evPos ho (Ev.bind (steps_ev N (by omega) M (by omega) hgd L o1 hlen) (Ev.now _))))), by omega⟩
theorem drawIsMoveList_ev (l : List Int) (hl : Byt l) : ∃ n L M, Ev (fun q => spec_DrawIsMoveList.f q l) (n, L, M) ∧ L.length ≤ 1000 ∧ (∀ t ∈ L, t.length ≤ 30) ∧ M.length ≤ 100 := by
  obtain ⟨n, M, s1, s2, e1, g1, g2, g3⟩ := cur_moves l hl 0 0 (by omega) (by omega)
  by_cases c : 1 ≤ n ∧ n ≤ 4
  · obtain ⟨o, s3, s4, e2, g4, g5⟩ := cur_one l hl s1 s2 2 (by omega) (by omega)
    cases o
    · have ht := moTask_ev n M (by omega)
      by_cases hok : okTask n M = true
      · obtain ⟨X, b, x1, x2, x3, x4, x5⟩ := greedy_both n M (by omega)
        obtain ⟨L', e, h1, h2⟩ := drawML_j1 l hl n M X (by omega) (fun t h => by have := x4 t h; omega) s3 s4 (by omega) (by omega)
        refine ⟨n, L', M, ?_, h1, h2, g1⟩
        unfold spec_DrawIsMoveList.f
        refine Ev.bind e1 ?_
        rw [l1In_eq, decide_eq_true c]
        refine evSome (evPos rfl ?_)
        rw [e2]
        exact evSome (evNeg (by simp) (Ev.bind ht (evPos hok (Ev.bind x1 e))))
      · obtain ⟨L', e, h1, h2⟩ := drawML_j1 l hl n M [] (by simp) (by simp) s3 s4 (by omega) (by omega)
        refine ⟨n, L', M, ?_, h1, h2, g1⟩
        unfold spec_DrawIsMoveList.f
        refine Ev.bind e1 ?_
        rw [l1In_eq, decide_eq_true c]
        refine evSome (evPos rfl ?_)
        rw [e2]
        exact evSome (evNeg (by simp) (Ev.bind ht (evNeg hok e)))
    · obtain ⟨N, rfl⟩ := Int.eq_ofNat_of_zero_le (show 0 ≤ n by omega)
      obtain ⟨L', e, h1, h2⟩ := drawML_l0 l hl N (by omega) M s3 s4 (by omega) (by omega) (fac N) 0 [] (by omega) (by simp) (by simp)
      refine ⟨(N : Int), L', M, ?_, h1, h2, g1⟩
      unfold spec_DrawIsMoveList.f
      refine Ev.bind e1 ?_
      rw [l1In_eq, decide_eq_true c]
      refine evSome (evPos rfl ?_)
      rw [e2]
      exact evSome (evPos rfl e)
  · obtain ⟨r, s3, s4, hr, g4, g5, e2⟩ := cur_order l hl s1 s2 n (by omega) (by omega)
    obtain ⟨L', e, h1, h2⟩ := drawML_j1 l hl n M [r] (by simp) (fun t h => by rw [List.mem_singleton.1 h]; omega) s3 s4 (by omega) (by omega)
    refine ⟨n, L', M, ?_, h1, h2, g1⟩
    unfold spec_DrawIsMoveList.f
    refine Ev.bind e1 ?_
    rw [l1In_eq, decide_eq_false c]
    exact evSome (evNeg (by simp) (Ev.bind e2 e))
theorem glJ4 (l1 : List Int) (y1 : Byt l1) : Ev (fun k => laws_FnGreedyLists.j4 k l1) true := by
  refine Ev.step (fun k => by rw [laws_FnGreedyLists.j4]) ?_
  obtain ⟨n, L, M, hd, hL, ht, hM⟩ := drawIsMoveList_ev l1 y1
  obtain ⟨a1, a2⟩ := ml_both n L M (by omega) (by omega) (fun t h => by have := ht t h; omega)
  obtain ⟨b1, b2, b3⟩ := mo_both n L M (by omega) (by omega) (fun t h => by have := ht t h; omega)
  refine Ev.bind hd (Ev.bind a2 (Ev.bind a1 (Ev.bind b2 (Ev.bind b1 (evPos (by simp) (evPos (by simp) (evPos (by simp) (Ev.bind (uSame_self _ (by omega)) (evPos rfl ?_)))))))))
  by_cases h : (mlV n L M).1 = true
  · refine evPos h (evEq ?_)
    unfold mlV at h
    unfold moV
    by_cases c : okTask n M = true ∧ okLists n L = true
    · rw [if_pos c] at h ⊢
      simp only [Bool.and_eq_true] at h
      exact h.1
    · rw [if_neg c] at h; cases h
  · exact evNeg h (Ev.now _)
section
variable (l1 : List Int) (y1 : Byt l1) (N : Nat) (hN : N ≤ 5) (M : List S45) (hok : okTask (N : Int) M = true) (hML : M.length ≤ 12) (hgd : ∀ m ∈ M, Mgood N m.f0 m.f1 m.f2) (X : List (List Int)) (hX : X.length ≤ 200) (hW : WInv N M X) (hcl : ∀ m ∈ M, mv (lastL X) m.f0 m.f1 m.f2 ∈ X)
include y1 hN hok hML hgd hX hW hcl
theorem glL1 : ∀ (d : Nat) (j : Int), 0 ≤ j → j.toNat + d = M.length → Ev (fun k => laws_FnGreedyLists.l1 k l1 (N : Int) M X (rks X) M (M.length : Int) j) true := by
  have hp := hW.inv.pos
  have hlast := hW.inv.pm _ (lastL_mem hp)
  intro d
  induction d with
  | zero =>
    intro j h0 hd
    obtain ⟨G, f1, f2, f3⟩ := follow_back N hN M hok hML hgd X hX hW
    have hpm := hW.inv.pm
    have ho : okLists (N : Int) X = true := by
      simp only [okLists, Bool.and_eq_true, decide_eq_true_eq, List.all_eq_true]
      exact ⟨fun t ht => ⟨by have := (hpm t ht).2; omega, (hpm t ht).1⟩, by omega⟩
    have a2 := (ml_both (N : Int) X M (by omega) (by omega) (fun t ht => by have := (hpm t ht).2; omega)).2
    have e : mlV N X M = (decide (X.length = fac N), true) := by
      unfold mlV
      rw [if_pos ⟨hok, ho⟩, f3, Int.toNat_natCast, decide_eq_true hW.inv.nd, Bool.true_and, Bool.true_and]
    rw [e] at a2
    have hfc : Ev (fun k => impl_Factorial.f k (N : Int)) ((fac N : Int), true) := by
      unfold impl_Factorial.f
      rw [within_eq, decide_eq_true (by omega)]
      exact evSome (evPos rfl (Ev.bind (factorial_ev N (by omega)) (Ev.now _)))
    refine Ev.step (fun k => by rw [laws_FnGreedyLists.l1]) ?_
    refine evNeg (by omega) (Ev.bind hfc (Ev.bind a2 (evPos rfl (evPos rfl (evNeg ?_ (glJ4 l1 y1))))))
    by_cases c : X.length = fac N
    · rw [decide_eq_true c, c]; simp
    · rw [decide_eq_false c]
      have c2 : ((X.length : Int) == (fac N : Int)) = false := beq_eq_false_iff_ne.2 (by omega)
      rw [c2]; simp
  | succ d ih =>
    intro j h0 hd
    have hil : j.toNat < M.length := by omega
    have e : rd_T45 M j = M[j.toNat] := by unfold rd_T45; rw [List.getD_eq_getElem?_getD, List.getElem?_eq_getElem hil]; rfl
    have hm := List.getElem_mem hil
    have hg := hgd _ hm
    have hmv := isPm_mv hN hlast.1 hlast.2 _ _ _ hg
    have hv : isMv ((lastL X).length : Int) M[j.toNat].f0 M[j.toNat].f1 M[j.toNat].f2 = true := by rw [hlast.2]; simp only [isMv, decide_eq_true_eq]; unfold Mgood at hg; omega
    have ha := ApplyMove_ev (lastL X) (by omega) M[j.toNat].f0 M[j.toNat].f1 M[j.toNat].f2
    unfold apM at ha
    rw [if_pos ⟨hlast.1, hv⟩] at ha
    have hr := pr_ev hN hmv
    have hu := uHas_ev (rks X) (Moves.rk (mv (lastL X) M[j.toNat].f0 M[j.toNat].f1 M[j.toNat].f2) : Int) (by simp [rks]; omega)
    rw [decide_eq_true ((rks_mem hN hW.inv.pm hmv).2 (hcl _ hm))] at hu
    refine Ev.step (fun k => by rw [laws_FnGreedyLists.l1]) ?_
    rw [wr (x := (X.length : Int) - 1) (by omega) (by omega), wr (x := j + 1) (by omega) (by omega), rdL_last X hp, e]
    exact evPos (by omega) (evPos h0 (evPos (by omega) (evPos (by omega) (evPos (by omega) (Ev.bind ha (Ev.bind hr (evPos rfl (evPos rfl (Ev.bind hu (evPos rfl (ih (j + 1) (by omega) (by omega))))))))))))
theorem glL0 : ∀ (d i : Nat), i + d = X.length → Ev (fun k => laws_FnGreedyLists.l0 k l1 (N : Int) M X (rks (X.take i)) X (X.length : Int) (i : Int)) true := by
  intro d
  induction d with
  | zero =>
    intro i hd
    have h1 := glL1 l1 y1 N hN M hok hML hgd X hX hW hcl M.length 0 (by omega) (by simp)
    refine Ev.step (fun k => by rw [laws_FnGreedyLists.l0]) ?_
    rw [List.take_of_length_le (by omega)]
    exact evNeg (by omega) h1
  | succ d ih =>
    intro i hd
    have hi : i < X.length := by omega
    have e : rd_L3 X (i : Int) = X[i] := by unfold rd_L3; rw [Int.toNat_natCast, List.getD_eq_getElem?_getD, List.getElem?_eq_getElem hi]; rfl
    have hpm := hW.inv.pm _ (List.getElem_mem hi)
    have hr := pr_ev hN hpm
    have hlr : (rks (X.take i)).length ≤ 200 := by simp [rks]; omega
    have hu := uHas_ev (rks (X.take i)) (Moves.rk X[i] : Int) (by omega)
    have hno : X[i] ∉ X.take i := (nodup_takeG X).1 hW.inv.nd i hi
    rw [decide_eq_false (fun h => hno ((rks_mem hN (fun t ht => hW.inv.pm t (List.mem_of_mem_take ht)) hpm).1 h))] at hu
    have hs : rks (X.take i) ++ [(Moves.rk X[i] : Int)] = rks (X.take (i + 1)) := by
      unfold rks
      rw [List.take_succ_eq_append_getElem hi, List.map_append]; rfl
    refine Ev.step (fun k => by rw [laws_FnGreedyLists.l0]) ?_
    rw [wr (by omega) (by omega), e, show (i : Int) + 1 = ((i + 1 : Nat) : Int) from by omega]
    refine evPos (by omega) (evPos (by omega) (evPos (by omega) (Ev.bind hr (evPos rfl (Ev.bind hu (evNeg (by simp) (evPos (by omega) ?_)))))))
    show Ev (fun k => laws_FnGreedyLists.l0 k l1 (N : Int) M X (rks (X.take i) ++ [(Moves.rk X[i] : Int)]) X (X.length : Int) ((i + 1 : Nat) : Int)) true
    rw [hs]
    exact ih (i + 1) (by omega)
theorem glJ0 : Ev (fun k => laws_FnGreedyLists.j0 k l1 (N : Int) M X true false) true := by
  obtain ⟨G, f1, f2, f3⟩ := follow_back N hN M hok hML hgd X hX hW
  obtain ⟨c, r1, r2⟩ := reach_count N hN M hok hML hgd X hW
  have h0 := glL0 l1 y1 N hN M hok hML hgd X hX hW hcl X.length 0 (by omega)
  have hj1 : Ev (fun k => laws_FnGreedyLists.j1 k l1 (N : Int) M X false) true := by
    refine Ev.step (fun k => by rw [laws_FnGreedyLists.j1]) ?_
    refine evNeg (by simp) ?_
    simpa [rks] using h0
  refine Ev.step (fun k => by rw [laws_FnGreedyLists.j0]) ?_
  exact evNeg (by simp) (evPos rfl (Ev.bind f1 (Ev.bind r1 (Ev.bind f2 (evPos rfl (evPos rfl (evNeg (by show ¬ (X.length : Int) > c; omega) (evPos rfl (Ev.bind (uLists_self X (by omega) (fun t ht => by have := (hW.inv.pm t ht).2; omega)) hj1)))))))))
end
theorem FnGreedyLists : laws_FnGreedyLists.Pure := by
  intro l0 l1 hm0 hb0 hw0 hm1 hb1 hw1
  refine Ev.rounds (g := fun q => laws_FnGreedyLists.f q l0 l1) ?_
  unfold laws_FnGreedyLists.f
  obtain ⟨t, ht, hbig⟩ := big_eq l0 l1
  rw [ht]
  refine evSome ?_
  cases t
  rotate_left
  · exact evPos rfl (Ev.now _)
  obtain ⟨q0, q1⟩ := hbig rfl
  have y0 := byt_of q0 hw0
  have y1 := byt_of q1 hw1
  refine evNeg (by simp) ?_
  obtain ⟨n, M, hd, hM⟩ := drawGreedyList_ev l0 y0
  obtain ⟨X, b, x1, x2, x3, x4, x5⟩ := greedy_both n M (by omega)
  refine Ev.bind hd (Ev.bind x2 (Ev.bind x1 (evNeg (by simp) (Ev.bind (uLists_self X (by omega) (fun t ht => by have := x4 t ht; omega)) ?_))))
  show Ev (fun k => laws_FnGreedyLists.j0 k l1 n M X b false) true
  cases b
  · refine Ev.step (fun k => by rw [laws_FnGreedyLists.j0]) ?_
    exact evNeg (by simp) (evNeg (by simp) (glJ4 l1 y1))
  · obtain ⟨hok, hW, hcl⟩ := x5 rfl
    obtain ⟨N, rfl, hN1, hN, hM12, hgd⟩ := okTask_good hok
    rw [Int.toNat_natCast] at hW
    exact glJ0 l1 y1 N hN M hok hM12 hgd X x3 hW hcl
end Go.Proofs.Ytllhnnjkonghlaa.Pure
