import Derived.Test.YtllhnnjkonghlaaMFnReachedx1
import Derived.Test.YtllhnnjkonghlaaMFnReachedx2
import Derived.Test.YtllhnnjkonghlaaMFnReachedx3
import Derived.Test.YtllhnnjkonghlaaMFnReachedx4
import Derived.Test.YtllhnnjkonghlaaMFnReachedx5
import Derived.Test.YtllhnnjkonghlaaMFnReachedx6
import Derived.Test.YtllhnnjkonghlaaMFnReachedx7
import Derived.Test.YtllhnnjkonghlaaMFnReachedx8
import Derived.Test.YtllhnnjkonghlaaMFnReachedx9
import Derived.Test.YtllhnnjkonghlaaMFnReachedx10
import Derived.Test.YtllhnnjkonghlaaBase
import Derived.Test.YtllhnnjkonghlaaComb
import Derived.Test.YtllhnnjkonghlaaTrot
import Derived.Test.YtllhnnjkonghlaaMoves
import Derived.Test.YtllhnnjkonghlaaPerms
import Derived.Test.YtllhnnjkonghlaaPerm5
import Derived.Test.YtllhnnjkonghlaaSgn
import Derived.Test.YtllhnnjkonghlaaPmX
import Derived.Test.YtllhnnjkonghlaaLag
namespace Go.Proofs.Ytllhnnjkonghlaa.Pure
open Go.RowKit Go.Proofs.Ytllhnnjkonghlaa.MFnReached Go.Proofs.YtllhnnjkonghlaaW.PrintWords Go.Proofs.YtllhnnjkonghlaaW.PrintLast Go.Proofs.Ytllhnnjkonghlaa.Base Go.Proofs.Ytllhnnjkonghlaa.Comb Go.Proofs.Ytllhnnjkonghlaa.Trot Go.Proofs.Ytllhnnjkonghlaa.Moves Go.Proofs.Ytllhnnjkonghlaa.Perms Go.Proofs.Ytllhnnjkonghlaa.Perm5 Go.Proofs.Ytllhnnjkonghlaa.Sgn Go.Proofs.Ytllhnnjkonghlaa.PmX Go.Proofs.Ytllhnnjkonghlaa.Lag
set_option linter.unusedVariables false
set_option linter.unusedSimpArgs false
def leads (a b : List Int) (m : S45) : Bool := decide (mv a m.f0 m.f1 m.f2 = b)
def stepsR (M : List S45) : List Int → List Int → List (List Int) → List Int × Bool
  | acc, _, [] => (acc, true)
  | acc, a, b :: T => if pIdx (leads a b) 0 M < 0 then ([], false) else stepsR M (acc ++ [pIdx (leads a b) 0 M]) b T
def stepsL (M : List S45) : List (List Int) → List Int × Bool
  | [] => ([], true)
  | a :: T => stepsR M [] a T
def okLists (n : Int) (L : List (List Int)) : Bool := (L.all fun l => decide ((l.length : Int) = n) && isPm l) && decide ((L.length : Int) ≤ 1100)
def fol (L : List S45) : List Int → List Int → List (List Int)
  | _, [] => []
  | now, k :: t => mv now (rd_T45 L k).f0 (rd_T45 L k).f1 (rd_T45 L k).f2 :: fol L (mv now (rd_T45 L k).f0 (rd_T45 L k).f1 (rd_T45 L k).f2) t
theorem fol_length (L : List S45) : ∀ (t now : List Int), (fol L now t).length = t.length
  | [], _ => rfl
  | k :: t, now => by simp [fol, fol_length L t]
theorem fol_mem (L : List S45) : ∀ (t now : List Int), ∀ l ∈ fol L now t, l.length = now.length
  | [], _, l, h => by simp [fol] at h
  | k :: t, now, l, h => by
    rw [fol, List.mem_cons] at h
    rcases h with rfl | h
    · exact mv_length _ _ _ _
    · rw [fol_mem L t _ l h, mv_length]
theorem rd_good (L : List S45) (P : S45 → Prop) (h : ∀ m ∈ L, P m) (k : Int) (h0 : 0 ≤ k) (h1 : k < L.length) : P (rd_T45 L k) := by
  have hl : k.toNat < L.length := by omega
  have e : rd_T45 L k = L[k.toNat] := by unfold rd_T45; rw [List.getD_eq_getElem?_getD, List.getElem?_eq_getElem hl]; rfl
  rw [e]; exact h _ (List.getElem_mem hl)
def cntR (o : List Int) : Int := (o.countP (fun x => decide (0 ≤ x)) : Nat)
theorem l1In_eq (x a b : Int) : spec_l1In.f x a b = some (decide (a ≤ x ∧ x ≤ b)) := by
  unfold spec_l1In.f
  by_cases h : x ≥ a
  · rw [if_pos h]; have h' : a ≤ x := h; simp [h']
  · rw [if_neg h]; have h' : ¬ a ≤ x := h; simp [h']
theorem moGood_eq (n c i j : Int) (h0 : 0 ≤ n) (hn : n ≤ 12) : spec_moGood.f n c i j = some (isMv n c i j) := by
  unfold spec_moGood.f isMv
  rw [wr (x := n - 1) (by omega) (by omega)]
  simp only [l1In_eq, Option.bind_some]
  by_cases c0 : c = 0
  · rw [if_pos c0]
    by_cases c1 : 1 ≤ j ∧ j ≤ n - 1
    · rw [if_pos (by simpa using c1), wr (by omega) (by omega)]
      congr 1; apply decide_eq_decide.2; omega
    · rw [if_neg (by simpa using c1)]
      congr 1; exact (decide_eq_false (by omega)).symm
  · rw [if_neg c0]
    by_cases c1 : c = 1
    · rw [if_pos c1]
      by_cases c3 : 2 ≤ i ∧ i ≤ n
      · rw [if_pos (by simpa using c3)]
        congr 1; rw [Bool.eq_iff_iff]; simp; omega
      · rw [if_neg (by simpa using c3)]
        congr 1; exact (decide_eq_false (by omega)).symm
    · rw [if_neg c1]
      by_cases c2 : c = 2
      · rw [if_pos c2]
        by_cases c3 : 2 ≤ i ∧ i ≤ n
        · rw [if_pos (by simpa using c3)]
          congr 1; rw [Bool.eq_iff_iff]; simp; omega
        · rw [if_neg (by simpa using c3)]
          congr 1; exact (decide_eq_false (by omega)).symm
      · rw [if_neg c2]
        congr 1; exact (decide_eq_false (by omega)).symm
def okTask (n : Int) (l : List S45) : Bool := (l.all fun m => isMv n m.f0 m.f1 m.f2) && (decide (1 ≤ n ∧ n ≤ 5) && decide ((l.length : Int) ≤ 12))
theorem moGood_some (n a b c : Int) : spec_moGood.f n a b c = some ((spec_moGood.f n a b c).getD false) := by
  unfold spec_moGood.f
  simp only [l1In_eq, Option.bind_some]
  repeat' split
  all_goals rfl
theorem moTask_l0 (n : Int) (g : S45 → Bool) (hg : ∀ m : S45, spec_moGood.f n m.f0 m.f1 m.f2 = some (g m)) (l : List S45) (hl : l.length ≤ 1048576) : ∀ (d : Nat) (i : Int), 0 ≤ i → i.toNat + d = l.length →
    Ev (fun k => spec_moTask.l0 k n l l (l.length : Int) i) (((l.drop i.toNat).all g) && (decide (1 ≤ n ∧ n ≤ 5) && decide ((l.length : Int) ≤ 12))) := by
  intro d
  induction d with
  | zero =>
    intro i h0 hd
    refine Ev.step (fun k => by rw [spec_moTask.l0]) ?_
    rw [List.drop_of_length_le (by omega)]
    refine evNeg (by omega) ?_
    rw [l1In_eq]
    refine evSome ?_
    by_cases c : 1 ≤ n ∧ n ≤ 5
    · exact evPos (by simpa using c) (evEq (by simp [c]))
    · refine evNeg (by simpa using c) (evEq ?_)
      rw [decide_eq_false c]; simp
  | succ d ih =>
    intro i h0 hd
    refine Ev.step (fun k => by rw [spec_moTask.l0]) ?_
    refine evPos (by omega) (evPos h0 (evPos (by omega) ?_))
    rw [hg, wr (by omega) (by omega), List.drop_eq_getElem_cons (show i.toNat < l.length by omega), List.all_cons]
    have e : rd_T45 l i = l[i.toNat] := by unfold rd_T45; rw [List.getD_eq_getElem?_getD, List.getElem?_eq_getElem (by omega)]; rfl
    rw [e]
    refine evSome ?_
    by_cases c : g l[i.toNat] = true
    · refine evPos c (evTo (ih (i + 1) (by omega) (by omega)) ?_)
      rw [c, show (i + 1).toNat = i.toNat + 1 by omega]; simp
    · refine evNeg c (evEq ?_)
      rw [Bool.eq_false_iff.mpr c]; simp
theorem moTask_ev (n : Int) (l : List S45) (hl : l.length ≤ 1048576) : Ev (fun k => spec_moTask.f k n l) (okTask n l) := by
  unfold spec_moTask.f okTask
  by_cases c : 1 ≤ n ∧ n ≤ 5
  · exact evTo (moTask_l0 n (fun m => isMv n m.f0 m.f1 m.f2) (fun m => moGood_eq n _ _ _ (by omega) (by omega)) l hl l.length 0 (by omega) (by simp)) (by simp)
  · refine evTo (moTask_l0 n _ (fun m => moGood_some n m.f0 m.f1 m.f2) l hl l.length 0 (by omega) (by simp)) ?_
    rw [decide_eq_false c]; simp
theorem raFactorial_tab : ((List.range 13).all fun n => spec_raFactorial.f 20 (n : Int) == some (fac n : Int)) = true := by decide +kernel
theorem raFactorial_ev (n : Nat) (hn : n ≤ 12) : Ev (fun r => spec_raFactorial.f r (n : Int)) (fac n : Int) := by
  refine evTab (g := fun r => spec_raFactorial.f r (n : Int)) (spec_raFactorial.mono _) 20 ?_
  exact beq_iff_eq.1 (List.all_eq_true.1 raFactorial_tab n (List.mem_range.2 (by omega)))
theorem l1Own_eq (l : List Int) (hn : l.length ≤ 10000000000000) : spec_l1Own.f l = some l := by
  unfold spec_l1Own.f
  simp only [Option.bind_some, List.nil_append, List.length_nil, Nat.zero_add]
  rw [if_pos (by omega)]
theorem moApply_l0 (l : List Int) (hl : l.length ≤ 1000) (b : Int) (hb : b ≤ l.length) (a c : Int) : ∀ (d : Nat) (x5 : List Int) (i : Int), 0 ≤ i → i + d = b → x5.length = l.length → x5.take i.toNat = (l.take b.toNat).reverse.take i.toNat → x5.drop i.toNat = l.drop i.toNat →
    Ev (fun k => spec_moApply.l0 k l x5 i a b c) ((l.take b.toNat).reverse ++ l.drop b.toNat) := by
  intro d
  induction d with
  | zero =>
    intro x5 i h0 hi h5 ht hd
    refine Ev.step (fun k => by rw [spec_moApply.l0]) ?_
    refine evNeg (by omega) (evEq ?_)
    obtain rfl : i = b := by omega
    rw [← List.take_append_drop i.toNat x5, ht, hd, List.take_of_length_le (by rw [List.length_reverse, List.length_take]; omega)]
  | succ d ih =>
    intro x5 i h0 hi h5 ht hd
    refine Ev.step (fun k => by rw [spec_moApply.l0]) ?_
    simp (disch := omega) only [wr]
    refine evPos (by omega) (evPos (by omega) (evPos (by omega) (evPos (by omega) (evPos (by omega) ?_))))
    refine ih _ (i + 1) (by omega) (by omega) (by simpa using h5) ?_ ?_
    · rw [set_takeI _ _ _ h0 (by omega), ht, show (i + 1).toNat = i.toNat + 1 by omega, List.take_add_one, List.getElem?_reverse (by rw [List.length_take]; omega), List.length_take, show min b.toNat l.length - 1 - i.toNat = (b - 1 - i).toNat by omega, List.getElem?_take, if_pos (by omega)]
      unfold rd
      rw [List.getD_eq_getElem?_getD, List.getElem?_eq_getElem (show (b - 1 - i).toNat < l.length by omega)]
      rfl
    · rw [show (i + 1).toNat = i.toNat + 1 by omega, List.drop_set_of_lt (by omega), ← List.drop_drop, ← List.drop_drop, hd]
theorem moApply_l1 (l : List Int) (hl : l.length ≤ 1000) (b : Int) (hb0 : 1 ≤ b) (hb : b ≤ l.length) (a c : Int) : ∀ (d : Nat) (x5 : List Int) (i : Int), 0 ≤ i → i + d = b → x5.length = l.length → x5.take i.toNat = ((l.take b.toNat).drop 1 ++ (l.take b.toNat).take 1).take i.toNat → x5.drop i.toNat = l.drop i.toNat →
    Ev (fun k => spec_moApply.l1 k l x5 i a b c) ((l.take b.toNat).drop 1 ++ (l.take b.toNat).take 1 ++ l.drop b.toNat) := by
  intro d
  have hlen : ((l.take b.toNat).drop 1 ++ (l.take b.toNat).take 1).length = b.toNat := by
    simp; omega
  induction d with
  | zero =>
    intro x5 i h0 hi h5 ht hd
    refine Ev.step (fun k => by rw [spec_moApply.l1]) ?_
    refine evNeg (by omega) (evEq ?_)
    obtain rfl : i = b := by omega
    rw [← List.take_append_drop i.toNat x5, ht, hd, List.take_of_length_le (by omega)]
  | succ d ih =>
    intro x5 i h0 hi h5 ht hd
    refine Ev.step (fun k => by rw [spec_moApply.l1]) ?_
    simp (disch := omega) only [wr]
    rw [Int.tmod_eq_emod_of_nonneg (by omega)]
    have hm : (i + 1) % b = if i + 1 < b then i + 1 else 0 := by
      split
      · exact Int.emod_eq_of_lt (by omega) (by omega)
      · rw [show i + 1 = b by omega, Int.emod_self]
    rw [hm]
    refine evPos (by omega) (evNeg (by omega) (evPos (by split <;> omega) (evPos (by split <;> omega) (evPos (by omega) (evPos (by omega) ?_)))))
    refine ih _ (i + 1) (by omega) (by omega) (by simpa using h5) ?_ ?_
    · rw [set_takeI _ _ _ h0 (by omega), ht, show (i + 1).toNat = i.toNat + 1 by omega, List.take_add_one (l := _ ++ _)]
      congr 1
      unfold rd
      by_cases c : i + 1 < b
      · rw [if_pos c, List.getElem?_append_left (by simp; omega), List.getElem?_drop, List.getElem?_take, if_pos (by omega), show 1 + i.toNat = (i + 1).toNat by omega, List.getD_eq_getElem?_getD, List.getElem?_eq_getElem (by omega)]
        rfl
      · rw [if_neg c, List.getElem?_append_right (by simp; omega)]
        have e : i.toNat - ((l.take b.toNat).drop 1).length = 0 := by simp; omega
        rw [e, List.getElem?_take, if_pos (by omega), List.getElem?_take, if_pos (by omega), List.getD_eq_getElem?_getD, show (0 : Int).toNat = 0 from rfl, List.getElem?_eq_getElem (show 0 < l.length by omega)]
        rfl
    · rw [show (i + 1).toNat = i.toNat + 1 by omega, List.drop_set_of_lt (by omega), ← List.drop_drop, ← List.drop_drop, hd]
theorem moApply_ev (l : List Int) (hl : l.length ≤ 1000) (a b c : Int) (hg : Mgood l.length a b c) : Ev (fun q => spec_moApply.f q l a b c) (mv l a b c) := by
  unfold spec_moApply.f
  rw [l1Own_eq l (by omega)]
  refine evSome ?_
  rcases hg with ⟨rfl, h1, h2, h3⟩ | ⟨rfl, h1, h2, rfl⟩ | ⟨rfl, h1, h2, rfl⟩
  · exact evPos rfl (evPos (by omega) (evPos (by omega) (evPos (by omega) (evPos (by omega) (evPos (by omega) (evPos (by omega) (evEq rfl)))))))
  · refine evNeg (by decide) (evPos rfl ?_)
    refine evTo (moApply_l0 l hl b h2 1 0 b.toNat l 0 (by omega) (by omega) rfl (by simp) (by simp)) (by simp [mv])
  · refine evNeg (by decide) (evNeg (by decide) ?_)
    refine evTo (moApply_l1 l hl b (by omega) h2 2 0 b.toNat l 0 (by omega) (by omega) rfl (by simp) (by simp)) (by simp [mv])
theorem l1Same_l0 (a b : List Int) (hn : a.length ≤ 35184372088832) (hb : a.length = b.length) : ∀ (d : Nat) (j : Int), 0 ≤ j → j.toNat + d = a.length →
    Ev (fun k => spec_l1Same.l0 k a b (a.length : Int) j) (decide (a.drop j.toNat = b.drop j.toNat)) := by
  intro d
  induction d with
  | zero =>
    intro j h0 hd
    refine Ev.step (fun k => by rw [spec_l1Same.l0]) ?_
    refine evNeg (by omega) ?_
    rw [drop_end a j (by omega), drop_end b j (by omega)]
    exact evEq rfl
  | succ d ih =>
    intro j h0 hd
    refine Ev.step (fun k => by rw [spec_l1Same.l0]) ?_
    refine evPos (by omega) (evPos (by omega) (evPos (by omega) (evPos (by omega) ?_)))
    rw [wr (by omega) (by omega), drop_rd a j h0 (by omega), drop_rd b j h0 (by omega)]
    by_cases c : rd a j = rd b j
    · refine evPos c (evTo (ih _ (by omega) (by omega)) ?_)
      simp [c]
    · refine evNeg c (evEq ?_)
      simp [c]
theorem l1Same_ev (a b : List Int) (hn : a.length ≤ 35184372088832) : Ev (fun k => spec_l1Same.f k a b) (decide (a = b)) := by
  unfold spec_l1Same.f
  by_cases hb : a.length = b.length
  · exact evPos (by omega) (l1Same_l0 a b hn hb a.length 0 (by omega) (by simp))
  · refine evNeg (by omega) (evEq ?_)
    exact (decide_eq_false (fun e => hb (by rw [e]))).symm
theorem raPlace_l0 (l : List Int) (L : List (List Int)) (hL : L.length ≤ 1000000000) (hl : ∀ t ∈ L, t.length ≤ 35184372088832) : ∀ (d : Nat) (j : Int), 0 ≤ j → j.toNat + d = L.length →
    Ev (fun k => spec_raPlace.l0 k l L (L.length : Int) j) (placeI l j (L.drop j.toNat)) := by
  intro d
  induction d with
  | zero =>
    intro j h0 hd
    refine Ev.step (fun k => by rw [spec_raPlace.l0]) ?_
    refine evNeg (by omega) ?_
    rw [drop_end L j (by omega)]
    exact evEq rfl
  | succ d ih =>
    intro j h0 hd
    refine Ev.step (fun k => by rw [spec_raPlace.l0]) ?_
    have hm : rd_L2 L j ∈ L := by
      unfold rd_L2
      rw [List.getD_eq_getElem?_getD, List.getElem?_eq_getElem (show j.toNat < L.length by omega)]
      exact List.getElem_mem _
    refine evPos (by omega) (evPos (by omega) (evPos (by omega) (Ev.bind (l1Same_ev _ l (hl _ hm)) ?_)))
    have hcons : L.drop j.toNat = rd_L2 L j :: L.drop (j + 1).toNat := dropD [] L j h0 (by omega)
    rw [wr (by omega) (by omega), hcons, placeI]
    by_cases c : rd_L2 L j = l
    · rw [if_pos c]; exact evPos (decide_eq_true c) (Ev.now _)
    · rw [if_neg c]; exact evNeg (by simpa using c) (ih _ (by omega) (by omega))
theorem raPlace_ev (L : List (List Int)) (l : List Int) (hL : L.length ≤ 1000000000) (hl : ∀ t ∈ L, t.length ≤ 35184372088832) : Ev (fun k => spec_raPlace.f k L l) (placeI l 0 L) := by
  unfold spec_raPlace.f
  exact evTo (raPlace_l0 l L hL hl L.length 0 (by omega) (by simp)) (by simp)
theorem raUpTo_l0 (n : Nat) (hn : n ≤ 1000000000) : ∀ (d : Nat) (j : Int), 0 ≤ j → j.toNat + d = n → Ev (fun k => spec_raUpTo.l0 k (n : Int) (upTo j.toNat) j) (upTo n) := by
  intro d
  induction d with
  | zero =>
    intro j h0 hd
    refine Ev.step (fun k => by rw [spec_raUpTo.l0]) ?_
    exact evNeg (by omega) (evEq (by rw [show j.toNat = n from by omega]))
  | succ d ih =>
    intro j h0 hd
    refine Ev.step (fun k => by rw [spec_raUpTo.l0]) ?_
    refine evPos (by omega) (evPos (by rw [upTo_length]; omega) ?_)
    have h := ih (j + 1) (by omega) (by omega)
    rw [show (j + 1).toNat = j.toNat + 1 from by omega, upTo_succ, Int.toNat_of_nonneg h0] at h
    rw [wr (by omega) (by omega)]
    exact h
theorem raUpTo_ev (n : Nat) (hn : n ≤ 1000000000) : Ev (fun k => spec_raUpTo.f k (n : Int)) (upTo n) := by
  unfold spec_raUpTo.f
  exact raUpTo_l0 n hn n 0 (by omega) (by simp)
theorem within_eq (x a b : Int) : impl_within.f x a b = some (decide (a ≤ x ∧ x ≤ b)) := by
  unfold impl_within.f
  by_cases h : x ≥ a
  · rw [if_pos h]; have h' : a ≤ x := h; simp [h']
  · rw [if_neg h]; have h' : ¬ a ≤ x := h; simp [h']
theorem isMove_eq (n c i j : Int) (h0 : 0 ≤ n) (hn : n ≤ 12) : impl_isMove.f n c i j = some (isMv n c i j) := by
  unfold impl_isMove.f isMv
  simp only [within_eq, Option.bind_some]
  by_cases c0 : c = 0
  · rw [if_pos c0]
    by_cases c1 : 0 ≤ i
    · rw [if_pos c1]
      by_cases c2 : i < j
      · rw [if_pos c2]; congr 1; apply decide_eq_decide.2; omega
      · rw [if_neg c2]; congr 1; exact (decide_eq_false (by omega)).symm
    · rw [if_neg c1]; congr 1; exact (decide_eq_false (by omega)).symm
  · rw [if_neg c0]
    by_cases c1 : c = 1
    · rw [if_pos c1]
      by_cases c3 : 2 ≤ i ∧ i ≤ n
      · rw [if_pos (by simpa using c3)]
        congr 1; rw [Bool.eq_iff_iff]; simp; omega
      · rw [if_neg (by simpa using c3)]
        congr 1; exact (decide_eq_false (by omega)).symm
    · rw [if_neg c1]
      by_cases c2 : c = 2
      · rw [if_pos c2]
        by_cases c3 : 2 ≤ i ∧ i ≤ n
        · rw [if_pos (by simpa using c3)]
          congr 1; rw [Bool.eq_iff_iff]; simp; omega
        · rw [if_neg (by simpa using c3)]
          congr 1; exact (decide_eq_false (by omega)).symm
      · rw [if_neg c2]
        congr 1; exact (decide_eq_false (by omega)).symm
theorem isMove_some (n a b c : Int) : impl_isMove.f n a b c = some ((impl_isMove.f n a b c).getD false) := by
  unfold impl_isMove.f
  simp only [within_eq, Option.bind_some]
  repeat' split
  all_goals rfl
theorem areMoves_l0 (n : Int) (g : S45 → Bool) (hg : ∀ m : S45, impl_isMove.f n m.f0 m.f1 m.f2 = some (g m)) (l : List S45) (hl : l.length ≤ 1048576) : ∀ (d : Nat) (i : Int), 0 ≤ i → i.toNat + d = l.length →
    Ev (fun k => impl_areMoves.l0 k n l l (l.length : Int) i) (((l.drop i.toNat).all g) && (decide (1 ≤ n ∧ n ≤ 5) && decide ((l.length : Int) ≤ 12))) := by
  intro d
  induction d with
  | zero =>
    intro i h0 hd
    refine Ev.step (fun k => by rw [impl_areMoves.l0]) ?_
    rw [List.drop_of_length_le (by omega)]
    refine evNeg (by omega) ?_
    rw [within_eq]
    refine evSome ?_
    by_cases c : 1 ≤ n ∧ n ≤ 5
    · exact evPos (by simpa using c) (evEq (by simp [c]))
    · refine evNeg (by simpa using c) (evEq ?_)
      rw [decide_eq_false c]; simp
  | succ d ih =>
    intro i h0 hd
    refine Ev.step (fun k => by rw [impl_areMoves.l0]) ?_
    refine evPos (by omega) (evPos h0 (evPos (by omega) ?_))
    rw [hg, wr (by omega) (by omega), List.drop_eq_getElem_cons (show i.toNat < l.length by omega), List.all_cons]
    have e : rd_T45 l i = l[i.toNat] := by unfold rd_T45; rw [List.getD_eq_getElem?_getD, List.getElem?_eq_getElem (by omega)]; rfl
    rw [e]
    refine evSome ?_
    by_cases c : g l[i.toNat] = true
    · refine evPos c (evTo (ih (i + 1) (by omega) (by omega)) ?_)
      rw [c, show (i + 1).toNat = i.toNat + 1 by omega]; simp
    · refine evNeg c (evEq ?_)
      rw [Bool.eq_false_iff.mpr c]; simp
theorem areMoves_ev (n : Int) (l : List S45) (hl : l.length ≤ 1048576) : Ev (fun k => impl_areMoves.f k n l) (okTask n l) := by
  unfold impl_areMoves.f okTask
  by_cases c : 1 ≤ n ∧ n ≤ 5
  · exact evTo (areMoves_l0 n (fun m => isMv n m.f0 m.f1 m.f2) (fun m => isMove_eq n _ _ _ (by omega) (by omega)) l hl l.length 0 (by omega) (by simp)) (by simp)
  · refine evTo (areMoves_l0 n _ (fun m => isMove_some n m.f0 m.f1 m.f2) l hl l.length 0 (by omega) (by simp)) ?_
    rw [decide_eq_false c]; simp
theorem identity_l0 (n : Nat) (hn : n ≤ 1000000000) : ∀ (d : Nat) (j : Int), 0 ≤ j → j.toNat + d = n → Ev (fun k => impl_identity.l0 k (upTo j.toNat) (n : Int) j) (upTo n) := by
  intro d
  induction d with
  | zero =>
    intro j h0 hd
    refine Ev.step (fun k => by rw [impl_identity.l0]) ?_
    exact evNeg (by omega) (evEq (by rw [show j.toNat = n from by omega]))
  | succ d ih =>
    intro j h0 hd
    refine Ev.step (fun k => by rw [impl_identity.l0]) ?_
    refine evPos (by omega) (evPos (by rw [upTo_length]; omega) ?_)
    have h := ih (j + 1) (by omega) (by omega)
    rw [show (j + 1).toNat = j.toNat + 1 from by omega, upTo_succ, Int.toNat_of_nonneg h0] at h
    rw [wr (by omega) (by omega)]
    exact h
theorem identity_ev (n : Nat) (hn : n ≤ 1000000000) : Ev (fun k => impl_identity.f k (n : Int)) (upTo n) := by
  unfold impl_identity.f
  exact identity_l0 n hn n 0 (by omega) (by simp)
theorem factorial_tab : ((List.range 13).all fun n => impl_factorial.f 20 (n : Int) == some (fac n : Int)) = true := by decide +kernel
theorem factorial_ev (n : Nat) (hn : n ≤ 12) : Ev (fun r => impl_factorial.f r (n : Int)) (fac n : Int) := by
  refine evTab (g := fun r => impl_factorial.f r (n : Int)) (impl_factorial.mono _) 20 ?_
  exact beq_iff_eq.1 (List.all_eq_true.1 factorial_tab n (List.mem_range.2 (by omega)))
theorem copied_eq (l : List Int) (hn : l.length ≤ 10000000000000) : impl_copied.f l = some l := by
  unfold impl_copied.f
  simp only [Option.bind_some, List.nil_append, List.length_nil, Nat.zero_add]
  rw [if_pos (by omega)]
theorem moved_r0 : ∀ (n : Nat) (p m s : List Int), m.length ≤ n → Ev (fun k => impl_moved.r0 k (p ++ m ++ s) (p.length : Int) ((p.length : Int) + m.length - 1)) (p ++ m.reverse ++ s) := by
  intro n
  induction n with
  | zero =>
    intro p m s hm
    obtain rfl : m = [] := List.length_eq_zero_iff.1 (by omega)
    refine Ev.step (fun q => by rw [impl_moved.r0]) ?_
    exact evNeg (by simp; omega) (evEq (by simp))
  | succ n ih =>
    intro p m s hm
    refine Ev.step (fun q => by rw [impl_moved.r0]) ?_
    match m, hm with
    | [], _ => exact evNeg (by simp; omega) (evEq (by simp))
    | [x], _ => exact evNeg (by simp) (evEq (by simp))
    | x :: y :: t, hm =>
      obtain ⟨u, z, hz⟩ : ∃ u z, y :: t = u ++ [z] := ⟨(y :: t).dropLast, (y :: t).getLast (by simp), (List.dropLast_concat_getLast (by simp)).symm⟩
      rw [hz]
      have hl : u.length + 1 = t.length + 1 := by have := congrArg List.length hz; simp at this; omega
      simp only [List.length_cons] at hm
      refine evPos (by simp; omega) ?_
      have e1 : (p.length : Int).toNat = p.length := Int.toNat_natCast _
      have e2 : ((p.length : Int) + ((x :: (u ++ [z])).length : Nat) - 1).toNat = p.length + u.length + 1 := by simp; omega
      have r1 : rd (p ++ x :: (u ++ [z]) ++ s) (p.length : Int) = x := by
        unfold rd; rw [e1]; simp
      have r2 : rd (p ++ x :: (u ++ [z]) ++ s) ((p.length : Int) + ((x :: (u ++ [z])).length : Nat) - 1) = z := by
        unfold rd; rw [e2]
        rw [List.getD_eq_getElem?_getD, List.append_assoc, List.getElem?_append_right (by omega), show p.length + u.length + 1 - p.length = u.length + 1 by omega]
        simp
      rw [r1, r2, e1, e2]
      have hset : ((p ++ x :: (u ++ [z]) ++ s).set p.length z).set (p.length + u.length + 1) x = (p ++ [z]) ++ u ++ ([x] ++ s) := by
        rw [List.append_assoc p, List.set_append_right _ _ (by omega), Nat.sub_self, List.cons_append, List.set_cons_zero, List.set_append_right _ _ (by omega), show p.length + u.length + 1 - p.length = u.length + 1 by omega, List.set_cons_succ]
        rw [List.append_assoc u, List.set_append_right _ _ (by omega), Nat.sub_self]
        simp
      rw [hset]
      refine evTo (Ev.congr (fun k => ?_) (ih (p ++ [z]) u ([x] ++ s) (by omega))) ?_
      · congr 1
        · simp
        · simp; omega
      · simp
theorem moved_ev (l : List Int) (hl : l.length ≤ 1000) (a b c : Int) (hg : Mgood l.length a b c) : Ev (fun q => impl_moved.f q l a b c) (mv l a b c) := by
  unfold impl_moved.f
  rw [copied_eq l (by omega)]
  refine evSome (evPos (by omega) ?_)
  rcases hg with ⟨rfl, h1, h2, h3⟩ | ⟨rfl, h1, h2, rfl⟩ | ⟨rfl, h1, h2, rfl⟩
  · exact evPos rfl (evPos (by omega) (evPos (by omega) (evPos (by omega) (evPos (by omega) (evEq rfl)))))
  · refine evNeg (by decide) (evPos rfl (evPos (by omega) (evPos (by omega) ?_)))
    have h := moved_r0 b.toNat [] (l.take b.toNat) (l.drop b.toNat) (by rw [List.length_take]; omega)
    rw [List.length_take, show min b.toNat l.length = b.toNat by omega] at h
    refine evTo (Ev.congr (fun k => ?_) h) (by simp [mv])
    rw [List.nil_append, List.take_append_drop]
    congr 1
    simp; omega
  · refine evNeg (by decide) (evNeg (by decide) (evPos rfl (evPos (by omega) (evPos (by omega) (evEq ?_)))))
    obtain ⟨n, hn⟩ : ∃ n : Nat, b = (n : Int) + 1 := ⟨b.toNat - 1, by omega⟩
    subst hn
    rw [show ((n : Int) + 1).toNat = n + 1 by omega, show ((n : Int) + 1 - 1).toNat = n by omega]
    match l, h2 with
    | x :: t, h2 =>
      simp at h2
      have e : rd (x :: t) 0 = x := rfl
      rw [e]
      simp only [mv, List.take_succ_cons, List.drop_succ_cons, List.drop_zero]
      rw [show ((n : Int) + 1).toNat = n + 1 by omega]
      simp only [List.take_succ_cons, List.drop_succ_cons, List.drop_zero, List.take_zero]
      rw [if_neg (by decide), if_neg (by decide)]
      have hd : (x :: t).drop n = (x :: t)[n]'(by simp; omega) :: t.drop n := by
        rw [List.drop_eq_getElem_cons (by simp; omega)]; simp
      rw [hd, List.set_append_right _ _ (by rw [List.length_take]; omega), List.length_take, show n - min n t.length = 0 by omega]
      simp
theorem permutationRank_tab : ((List.range 6).all fun n => (List.range (facN n)).all fun r => impl_permutationRank.f 60 (PA n r) == some (r : Int)) = true := by decide +kernel
theorem permutationRank_ev (n r : Nat) (hn : n ≤ 5) (hr : r < facN n) : Ev (fun q => impl_permutationRank.f q (PA n r)) (r : Int) := by
  refine evTab (g := fun q => impl_permutationRank.f q (PA n r)) (impl_permutationRank.mono _) 60 ?_
  exact beq_iff_eq.1 (List.all_eq_true.1 (List.all_eq_true.1 permutationRank_tab n (List.mem_range.2 (by omega))) r (List.mem_range.2 hr))
def rkM (X : List (List Int)) : List Int := (X.map (fun l => (Moves.rk l : Int))).reverse
theorem rkM_snoc (X : List (List Int)) (l : List Int) : rkM (X ++ [l]) = (Moves.rk l : Int) :: rkM X := by simp [rkM]
theorem rkM_length (X : List (List Int)) : (rkM X).length = X.length := by simp [rkM]
theorem rkM_mem {n : Nat} (hn : n ≤ 5) {X : List (List Int)} (hX : ∀ t ∈ X, isPm t = true ∧ t.length = n) {l : List Int} (h1 : isPm l = true) (h2 : l.length = n) : (Moves.rk l : Int) ∈ rkM X ↔ l ∈ X := by
  unfold rkM
  rw [List.mem_reverse, List.mem_map]
  constructor
  · rintro ⟨t, ht, e⟩
    have := rk_inj hn (hX t ht).1 (hX t ht).2 h1 h2 (by exact_mod_cast e)
    exact this ▸ ht
  · intro h
    exact ⟨l, h, rfl⟩
theorem rkM_nodup {n : Nat} (hn : n ≤ 5) {X : List (List Int)} (hX : ∀ t ∈ X, isPm t = true ∧ t.length = n) (hd : X.Nodup) : (rkM X).Nodup := by
  unfold rkM
  unfold List.Nodup
  rw [List.pairwise_reverse, List.pairwise_map]
  exact List.Pairwise.imp_of_mem (fun {a b} ha hb hab e => hab (rk_inj hn (hX a ha).1 (hX a ha).2 (hX b hb).1 (hX b hb).2 (by exact_mod_cast e.symm))) hd
theorem big_eq (a b : List Int) : ∃ t, laws_big.f a b = some t ∧ (t = false → a.length ≤ 1048576 ∧ b.length ≤ 1048576) := by
  unfold laws_big.f
  by_cases c : (a.length : Int) > 1048576
  · exact ⟨true, by rw [if_pos c], fun h => by cases h⟩
  · rw [if_neg c, wr (by omega) (by omega)]
    exact ⟨_, rfl, fun h => by have := of_decide_eq_false h; omega⟩
theorem u64_lt (x : Int) : 0 ≤ IntKind.u64.wrap x ∧ IntKind.u64.wrap x < 18446744073709551616 := by rw [IntKind.wrap_u64]; omega
theorem low8 (x : Int) : 0 ≤ wrap64 (Go.bits .and .u64 (IntKind.u64.wrap x / 1099511627776) 255) ∧ wrap64 (Go.bits .and .u64 (IntKind.u64.wrap x / 1099511627776) 255) ≤ 255 := by
  have hu := u64_lt x
  generalize IntKind.u64.wrap x = y at hu ⊢
  have h := Go.bits_mask .u64 63 (by decide) (fun n h0 h1 => by rw [IntKind.wrap_u64]; omega) 8 (by decide) (y / 1099511627776) (by omega) (by omega)
  have e : ((2 : Int) ^ 8 - 1) = 255 := by decide
  have e2 : ((2 : Int) ^ 8) = 256 := by decide
  rw [e, e2] at h
  rw [h, wr (by omega) (by omega)]
  omega
def Byt (l : List Int) : Prop := l.length ≤ 2000000 ∧ ∀ x ∈ l, 0 ≤ x ∧ x ≤ 255
theorem byt_of {l : List Int} (h1 : l.length ≤ 1048576) (h2 : ∀ x ∈ l, (Lit.int .u8 x).wf = true) : Byt l := by
  refine ⟨by omega, fun x hx => ?_⟩
  have := h2 x hx
  simp [Lit.wf, IntKind.min, IntKind.max, IntKind.signed, IntKind.bits] at this
  omega
theorem cur_next (l : List Int) (hl : Byt l) (a s : Int) (h0 : 0 ≤ a) (h1 : a ≤ 1000000000000) : ∃ v s', spec_l1Cur_next.f l a s = some (v, a + 1, s') ∧ 0 ≤ v ∧ v ≤ 255 := by
  obtain ⟨hn, hb⟩ := hl
  unfold spec_l1Cur_next.f
  rw [wr (x := a + 1) (by omega) (by omega)]
  by_cases c : a < l.length
  · have hr := hb (rd l a) (by rw [rd_get l a (by omega)]; exact List.getElem_mem _)
    rw [if_pos c, if_pos h0, if_pos (by omega)]
    refine ⟨_, _, rfl, ?_⟩
    rw [wr (by omega) (by omega)]
    exact hr
  · rw [if_neg c, if_neg (by omega)]
    exact ⟨_, _, rfl, low8 _⟩
theorem cur_pick (l : List Int) (hl : Byt l) (a s n : Int) (h0 : 0 ≤ a) (h1 : a ≤ 900000000000) : ∃ v a' s', spec_l1Cur_pick.f l a s n = some (v, a', s') ∧ a ≤ a' ∧ a' ≤ a + 2 ∧ 0 ≤ v ∧ (v = 0 ∨ v < n) := by
  unfold spec_l1Cur_pick.f
  by_cases c : n ≤ 1
  · rw [if_pos c]; exact ⟨_, _, _, rfl, by omega, by omega, by omega, .inl rfl⟩
  rw [if_neg c]
  obtain ⟨v, s', e, h2, h3⟩ := cur_next l hl a s h0 (by omega)
  rw [e]
  simp only [Option.bind_some]
  by_cases c2 : n > 200
  · rw [if_pos c2]
    obtain ⟨v2, s2, e2, h4, h5⟩ := cur_next l hl (a + 1) s' (by omega) (by omega)
    rw [e2]
    simp only [Option.bind_some]
    rw [if_neg (by omega), wr (x := v * 256) (by omega) (by omega), wr (by omega) (by omega)]
    exact ⟨_, _, _, rfl, by omega, by omega, Int.tmod_nonneg _ (by omega), .inr (Int.tmod_lt_of_pos _ (by omega))⟩
  · rw [if_neg c2, if_neg (by omega)]
    exact ⟨_, _, _, rfl, by omega, by omega, Int.tmod_nonneg _ (by omega), .inr (Int.tmod_lt_of_pos _ (by omega))⟩
theorem cur_among (l : List Int) (hl : Byt l) (a s : Int) (xs : List Int) (hx : 0 < xs.length) (h0 : 0 ≤ a) (h1 : a ≤ 900000000000) : ∃ v a' s', spec_l1Cur_among.f l a s xs = some (v, a', s') ∧ a ≤ a' ∧ a' ≤ a + 2 ∧ v ∈ xs := by
  unfold spec_l1Cur_among.f
  obtain ⟨v, a', s', e, h2, h3, h4, h5⟩ := cur_pick l hl a s (xs.length : Int) h0 h1
  rw [e]
  simp only [Option.bind_some]
  rw [if_pos h4, if_pos (by omega)]
  refine ⟨_, _, _, rfl, h2, h3, ?_⟩
  rw [rd_get xs v (by omega)]
  exact List.getElem_mem _
theorem cur_one (l : List Int) (hl : Byt l) (a s n : Int) (h0 : 0 ≤ a) (h1 : a ≤ 900000000000) : ∃ b a' s', spec_l1Cur_one.f l a s n = some (b, a', s') ∧ a ≤ a' ∧ a' ≤ a + 2 := by
  unfold spec_l1Cur_one.f
  obtain ⟨v, a', s', e, h2, h3, h4, h5⟩ := cur_pick l hl a s n h0 h1
  rw [e]
  simp only [Option.bind_some]
  exact ⟨_, _, _, rfl, h2, h3⟩
theorem move_j0b (l : List Int) (hl : Byt l) (n : Int) (b : Bool) (a s : Int) (h0 : 0 ≤ a) (h1 : a ≤ 600000000000) : ∃ x y z a' s', Ev (fun k => spec_l1Cur_move.j0 k n b l a s) (x, y, z, a', s') ∧ a ≤ a' ∧ a' ≤ a + 6 := by
  cases b
  · obtain ⟨v, a1, s1, e, g1, g2, g3, g4⟩ := cur_pick l hl a s 3 h0 (by omega)
    obtain ⟨v2, a2, s2, e2, g5, g6, _, _⟩ := cur_pick l hl a1 s1 (wrap64 (n - 1)) (by omega) (by omega)
    by_cases c : v = 0
    · obtain ⟨v3, a3, s3, e3, g7, g8, _, _⟩ := cur_pick l hl a2 s2 (wrap64 (1 + v2)) (by omega) (by omega)
      refine ⟨0, v3, wrap64 (1 + v2), a3, s3, Ev.step (fun k => by rw [spec_l1Cur_move.j0]) (evNeg (by simp) ?_), by omega, by omega⟩
      rw [e]
      refine evSome (evPos c ?_)
      rw [e2]
      refine evSome ?_
      rw [e3]
      exact evSome (Ev.now _)
    · by_cases c2 : v = 1
      · refine ⟨1, wrap64 (2 + v2), 0, a2, s2, Ev.step (fun k => by rw [spec_l1Cur_move.j0]) (evNeg (by simp) ?_), by omega, by omega⟩
        rw [e]
        refine evSome (evNeg c (evPos c2 ?_))
        rw [e2]
        exact evSome (Ev.now _)
      · refine ⟨2, wrap64 (2 + v2), 0, a2, s2, Ev.step (fun k => by rw [spec_l1Cur_move.j0]) (evNeg (by simp) ?_), by omega, by omega⟩
        rw [e]
        refine evSome (evNeg c (evNeg c2 ?_))
        rw [e2]
        exact evSome (Ev.now _)
  · obtain ⟨v, a1, s1, e, g1, g2, _⟩ := cur_among l hl a s [-1, 0, 1, 2, 3] (by simp) h0 (by omega)
    obtain ⟨v2, a2, s2, e2, g3, g4, _⟩ := cur_among l hl a1 s1 [-1, 0, 1, 2, 99] (by simp) (by omega) (by omega)
    obtain ⟨v3, a3, s3, e3, g5, g6, _⟩ := cur_among l hl a2 s2 [0, 1, -9223372036854775808] (by simp) (by omega) (by omega)
    refine ⟨v, v2, v3, a3, s3, Ev.step (fun k => by rw [spec_l1Cur_move.j0]) (evPos rfl ?_), by omega, by omega⟩
    rw [e]
    refine evSome ?_
    rw [e2]
    refine evSome ?_
    rw [e3]
    exact evSome (Ev.now _)
theorem cur_move_b (l : List Int) (hl : Byt l) (a s n : Int) (h0 : 0 ≤ a) (h1 : a ≤ 500000000000) : ∃ x y z a' s', Ev (fun k => spec_l1Cur_move.f k l a s n) (x, y, z, a', s') ∧ a ≤ a' ∧ a' ≤ a + 8 := by
  unfold spec_l1Cur_move.f
  obtain ⟨b, a1, s1, e, g1, g2⟩ := cur_one l hl a s 40 h0 (by omega)
  by_cases c : b = true
  · obtain ⟨x, y, z, a', s', h, g3, g4⟩ := move_j0b l hl n true a1 s1 (by omega) (by omega)
    refine ⟨x, y, z, a', s', ?_, by omega, by omega⟩
    rw [e]
    exact evSome (evPos c h)
  · obtain ⟨x, y, z, a', s', h, g3, g4⟩ := move_j0b l hl n (decide (n < 2)) a1 s1 (by omega) (by omega)
    refine ⟨x, y, z, a', s', ?_, by omega, by omega⟩
    rw [e]
    exact evSome (evNeg c h)
theorem moves_l1 (l : List Int) (hl : Byt l) (n : Int) : ∀ (d : Nat) (M : List S45) (a s : Int), M.length + d = 13 → 0 ≤ a → a ≤ 400000000000 - 20 * d →
    ∃ M' a' s', Ev (fun k => spec_l1Cur_moves.l1 k n M l a s) (n, M', a', s') ∧ M'.length ≤ 100 ∧ 0 ≤ a' ∧ a' ≤ a + 20 * d + 2 := by
  intro d
  induction d with
  | zero =>
    intro M a s hM h0 h1
    obtain ⟨v, a1, s1, e, g1, g2, g3, g4⟩ := cur_pick l hl a s 2 h0 (by omega)
    refine ⟨M, a1, s1, Ev.step (fun k => by rw [spec_l1Cur_moves.l1]) ?_, by omega, by omega, by omega⟩
    rw [e]
    refine evSome (evNeg (by rw [wr (by omega) (by omega)]; omega) (Ev.now _))
  | succ d ih =>
    intro M a s hM h0 h1
    obtain ⟨v, a1, s1, e, g1, g2, g3, g4⟩ := cur_pick l hl a s 2 h0 (by omega)
    by_cases c : (M.length : Int) < wrap64 (12 + v)
    · by_cases c2 : n > 1
      · obtain ⟨x, y, z, a2, s2, e2, g5, g6⟩ := cur_move_b l hl a1 s1 n (by omega) (by omega)
        obtain ⟨M', a', s', h, q1, q2, q3⟩ := ih (M ++ [⟨x, y, z⟩]) a2 s2 (by simp; omega) (by omega) (by omega)
        refine ⟨M', a', s', Ev.step (fun k => by rw [spec_l1Cur_moves.l1]) ?_, q1, q2, by omega⟩
        rw [e]
        exact evSome (evPos c (evPos c2 (Ev.bind e2 (evPos (by omega) h))))
      · refine ⟨M, a1, s1, Ev.step (fun k => by rw [spec_l1Cur_moves.l1]) ?_, by omega, by omega, by omega⟩
        rw [e]
        exact evSome (evPos c (evNeg c2 (Ev.now _)))
    · refine ⟨M, a1, s1, Ev.step (fun k => by rw [spec_l1Cur_moves.l1]) ?_, by omega, by omega, by omega⟩
      rw [e]
      exact evSome (evNeg c (Ev.now _))
theorem moves_l2 (l : List Int) (n : Int) (hn : n ≤ 6) (a s : Int) : ∀ (d : Nat) (M : List S45) (i : Int), (n - i).toNat = d → 1 ≤ i → i ≤ 10 → (M.length : Int) ≤ i →
    ∃ M', Ev (fun k => spec_l1Cur_moves.l2 k n M i l a s) (n, M', a, s) ∧ M'.length ≤ 100 := by
  intro d
  induction d with
  | zero =>
    intro M i hd h1 h2 hM
    exact ⟨M, Ev.step (fun k => by rw [spec_l1Cur_moves.l2]) (evNeg (by omega) (Ev.now _)), by omega⟩
  | succ d ih =>
    intro M i hd h1 h2 hM
    obtain ⟨M', h, q⟩ := ih (M ++ [⟨0, wrap64 (i - 1), i⟩]) (i + 1) (by omega) (by omega) (by omega) (by simp; omega)
    refine ⟨M', Ev.step (fun k => by rw [spec_l1Cur_moves.l2]) (evPos (by omega) (evPos (by omega) ?_)), q⟩
    rw [wr (x := i + 1) (by omega) (by omega)]
    exact h
theorem moves_l3 (l : List Int) (n : Int) (hn : n ≤ 6) (a s : Int) : ∀ (d : Nat) (M : List S45) (i : Int), (n + 1 - i).toNat = d → 1 ≤ i → i ≤ 10 → (M.length : Int) ≤ i →
    ∃ M', Ev (fun k => spec_l1Cur_moves.l3 k n M i l a s) (n, M', a, s) ∧ M'.length ≤ 100 := by
  intro d
  induction d with
  | zero =>
    intro M i hd h1 h2 hM
    exact ⟨M, Ev.step (fun k => by rw [spec_l1Cur_moves.l3]) (evNeg (by omega) (Ev.now _)), by omega⟩
  | succ d ih =>
    intro M i hd h1 h2 hM
    obtain ⟨M', h, q⟩ := ih (M ++ [⟨1, i, 0⟩]) (i + 1) (by omega) (by omega) (by omega) (by simp; omega)
    refine ⟨M', Ev.step (fun k => by rw [spec_l1Cur_moves.l3]) (evPos (by omega) (evPos (by omega) ?_)), q⟩
    rw [wr (x := i + 1) (by omega) (by omega)]
    exact h
theorem moves_j5 (l : List Int) (n : Int) (hn : n ≤ 6) (M : List S45) (hM : M.length ≤ 100) (b : Bool) (a s : Int) : ∃ M', Ev (fun k => spec_l1Cur_moves.j5 k n M b l a s) (n, M', a, s) ∧ M'.length ≤ 100 := by
  cases b
  · exact ⟨M, Ev.step (fun k => by rw [spec_l1Cur_moves.j5]) (evNeg (by simp) (Ev.now _)), hM⟩
  · obtain ⟨M', h, q⟩ := moves_l3 l n hn a s _ [] 2 rfl (by omega) (by omega) (by simp)
    exact ⟨M', Ev.step (fun k => by rw [spec_l1Cur_moves.j5]) (evPos rfl h), q⟩
theorem moves_j3 (l : List Int) (n : Int) (hn : n ≤ 6) (M : List S45) (hM : M.length ≤ 100) (v : Int) (b : Bool) (a s : Int) : ∃ M', Ev (fun k => spec_l1Cur_moves.j3 k n M v b l a s) (n, M', a, s) ∧ M'.length ≤ 100 := by
  cases b
  · by_cases c : v = 5
    · obtain ⟨M', h, q⟩ := moves_j5 l n hn M hM (v == 5) a s
      exact ⟨M', Ev.step (fun k => by rw [spec_l1Cur_moves.j3]) (evNeg (by simp) (evPos c h)), q⟩
    · obtain ⟨M', h, q⟩ := moves_j5 l n hn M hM (v == 6) a s
      exact ⟨M', Ev.step (fun k => by rw [spec_l1Cur_moves.j3]) (evNeg (by simp) (evNeg c h)), q⟩
  · obtain ⟨M', h, q⟩ := moves_l2 l n hn a s _ [] 1 rfl (by omega) (by omega) (by simp)
    exact ⟨M', Ev.step (fun k => by rw [spec_l1Cur_moves.j3]) (evPos rfl h), q⟩
theorem moves_j1 (l : List Int) (hl : Byt l) (n : Int) (hn : n ≤ 6) (M : List S45) (hM : M.length ≤ 13) (a s : Int) (h0 : 0 ≤ a) (h1 : a ≤ 300000000000) : ∃ n' M' a' s', Ev (fun k => spec_l1Cur_moves.j1 k n M l a s) (n', M', a', s') ∧ M'.length ≤ 100 ∧ 0 ≤ a' ∧ a' ≤ a + 1000 := by
  obtain ⟨v, a1, s1, e, g1, g2, g3, g4⟩ := cur_pick l hl a s 16 h0 (by omega)
  by_cases c0 : v = 0
  · obtain ⟨v2, a2, s2, e2, g5, g6, _⟩ := cur_among l hl a1 s1 [-1, 0, 5, 6] (by simp) (by omega) (by omega)
    refine ⟨v2, M, a2, s2, Ev.step (fun k => by rw [spec_l1Cur_moves.j1]) ?_, by omega, by omega, by omega⟩
    rw [e]
    refine evSome (evPos c0 ?_)
    rw [e2]
    exact evSome (Ev.now _)
  by_cases c1 : v = 1
  · obtain ⟨M', a', s', h, q1, q2, q3⟩ := moves_l1 l hl n (13 - M.length) M a1 s1 (by omega) (by omega) (by omega)
    refine ⟨n, M', a', s', Ev.step (fun k => by rw [spec_l1Cur_moves.j1]) ?_, q1, q2, by omega⟩
    rw [e]
    exact evSome (evNeg c0 (evPos c1 h))
  have h3 := fun b => moves_j3 l n hn M (by omega) v b a1 s1
  by_cases c2 : v = 2
  · obtain ⟨M', h, q⟩ := h3 (v == 2)
    refine ⟨n, M', a1, s1, Ev.step (fun k => by rw [spec_l1Cur_moves.j1]) ?_, q, by omega, by omega⟩
    rw [e]
    exact evSome (evNeg c0 (evNeg c1 (evPos c2 h)))
  by_cases c3 : v = 3
  · obtain ⟨M', h, q⟩ := h3 (v == 3)
    refine ⟨n, M', a1, s1, Ev.step (fun k => by rw [spec_l1Cur_moves.j1]) ?_, q, by omega, by omega⟩
    rw [e]
    exact evSome (evNeg c0 (evNeg c1 (evNeg c2 (evPos c3 h))))
  · obtain ⟨M', h, q⟩ := h3 (v == 4)
    refine ⟨n, M', a1, s1, Ev.step (fun k => by rw [spec_l1Cur_moves.j1]) ?_, q, by omega, by omega⟩
    rw [e]
    exact evSome (evNeg c0 (evNeg c1 (evNeg c2 (evNeg c3 h))))
theorem moves_l0 (l : List Int) (hl : Byt l) (n : Int) (hn : n ≤ 6) : ∀ (d : Nat) (M : List S45) (x a s : Int), x.toNat = d → x ≤ 8 → M.length + d ≤ 13 → 0 ≤ a → a ≤ 200000000000 - 20 * d →
    ∃ n' M' a' s', Ev (fun k => spec_l1Cur_moves.l0 k n M x l a s) (n', M', a', s') ∧ M'.length ≤ 100 ∧ 0 ≤ a' ∧ a' ≤ a + 20 * d + 1000 := by
  intro d
  induction d with
  | zero =>
    intro M x a s hx hx8 hM h0 h1
    obtain ⟨n', M', a', s', h, q1, q2, q3⟩ := moves_j1 l hl n hn M (by omega) a s h0 (by omega)
    exact ⟨n', M', a', s', Ev.step (fun k => by rw [spec_l1Cur_moves.l0]) (evNeg (by omega) h), q1, q2, by omega⟩
  | succ d ih =>
    intro M x a s hx hx8 hM h0 h1
    by_cases c : n > 1
    · obtain ⟨x1, y, z, a2, s2, e2, g5, g6⟩ := cur_move_b l hl a s n (by omega) (by omega)
      obtain ⟨n', M', a', s', h, q1, q2, q3⟩ := ih (M ++ [⟨x1, y, z⟩]) (x - 1) a2 s2 (by omega) (by omega) (by simp; omega) (by omega) (by omega)
      refine ⟨n', M', a', s', Ev.step (fun k => by rw [spec_l1Cur_moves.l0]) (evPos (by omega) (evPos c (Ev.bind e2 ?_))), q1, q2, by omega⟩
      refine evPos (by omega) ?_
      rw [wr (x := x - 1) (by omega) (by omega)]
      exact h
    · obtain ⟨n', M', a', s', h, q1, q2, q3⟩ := moves_j1 l hl n hn M (by omega) a s h0 (by omega)
      exact ⟨n', M', a', s', Ev.step (fun k => by rw [spec_l1Cur_moves.l0]) (evPos (by omega) (evNeg c h)), q1, q2, by omega⟩
theorem cur_moves (l : List Int) (hl : Byt l) (a s : Int) (h0 : 0 ≤ a) (h1 : a ≤ 100000000000) : ∃ n M a' s', Ev (fun k => spec_l1Cur_moves.f k l a s) (n, M, a', s') ∧ M.length ≤ 100 ∧ 0 ≤ a' ∧ a' ≤ a + 2000 := by
  unfold spec_l1Cur_moves.f
  obtain ⟨n, a1, s1, e1, g1, g2, g3⟩ := cur_among l hl a s [1, 2, 3, 3, 4, 4, 5] (by simp) h0 (by omega)
  obtain ⟨m, a2, s2, e2, g4, g5, g6⟩ := cur_among l hl a1 s1 [2, 4, 5] (by simp) (by omega) (by omega)
  obtain ⟨v, a3, s3, e3, g7, g8, g9, g10⟩ := cur_pick l hl a2 s2 m (by omega) (by omega)
  have hn : n ≤ 6 := by simp at g3; omega
  have hm : m ≤ 5 := by simp at g6; omega
  obtain ⟨n', M', a', s', h, q1, q2, q3⟩ := moves_l0 l hl n hn v.toNat [] v a3 s3 rfl (by omega) (by simp; omega) (by omega) (by omega)
  refine ⟨n', M', a', s', ?_, q1, q2, by omega⟩
  rw [e1]
  refine evSome ?_
  rw [e2]
  refine evSome ?_
  rw [e3]
  exact evSome h
theorem drawGreedyList_ev (l : List Int) (hl : Byt l) : ∃ n M, Ev (fun k => spec_DrawGreedyList.f k l) (n, M) ∧ M.length ≤ 100 := by
  obtain ⟨n, M, a', s', h, q1, q2, q3⟩ := cur_moves l hl 0 0 (by omega) (by omega)
  unfold spec_DrawGreedyList.f
  exact ⟨n, M, Ev.bind h (Ev.now _), q1⟩
theorem drawDistancesFrom_ev (l : List Int) (hl : Byt l) : ∃ n M, Ev (fun k => spec_DrawDistancesFrom.f k l) (n, M) ∧ M.length ≤ 100 := by
  obtain ⟨n, M, h, q1⟩ := drawGreedyList_ev l hl
  unfold spec_DrawDistancesFrom.f
  exact ⟨n, M, Ev.bind h (Ev.now _), q1⟩
theorem permutationAt_tab : ((List.range 6).all fun n => (List.range (facN n)).all fun r => impl_permutationAt.f 40 (n : Int) (r : Int) == some (PA n r)) = true := by decide +kernel
theorem permutationAt_ev (n r : Nat) (hn : n ≤ 5) (hr : r < facN n) : Ev (fun q => impl_permutationAt.f q (n : Int) (r : Int)) (PA n r) := by
  refine evTab (g := fun q => impl_permutationAt.f q (n : Int) (r : Int)) (impl_permutationAt.mono _ _) 40 ?_
  exact beq_iff_eq.1 (List.all_eq_true.1 (List.all_eq_true.1 permutationAt_tab n (List.mem_range.2 (by omega))) r (List.mem_range.2 hr))
theorem raRank_tab : ((List.range 6).all fun n => (List.range (facN n)).all fun r => spec_raRank.f 60 (PA n r) == some (r : Int)) = true := by decide +kernel
theorem raRank_ev (n r : Nat) (hn : n ≤ 5) (hr : r < facN n) : Ev (fun q => spec_raRank.f q (PA n r)) (r : Int) := by
  refine evTab (g := fun q => spec_raRank.f q (PA n r)) (spec_raRank.mono _) 60 ?_
  exact beq_iff_eq.1 (List.all_eq_true.1 (List.all_eq_true.1 raRank_tab n (List.mem_range.2 (by omega))) r (List.mem_range.2 hr))
theorem fac_facN : ∀ n, fac n = facN n
  | 0 => rfl
  | n + 1 => by rw [fac, facN, fac_facN n]
theorem facN_le : ∀ n, n ≤ 5 → facN n ≤ 120 ∧ 1 ≤ facN n := by decide
def ints (R : List Nat) : List Int := R.map fun (r : Nat) => (r : Int)
def sx (n q : Nat) (m : S45) : Nat := Moves.rk (mv (PA n q) m.f0 m.f1 m.f2)
def Gof (M : List S45) (a b c : Int) : Prop := ∃ m ∈ M, m.f0 = a ∧ m.f1 = b ∧ m.f2 = c
theorem rd_setN (out : List Int) (r s : Nat) (v : Int) (hr : r < out.length) : rd (out.set r v) (s : Int) = if s = r then v else rd out (s : Int) := by
  unfold rd
  rw [Int.toNat_natCast, List.getD_eq_getElem?_getD, List.getD_eq_getElem?_getD, List.getElem?_set]
  by_cases c : r = s
  · subst c; rw [if_pos rfl, if_pos hr, if_pos rfl]; rfl
  · rw [if_neg c, if_neg (fun e => c e.symm)]
structure Inv (n : Nat) (M : List S45) (out : List Int) (R : List Nat) (i : Nat) : Prop where
  len : out.length = facN n
  ranks : ∀ r ∈ R, r < facN n
  vals : ∀ x ∈ out, -1 ≤ x ∧ x < R.length
  sum : out.countP (fun x => decide (x < 0)) + R.length = facN n
  mem : ∀ r, r < facN n → (0 ≤ rd out (r : Int) ↔ r ∈ R)
  nd : R.Nodup
  zero : rd out ((0 : Nat) : Int) = 0
  srt : ∀ a b ra rb : Nat, a ≤ b → R[a]? = some ra → R[b]? = some rb → rd out (ra : Int) ≤ rd out (rb : Int)
  top : ∀ q, R[i]? = some q → ∀ r ∈ R, rd out (r : Int) ≤ rd out (q : Int) + 1
  don : ∀ k q, k < i → R[k]? = some q → ∀ m ∈ M, 0 ≤ rd out (sx n q m : Int) ∧ rd out (sx n q m : Int) ≤ rd out (q : Int) + 1
  rch : ∀ r ∈ R, Rch (Gof M) (upTo n) (PA n r)
theorem some_lt {α : Type} {R : List α} {i : Nat} {q : α} (h : R[i]? = some q) : i < R.length := by
  rcases Nat.lt_or_ge i R.length with h' | h'
  · exact h'
  · rw [List.getElem?_eq_none h'] at h; cases h
theorem Inv.step {n : Nat} {M : List S45} {out : List Int} {R : List Nat} {i q : Nat} (h : Inv n M out R i) (hq : R[i]? = some q) (m : S45) (hm : m ∈ M) (r : Nat) (hr : r < facN n) (hpa : PA n r = mv (PA n q) m.f0 m.f1 m.f2) (hneg : rd out (r : Int) < 0) (v : Int) (hve : v = rd out (q : Int) + 1) (h0 : 0 ≤ v) (hv : v ≤ R.length) : Inv n M (out.set r v) (R ++ [r]) i := by
  have hl := h.len
  have hro : r < out.length := by omega
  have hnr : r ∉ R := fun hx => by have := (h.mem r hr).2 hx; omega
  have hil := some_lt hq
  have hqm : q ∈ R := List.mem_of_getElem? hq
  have hne : ∀ s : Nat, 0 ≤ rd out (s : Int) → s ≠ r := fun s hs e => by subst e; omega
  have hneR : ∀ s ∈ R, s ≠ r := fun s hs e => hnr (e ▸ hs)
  have hset := fun s => rd_setN out r s v hro
  have hg : rd out (r : Int) = out[r] := by unfold rd; rw [Int.toNat_natCast, List.getD_eq_getElem?_getD, List.getElem?_eq_getElem hro]; rfl
  have hneg' := hneg
  rw [hg] at hneg'
  have hcase : ∀ a ra, (R ++ [r])[a]? = some ra → (R[a]? = some ra ∧ ra ∈ R) ∨ (a = R.length ∧ ra = r) := by
    intro a ra e
    rcases Nat.lt_or_ge a R.length with h' | h'
    · rw [List.getElem?_append_left h'] at e
      exact .inl ⟨e, List.mem_of_getElem? e⟩
    · have := some_lt e
      rw [List.length_append, List.length_singleton] at this
      have ea : a = R.length := by omega
      subst ea
      rw [List.getElem?_append_right (Nat.le_refl _), Nat.sub_self] at e
      exact .inr ⟨rfl, by simpa using e.symm⟩
  refine ⟨by simpa using hl, fun q hq => ?_, fun x hx => ?_, ?_, fun s hs => ?_, ?_, ?_, fun a b ra rb hab ea eb => ?_, fun q' hq' s hs => ?_, fun k q' hk hq' m' hm' => ?_, fun s hs => ?_⟩
  · rcases List.mem_append.1 hq with hq | hq
    · exact h.ranks q hq
    · rw [List.mem_singleton.1 hq]; exact hr
  · rcases List.mem_or_eq_of_mem_set hx with hx | rfl
    · have := h.vals x hx
      rw [List.length_append, List.length_singleton]; omega
    · rw [List.length_append, List.length_singleton]; omega
  · have hs := h.sum
    rw [List.countP_set hro, List.length_append, List.length_singleton]
    have hp : 0 < out.countP (fun x => decide (x < 0)) := List.countP_pos_iff.2 ⟨out[r], List.getElem_mem _, by simpa using hneg'⟩
    simp only [decide_eq_true hneg', if_true, decide_eq_false (show ¬ v < 0 by omega)]
    simp; omega
  · rw [hset s, List.mem_append, List.mem_singleton]
    by_cases c : s = r
    · rw [if_pos c]; exact ⟨fun _ => .inr c, fun _ => h0⟩
    · rw [if_neg c, h.mem s hs]; exact ⟨fun h => .inl h, fun h => h.resolve_right c⟩
  · rw [List.nodup_append]
    refine ⟨h.nd, by simp, fun a ha b hb e => ?_⟩
    rw [List.mem_singleton.1 hb] at e
    exact hnr (e ▸ ha)
  · rw [hset 0, if_neg (hne 0 (by rw [h.zero]; omega)), h.zero]
  · rw [hset, hset]
    rcases hcase a ra ea with ⟨ea, ma⟩ | ⟨ea, rfl⟩
    · rw [if_neg (hneR ra ma)]
      rcases hcase b rb eb with ⟨eb, mb⟩ | ⟨eb, rfl⟩
      · rw [if_neg (hneR rb mb)]; exact h.srt a b ra rb hab ea eb
      · rw [if_pos rfl, hve]; exact h.top q hq ra ma
    · rcases hcase b rb eb with ⟨eb, mb⟩ | ⟨eb, rfl⟩
      · have := some_lt eb; omega
      · exact Int.le_refl _
  · rw [List.getElem?_append_left hil, hq] at hq'
    obtain rfl : q = q' := by simpa using hq'
    rw [hset, hset, if_neg (hneR q hqm)]
    rcases List.mem_append.1 hs with hs | hs
    · rw [if_neg (hneR s hs)]; exact h.top q hq s hs
    · rw [List.mem_singleton.1 hs, if_pos rfl, hve]; exact Int.le_refl _
  · rw [List.getElem?_append_left (by omega)] at hq'
    have h1 := h.don k q' hk hq' m' hm'
    rw [hset, hset, if_neg (hneR q' (List.mem_of_getElem? hq')), if_neg (hne _ h1.1)]
    exact h1
  · rcases List.mem_append.1 hs with hs | hs
    · exact h.rch s hs
    · rw [List.mem_singleton.1 hs, hpa]
      exact .step _ _ _ ⟨m, hm, rfl, rfl, rfl⟩ (h.rch q hqm)
structure DFin (n : Nat) (M : List S45) (o : List Int) (R : List Nat) : Prop where
  len : o.length = facN n
  vals : ∀ x ∈ o, -1 ≤ x ∧ x ≤ 1000
  ranks : ∀ r ∈ R, r < facN n
  sum : o.countP (fun x => decide (x < 0)) + R.length = facN n
  mem : ∀ r, r < facN n → (0 ≤ rd o (r : Int) ↔ r ∈ R)
  nd : R.Nodup
  zero : rd o ((0 : Nat) : Int) = 0
  don : ∀ q ∈ R, ∀ m ∈ M, 0 ≤ rd o (sx n q m : Int) ∧ rd o (sx n q m : Int) ≤ rd o (q : Int) + 1
  rch : ∀ r ∈ R, Rch (Gof M) (upTo n) (PA n r)
theorem Inv.fin {n : Nat} {M : List S45} {out : List Int} {R : List Nat} {i : Nat} (hn : n ≤ 5) (h : Inv n M out R i) (hi : R.length ≤ i) : DFin n M out R := by
  have hf := facN_le n hn
  have hs := h.sum
  refine ⟨h.len, fun x hx => ?_, h.ranks, h.sum, h.mem, h.nd, h.zero, fun q hq m hm => ?_, h.rch⟩
  · have := h.vals x hx; omega
  · obtain ⟨k, hk, e⟩ := List.getElem_of_mem hq
    exact h.don k q (by omega) (by rw [List.getElem?_eq_getElem hk, e]) m hm
theorem dist_inner (n : Nat) (hn : n ≤ 5) (M : List S45) (hM : ∀ m ∈ M, Mgood n m.f0 m.f1 m.f2) (hML : M.length ≤ 12) (i q : Nat) (hq : q < facN n) (P : List Int → Prop) : ∀ (d : Nat) (j : Int), 0 ≤ j → j.toNat + d = M.length →
    ∀ (out : List Int) (R : List Nat), Inv n M out R i → R[i]? = some q → (∀ m ∈ M.take j.toNat, 0 ≤ rd out (sx n q m : Int) ∧ rd out (sx n q m : Int) ≤ rd out (q : Int) + 1) →
    (∀ out' R', Inv n M out' R' i → R'[i]? = some q → (∀ m ∈ M, 0 ≤ rd out' (sx n q m : Int) ∧ rd out' (sx n q m : Int) ≤ rd out' (q : Int) + 1) → ∃ o, Ev (fun k => spec_moDistances.l1 k M out' (R'.map (PA n)) ((i : Int) + 1)) o ∧ Ev (fun k => impl_distances.l1 k (n : Int) M out' (ints R') ((i : Int) + 1)) o ∧ P o) →
    ∃ o, Ev (fun k => spec_moDistances.l2 k M out (R.map (PA n)) (i : Int) M (M.length : Int) j) o ∧ Ev (fun k => impl_distances.l2 k (n : Int) M out (ints R) (i : Int) (PA n q) M (M.length : Int) j) o ∧ P o := by
  intro d
  have hf := facN_le n hn
  induction d with
  | zero =>
    intro j h0 hd out R hI hR hcur hK
    have hil : i < R.length := by
      rcases Nat.lt_or_ge i R.length with h | h
      · exact h
      · rw [List.getElem?_eq_none h] at hR; cases hR
    have hs := hI.sum
    rw [List.take_of_length_le (by omega)] at hcur
    obtain ⟨o, h1, h2, hP⟩ := hK out R hI hR hcur
    refine ⟨o, Ev.step (fun k => by rw [spec_moDistances.l2]) (evNeg (by omega) ?_), Ev.step (fun k => by rw [impl_distances.l2]) (evNeg (by omega) ?_), hP⟩
    · rw [wr (by omega) (by omega)]; exact h1
    · rw [wr (by omega) (by omega)]; exact h2
  | succ d ih =>
    intro j h0 hd out R hI hR hcur hK
    have hil : i < R.length := by
      rcases Nat.lt_or_ge i R.length with h | h
      · exact h
      · rw [List.getElem?_eq_none h] at hR; cases hR
    have hs := hI.sum
    have hol := hI.len
    have hm : rd_T45 M j ∈ M := by
      unfold rd_T45
      rw [List.getD_eq_getElem?_getD, List.getElem?_eq_getElem (show j.toNat < M.length by omega)]
      exact List.getElem_mem _
    have hg := hM _ hm
    have htk : M.take (j + 1).toNat = M.take j.toNat ++ [rd_T45 M j] := takeD _ M j h0 (by omega)
    generalize hmm : rd_T45 M j = m at hg hm htk
    obtain ⟨hpl, _⟩ := PA_rk n q hn hq
    obtain ⟨hr, hpa⟩ := PA_mv n q hn hq m.f0 m.f1 m.f2 hg
    have hrow : rd_L2 (R.map (PA n)) (i : Int) = PA n q := by
      unfold rd_L2
      rw [Int.toNat_natCast, List.getD_eq_getElem?_getD, List.getElem?_map, hR]; rfl
    have hrq : rd (ints R) (i : Int) = (q : Int) := by
      unfold rd ints
      rw [Int.toNat_natCast, List.getD_eq_getElem?_getD, List.getElem?_map, hR]; rfl
    have hsx : sx n q m = Moves.rk (mv (PA n q) m.f0 m.f1 m.f2) := rfl
    generalize hr' : Moves.rk (mv (PA n q) m.f0 m.f1 m.f2) = r at hr hpa hsx
    have ea := moApply_ev (PA n q) (by omega) m.f0 m.f1 m.f2 (by rw [hpl]; exact hg)
    have em := moved_ev (PA n q) (by omega) m.f0 m.f1 m.f2 (by rw [hpl]; exact hg)
    rw [← hpa] at ea em
    have e1 := raRank_ev n r hn hr
    have e2 := permutationRank_ev n r hn hr
    have e3 := raRank_ev n q hn hq
    have hil2 : (ints R).length = R.length := by simp [ints]
    have hmem (s : Nat) (hs : s < facN n) : rd out (s : Int) ∈ out := by
      unfold rd
      rw [Int.toNat_natCast, List.getD_eq_getElem?_getD, List.getElem?_eq_getElem (by omega)]
      exact List.getElem_mem _
    by_cases c : rd out (r : Int) < 0
    · have hvq := hI.vals _ (hmem q hq)
      have hqv : 0 ≤ rd out (q : Int) + 1 := by omega
      obtain ⟨o, h1, h2, hP⟩ := ih (j + 1) (by omega) (by omega) (out.set r (rd out (q : Int) + 1)) (R ++ [r]) (hI.step hR m hm r hr hpa c _ rfl hqv (by omega)) (by rw [List.getElem?_append_left hil]; exact hR) (fun m' hm' => by
        have hq0 := (hI.mem q hq).2 (List.mem_of_getElem? hR)
        have hqr : q ≠ r := fun e => by subst e; omega
        rw [rd_setN out r _ _ (by omega), rd_setN out r q _ (by omega), if_neg hqr]
        rw [htk, List.mem_append, List.mem_singleton] at hm'
        rcases hm' with hm' | rfl
        · have h3 := hcur m' hm'
          rw [if_neg (fun e => by rw [e] at h3; omega)]
          exact h3
        · rw [if_pos hsx]; exact ⟨hqv, Int.le_refl _⟩) hK
      refine ⟨o, Ev.step (fun k => by rw [spec_moDistances.l2]) ?_, Ev.step (fun k => by rw [impl_distances.l2]) ?_, hP⟩
      · refine evPos (by omega) (evPos h0 (evPos (by omega) (evPos (by omega) (evPos (by simp; omega) ?_))))
        rw [hrow, hmm]
        refine Ev.bind ea (Ev.bind e1 (evPos (by omega) (evPos (by omega) (evPos c (Ev.bind e1 (Ev.bind e3 (evPos (by omega) (evPos (by omega) (evPos (by omega) (evPos (by omega) (evPos (by simp; omega) ?_)))))))))))
        rw [wr (by omega) (by omega), wr (by omega) (by omega), Int.toNat_natCast]
        simpa using h1
      · refine evPos (by omega) (evPos h0 (evPos (by omega) ?_))
        rw [hmm]
        refine Ev.bind em (Ev.bind e2 (evPos (by omega) (evPos (by omega) (evPos c (evPos (by omega) (evPos (by omega) ?_))))))
        rw [hrq]
        refine evPos (by omega) (evPos (by omega) (evPos (by omega) ?_))
        rw [wr (by omega) (by omega), wr (by omega) (by omega), Int.toNat_natCast]
        simpa [ints] using h2
    · obtain ⟨o, h1, h2, hP⟩ := ih (j + 1) (by omega) (by omega) out R hI hR (fun m' hm' => by
        rw [htk, List.mem_append, List.mem_singleton] at hm'
        rcases hm' with hm' | rfl
        · exact hcur m' hm'
        · rw [hsx]; exact ⟨by omega, hI.top q hR r ((hI.mem r hr).1 (by omega))⟩) hK
      refine ⟨o, Ev.step (fun k => by rw [spec_moDistances.l2]) ?_, Ev.step (fun k => by rw [impl_distances.l2]) ?_, hP⟩
      · refine evPos (by omega) (evPos h0 (evPos (by omega) (evPos (by omega) (evPos (by simp; omega) ?_))))
        rw [hrow, hmm]
        refine Ev.bind ea (Ev.bind e1 (evPos (by omega) (evPos (by omega) (evNeg c ?_))))
        rw [wr (by omega) (by omega)]
        exact h1
      · refine evPos (by omega) (evPos h0 (evPos (by omega) ?_))
        rw [hmm]
        refine Ev.bind em (Ev.bind e2 (evPos (by omega) (evPos (by omega) (evNeg c ?_))))
        rw [wr (by omega) (by omega)]
        exact h2
theorem dist_outer (n : Nat) (hn : n ≤ 5) (M : List S45) (hM : ∀ m ∈ M, Mgood n m.f0 m.f1 m.f2) (hML : M.length ≤ 12) : ∀ (d i : Nat), i + d = facN n → ∀ (out : List Int) (R : List Nat), Inv n M out R i → i ≤ R.length →
    ∃ o, Ev (fun k => spec_moDistances.l1 k M out (R.map (PA n)) (i : Int)) o ∧ Ev (fun k => impl_distances.l1 k (n : Int) M out (ints R) (i : Int)) o ∧ (∃ R, DFin n M o R) := by
  intro d
  have hf := facN_le n hn
  induction d with
  | zero =>
    intro i hi out R hI hiR
    have hs := hI.sum
    refine ⟨out, Ev.step (fun k => by rw [spec_moDistances.l1]) (evNeg (by simp; omega) (Ev.now _)), Ev.step (fun k => by rw [impl_distances.l1]) (evNeg (by simp [ints]; omega) (Ev.now _)), R, hI.fin hn (by omega)⟩
  | succ d ih =>
    intro i hi out R hI hiR
    have hs := hI.sum
    by_cases c : i < R.length
    · obtain ⟨q, hq⟩ : ∃ q, R[i]? = some q := ⟨_, List.getElem?_eq_getElem c⟩
      have hqf : q < facN n := hI.ranks q (List.mem_of_getElem? hq)
      obtain ⟨o, h1, h2, hP⟩ := dist_inner n hn M hM hML i q hqf (fun o => ∃ R, DFin n M o R) M.length 0 (by omega) (by simp) out R hI hq (by simp) (fun out' R' hI' hq' hcur => by
        have hil : i < R'.length := by
          rcases Nat.lt_or_ge i R'.length with h | h
          · exact h
          · rw [List.getElem?_eq_none h] at hq'; cases hq'
        have hI2 : Inv n M out' R' (i + 1) := by
          refine { hI' with top := fun q' e r hr => ?_, don := fun k q' hk e m hm => ?_ }
          · have h3 := hI'.srt i (i + 1) q q' (by omega) hq' e
            have h4 := hI'.top q hq' r hr
            omega
          · rcases Nat.lt_or_ge k i with hk' | hk'
            · exact hI'.don k q' hk' e m hm
            · obtain rfl : k = i := by omega
              rw [hq'] at e
              obtain rfl : q = q' := by simpa using e
              exact hcur m hm
        obtain ⟨o, h1, h2, hP⟩ := ih (i + 1) (by omega) out' R' hI2 (by omega)
        exact ⟨o, by simpa using h1, by simpa using h2, hP⟩)
      refine ⟨o, Ev.step (fun k => by rw [spec_moDistances.l1]) (evPos (by simp; omega) h1), Ev.step (fun k => by rw [impl_distances.l1]) (evPos (by simp [ints]; omega) (evPos (by omega) ?_)), hP⟩
      have hrq : rd (ints R) (i : Int) = (q : Int) := by
        unfold rd ints
        rw [Int.toNat_natCast, List.getD_eq_getElem?_getD, List.getElem?_map, hq]; rfl
      rw [hrq]
      exact Ev.bind (permutationAt_ev n q hn hqf) h2
    · refine ⟨out, Ev.step (fun k => by rw [spec_moDistances.l1]) (evNeg (by simp; omega) (Ev.now _)), Ev.step (fun k => by rw [impl_distances.l1]) (evNeg (by simp [ints]; omega) (Ev.now _)), R, hI.fin hn (by omega)⟩
theorem start_tab : ((List.range 6).all fun n => PA n 0 == upTo n && (((List.replicate (facN n) (-1 : Int)).set 0 0).countP (fun x => decide (x < 0)) + 1 == facN n)) = true := by decide +kernel
theorem start_inv (n : Nat) (hn : n ≤ 5) (M : List S45) : PA n 0 = upTo n ∧ Inv n M ((List.replicate (facN n) (-1)).set 0 0) [0] 0 := by
  have h := List.all_eq_true.1 start_tab n (List.mem_range.2 (by omega))
  simp only [Bool.and_eq_true, beq_iff_eq] at h
  have hf := facN_le n hn
  have h00 : rd ((List.replicate (facN n) (-1)).set 0 0) ((0 : Nat) : Int) = 0 := by rw [rd_setN _ 0 0 _ (by simp; omega), if_pos rfl]
  have hcase : ∀ a ra : Nat, [0][a]? = some ra → ra = 0 := by
    intro a ra e
    have := List.mem_of_getElem? e
    exact List.mem_singleton.1 this
  refine ⟨h.1, by simp, fun r hr => ?_, fun x hx => ?_, h.2, fun r hr => ?_, by simp, h00, fun a b ra rb hab ea eb => ?_, fun q hq r hr => ?_, fun k q hk => absurd hk (by omega), fun r hr => ?_⟩
  · rw [List.mem_singleton.1 hr]; omega
  · rcases List.mem_or_eq_of_mem_set hx with hx | rfl
    · rw [(List.mem_replicate.1 hx).2]; simp
    · simp
  · rw [rd_setN _ 0 r _ (by simp; omega), List.mem_singleton]
    by_cases c : r = 0
    · rw [if_pos c]; exact ⟨fun _ => c, fun _ => Int.le_refl _⟩
    · rw [if_neg c]
      have e : rd (List.replicate (facN n) (-1)) (r : Int) = -1 := by
        rw [rd_get _ _ (by simp; omega)]; simp
      rw [e]
      exact ⟨fun h => by omega, fun h => absurd h c⟩
  · rw [hcase a ra ea, hcase b rb eb]; exact Int.le_refl _
  · rw [hcase 0 q hq, List.mem_singleton.1 hr]; omega
  · rw [List.mem_singleton.1 hr, h.1]; exact .refl _
theorem spec_start (n : Nat) (hn : n ≤ 5) (M : List S45) (o : List Int) (h : Ev (fun k => spec_moDistances.l1 k M ((List.replicate (facN n) (-1)).set 0 0) ([0].map (PA n)) 0) o) : ∀ (d i : Nat), i + d = facN n →
    Ev (fun k => spec_moDistances.l0 k (n : Int) M (List.replicate i (-1)) (i : Int)) o := by
  intro d
  have hf := facN_le n hn
  induction d with
  | zero =>
    intro i hi
    refine Ev.step (fun k => by rw [spec_moDistances.l0]) ?_
    refine Ev.bind (raFactorial_ev n (by omega)) ?_
    rw [fac_facN]
    refine evNeg (by omega) (Ev.bind (raUpTo_ev n (by omega)) (evPos (by simp; omega) ?_))
    obtain rfl : i = facN n := by omega
    rw [← (start_inv n hn M).1]
    exact h
  | succ d ih =>
    intro i hi
    refine Ev.step (fun k => by rw [spec_moDistances.l0]) ?_
    refine Ev.bind (raFactorial_ev n (by omega)) ?_
    rw [fac_facN]
    refine evPos (by omega) (evPos (by simp; omega) ?_)
    rw [wr (by omega) (by omega)]
    have e : List.replicate i (-1 : Int) ++ [-1] = List.replicate (i + 1) (-1) := by rw [List.replicate_succ']
    rw [e]
    simpa using ih (i + 1) (by omega)
theorem impl_start (n : Nat) (hn : n ≤ 5) (M : List S45) (o : List Int) (h : Ev (fun k => impl_distances.l1 k (n : Int) M ((List.replicate (facN n) (-1)).set 0 0) [0] 0) o) : ∀ (d i : Nat), i + d = facN n → ∀ x : List Int, x.length = facN n → x.take i = List.replicate i (-1) →
    Ev (fun k => impl_distances.l0 k (n : Int) M x ((facN n : Nat) : Int) (i : Int)) o := by
  intro d
  have hf := facN_le n hn
  induction d with
  | zero =>
    intro i hi x hx ht
    refine Ev.step (fun k => by rw [impl_distances.l0]) ?_
    refine evNeg (by omega) (evPos (by omega) ?_)
    obtain rfl : i = facN n := by omega
    rw [List.take_of_length_le (by omega)] at ht
    rw [ht]
    exact h
  | succ d ih =>
    intro i hi x hx ht
    refine Ev.step (fun k => by rw [impl_distances.l0]) ?_
    refine evPos (by omega) (evPos (by omega) (evPos (by omega) ?_))
    rw [wr (by omega) (by omega), show (i : Int) + 1 = ((i + 1 : Nat) : Int) from by omega]
    refine ih (i + 1) (by omega) _ (by simpa using hx) ?_
    have := set_takeG x (i : Int) (-1) (by omega) (by omega)
    rw [show ((i : Int) + 1).toNat = i + 1 by omega, Int.toNat_natCast] at this
    rw [Int.toNat_natCast, this, ht, List.replicate_succ']
theorem distances_full (n : Nat) (hn : n ≤ 5) (M : List S45) (hM : ∀ m ∈ M, Mgood n m.f0 m.f1 m.f2) (hML : M.length ≤ 12) :
    ∃ o, Ev (fun k => spec_moDistances.f k (n : Int) M) o ∧ Ev (fun k => impl_distances.f k (n : Int) M) o ∧ ∃ R, DFin n M o R := by
  have hf := facN_le n hn
  obtain ⟨o, h1, h2, hP⟩ := dist_outer n hn M hM hML (facN n) 0 (by omega) _ [0] (start_inv n hn M).2 (by simp)
  refine ⟨o, ?_, ?_, hP⟩
  · unfold spec_moDistances.f
    exact spec_start n hn M o (by simpa using h1) (facN n) 0 (by omega)
  · unfold impl_distances.f
    refine Ev.bind (factorial_ev n (by omega)) ?_
    rw [fac_facN]
    refine evPos (by omega) (evPos (by omega) (evSome ?_))
    rw [List.length_replicate, Int.toNat_natCast]
    exact impl_start n hn M o (by simpa [ints] using h2) (facN n) 0 (by omega) _ (by simp) (by simp)
theorem impl_ReachCount_l0 (o : List Int) (ho : o.length ≤ 1000) : ∀ (d : Nat) (c i : Int), 0 ≤ i → i.toNat + d = o.length → 0 ≤ c → c ≤ i →
    Ev (fun k => impl_ReachCount.l0 k c o (o.length : Int) i) (c + cntR (o.drop i.toNat), true) := by
  intro d
  induction d with
  | zero =>
    intro c i h0 hd hc hci
    refine Ev.step (fun k => by rw [impl_ReachCount.l0]) ?_
    refine evNeg (by omega) (evEq ?_)
    rw [List.drop_of_length_le (by omega)]; simp [cntR]
  | succ d ih =>
    intro c i h0 hd hc hci
    refine Ev.step (fun k => by rw [impl_ReachCount.l0]) ?_
    refine evPos (by omega) (evPos h0 (evPos (by omega) ?_))
    simp (disch := omega) only [wr]
    have e := drop_rd o i h0 (by omega)
    by_cases c0 : rd o i ≥ 0
    · refine evPos c0 (evTo (ih (c + 1) (i + 1) (by omega) (by omega) (by omega) (by omega)) ?_)
      rw [e]; unfold cntR; rw [List.countP_cons_of_pos (by simpa using c0)]; simp; omega
    · refine evNeg c0 (evTo (ih c (i + 1) (by omega) (by omega) (by omega) (by omega)) ?_)
      rw [e]; unfold cntR; rw [List.countP_cons_of_neg (by simpa using c0)]
theorem AreEven_idx_ev (g : Nat → S45 → Option Bool) (p : S45 → Bool) (L : List S45) (hn : L.length ≤ 1048576) (hg : ∀ x ∈ L, Ev (fun k => g k x) (p x)) : ∀ (d : Nat) (i : Int), 0 ≤ i → i.toNat + d = L.length →
    Ev (fun k => impl_AreEven.idx g k L i) (pIdx p i (L.drop i.toNat)) := by
  intro d
  induction d with
  | zero =>
    intro i h0 hd
    refine Ev.step (fun k => by rw [impl_AreEven.idx]) ?_
    refine evNeg (by omega) (evEq ?_)
    rw [List.drop_of_length_le (by omega)]; rfl
  | succ d ih =>
    intro i h0 hd
    refine Ev.step (fun k => by rw [impl_AreEven.idx]) ?_
    have hil : i.toNat < L.length := by omega
    have e : rd_T45 L i = L[i.toNat] := by unfold rd_T45; rw [List.getD_eq_getElem?_getD, List.getElem?_eq_getElem hil]; rfl
    refine evPos (by omega) (evPos h0 ?_)
    rw [wr (by omega) (by omega), List.drop_eq_getElem_cons hil, pIdx, e]
    refine Ev.bind (hg _ (List.getElem_mem hil)) ?_
    by_cases c : p L[i.toNat] = true
    · rw [if_pos c]; exact evPos c (Ev.now _)
    · rw [if_neg c]
      refine evNeg c (evTo (ih (i + 1) (by omega) (by omega)) ?_)
      rw [show (i + 1).toNat = i.toNat + 1 from by omega]
def evenOk (n : Int) (a b c : Int) : Bool := match spec_moSign.f 100 a b c with | some s => impl_AreEven.g n 100 ⟨a, b, c⟩ == some (decide (s < 0)) | none => false
set_option maxRecDepth 100000 in
theorem even_tab : ((List.range 6).all fun n => (goods n).all fun m => evenOk (n : Int) m.1 m.2.1 m.2.2) = true := by decide +kernel
def negS (m : S45) : Bool := decide ((spec_moSign.f 100 m.f0 m.f1 m.f2).getD 0 < 0)
theorem neg_use (n : Nat) (hn : n ≤ 5) (m : S45) (hg : Mgood n m.f0 m.f1 m.f2) : (∃ s, Ev (fun q => spec_moSign.f q m.f0 m.f1 m.f2) s ∧ decide (s < 0) = negS m) ∧ Ev (fun q => impl_AreEven.g n q m) (negS m) := by
  have h := List.all_eq_true.1 (List.all_eq_true.1 even_tab n (List.mem_range.2 (by omega))) _ (good_mem n m.f0 m.f1 m.f2 hg)
  unfold evenOk at h
  cases hs : spec_moSign.f 100 m.f0 m.f1 m.f2 with
  | none => simp [hs] at h
  | some s =>
    simp only [hs, beq_iff_eq] at h
    have e : negS m = decide (s < 0) := by unfold negS; rw [hs]; rfl
    refine ⟨⟨s, evTab (g := fun q => spec_moSign.f q m.f0 m.f1 m.f2) (spec_moSign.mono _ _ _) 100 hs, e.symm⟩, ?_⟩
    rw [e]
    exact evTab (g := fun q => impl_AreEven.g n q m) (fun k => impl_AreEven.g_mono n k m) 100 h
theorem uSame_l0 (a : List Int) (hn : a.length ≤ 35184372088832) : ∀ (d : Nat) (j : Int), 0 ≤ j → j.toNat + d = a.length → Ev (fun k => laws_uSame.l0 k a a (a.length : Int) j) true := by
  intro d
  induction d with
  | zero =>
    intro j h0 hd
    refine Ev.step (fun k => by rw [laws_uSame.l0]) ?_
    exact evNeg (by omega) (Ev.now _)
  | succ d ih =>
    intro j h0 hd
    refine Ev.step (fun k => by rw [laws_uSame.l0]) ?_
    refine evPos (by omega) (evPos (by omega) (evPos (by omega) (evPos (by omega) (evPos rfl ?_))))
    rw [wr (by omega) (by omega)]
    exact ih _ (by omega) (by omega)
theorem uSame_self (a : List Int) (hn : a.length ≤ 35184372088832) : Ev (fun k => laws_uSame.f k a a) true := by
  unfold laws_uSame.f
  exact evPos rfl (uSame_l0 a hn a.length 0 (by omega) (by simp))
theorem slicesEqual_l0 (a b : List Int) (hn : a.length ≤ 35184372088832) (hb : a.length = b.length) : ∀ (d : Nat) (j : Int), 0 ≤ j → j.toNat + d = a.length →
    Ev (fun k => slices_Equal_int_int.l0 k a b (a.length : Int) j) (decide (a.drop j.toNat = b.drop j.toNat)) := by
  intro d
  induction d with
  | zero =>
    intro j h0 hd
    refine Ev.step (fun k => by rw [slices_Equal_int_int.l0]) ?_
    refine evNeg (by omega) ?_
    rw [drop_end a j (by omega), drop_end b j (by omega)]
    exact evEq rfl
  | succ d ih =>
    intro j h0 hd
    refine Ev.step (fun k => by rw [slices_Equal_int_int.l0]) ?_
    refine evPos (by omega) (evPos (by omega) (evPos (by omega) (evPos (by omega) ?_)))
    rw [wr (by omega) (by omega), drop_rd a j h0 (by omega), drop_rd b j h0 (by omega)]
    by_cases c : rd a j = rd b j
    · refine evPos c (evTo (ih _ (by omega) (by omega)) ?_)
      simp [c]
    · refine evNeg c (evEq ?_)
      simp [c]
theorem slicesEqual_ev (a b : List Int) (hn : a.length ≤ 35184372088832) : Ev (fun k => slices_Equal_int_int.f k a b) (decide (a = b)) := by
  unfold slices_Equal_int_int.f
  by_cases hb : a.length = b.length
  · exact evPos (by omega) (slicesEqual_l0 a b hn hb a.length 0 (by omega) (by simp))
  · refine evNeg (by omega) (evEq ?_)
    exact (decide_eq_false (fun e => hb (by rw [e]))).symm
theorem IsPermutation_ev (l : List Int) (hl : l.length ≤ 35184372088832) : Ev (fun q => impl_IsPermutation.f q l) (isPm l) := by
  unfold impl_IsPermutation.f isPm
  by_cases c : l.length ≤ 12
  · refine evPos c (Ev.bind (identity_ev l.length (by omega)) ?_)
    have hs : (srt l).length = l.length := (srt_perm l).length_eq
    refine evTo (slicesEqual_ev (srt l) (upTo l.length) (by omega)) ?_
    rw [decide_eq_true c, Bool.true_and]
  · refine evNeg c (evEq ?_)
    rw [decide_eq_false c, Bool.false_and]
def apM (l : List Int) (a b c : Int) : List Int × Bool := if isPm l = true ∧ isMv l.length a b c = true then (mv l a b c, true) else ([], false)
theorem isMv_good {n a b c : Int} (h : isMv n a b c = true) : Mgood n a b c := by
  simp only [isMv, decide_eq_true_eq] at h; unfold Mgood; omega
theorem ApplyMove_ev (l : List Int) (hl : l.length ≤ 1048576) (a b c : Int) : Ev (fun q => impl_ApplyMove.f q l a b c) (apM l a b c) := by
  unfold impl_ApplyMove.f apM
  refine Ev.bind (IsPermutation_ev l (by omega)) ?_
  by_cases hp : isPm l = true
  · have h12 := (isPm_perm hp).1
    refine evPos hp ?_
    rw [isMove_eq _ _ _ _ (by omega) (by omega)]
    by_cases hv : isMv l.length a b c = true
    · exact evSome (evPos hv (Ev.bind (moved_ev l (by omega) a b c (isMv_good hv)) (evEq (by rw [if_pos ⟨hp, hv⟩]))))
    · exact evSome (evNeg hv (evEq (by rw [if_neg (fun h => hv h.2)])))
  · exact evNeg hp (evEq (by rw [if_neg (fun h => hp h.1)]))
theorem drawFirstPath_ev (l : List Int) (hl : Byt l) : ∃ n M b, Ev (fun k => spec_DrawFirstPath.f k l) (n, M, b) ∧ M.length ≤ 100 := by
  obtain ⟨n, M, a', s', h, q1, q2, q3⟩ := cur_moves l hl 0 0 (by omega) (by omega)
  obtain ⟨b, a2, s2, e2, g4, g5, g6⟩ := cur_among l hl a' s' [1, 6, 24, 100, 500, 4000, 4001, 0] (by simp) (by omega) (by omega)
  unfold spec_DrawFirstPath.f
  refine ⟨n, M, b, Ev.bind h ?_, q1⟩
  dsimp only
  rw [e2]
  exact evSome (Ev.now _)
theorem allWithin_l0 (a b : Int) (xs : List Int) (hn : xs.length ≤ 35184372088832) : ∀ (d : Nat) (j : Int), 0 ≤ j → j.toNat + d = xs.length →
    Ev (fun k => impl_allWithin.l0 k a b xs (xs.length : Int) j) ((xs.drop j.toNat).all fun x => decide (a ≤ x ∧ x ≤ b)) := by
  intro d
  induction d with
  | zero =>
    intro j h0 hd
    refine Ev.step (fun k => by rw [impl_allWithin.l0]) ?_
    refine evNeg (by omega) (evEq ?_)
    rw [drop_end _ _ (by omega)]; rfl
  | succ d ih =>
    intro j h0 hd
    refine Ev.step (fun k => by rw [impl_allWithin.l0]) ?_
    refine evPos (by omega) (evPos (by omega) (evPos (by omega) ?_))
    simp only [within_eq, Option.bind_some]
    rw [wr (by omega) (by omega), drop_rd xs j h0 (by omega), List.all_cons]
    by_cases c : a ≤ rd xs j ∧ rd xs j ≤ b
    · exact evPos (by simpa using c) (evTo (ih _ (by omega) (by omega)) (by simp [c]))
    · exact evNeg (by simpa using c) (evEq (by rw [decide_eq_false c]; rfl))
theorem allWithin_ev (xs : List Int) (a b : Int) (hn : xs.length ≤ 35184372088832) : Ev (fun k => impl_allWithin.f k xs a b) (xs.all fun x => decide (a ≤ x ∧ x ≤ b)) := by
  unfold impl_allWithin.f
  exact evTo (allWithin_l0 a b xs hn xs.length 0 (by omega) (by simp)) (by simp)
theorem Follow_l0 (n : Nat) (hn : n ≤ 5) (L : List S45) (hL : L.length ≤ 12) (hg : ∀ m ∈ L, Mgood n m.f0 m.f1 m.f2) (s : List Int) (hs : s.length ≤ 1099) (hr : ∀ k ∈ s, 0 ≤ k ∧ k < L.length) : ∀ (d : Nat) (X : List (List Int)) (now : List Int) (i : Int), 0 ≤ i → i.toNat + d = s.length → now.length = n → (X.length : Int) = i →
    Ev (fun k => impl_FollowMoves.l0 k L s (X ++ [now]) i) (X ++ [now] ++ fol L now (s.drop i.toNat), true) := by
  intro d
  induction d with
  | zero =>
    intro X now i h0 hd hnow hX
    refine Ev.step (fun k => by rw [impl_FollowMoves.l0]) ?_
    refine evNeg (by omega) (evEq ?_)
    rw [drop_end s i (by omega)]; simp [fol]
  | succ d ih =>
    intro X now i h0 hd hnow hX
    refine Ev.step (fun k => by rw [impl_FollowMoves.l0]) ?_
    have hil : i.toNat < s.length := by omega
    have hk := hr (rd s i) (by rw [rd_get s i hil]; exact List.getElem_mem hil)
    have hgd := rd_good L _ hg (rd s i) hk.1 hk.2
    have hx : rd_L2 (X ++ [now]) i = now := by
      unfold rd_L2
      rw [List.getD_eq_getElem?_getD, List.getElem?_append_right (by omega), show i.toNat - X.length = 0 from by omega]; rfl
    rw [hx]
    refine evPos (by omega) (evPos h0 (evPos (by simp; omega) (evPos hk.1 (evPos hk.2 (Ev.bind (moved_ev now (by omega) _ _ _ (by rw [hnow]; exact hgd)) (evPos (by simp; omega) ?_))))))
    rw [wr (by omega) (by omega), drop_rd s i h0 (by omega), fol]
    refine evTo (ih (X ++ [now]) _ (i + 1) (by omega) (by omega) (by rw [mv_length]; exact hnow) (by simp; omega)) ?_
    simp
theorem arePermutations_l0 (n : Int) (L : List (List Int)) (hL : L.length ≤ 1048576) (hl : ∀ t ∈ L, t.length ≤ 1048576) : ∀ (d : Nat) (j : Int), 0 ≤ j → j.toNat + d = L.length →
    Ev (fun k => impl_arePermutations.l0 k n L L (L.length : Int) j) (((L.drop j.toNat).all fun l => decide ((l.length : Int) = n) && isPm l) && decide ((L.length : Int) ≤ 1100)) := by
  intro d
  induction d with
  | zero =>
    intro j h0 hd
    refine Ev.step (fun k => by rw [impl_arePermutations.l0]) ?_
    refine evNeg (by omega) (evEq ?_)
    rw [drop_end L j (by omega)]; simp
  | succ d ih =>
    intro j h0 hd
    have hj : j.toNat < L.length := by omega
    have e : rd_L2 L j = L[j.toNat] := by unfold rd_L2; rw [List.getD_eq_getElem?_getD, List.getElem?_eq_getElem hj]; rfl
    have ed : L.drop j.toNat = L[j.toNat] :: L.drop (j + 1).toNat := by
      rw [show (j + 1).toNat = j.toNat + 1 from by omega]; exact List.drop_eq_getElem_cons hj
    refine Ev.step (fun k => by rw [impl_arePermutations.l0]) ?_
    refine evPos (by omega) (evPos h0 (evPos (by omega) ?_))
    rw [e, wr (by omega) (by omega), ed, List.all_cons]
    by_cases c : (L[j.toNat].length : Int) = n
    · refine evPos c (Ev.bind (IsPermutation_ev _ (by have := hl _ (List.getElem_mem hj); omega)) ?_)
      by_cases c2 : isPm L[j.toNat] = true
      · refine evPos c2 (evTo (ih (j + 1) (by omega) (by omega)) ?_)
        rw [decide_eq_true c, c2]; simp
      · refine evNeg c2 (evEq ?_)
        simp only [Bool.not_eq_true] at c2
        rw [c2]; simp
    · refine evNeg c (evEq ?_)
      rw [decide_eq_false c]; simp
theorem arePermutations_ev (n : Int) (L : List (List Int)) (hL : L.length ≤ 1048576) (hl : ∀ t ∈ L, t.length ≤ 1048576) : Ev (fun k => impl_arePermutations.f k n L) (okLists n L) := by
  unfold impl_arePermutations.f
  exact evTo (arePermutations_l0 n L hL hl L.length 0 (by omega) (by simp)) (by simp [okLists])
theorem steps_idx_ev (g : Nat → S45 → Option Bool) (p : S45 → Bool) (L : List S45) (hn : L.length ≤ 1048576) (hg : ∀ x ∈ L, Ev (fun k => g k x) (p x)) : ∀ (d : Nat) (i : Int), 0 ≤ i → i.toNat + d = L.length →
    Ev (fun k => impl_steps.idx g k L i) (pIdx p i (L.drop i.toNat)) := by
  intro d
  induction d with
  | zero =>
    intro i h0 hd
    refine Ev.step (fun k => by rw [impl_steps.idx]) ?_
    refine evNeg (by omega) (evEq ?_)
    rw [List.drop_of_length_le (by omega)]; rfl
  | succ d ih =>
    intro i h0 hd
    refine Ev.step (fun k => by rw [impl_steps.idx]) ?_
    have hil : i.toNat < L.length := by omega
    have e : rd_T45 L i = L[i.toNat] := by unfold rd_T45; rw [List.getD_eq_getElem?_getD, List.getElem?_eq_getElem hil]; rfl
    refine evPos (by omega) (evPos h0 ?_)
    rw [wr (by omega) (by omega), List.drop_eq_getElem_cons hil, pIdx, e]
    refine Ev.bind (hg _ (List.getElem_mem hil)) ?_
    by_cases c : p L[i.toNat] = true
    · rw [if_pos c]; exact evPos c (Ev.now _)
    · rw [if_neg c]
      refine evNeg c (evTo (ih (i + 1) (by omega) (by omega)) ?_)
      rw [show (i + 1).toNat = i.toNat + 1 from by omega]
theorem steps_l0 (n : Nat) (hn : n ≤ 12) (M : List S45) (hM : M.length ≤ 1048576) (hg : ∀ m ∈ M, Mgood n m.f0 m.f1 m.f2) (L : List (List Int)) (hL : L.length ≤ 1100) (hl : ∀ t ∈ L, t.length = n) : ∀ (d : Nat) (out : List Int) (i : Nat), i + d = L.length → (h1 : 1 ≤ i) → out.length ≤ i →
    Ev (fun k => impl_steps.l0 k L M out (i : Int)) (stepsR M out (L.getD (i - 1) []) (L.drop i)) := by
  intro d
  induction d with
  | zero =>
    intro out i hd h1 ho
    refine Ev.step (fun k => by rw [impl_steps.l0]) ?_
    refine evNeg (by omega) (evEq ?_)
    rw [List.drop_of_length_le (by omega)]; rfl
  | succ d ih =>
    intro out i hd h1 ho
    have hi : i < L.length := by omega
    have hp : i - 1 < L.length := by omega
    have e1 : rd_L2 L (i : Int) = L[i] := by unfold rd_L2; rw [Int.toNat_natCast, List.getD_eq_getElem?_getD, List.getElem?_eq_getElem hi]; rfl
    have e2 : rd_L2 L ((i : Int) - 1) = L[i - 1] := by unfold rd_L2; rw [show ((i : Int) - 1).toNat = i - 1 from by omega, List.getD_eq_getElem?_getD, List.getElem?_eq_getElem hp]; rfl
    have e3 : L.getD (i - 1) [] = L[i - 1] := by rw [List.getD_eq_getElem?_getD, List.getElem?_eq_getElem hp]; rfl
    have ha := hl _ (List.getElem_mem hp)
    refine Ev.step (fun k => by rw [impl_steps.l0]) ?_
    rw [e3, List.drop_eq_getElem_cons hi, stepsR]
    have hidx := steps_idx_ev (impl_steps.g L (i : Int)) (leads L[i - 1] L[i]) M hM (fun m hm => by
      unfold impl_steps.g
      refine evPos (by omega) (evPos (by omega) (evPos (by omega) ?_))
      rw [e1, e2]
      refine Ev.bind (moved_ev _ (by omega) _ _ _ (by rw [ha]; exact hg m hm)) ?_
      exact slicesEqual_ev _ _ (by rw [mv_length]; omega)) M.length 0 (by omega) (by simp)
    refine evPos (by omega) (Ev.bind hidx ?_)
    simp only [Int.toNat_zero, List.drop_zero]
    by_cases c : pIdx (leads L[i - 1] L[i]) 0 M < 0
    · rw [if_pos c]; exact evPos c (Ev.now _)
    · rw [if_neg c]
      refine evNeg c (evPos (by omega) ?_)
      rw [wr (by omega) (by omega), show (i : Int) + 1 = ((i + 1 : Nat) : Int) from by omega]
      refine evTo (ih _ (i + 1) (by omega) (by omega) (by simp; omega)) ?_
      rw [show i + 1 - 1 = i from by omega, List.getD_eq_getElem?_getD, List.getElem?_eq_getElem hi]
      rfl
theorem steps_ev (n : Nat) (hn : n ≤ 12) (M : List S45) (hM : M.length ≤ 1048576) (hg : ∀ m ∈ M, Mgood n m.f0 m.f1 m.f2) (L : List (List Int)) (hL : L.length ≤ 1100) (hl : ∀ t ∈ L, t.length = n) : Ev (fun k => impl_steps.f k L M) (stepsL M L) := by
  unfold impl_steps.f
  cases L with
  | nil =>
    refine Ev.step (fun k => by rw [impl_steps.l0]) ?_
    exact evNeg (by simp) (Ev.now _)
  | cons a T => exact evTo (steps_l0 n hn M hM hg (a :: T) hL hl T.length [] 1 (by simp; omega) (by omega) (by simp)) (by simp [stepsL])
theorem IsMoveList_l0 (n : Nat) (hn : n ≤ 5) (L : List (List Int)) (hL : L.length ≤ 1100) (hl : ∀ t ∈ L, isPm t = true ∧ t.length = n) : ∀ (d : Nat) (i : Int) (acc : List Int), 0 ≤ i → i.toNat + d = L.length → acc.length ≤ i.toNat →
    Ev (fun q => impl_IsMoveList.l0 q L i acc) (metF acc (L.drop i.toNat)) := by
  intro d
  induction d with
  | zero =>
    intro i acc h0 hd ha
    refine Ev.step (fun k => by rw [impl_IsMoveList.l0]) ?_
    refine evNeg (by omega) (evEq ?_)
    rw [List.drop_of_length_le (by omega)]; rfl
  | succ d ih =>
    intro i acc h0 hd ha
    have hil : i.toNat < L.length := by omega
    have e : rd_L2 L i = L[i.toNat] := by unfold rd_L2; rw [List.getD_eq_getElem?_getD, List.getElem?_eq_getElem hil]; rfl
    obtain ⟨hp, hlen⟩ := hl _ (List.getElem_mem hil)
    obtain ⟨hr, hpa⟩ := PA_of hn hp hlen
    have hf : facN n ≤ 120 := by rw [facN_eq]; exact Nat.le_trans (fac_mono hn) (by decide)
    have hrank := permutationRank_ev n (rk L[i.toNat]) hn hr
    rw [hpa] at hrank
    refine Ev.step (fun k => by rw [impl_IsMoveList.l0]) ?_
    refine evPos (by omega) (evPos h0 ?_)
    rw [e, wr (by omega) (by omega)]
    refine Ev.bind hrank (evPos ?_ (evPos (by omega) ?_))
    · simp [Lit.wf, IntKind.min, IntKind.max, IntKind.signed, IntKind.bits]; omega
    · have hle : (if (Moves.rk L[i.toNat] : Int) ∈ acc then acc else (Moves.rk L[i.toNat] : Int) :: acc).length ≤ (i + 1).toNat := by
        by_cases c_ : (Moves.rk L[i.toNat] : Int) ∈ acc
        · rw [if_pos c_]; omega
        · rw [if_neg c_, List.length_cons]; omega
      refine evTo (ih (i + 1) _ (by omega) (by omega) hle) ?_
      rw [show (i + 1).toNat = i.toNat + 1 from by omega, List.drop_eq_getElem_cons hil, metF]
theorem drawFollow_j1 (l : List Int) (hl : Byt l) (n : Int) (M : List S45) (s : List Int) (hs : s.length ≤ 100) (a t : Int) (h0 : 0 ≤ a) (h1 : a ≤ 500000) : ∃ s', Ev (fun k => spec_DrawFollowMoves.j1 k n M s l a t) (n, M, s') ∧ s'.length ≤ 200 := by
  obtain ⟨b, a1, s1, e, g1, g2⟩ := cur_one l hl a t 12 h0 (by omega)
  by_cases c : b = true
  · obtain ⟨v, a2, s2, e2, g4, g5, g6⟩ := cur_among l hl a1 s1 [-1, (M.length : Int), 0] (by simp) (by omega) (by omega)
    refine ⟨s ++ [v], Ev.step (fun k => by rw [spec_DrawFollowMoves.j1]) ?_, by simp; omega⟩
    rw [e]
    refine evSome (evPos c ?_)
    rw [e2]
    exact evSome (evPos (by omega) (Ev.now _))
  · refine ⟨s, Ev.step (fun k => by rw [spec_DrawFollowMoves.j1]) ?_, by omega⟩
    rw [e]
    exact evSome (evNeg c (Ev.now _))
theorem drawFollow_l0 (l : List Int) (hl : Byt l) (n : Int) (M : List S45) : ∀ (d : Nat) (s : List Int) (x a t : Int), x.toNat = d → x ≤ 50 → s.length + d ≤ 100 → 0 ≤ a → a ≤ 400000 - 10 * d → ∃ s', Ev (fun k => spec_DrawFollowMoves.l0 k n M s x l a t) (n, M, s') ∧ s'.length ≤ 200 := by
  intro d
  induction d with
  | zero =>
    intro s x a t hx h50 hs h0 h1
    obtain ⟨s', h, q⟩ := drawFollow_j1 l hl n M s (by omega) a t h0 (by omega)
    exact ⟨s', Ev.step (fun k => by rw [spec_DrawFollowMoves.l0]) (evNeg (by omega) h), q⟩
  | succ d ih =>
    intro s x a t hx h50 hs h0 h1
    by_cases c : (M.length : Int) > 0
    · obtain ⟨v, a1, s1, e, g1, g2, g3, g4⟩ := cur_pick l hl a t (M.length : Int) h0 (by omega)
      obtain ⟨s', h, q⟩ := ih (s ++ [v]) (x - 1) a1 s1 (by omega) (by omega) (by simp; omega) (by omega) (by omega)
      refine ⟨s', Ev.step (fun k => by rw [spec_DrawFollowMoves.l0]) (evPos (by omega) (evPos c ?_)), q⟩
      rw [e]
      refine evSome (evPos (by omega) ?_)
      rw [wr (x := x - 1) (by omega) (by omega)]
      exact h
    · obtain ⟨s', h, q⟩ := drawFollow_j1 l hl n M s (by omega) a t h0 (by omega)
      exact ⟨s', Ev.step (fun k => by rw [spec_DrawFollowMoves.l0]) (evPos (by omega) (evNeg c h)), q⟩
theorem drawFollowMoves_ev (l : List Int) (hl : Byt l) : ∃ n M s, Ev (fun k => spec_DrawFollowMoves.f k l) (n, M, s) ∧ M.length ≤ 100 ∧ s.length ≤ 200 := by
  obtain ⟨n, M, a', s', h, q1, q2, q3⟩ := cur_moves l hl 0 0 (by omega) (by omega)
  obtain ⟨v, a1, s1, e, g1, g2, g3, g4⟩ := cur_pick l hl a' s' 20 (by omega) (by omega)
  obtain ⟨t, h2, q⟩ := drawFollow_l0 l hl n M v.toNat [] v a1 s1 rfl (by omega) (by simp; omega) (by omega) (by omega)
  unfold spec_DrawFollowMoves.f
  refine ⟨n, M, t, Ev.bind h ?_, q1, q⟩
  dsimp only
  rw [e]
  exact evSome h2
theorem l1All_l0 (a b : Int) (xs : List Int) (hn : xs.length ≤ 35184372088832) : ∀ (d : Nat) (j : Int), 0 ≤ j → j.toNat + d = xs.length →
    Ev (fun k => spec_l1All.l0 k a b xs (xs.length : Int) j) ((xs.drop j.toNat).all fun x => decide (a ≤ x ∧ x ≤ b)) := by
  intro d
  induction d with
  | zero =>
    intro j h0 hd
    refine Ev.step (fun k => by rw [spec_l1All.l0]) ?_
    refine evNeg (by omega) (evEq ?_)
    rw [drop_end _ _ (by omega)]; rfl
  | succ d ih =>
    intro j h0 hd
    refine Ev.step (fun k => by rw [spec_l1All.l0]) ?_
    refine evPos (by omega) (evPos (by omega) (evPos (by omega) ?_))
    simp only [l1In_eq, Option.bind_some]
    rw [wr (by omega) (by omega), drop_rd xs j h0 (by omega), List.all_cons]
    by_cases c : a ≤ rd xs j ∧ rd xs j ≤ b
    · exact evPos (by simpa using c) (evTo (ih _ (by omega) (by omega)) (by simp [c]))
    · exact evNeg (by simpa using c) (evEq (by rw [decide_eq_false c]; rfl))
theorem l1All_ev (xs : List Int) (a b : Int) (hn : xs.length ≤ 35184372088832) : Ev (fun k => spec_l1All.f k xs a b) (xs.all fun x => decide (a ≤ x ∧ x ≤ b)) := by
  unfold spec_l1All.f
  exact evTo (l1All_l0 a b xs hn xs.length 0 (by omega) (by simp)) (by simp)
theorem spec_Follow_l0 (n : Nat) (hn : n ≤ 5) (L : List S45) (hL : L.length ≤ 12) (hg : ∀ m ∈ L, Mgood n m.f0 m.f1 m.f2) (s : List Int) (hs : s.length ≤ 1099) (hr : ∀ k ∈ s, 0 ≤ k ∧ k < L.length) : ∀ (d : Nat) (X : List (List Int)) (now : List Int) (i : Int), 0 ≤ i → i.toNat + d = s.length → now.length = n → X.length ≤ 1 + i →
    Ev (fun k => spec_FollowMoves.l0 k L s X now i) (X ++ fol L now (s.drop i.toNat), true) := by
  intro d
  induction d with
  | zero =>
    intro X now i h0 hd hnow hX
    refine Ev.step (fun k => by rw [spec_FollowMoves.l0]) ?_
    refine evNeg (by omega) (evEq ?_)
    rw [drop_end s i (by omega)]; simp [fol]
  | succ d ih =>
    intro X now i h0 hd hnow hX
    refine Ev.step (fun k => by rw [spec_FollowMoves.l0]) ?_
    have hil : i.toNat < s.length := by omega
    have hk := hr (rd s i) (by rw [rd_get s i hil]; exact List.getElem_mem hil)
    have hgd := rd_good L _ hg (rd s i) hk.1 hk.2
    refine evPos (by omega) (evPos h0 (evPos hk.1 (evPos hk.2 (Ev.bind (moApply_ev now (by omega) _ _ _ (by rw [hnow]; exact hgd)) (evPos (by omega) ?_)))))
    rw [wr (by omega) (by omega), drop_rd s i h0 (by omega), fol]
    refine evTo (ih _ _ (i + 1) (by omega) (by omega) (by rw [mv_length]; exact hnow) (by simp; omega)) ?_
    simp
theorem uLists_self (L : List (List Int)) (hn : L.length ≤ 1000000000) (hl : ∀ t ∈ L, t.length ≤ 35184372088832) : Ev (fun k => laws_uLists.f k L L) true := by
  have key : ∀ (d : Nat) (j : Int), 0 ≤ j → j.toNat + d = L.length → Ev (fun k => laws_uLists.l0 k L L (L.length : Int) j) true := by
    intro d
    induction d with
    | zero =>
      intro j h0 hd
      refine Ev.step (fun k => by rw [laws_uLists.l0]) ?_
      exact evNeg (by omega) (Ev.now _)
    | succ d ih =>
      intro j h0 hd
      refine Ev.step (fun k => by rw [laws_uLists.l0]) ?_
      have hm : rd_L2 L j ∈ L := by
        unfold rd_L2
        rw [List.getD_eq_getElem?_getD, List.getElem?_eq_getElem (show j.toNat < L.length by omega)]
        exact List.getElem_mem _
      refine evPos (by omega) (evPos (by omega) (evPos (by omega) (evPos (by omega) (Ev.bind (uSame_self _ (hl _ hm)) (evPos rfl ?_)))))
      rw [wr (by omega) (by omega)]
      exact ih _ (by omega) (by omega)
  unfold laws_uLists.f
  exact evPos rfl (key L.length 0 (by omega) (by simp))
theorem facN_5 {n : Nat} (hn : n ≤ 5) : facN n ≤ 120 := by rw [facN_eq]; exact Nat.le_trans (fac_mono hn) (by decide)
structure FInv (n : Nat) (X : List (List Int)) : Prop where
  pos : 0 < X.length
  pm : ∀ t ∈ X, isPm t = true ∧ t.length = n
  nd : X.Nodup
theorem FInv.next {n : Nat} {X : List (List Int)} (h : FInv n X) {l : List Int} (hl : isPm l = true ∧ l.length = n) (hx : l ∉ X) : FInv n (X ++ [l]) := by
  refine ⟨by simp, fun t ht => ?_, ?_⟩
  · rcases List.mem_append.1 ht with ht | ht
    · exact h.pm t ht
    · rw [List.mem_singleton.1 ht]; exact hl
  · rw [List.nodup_append]
    refine ⟨h.nd, by simp, fun a ha b hb e => ?_⟩
    rw [List.mem_singleton.1 hb] at e
    exact hx (e ▸ ha)
theorem fp_rdL (X : List (List Int)) (h : 0 < X.length) : rd_L2 X ((X.length : Int) - 1) = lastL X := by
  unfold rd_L2 lastL
  rw [show ((X.length : Int) - 1).toNat = X.length - 1 from by omega]
theorem fp_rdT (L : List S45) (i : Nat) (h : i < L.length) : rd_T45 L (i : Int) = L[i] := by
  unfold rd_T45; rw [Int.toNat_natCast, List.getD_eq_getElem?_getD, List.getElem?_eq_getElem h]; rfl
def Way (n : Nat) (L : List S45) (X : List (List Int)) (out : List Int) : Prop := X = upTo n :: fol L (upTo n) out ∧ ∀ k ∈ out, 0 ≤ k ∧ k < (L.length : Int)
theorem fol_snoc (L : List S45) (k : Int) : ∀ (t now : List Int), now :: fol L now (t ++ [k]) = now :: fol L now t ++ [mv (lastL (now :: fol L now t)) (rd_T45 L k).f0 (rd_T45 L k).f1 (rd_T45 L k).f2]
  | [], now => by simp [fol, lastL]
  | j :: t, now => by
    have ih := fol_snoc L k t (mv now (rd_T45 L j).f0 (rd_T45 L j).f1 (rd_T45 L j).f2)
    rw [List.cons_append, fol, ih, fol]
    have e : ∀ (a b : List Int) (T : List (List Int)), lastL (a :: b :: T) = lastL (b :: T) := by
      intro a b T
      unfold lastL
      simp
    rw [e]
    simp
theorem Way.snoc {n : Nat} {L : List S45} {X : List (List Int)} {out : List Int} (h : Way n L X out) (i : Nat) (hi : i < L.length) : Way n L (X ++ [mv (lastL X) L[i].f0 L[i].f1 L[i].f2]) (out ++ [(i : Int)]) := by
  have e : rd_T45 L (i : Int) = L[i] := by unfold rd_T45; rw [Int.toNat_natCast, List.getD_eq_getElem?_getD, List.getElem?_eq_getElem hi]; rfl
  refine ⟨?_, fun k hk => ?_⟩
  · rw [fol_snoc, ← h.1, e]
  · rcases List.mem_append.1 hk with hk | hk
    · exact h.2 k hk
    · rw [List.mem_singleton.1 hk]; omega
def FRel (Gd : List Int → Prop) (M out : List Int) (bud put : Int) (z : Bool × Bool × List Int × Int × List Int) (y : List Int × Bool × Int) : Prop :=
  (z.1 = true ∧ y.2.1 = true ∧ y.1 = z.2.2.2.2 ∧ (y.1.length ≤ 1000 ∧ Gd y.1)) ∨
  (z.1 = false ∧ z.2.1 = true ∧ z.2.2.1 = M ∧ z.2.2.2.2 = out ∧ y.1 = [] ∧ y.2.1 = false ∧ y.2.2 = bud - z.2.2.2.1 ∧ put ≤ z.2.2.2.1 ∧ z.2.2.2.1 ≤ bud) ∨
  (z.1 = false ∧ z.2.1 = false ∧ y.1 = [] ∧ y.2.1 = false ∧ y.2.2 < 0)
theorem fp_loop (n : Nat) (hn : n ≤ 5) (L : List S45) (hL : L.length ≤ 1048576) (hg : ∀ m ∈ L, Mgood n m.f0 m.f1 m.f2) (bud : Int) (hb : bud ≤ 4000) (X : List (List Int)) (h : FInv n X) (out : List Int) (ho : out.length + 1 = X.length) (hlt : X.length < facN n) (Gd : List Int → Prop) (hW : Way n L X out)
    (ih : ∀ (nx : List Int) (put : Int) (i : Int), FInv n (X ++ [nx]) → Way n L (X ++ [nx]) (out ++ [i]) → 1 ≤ put → put ≤ bud → ∃ z y, Ev (fun k => impl_FirstPath.e k (n : Int) bud L nx (rkM (X ++ [nx])) put (out ++ [i])) z ∧ Ev (fun k => spec_FirstPath.e k L (facN n : Int) (bud - put + 1) (X ++ [nx]) (out ++ [i])) y ∧ FRel Gd (rkM (X ++ [nx])) (out ++ [i]) bud put z y) :
    ∀ (c i : Nat) (put : Int), i + c = L.length → 1 ≤ put → put ≤ bud →
    ∃ z y, Ev (fun k => impl_FirstPath.l k (n : Int) bud L (lastL X) (i : Int) (rkM X) put out) z ∧ Ev (fun k => spec_FirstPath.l k L (facN n : Int) X out (i : Int) (bud - put)) y ∧ FRel Gd (rkM X) out bud put z y := by
  have hf := facN_5 hn
  have hlast := h.pm _ (lastL_mem h.pos)
  intro c
  induction c with
  | zero =>
    intro i put hi h1 h2
    have hz : Ev (fun k => impl_FirstPath.l k (n : Int) bud L (lastL X) (i : Int) (rkM X) put out) (false, true, rkM X, put, out) := by
      refine Ev.step (fun k => by rw [impl_FirstPath.l]) ?_
      exact evNeg (by omega) (Ev.now _)
    have hy : Ev (fun k => spec_FirstPath.l k L (facN n : Int) X out (i : Int) (bud - put)) ([], false, bud - put) := by
      refine Ev.step (fun k => by rw [spec_FirstPath.l]) ?_
      exact evNeg (by omega) (Ev.now _)
    refine ⟨(false, true, rkM X, put, out), ([], false, bud - put), hz, hy, .inr (.inl ⟨rfl, rfl, rfl, rfl, rfl, rfl, rfl, Int.le_refl _, h2⟩)⟩
  | succ c ihc =>
    intro i put hi h1 h2
    have hil : i < L.length := by omega
    have e := fp_rdT L i hil
    have hgi := hg _ (List.getElem_mem hil)
    have hmv := isPm_mv hn hlast.1 hlast.2 _ _ _ hgi
    obtain ⟨r1, r2⟩ := PA_of hn hmv.1 hmv.2
    have hr := permutationRank_ev n (Moves.rk (mv (lastL X) L[i].f0 L[i].f1 L[i].f2)) hn r1
    rw [r2] at hr
    have hwf : (Lit.int .i64 (Moves.rk (mv (lastL X) L[i].f0 L[i].f1 L[i].f2) : Int)).wf = true := by
      simp [Lit.wf, IntKind.min, IntKind.max, IntKind.signed, IntKind.bits]; omega
    have hm := rkM_mem hn h.pm hmv.1 hmv.2
    have hpm := placeI_mem X (mv (lastL X) L[i].f0 L[i].f1 L[i].f2) 0 (by omega)
    have si : ∀ (z : Bool × Bool × List Int × Int × List Int), Ev (fun k => if (Moves.rk (mv (lastL X) L[i].f0 L[i].f1 L[i].f2) : Int) ∈ rkM X then impl_FirstPath.l k (n : Int) bud L (lastL X) (wrap64 ((i : Int) + 1)) (rkM X) put out else (if (-1000 ≤ put ∧ put ≤ 1000000) ∧ (rkM X).length < 1000000 ∧ out.length < 1000000 then (if bud < put + 1 then some (false, false, rkM X, put + 1, out) else ((impl_FirstPath.e k (n : Int) bud L (mv (lastL X) L[i].f0 L[i].f1 L[i].f2) ((Moves.rk (mv (lastL X) L[i].f0 L[i].f1 L[i].f2) : Int) :: rkM X) (put + 1) (out ++ [(i : Int)])).bind fun z => (if z.1 = true then some z else (if z.2.1 = false then some z else (if z.2.2.1.Nodup ∧ 0 < z.2.2.2.2.length ∧ z.2.2.2.2.length < 1000000 then (impl_FirstPath.l k (n : Int) bud L (lastL X) (wrap64 ((i : Int) + 1)) (z.2.2.1.erase (Moves.rk (mv (lastL X) L[i].f0 L[i].f1 L[i].f2) : Int)) z.2.2.2.1 (z.2.2.2.2.take (z.2.2.2.2.length - 1))) else none))))) else none)) z →
        Ev (fun k => impl_FirstPath.l k (n : Int) bud L (lastL X) (i : Int) (rkM X) put out) z := by
      intro z hz
      refine Ev.step (fun k => by rw [impl_FirstPath.l]) ?_
      rw [e]
      exact evPos (by omega) (evPos (by omega) (Ev.bind (moved_ev _ (by omega) _ _ _ (by rw [hlast.2]; exact hgi)) (Ev.bind hr (evPos hwf hz))))
    have ss : ∀ (y : List Int × Bool × Int), Ev (fun k => if 0 ≤ placeI (mv (lastL X) L[i].f0 L[i].f1 L[i].f2) 0 X then spec_FirstPath.l k L (facN n : Int) X out (wrap64 ((i : Int) + 1)) (bud - put) else ((spec_l1Own.f out).bind fun so => (if so.length < 1000000 then ((spec_FirstPath.e k L (facN n : Int) (bud - put) (X ++ [mv (lastL X) L[i].f0 L[i].f1 L[i].f2]) (so ++ [(i : Int)])).bind fun z => (if z.2.1 = true then some (z.1, true, z.2.2) else (if z.2.2 < 0 then some ([], false, z.2.2) else (spec_FirstPath.l k L (facN n : Int) X out (wrap64 ((i : Int) + 1)) z.2.2)))) else none))) y →
        Ev (fun k => spec_FirstPath.l k L (facN n : Int) X out (i : Int) (bud - put)) y := by
      intro y hy
      refine Ev.step (fun k => by rw [spec_FirstPath.l]) ?_
      rw [e, fp_rdL X h.pos]
      exact evPos (by omega) (evPos (by omega) (evPos ⟨h.pos, by omega⟩ (Ev.bind (moApply_ev _ (by omega) _ _ _ (by rw [hlast.2]; exact hgi)) (Ev.bind (raPlace_ev X _ (by omega) (fun t ht => by have := (h.pm t ht).2; omega)) hy))))
    have hw : wrap64 ((i : Int) + 1) = ((i + 1 : Nat) : Int) := by rw [wr (by omega) (by omega)]; omega
    by_cases cx : mv (lastL X) L[i].f0 L[i].f1 L[i].f2 ∈ X
    · obtain ⟨z, y, hz, hy, hR⟩ := ihc (i + 1) put (by omega) h1 h2
      refine ⟨z, y, si z (evPos (hm.2 cx) ?_), ss y (evPos (hpm.2 cx) ?_), hR⟩
      · rw [hw]; exact hz
      · rw [hw]; exact hy
    · have hnm : ¬ (Moves.rk (mv (lastL X) L[i].f0 L[i].f1 L[i].f2) : Int) ∈ rkM X := fun h_ => cx (hm.1 h_)
      have hnp : ¬ 0 ≤ placeI (mv (lastL X) L[i].f0 L[i].f1 L[i].f2) 0 X := fun h_ => cx (hpm.1 h_)
      have hln := rkM_length X
      have hcond : (-1000 ≤ put ∧ put ≤ 1000000) ∧ (rkM X).length < 1000000 ∧ out.length < 1000000 := ⟨⟨by omega, by omega⟩, by omega, by omega⟩
      have hown : spec_l1Own.f out = some out := l1Own_eq out (by omega)
      by_cases cb : bud < put + 1
      · refine ⟨(false, false, rkM X, put + 1, out), ([], false, bud - put - 1), si _ (evNeg hnm (evPos hcond (evPos cb (Ev.now _)))), ss _ (evNeg hnp ?_), .inr (.inr ⟨rfl, rfl, rfl, rfl, by show bud - put - 1 < 0; omega⟩)⟩
        have he : Ev (fun k => spec_FirstPath.e k L (facN n : Int) (bud - put) (X ++ [mv (lastL X) L[i].f0 L[i].f1 L[i].f2]) (out ++ [(i : Int)])) (([] : List Int), false, bud - put - 1) := by
          refine Ev.step (fun k => by rw [spec_FirstPath.e]) ?_
          exact evPos ⟨by omega, by omega⟩ (evPos (by omega) (Ev.now _))
        rw [hown]
        exact evSome (evPos (by omega) (Ev.bind he (evNeg (by simp) (evPos (by show bud - put - 1 < 0; omega) (Ev.now _)))))
      · have h3 := h.next hmv cx
        obtain ⟨z, y, hz, hy, hR⟩ := ih _ (put + 1) (i : Int) h3 (hW.snoc i hil) (by omega) (by omega)
        rw [rkM_snoc] at hz hR
        rw [show bud - (put + 1) + 1 = bud - put from by omega] at hy
        rcases hR with ⟨q1, q2, q3, q4⟩ | ⟨q1, q2, q3, q4, q5, q6, q7, q8, q9⟩ | ⟨q1, q2, q3, q4, q5⟩
        · refine ⟨z, (y.1, true, y.2.2), si z (evNeg hnm (evPos hcond (evNeg cb (Ev.bind hz (evPos q1 (Ev.now _)))))), ss _ (evNeg hnp ?_), .inl ⟨q1, rfl, q3, q4⟩⟩
          rw [hown]
          exact evSome (evPos (by omega) (Ev.bind hy (evPos q2 (Ev.now _))))
        · obtain ⟨z', y', hz', hy', hR'⟩ := ihc (i + 1) z.2.2.2.1 (by omega) (by omega) q9
          have er : ((Moves.rk (mv (lastL X) L[i].f0 L[i].f1 L[i].f2) : Int) :: rkM X).erase (Moves.rk (mv (lastL X) L[i].f0 L[i].f1 L[i].f2) : Int) = rkM X := List.erase_cons_head ..
          have et : (out ++ [(i : Int)]).take ((out ++ [(i : Int)]).length - 1) = out := by simp
          have hnd : ((Moves.rk (mv (lastL X) L[i].f0 L[i].f1 L[i].f2) : Int) :: rkM X).Nodup := by rw [← rkM_snoc]; exact rkM_nodup hn h3.pm h3.nd
          refine ⟨z', y', si z' (evNeg hnm (evPos hcond (evNeg cb (Ev.bind hz (evNeg (by simp [q1]) (evNeg (by simp [q2]) (evPos ⟨by rw [q3]; exact hnd, by rw [q4]; simp, by rw [q4]; simp; omega⟩ ?_))))))), ss y' (evNeg hnp ?_), ?_⟩
          · rw [hw, q3, q4, er, et]; exact hz'
          · rw [hown]
            refine evSome (evPos (by omega) (Ev.bind hy (evNeg (by simp [q6]) (evNeg (by omega) ?_))))
            rw [hw, q7]; exact hy'
          · rcases hR' with hR' | ⟨p1, p2, p3, p4, p5, p6, p7, p8, p9⟩ | hR'
            · exact .inl hR'
            · exact .inr (.inl ⟨p1, p2, p3, p4, p5, p6, p7, by omega, p9⟩)
            · exact .inr (.inr hR')
        · refine ⟨z, ([], false, y.2.2), si z (evNeg hnm (evPos hcond (evNeg cb (Ev.bind hz (evNeg (by simp [q1]) (evPos q2 (Ev.now _))))))), ss _ (evNeg hnp ?_), .inr (.inr ⟨q1, q2, rfl, rfl, q5⟩)⟩
          rw [hown]
          exact evSome (evPos (by omega) (Ev.bind hy (evNeg (by simp [q4]) (evPos q5 (Ev.now _)))))
theorem fp_both (n : Nat) (hn : n ≤ 5) (L : List S45) (hL : L.length ≤ 1048576) (hg : ∀ m ∈ L, Mgood n m.f0 m.f1 m.f2) (bud : Int) (hb : bud ≤ 4000) (Gd : List Int → Prop) (hGd : ∀ X out, FInv n X → Way n L X out → X.length = facN n → Gd out) : ∀ (d : Nat) (X : List (List Int)) (put : Int) (out : List Int), X.length + d = facN n → FInv n X → Way n L X out → out.length + 1 = X.length → 1 ≤ put → put ≤ bud →
    ∃ z y, Ev (fun k => impl_FirstPath.e k (n : Int) bud L (lastL X) (rkM X) put out) z ∧ Ev (fun k => spec_FirstPath.e k L (facN n : Int) (bud - put + 1) X out) y ∧ FRel Gd (rkM X) out bud put z y := by
  have hf := facN_5 hn
  have hfe : (fac n : Int) = (facN n : Int) := by rw [facN_eq]
  intro d
  induction d with
  | zero =>
    intro X put out hd h hW ho h1 h2
    have hz : Ev (fun k => impl_FirstPath.e k (n : Int) bud L (lastL X) (rkM X) put out) (true, true, rkM X, put, out) := by
      refine Ev.step (fun k => by rw [impl_FirstPath.e]) ?_
      exact Ev.bind (factorial_ev n (by omega)) (evPos (by rw [rkM_length]; omega) (Ev.now _))
    have hy : Ev (fun k => spec_FirstPath.e k L (facN n : Int) (bud - put + 1) X out) (out, true, bud - put + 1 - 1) := by
      refine Ev.step (fun k => by rw [spec_FirstPath.e]) ?_
      exact evPos ⟨by omega, by omega⟩ (evNeg (by omega) (evPos (by omega) (Ev.now _)))
    refine ⟨(true, true, rkM X, put, out), (out, true, bud - put + 1 - 1), hz, hy, .inl ⟨rfl, rfl, rfl, ⟨by show out.length ≤ 1000; omega, hGd X out h hW (by omega)⟩⟩⟩
  | succ d ih =>
    intro X put out hd h hW ho h1 h2
    obtain ⟨z, y, hz, hy, hR⟩ := fp_loop n hn L hL hg bud hb X h out ho (by omega) Gd hW (fun nx put' i h3 hW3 h4 h5 => by
      have := ih (X ++ [nx]) put' (out ++ [i]) (by simp; omega) h3 hW3 (by simp; omega) h4 h5
      rw [lastL_snoc] at this
      exact this) L.length 0 put (by omega) h1 h2
    have hz' : Ev (fun k => impl_FirstPath.e k (n : Int) bud L (lastL X) (rkM X) put out) z := by
      refine Ev.step (fun k => by rw [impl_FirstPath.e]) ?_
      exact Ev.bind (factorial_ev n (by omega)) (evNeg (by rw [rkM_length]; omega) hz)
    have hy' : Ev (fun k => spec_FirstPath.e k L (facN n : Int) (bud - put + 1) X out) y := by
      refine Ev.step (fun k => by rw [spec_FirstPath.e]) ?_
      refine evPos ⟨by omega, by omega⟩ (evNeg (by omega) (evNeg (by omega) ?_))
      rw [show bud - put + 1 - 1 = bud - put from by omega]
      exact hy
    exact ⟨z, y, hz', hy', hR⟩
def Pth (N : Nat) (M : List S45) (G : List Int) : Prop := okTask (N : Int) M = true ∧ N ≤ 5 ∧ ∃ X, FInv N X ∧ Way N M X G ∧ X.length = facN N
theorem FirstPath_both (n : Int) (M : List S45) (hML : M.length ≤ 1048576) (bud : Int) : ∃ (G : List Int) (b : Bool), Ev (fun q => spec_FirstPath.f q n M bud) (G, b) ∧ Ev (fun q => impl_FirstPath.f q n M bud) (G, b) ∧ G.length ≤ 1000 ∧ (b = true → ∃ N : Nat, n = (N : Int) ∧ Pth N M G) := by
  have ht := moTask_ev n (M) (by omega)
  have hi := areMoves_ev n (M) (by omega)
  unfold spec_FirstPath.f impl_FirstPath.f
  simp only [l1In_eq, within_eq]
  by_cases hok : okTask n (M) = true
  rotate_left
  · exact ⟨[], false, Ev.bind ht (evNeg hok (Ev.now _)), Ev.bind hi (evNeg hok (Ev.now _)), by simp, by simp⟩
  by_cases c4 : 4 < n
  · exact ⟨[], false, Ev.bind ht (evPos hok (evPos c4 (Ev.now _))), Ev.bind hi (evPos hok (evPos c4 (Ev.now _))), by simp, by simp⟩
  by_cases cb : 1 ≤ bud ∧ bud ≤ 4000
  rotate_left
  · exact ⟨[], false, Ev.bind ht (evPos hok (evNeg c4 (evSome (evNeg (by simpa using cb) (Ev.now _))))), Ev.bind hi (evPos hok (evNeg c4 (evSome (evNeg (by simpa using cb) (Ev.now _))))), by simp, by simp⟩
  have h := hok
  simp only [okTask, Bool.and_eq_true, decide_eq_true_eq, List.all_eq_true] at h
  obtain ⟨N, rfl⟩ := Int.eq_ofNat_of_zero_le (show 0 ≤ n by omega)
  have hN : N ≤ 5 := by omega
  have hf0 := facN_pos N
  have hgd : ∀ m ∈ M, Mgood N m.f0 m.f1 m.f2 := fun m hm => by have := h.1 m hm; simp only [isMv, decide_eq_true_eq] at this; unfold Mgood; omega
  have h0 : FInv N [upTo N] := ⟨by simp, fun t ht => by rw [List.mem_singleton.1 ht]; exact ⟨isPm_upTo (by omega), upTo_length N⟩, by simp⟩
  obtain ⟨z, y, hz, hy, hR⟩ := fp_both N hN (M) (by omega) hgd bud cb.2 (Pth N M) (fun X out hX hW hl => ⟨hok, hN, X, hX, hW, hl⟩) (facN N - 1) [upTo N] 1 [] (by simp; omega) h0 ⟨rfl, by simp⟩ (by simp) (by omega) cb.1
  have e1 : lastL [upTo N] = upTo N := rfl
  have e2 : rkM [upTo N] = [0] := by unfold rkM; simp [rk_upTo hN]
  rw [e1, e2] at hz
  rw [show bud - 1 + 1 = bud from by omega] at hy
  have hs : Ev (fun q => spec_raFactorial.f q (N : Int)) (facN N : Int) := by rw [facN_eq]; exact raFactorial_ev N (by omega)
  refine ⟨y.1, y.2.1, Ev.bind ht (evPos hok (evNeg c4 (evSome (evPos (by simpa using cb) (Ev.bind hs (Ev.bind (raUpTo_ev N (by omega)) (Ev.bind hy (Ev.now _)))))))), Ev.bind hi (evPos hok (evNeg c4 (evSome (evPos (by simpa using cb) (Ev.bind (identity_ev N (by omega)) (Ev.bind hz ?_)))))), ?_⟩
  · rcases hR with ⟨q1, q2, q3, q4⟩ | ⟨q1, q2, q3, q4, q5, q6, q7, q8⟩ | ⟨q1, q2, q3, q4, q5⟩
    · rw [q3, q2]; exact evPos q1 (Ev.now _)
    · rw [q5, q6]; exact evNeg (by simp [q1]) (Ev.now _)
    · rw [q3, q4]; exact evNeg (by simp [q1]) (Ev.now _)
  · rcases hR with ⟨q1, q2, q3, q4⟩ | ⟨q1, q2, q3, q4, q5, q6, q7, q8⟩ | ⟨q1, q2, q3, q4, q5⟩
    · exact ⟨q4.1, fun _ => ⟨N, rfl, q4.2⟩⟩
    · rw [q5, q6]; simp
    · rw [q3, q4]; simp
theorem FollowMoves_both (n : Int) (M : List S45) (ec : M.length ≤ 1048576) (s : List Int) (hbig : ¬ (s.length : Int) > 1048576) : ∃ (G : List (List Int)) (b : Bool), Ev (fun q => spec_FollowMoves.f q n M s) (G, b) ∧ Ev (fun q => impl_FollowMoves.f q n M s) (G, b) ∧ G.length ≤ 1100000 ∧ ∀ t ∈ G, t.length ≤ 12 := by
  have ht := moTask_ev n M (by omega)
  have hi := areMoves_ev n M (by omega)
  by_cases hok : okTask n M = true
  rotate_left
  · refine ⟨[], false, ?_, ?_, by simp, by simp⟩
    · unfold spec_FollowMoves.f; exact Ev.bind ht (evNeg hok (Ev.now _))
    · unfold impl_FollowMoves.f; exact Ev.bind hi (evNeg hok (Ev.now _))
  have h := hok
  simp only [okTask, Bool.and_eq_true, decide_eq_true_eq, List.all_eq_true] at h
  obtain ⟨N, rfl⟩ := Int.eq_ofNat_of_zero_le (show 0 ≤ n by omega)
  have hgd : ∀ m ∈ M, Mgood N m.f0 m.f1 m.f2 := fun m hm => by have := h.1 m hm; simp only [isMv, decide_eq_true_eq] at this; unfold Mgood; omega
  by_cases cl : (s.length : Int) > 1099
  · refine ⟨[], false, ?_, ?_, by simp, by simp⟩
    · unfold spec_FollowMoves.f; exact Ev.bind ht (evPos hok (evPos cl (Ev.now _)))
    · unfold impl_FollowMoves.f; exact Ev.bind hi (evPos hok (evPos cl (Ev.now _)))
  have ha := l1All_ev s 0 (wrap64 ((M.length : Int) - 1)) (by omega)
  have hb := allWithin_ev s 0 (wrap64 ((M.length : Int) - 1)) (by omega)
  by_cases hr : (s.all fun x => decide (0 ≤ x ∧ x ≤ wrap64 ((M.length : Int) - 1))) = true
  rotate_left
  · refine ⟨[], false, ?_, ?_, by simp, by simp⟩
    · unfold spec_FollowMoves.f; exact Ev.bind ht (evPos hok (evNeg cl (Ev.bind ha (evNeg hr (Ev.now _)))))
    · unfold impl_FollowMoves.f; exact Ev.bind hi (evPos hok (evNeg cl (Ev.bind hb (evNeg hr (Ev.now _)))))
  have hrr : ∀ k ∈ s, 0 ≤ k ∧ k < M.length := by
    intro k hk
    have := List.all_eq_true.1 hr k hk
    rw [wr (by omega) (by omega)] at this
    simp only [decide_eq_true_eq] at this
    omega
  have hu := upTo_length N
  have r1 := spec_Follow_l0 N (by omega) M (by omega) hgd s (by omega) hrr s.length [upTo N] (upTo N) 0 (by omega) (by simp) hu (by simp)
  have r2 := Follow_l0 N (by omega) M (by omega) hgd s (by omega) hrr s.length [] (upTo N) 0 (by omega) (by simp) hu (by simp)
  refine ⟨[upTo N] ++ fol M (upTo N) s, true, ?_, ?_, by simp [fol_length]; omega, fun t ht => ?_⟩
  · unfold spec_FollowMoves.f; exact Ev.bind ht (evPos hok (evNeg cl (Ev.bind ha (evPos hr (Ev.bind (raUpTo_ev N (by omega)) r1)))))
  · unfold impl_FollowMoves.f; exact Ev.bind hi (evPos hok (evNeg cl (Ev.bind hb (evPos hr (Ev.bind (identity_ev N (by omega)) r2)))))
  · rw [List.mem_append, List.mem_singleton] at ht
    rcases ht with rfl | ht
    · omega
    · rw [fol_mem _ _ _ _ ht]; omega
theorem stepsR_fol (L : List S45) : ∀ (s : List Int) (now acc : List Int), (∀ k ∈ s, 0 ≤ k ∧ k < (L.length : Int)) → (stepsR L acc now (fol L now s)).2 = true
  | [], now, acc, _ => rfl
  | k :: t, now, acc, h => by
    rw [fol, stepsR]
    have hk := h k (by simp)
    have hil : k.toNat < L.length := by omega
    have e : rd_T45 L k = L[k.toNat] := by unfold rd_T45; rw [List.getD_eq_getElem?_getD, List.getElem?_eq_getElem hil]; rfl
    have ha : L.any (leads now (mv now (rd_T45 L k).f0 (rd_T45 L k).f1 (rd_T45 L k).f2)) = true := by
      rw [List.any_eq_true]
      exact ⟨L[k.toNat], List.getElem_mem hil, by unfold leads; rw [e]; simp⟩
    have hp := (pIdx_any _ L 0 (by omega)).2 ha
    rw [if_neg (by omega)]
    exact stepsR_fol L t _ _ (fun j hj => h j (by simp [hj]))
theorem path_ok (N : Nat) (M : List S45) (hML : M.length ≤ 1048576) (G : List Int) (hG : G.length ≤ 1000) (h : Pth N M G) : ∃ X, Ev (fun q => impl_FollowMoves.f q (N : Int) M G) (X, true) ∧ Ev (fun q => impl_IsMoveList.f q (N : Int) X M) (true, true) := by
  obtain ⟨hok, hN, X, hX, hW, hl⟩ := h
  have h := hok
  simp only [okTask, Bool.and_eq_true, decide_eq_true_eq, List.all_eq_true] at h
  have hgd : ∀ m ∈ M, Mgood N m.f0 m.f1 m.f2 := fun m hm => by have := h.1 m hm; simp only [isMv, decide_eq_true_eq] at this; unfold Mgood; omega
  have hu := upTo_length N
  have hf := facN_5 hN
  have hb := allWithin_ev G 0 (wrap64 ((M.length : Int) - 1)) (by omega)
  have hr : (G.all fun x => decide (0 ≤ x ∧ x ≤ wrap64 ((M.length : Int) - 1))) = true := by
    rw [List.all_eq_true]
    intro x hx
    have := hW.2 x hx
    rw [wr (by omega) (by omega)]
    simp only [decide_eq_true_eq]
    omega
  rw [hr] at hb
  have r2 := Follow_l0 N (by omega) M (by omega) hgd G (by omega) hW.2 G.length [] (upTo N) 0 (by omega) (by simp) hu (by simp)
  refine ⟨X, ?_, ?_⟩
  · unfold impl_FollowMoves.f
    exact Ev.bind (areMoves_ev _ M hML) (evPos hok (evNeg (by omega) (Ev.bind hb (evPos rfl (Ev.bind (identity_ev N (by omega)) (evTo r2 (by rw [hW.1]; simp)))))))
  · have ho : okLists (N : Int) X = true := by
      simp only [okLists, Bool.and_eq_true, decide_eq_true_eq, List.all_eq_true]
      exact ⟨fun t ht => ⟨by have := (hX.pm t ht).2; omega, (hX.pm t ht).1⟩, by omega⟩
    have hb := arePermutations_ev (N : Int) X (by omega) (fun t ht => by have := (hX.pm t ht).2; omega)
    rw [ho] at hb
    have hm2 := steps_ev N (by omega) M hML hgd X (by omega) (fun t ht => (hX.pm t ht).2)
    have hl0 := IsMoveList_l0 N hN X (by omega) hX.pm X.length 0 [] (by omega) (by simp) (by simp)
    simp only [Int.toNat_zero, List.drop_zero] at hl0
    have hst : (stepsL M X).2 = true := by rw [hW.1]; exact stepsR_fol M G _ _ hW.2
    have hmi := metF_iff X []
    simp only [List.length_nil, Nat.zero_add, List.not_mem_nil, not_false_eq_true, implies_true, and_true] at hmi
    rw [map_nodup hN X hX.pm] at hmi
    unfold impl_IsMoveList.f
    refine Ev.bind (areMoves_ev _ M hML) (evPos hok (Ev.bind hb (evPos rfl (Ev.bind hl0 (Ev.bind hm2 (evPos hst (Ev.bind (factorial_ev N (by omega)) (evPos (by rw [hl, facN_eq]) (evEq ?_)))))))))
    rw [decide_eq_true (hmi.2 hX.nd)]
theorem rchJ4 (l1 : List Int) (y1 : Byt l1) (n : Int) (M : List S45) (hML : M.length ≤ 1000) (G : List Int) (hG : G.length ≤ 1000) (b : Bool) (hb : b = true → ∃ N : Nat, n = (N : Int) ∧ Pth N M G) : Ev (fun k => laws_FnReached.j4 k l1 n M G b false) true := by
  refine Ev.step (fun k => by rw [laws_FnReached.j4]) ?_
  refine evNeg (by simp) ?_
  cases b
  · refine evNeg (by simp) ?_
    obtain ⟨n2, M2, s2, hd, h1, h2⟩ := drawFollowMoves_ev l1 y1
    obtain ⟨G2, b2, e1, e2, e3, e4⟩ := FollowMoves_both n2 M2 (by omega) s2 (by omega)
    exact Ev.bind hd (Ev.bind e2 (Ev.bind e1 (evPos (by simp) (Ev.bind (uLists_self G2 (by omega) (fun t ht => by have := e4 t ht; omega)) (Ev.now _)))))
  · obtain ⟨N, rfl, hp⟩ := hb rfl
    obtain ⟨X, e1, e2⟩ := path_ok N M (by omega) G hG hp
    exact evPos rfl (Ev.bind e1 (Ev.bind e2 (evPos rfl (evPos rfl (Ev.now _)))))
theorem rchJ3 (l1 : List Int) (y1 : Byt l1) : Ev (fun k => laws_FnReached.j3 k l1) true := by
  refine Ev.step (fun k => by rw [laws_FnReached.j3]) ?_
  obtain ⟨n, M, bud, hd, hM⟩ := drawFirstPath_ev l1 y1
  obtain ⟨G, b, e1, e2, e3, e4⟩ := FirstPath_both n M (by omega) bud
  exact Ev.bind hd (Ev.bind e2 (Ev.bind e1 (evNeg (by simp) (Ev.bind (uSame_self G (by omega)) (rchJ4 l1 y1 n M (by omega) G e3 b e4)))))
def sgOk (a b c : Int) : Bool := match spec_moSign.f 100 a b c with | some s => decide (s < 0) == decide (sgm a b c < 0) | none => false
set_option maxRecDepth 100000 in
theorem sg_tab : ((List.range 6).all fun n => (goods n).all fun m => sgOk m.1 m.2.1 m.2.2) = true := by decide +kernel
theorem neg_sgm (n : Nat) (hn : n ≤ 5) (m : S45) (hg : Mgood n m.f0 m.f1 m.f2) (h : negS m = false) : sgm m.f0 m.f1 m.f2 = 1 := by
  have ht := List.all_eq_true.1 (List.all_eq_true.1 sg_tab n (List.mem_range.2 (by omega))) _ (good_mem n m.f0 m.f1 m.f2 hg)
  unfold sgOk at ht
  unfold negS at h
  cases hs : spec_moSign.f 100 m.f0 m.f1 m.f2 with
  | none => simp [hs] at ht
  | some s =>
    simp only [hs, beq_iff_eq] at ht
    rw [hs] at h
    have h' : decide (s < 0) = false := h
    rw [h'] at ht
    have := of_decide_eq_false ht.symm
    unfold sgm at this ⊢
    omega
theorem spec_AreEven_l0 (n : Nat) (hn : n ≤ 5) (L : List S45) (hl : L.length ≤ 1048576) (hg : ∀ m ∈ L, Mgood n m.f0 m.f1 m.f2) : ∀ (d : Nat) (i : Int), 0 ≤ i → i.toNat + d = L.length →
    Ev (fun k => spec_AreEven.l0 k L (L.length : Int) i) (!(L.drop i.toNat).any negS, true) := by
  intro d
  induction d with
  | zero =>
    intro i h0 hd
    refine Ev.step (fun k => by rw [spec_AreEven.l0]) ?_
    refine evNeg (by omega) (evEq ?_)
    rw [List.drop_of_length_le (by omega)]; rfl
  | succ d ih =>
    intro i h0 hd
    refine Ev.step (fun k => by rw [spec_AreEven.l0]) ?_
    have hil : i.toNat < L.length := by omega
    have e : rd_T45 L i = L[i.toNat] := by unfold rd_T45; rw [List.getD_eq_getElem?_getD, List.getElem?_eq_getElem hil]; rfl
    obtain ⟨⟨s, h1, h2⟩, _⟩ := neg_use n hn L[i.toNat] (hg _ (List.getElem_mem hil))
    refine evPos (by omega) (evPos h0 (evPos (by omega) ?_))
    rw [wr (by omega) (by omega), List.drop_eq_getElem_cons hil, List.any_cons, e, ← h2]
    refine Ev.bind h1 ?_
    by_cases c : s < 0
    · refine evPos c (evEq ?_); simp [c]
    · refine evNeg c (evTo (ih (i + 1) (by omega) (by omega)) ?_)
      rw [show (i + 1).toNat = i.toNat + 1 from by omega]
      simp [c]
theorem sx_lt {N : Nat} (hN : N ≤ 5) {M : List S45} (hM : ∀ m ∈ M, Mgood N m.f0 m.f1 m.f2) {q : Nat} (hq : q < facN N) {m : S45} (hm : m ∈ M) : sx N q m < facN N ∧ PA N (sx N q m) = mv (PA N q) m.f0 m.f1 m.f2 := PA_mv N q hN hq _ _ _ (hM m hm)
theorem reach_facts {N : Nat} (hN : N ≤ 5) {M : List S45} (hM : ∀ m ∈ M, Mgood N m.f0 m.f1 m.f2) {o : List Int} {R : List Nat} (D : DFin N M o R) : 0 < R.length ∧ R.length ∣ facN N ∧ ((∀ m ∈ M, sgm m.f0 m.f1 m.f2 = 1) → 2 ≤ N → 2 * R.length ≤ facN N) := by
  have hf := facN_le N hN
  have h0 : 0 ∈ R := (D.mem 0 (by omega)).1 (by rw [D.zero]; omega)
  have hG : ∀ a b c, Gof M a b c → Mgood N a b c := by
    rintro a b c ⟨m, hm, rfl, rfl, rfl⟩
    exact hM m hm
  have hnd := map_PA_nodup hN R D.ranks D.nd
  have hP0 : PA N 0 = upTo N := (start_inv N hN M).1
  have hC : ∀ l, l ∈ R.map (PA N) ↔ Rch (Gof M) (upTo N) l := by
    intro l
    constructor
    · intro h
      obtain ⟨r, hr, rfl⟩ := List.mem_map.1 h
      exact D.rch r hr
    · intro h
      have key : ∀ u l, Rch (Gof M) u l → u = upTo N → l ∈ R.map (PA N) := by
        intro u l h
        induction h with
        | refl => intro e; rw [e, ← hP0]; exact List.mem_map.2 ⟨0, h0, rfl⟩
        | @step l' a b c g h ih =>
          intro e
          obtain ⟨q, hq, e1⟩ := List.mem_map.1 (ih e)
          obtain ⟨m, hm, rfl, rfl, rfl⟩ := g
          obtain ⟨s1, s2⟩ := sx_lt hN hM (D.ranks q hq) hm
          have h3 := D.don q hq m hm
          rw [← e1, ← s2]
          exact List.mem_map.2 ⟨_, (D.mem _ s1).1 h3.1, rfl⟩
      exact key _ _ h rfl
  refine ⟨List.length_pos_of_mem h0, ?_, fun hE h2 => ?_⟩
  · have := reach_dvd hN (Gof M) hG (R.map (PA N)) hnd hC
    rwa [List.length_map] at this
  · have := reach_even hN h2 (Gof M) hG (by rintro a b c ⟨m, hm, rfl, rfl, rfl⟩; exact hE m hm) (R.map (PA N)) hnd (fun l hl => (hC l).1 hl)
    rwa [List.length_map] at this
theorem cntR_full {N : Nat} {M : List S45} {o : List Int} {R : List Nat} (D : DFin N M o R) : cntR o = (R.length : Int) := by
  have h := List.length_eq_countP_add_countP (fun x : Int => decide (x < 0)) (l := o)
  have hs := D.sum
  rw [D.len] at h
  have e : o.countP (fun a => decide ¬(decide (a < 0) = true)) = o.countP (fun x => decide (0 ≤ x)) := by
    refine List.countP_congr (fun x _ => ?_)
    simp only [decide_eq_true_eq]
    omega
  rw [e] at h
  unfold cntR
  omega
theorem cntR_take (o : List Int) (r : Nat) (h : r < o.length) : cntR (o.take (r + 1)) = cntR (o.take r) + (if rd o (r : Int) < 0 then 0 else 1) := by
  have e : o.take (r + 1) = o.take r ++ [rd o (r : Int)] := by
    have := take_rd o (r : Int) (by omega) (by omega)
    rwa [show ((r : Int) + 1).toNat = r + 1 from by omega, Int.toNat_natCast] at this
  unfold cntR
  rw [e, List.countP_append]
  by_cases c : rd o (r : Int) < 0
  · rw [if_pos c, List.countP_cons_of_neg (by simpa using c)]; simp
  · rw [if_neg c, List.countP_cons_of_pos (by simpa using c)]; simp
theorem cntR_le (o : List Int) : 0 ≤ cntR o ∧ cntR o ≤ o.length := by
  unfold cntR
  have := List.countP_le_length (p := fun x : Int => decide (0 ≤ x)) (l := o)
  omega
section
variable (l1 : List Int) (N : Nat) (hN : N ≤ 5) (M : List S45) (hML : M.length ≤ 1000) (hM : ∀ m ∈ M, Mgood N m.f0 m.f1 m.f2) (o : List Int) (R : List Nat) (D : DFin N M o R) (c : Int) (ev : Bool)
include hN hML hM D
theorem rchL1 (q : Nat) (hq : q ∈ R) (x : Int) (hK : Ev (fun k => laws_FnReached.l0 k l1 N M o c ev true x o (o.length : Int) (wrap64 ((q : Int) + 1))) true) : ∀ (d : Nat) (j : Int), 0 ≤ j → j.toNat + d = M.length →
    Ev (fun k => laws_FnReached.l1 k l1 N M o c ev true x (rd o (q : Int)) (PA N q) o (o.length : Int) (q : Int) M (M.length : Int) j) true := by
  have hf := facN_le N hN
  have hol := D.len
  have hqf := D.ranks q hq
  intro d
  induction d with
  | zero =>
    intro j h0 hd
    exact Ev.step (fun k => by rw [laws_FnReached.l1]) (by exact evNeg (by omega) hK)
  | succ d ih =>
    intro j h0 hd
    have hil : j.toNat < M.length := by omega
    have e : rd_T45 M j = M[j.toNat] := by unfold rd_T45; rw [List.getD_eq_getElem?_getD, List.getElem?_eq_getElem hil]; rfl
    have hm : M[j.toNat] ∈ M := List.getElem_mem hil
    generalize M[j.toNat] = m at e hm
    have hg := hM m hm
    obtain ⟨s1, s2⟩ := sx_lt hN hM hqf hm
    obtain ⟨d1, d2⟩ := D.don q hq m hm
    obtain ⟨p1, p2⟩ := isPm_PA hN hqf
    have hv : isMv ((PA N q).length : Int) m.f0 m.f1 m.f2 = true := by rw [p2]; simp only [isMv, decide_eq_true_eq]; unfold Mgood at hg; omega
    have ha := ApplyMove_ev (PA N q) (by omega) m.f0 m.f1 m.f2
    unfold apM at ha
    rw [if_pos ⟨p1, hv⟩, ← s2] at ha
    obtain ⟨p3, p4⟩ := isPm_PA hN s1
    have hr : Ev (fun k => impl_PermutationRank.f k (PA N (sx N q m))) ((sx N q m : Int), true) := by
      unfold impl_PermutationRank.f
      have h5 := IsPermutation_ev (PA N (sx N q m)) (by omega)
      exact Ev.bind h5 (evPos p3 (Ev.bind (permutationRank_ev N (sx N q m) hN s1) (Ev.now _)))
    have hvq : rd o (q : Int) ≤ 1000 := (D.vals _ (by rw [rd_get o _ (by simp; omega)]; exact List.getElem_mem _)).2
    have hvq2 : 0 ≤ rd o (q : Int) := (D.mem q hqf).2 hq
    refine Ev.step (fun k => by rw [laws_FnReached.l1]) ?_
    refine evPos (by omega) (evPos h0 (evPos (by omega) ?_))
    rw [e]
    refine Ev.bind ha (Ev.bind hr (evPos rfl (evPos rfl (evPos (by show (0 : Int) ≤ (sx N q m : Int); omega) (evPos (by show ((sx N q m : Nat) : Int) < (o.length : Int); omega) (evNeg (by show ¬ rd o (sx N q m : Int) < 0; omega) (evNeg ?_ ?_)))))))
    · show ¬ rd o (sx N q m : Int) > wrap64 (rd o (q : Int) + 1)
      rw [wr (by omega) (by omega)]
      omega
    · rw [wr (x := j + 1) (by omega) (by omega)]
      exact ih (j + 1) (by omega) (by omega)
theorem rchL0 (hc : c = (R.length : Int)) (hev : ev = true → ∀ m ∈ M, sgm m.f0 m.f1 m.f2 = 1) (y1 : Byt l1) : ∀ (d r : Nat), r + d = facN N →
    Ev (fun k => laws_FnReached.l0 k l1 N M o c ev true (cntR (o.take r)) o (o.length : Int) (r : Int)) true := by
  have hf := facN_le N hN
  have hol := D.len
  intro d
  induction d with
  | zero =>
    intro r hr
    have e : o.take r = o := List.take_of_length_le (by omega)
    obtain ⟨f1, f2, f3⟩ := reach_facts hN hM D
    have hcr := cntR_full D
    have hle := cntR_le o
    have hdv : ((o.length : Int) % c) = 0 := by
      rw [hol, hc]
      exact Int.emod_eq_zero_of_dvd (Int.natCast_dvd_natCast.2 f2)
    rw [e, hcr, hc.symm]
    refine Ev.step (fun k => by rw [laws_FnReached.l0]) ?_
    refine evNeg (by omega) (evPos rfl (evPos (by omega) (evPos D.zero (evPos rfl ?_))))
    cases ev
    · exact evNeg (by simp) (evNeg (by omega) (evPos hdv (rchJ3 l1 y1)))
    · refine evPos rfl ?_
      by_cases c2 : (N : Int) > 1
      · have := f3 (hev rfl) (by omega)
        refine evPos c2 (evNeg ?_ (evNeg (by omega) (evPos hdv (rchJ3 l1 y1))))
        rw [wr (by omega) (by omega)]
        omega
      · exact evNeg c2 (evNeg (by omega) (evPos hdv (rchJ3 l1 y1)))
  | succ d ih =>
    intro r hr
    have hrl : r < o.length := by omega
    have ht := cntR_take o r hrl
    have ihr := ih (r + 1) (by omega)
    rw [ht, show ((r + 1 : Nat) : Int) = (r : Int) + 1 from by omega] at ihr
    have hle := cntR_le (o.take r)
    have htl : (o.take r).length ≤ 120 := by rw [List.length_take]; omega
    refine Ev.step (fun k => by rw [laws_FnReached.l0]) ?_
    refine evPos (by omega) (evPos (by omega) (evPos (by omega) ?_))
    by_cases c0 : rd o (r : Int) < 0
    · rw [if_pos c0, Int.add_zero] at ihr
      refine evPos c0 ?_
      rw [wr (by omega) (by omega)]
      exact ihr
    · rw [if_neg c0] at ihr
      have hrR : r ∈ R := (D.mem r (by omega)).1 (by omega)
      have hpa : Ev (fun k => impl_PermutationAt.f k (N : Int) (r : Int)) (PA N r, true) := by
        unfold impl_PermutationAt.f
        simp only [within_eq, Option.bind_some]
        refine evPos (by simp; omega) (Ev.bind (factorial_ev N (by omega)) (evPos ?_ (Ev.bind (permutationAt_ev N r hN (by omega)) (Ev.now _))))
        rw [← facN_eq, wr (by omega) (by omega)]
        simp only [decide_eq_true_eq]
        omega
      refine evNeg c0 (Ev.bind hpa (evPos rfl ?_))
      rw [wr (x := cntR (o.take r) + 1) (by omega) (by omega)]
      refine rchL1 l1 N hN M hML hM o R D c ev r hrR _ ?_ M.length 0 (by omega) (by simp)
      rw [wr (by omega) (by omega)]
      exact ihr
end
theorem FnReached : laws_FnReached.Pure := by
  intro l0 l1 hm0 hb0 hw0 hm1 hb1 hw1
  refine Ev.rounds (g := fun q => laws_FnReached.f q l0 l1) ?_
  unfold laws_FnReached.f
  obtain ⟨t, ht, hbig⟩ := big_eq l0 l1
  rw [ht]
  refine evSome ?_
  cases t
  rotate_left
  · exact evPos rfl (Ev.now _)
  obtain ⟨q0, q1⟩ := hbig rfl
  have y0 := byt_of q0 hw0
  have y1 := byt_of q1 hw1
  refine evNeg (by simp) ?_
  obtain ⟨n, M, hd, hML⟩ := drawDistancesFrom_ev l0 y0
  refine Ev.bind hd ?_
  have ht := moTask_ev n M (by omega)
  have hi := areMoves_ev n M (by omega)
  unfold spec_DistancesFrom.f impl_DistancesFrom.f impl_ReachCount.f spec_AreEven.f impl_AreEven.f
  by_cases hok : okTask n M = true
  rotate_left
  · refine Ev.bind (Ev.bind hi (evNeg hok (Ev.now _))) (Ev.bind (Ev.bind ht (evNeg hok (Ev.now _))) (Ev.bind (Ev.bind hi (evNeg hok (Ev.now _))) (Ev.bind (Ev.bind hi (evNeg hok (Ev.now _))) (Ev.bind (Ev.bind ht (evNeg hok (Ev.now _))) (evNeg (by simp) (Ev.bind (uSame_self [] (by simp)) (evPos rfl (evNeg (by simp) (evNeg (by simp) ?_)))))))))
    refine Ev.step (fun k => by rw [laws_FnReached.j0]) ?_
    exact evNeg (by simp) (evNeg (by simp) (rchJ3 l1 y1))
  have h := hok
  simp only [okTask, Bool.and_eq_true, decide_eq_true_eq, List.all_eq_true] at h
  obtain ⟨N, rfl⟩ := Int.eq_ofNat_of_zero_le (show 0 ≤ n by omega)
  have hN : N ≤ 5 := by omega
  have hf := facN_le N hN
  have hgd : ∀ m ∈ M, Mgood N m.f0 m.f1 m.f2 := fun m hm => by have := h.1 m hm; simp only [isMv, decide_eq_true_eq] at this; unfold Mgood; omega
  obtain ⟨o, h1, h2, R, D⟩ := distances_full N hN M hgd (by omega)
  have hol := D.len
  have hrc := impl_ReachCount_l0 o (by omega) o.length 0 0 (by omega) (by simp) (by omega) (by omega)
  simp only [Int.toNat_zero, List.drop_zero, Int.zero_add] at hrc
  have e1 := spec_AreEven_l0 N hN M (by omega) hgd M.length 0 (by omega) (by simp)
  have e2 := AreEven_idx_ev (impl_AreEven.g N) negS M (by omega) (fun m hm => (neg_use N hN m (hgd m hm)).2) M.length 0 (by omega) (by simp)
  simp only [Int.toNat_zero, List.drop_zero] at e1 e2
  have he : (!decide (0 ≤ pIdx negS 0 M)) = !M.any negS := by
    have hp := pIdx_any negS M 0 (by omega)
    cases ha : M.any negS
    · have : ¬ 0 ≤ pIdx negS 0 M := fun h0 => by rw [hp, ha] at h0; cases h0
      simp [this]
    · have : 0 ≤ pIdx negS 0 M := hp.2 ha
      simp [this]
  have hcr := cntR_full D
  have hev : (!M.any negS) = true → ∀ m ∈ M, sgm m.f0 m.f1 m.f2 = 1 := by
    intro h3 m hm
    refine neg_sgm N hN m (hgd m hm) ?_
    cases h4 : negS m
    · rfl
    · rw [List.any_eq_true.2 ⟨m, hm, h4⟩] at h3; simp at h3
  generalize (!M.any negS) = ev at e1 he hev
  refine Ev.bind (Ev.bind hi (evPos hok (Ev.bind h2 (Ev.now _)))) (Ev.bind (Ev.bind ht (evPos hok (Ev.bind h1 (Ev.now _)))) (Ev.bind (Ev.bind hi (evPos hok (Ev.bind h2 hrc))) (Ev.bind (Ev.bind hi (evPos hok (Ev.bind e2 (evEq (congrArg (fun z => (z, true)) he))))) (Ev.bind (Ev.bind ht (evPos hok e1)) (evNeg (by simp) (Ev.bind (uSame_self o (by omega)) (evPos rfl (evNeg (by simp) (evNeg (by simp) ?_)))))))))
  refine Ev.step (fun k => by rw [laws_FnReached.j0]) ?_
  refine evNeg (by simp) (evPos rfl ?_)
  have hfin := rchL0 l1 N hN M (by omega) hgd o R D (cntR o) ev hcr hev y1 (facN N) 0 (by omega)
  exact hfin
end Go.Proofs.Ytllhnnjkonghlaa.Pure
