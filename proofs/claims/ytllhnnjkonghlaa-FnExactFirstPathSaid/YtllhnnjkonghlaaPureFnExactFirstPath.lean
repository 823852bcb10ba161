/- The pure statement of FnExactFirstPath: for all arguments that fit, the law as a Lean function answers true after enough rounds. -/
import Derived.Test.YtllhnnjkonghlaaMFnExactFirstPathx1
import Derived.Test.YtllhnnjkonghlaaMFnExactFirstPathx2
import Derived.Test.YtllhnnjkonghlaaMFnExactFirstPathx3
import Derived.Test.YtllhnnjkonghlaaMFnExactFirstPathx4
import Derived.Test.YtllhnnjkonghlaaMFnExactFirstPathx5
import Derived.Test.YtllhnnjkonghlaaMFnExactFirstPathx6
import Derived.Test.YtllhnnjkonghlaaMFnExactFirstPathx7
import Derived.Test.YtllhnnjkonghlaaMFnExactFirstPathx8
import Derived.Test.YtllhnnjkonghlaaMFnExactFirstPathx9
import Derived.Test.YtllhnnjkonghlaaBase
import Derived.Test.YtllhnnjkonghlaaComb
import Derived.Test.YtllhnnjkonghlaaTrot
import Derived.Test.YtllhnnjkonghlaaMoves
import Derived.Test.YtllhnnjkonghlaaPerms
import Derived.Test.YtllhnnjkonghlaaPerm5
namespace Go.Proofs.Ytllhnnjkonghlaa.Pure
open Go.RowKit Go.Proofs.Ytllhnnjkonghlaa.MFnExactFirstPath Go.Proofs.YtllhnnjkonghlaaW.PrintWords Go.Proofs.YtllhnnjkonghlaaW.PrintLast Go.Proofs.Ytllhnnjkonghlaa.Base Go.Proofs.Ytllhnnjkonghlaa.Comb Go.Proofs.Ytllhnnjkonghlaa.Trot Go.Proofs.Ytllhnnjkonghlaa.Moves Go.Proofs.Ytllhnnjkonghlaa.Perms Go.Proofs.Ytllhnnjkonghlaa.Perm5
set_option linter.unusedVariables false
set_option linter.unusedSimpArgs false

/-! laws_szMoveS -/
theorem szMoveS_eq (l : List S72) (h : l.length ≤ maxLen) : laws_szMoveS.f l 1048576 = some (if l.length ≤ 1048576 then (1048576 - (l.length : Int)) else -1) := by
  have hm : maxLen = 9223372036854775807 := rfl
  unfold laws_szMoveS.f
  rw [wr (by omega) (by omega)]
  by_cases c : l.length ≤ 1048576
  · rw [if_neg (by omega), if_pos c]
  · rw [if_pos (by omega), if_neg c]
theorem szMoveS_left (l : List S72) (s : Int) (h : l.length ≤ maxLen) (h0 : 0 ≤ s) (h1 : s ≤ 1048576) : laws_szMoveS.f l s = some (if (l.length : Int) ≤ s then (s - (l.length : Int)) else -1) := by
  have hm : maxLen = 9223372036854775807 := rfl
  unfold laws_szMoveS.f
  rw [wr (by omega) (by omega)]
  by_cases c : (l.length : Int) ≤ s
  · rw [if_neg (by omega), if_pos c]
  · rw [if_pos (by omega), if_neg c]
/-! spec_l1In -/
theorem l1In_eq (x a b : Int) : spec_l1In.f x a b = some (decide (a ≤ x ∧ x ≤ b)) := by
  unfold spec_l1In.f
  by_cases h : x ≥ a
  · rw [if_pos h]; have h' : a ≤ x := h; simp [h']
  · rw [if_neg h]; have h' : ¬ a ≤ x := h; simp [h']
/-! spec_moGood -/
theorem moGood_eq (n c i j : Int) (h0 : 0 ≤ n) (hn : n ≤ 12) : spec_moGood.f n c i j = some (isMv n c i j) := by
  unfold spec_moGood.f isMv
  rw [wr (x := n - 1) (by omega) (by omega)]
  simp only [l1In_eq, Option.bind_some]
  by_cases c0 : c = 0
  · rw [if_pos c0]
    by_cases c1 : 1 ≤ j ∧ j ≤ n - 1
    · rw [if_pos (by simpa using c1), wr (by omega) (by omega)]
      congr 1; apply decide_eq_decide.2; omega
    · rw [if_neg (by simpa using c1)]
      congr 1; exact (decide_eq_false (by omega)).symm
  · rw [if_neg c0]
    by_cases c1 : c = 1
    · rw [if_pos c1]
      by_cases c3 : 2 ≤ i ∧ i ≤ n
      · rw [if_pos (by simpa using c3)]
        congr 1; rw [Bool.eq_iff_iff]; simp; omega
      · rw [if_neg (by simpa using c3)]
        congr 1; exact (decide_eq_false (by omega)).symm
    · rw [if_neg c1]
      by_cases c2 : c = 2
      · rw [if_pos c2]
        by_cases c3 : 2 ≤ i ∧ i ≤ n
        · rw [if_pos (by simpa using c3)]
          congr 1; rw [Bool.eq_iff_iff]; simp; omega
        · rw [if_neg (by simpa using c3)]
          congr 1; exact (decide_eq_false (by omega)).symm
      · rw [if_neg c2]
        congr 1; exact (decide_eq_false (by omega)).symm
/-! spec_moTask -/
def okTask (n : Int) (l : List S45) : Bool := (l.all fun m => isMv n m.f0 m.f1 m.f2) && (decide (1 ≤ n ∧ n ≤ 5) && decide ((l.length : Int) ≤ 12))
theorem moGood_some (n a b c : Int) : spec_moGood.f n a b c = some ((spec_moGood.f n a b c).getD false) := by
  unfold spec_moGood.f
  simp only [l1In_eq, Option.bind_some]
  repeat' split
  all_goals rfl
theorem moTask_l0 (n : Int) (g : S45 → Bool) (hg : ∀ m : S45, spec_moGood.f n m.f0 m.f1 m.f2 = some (g m)) (l : List S45) (hl : l.length ≤ 1048576) : ∀ (d : Nat) (i : Int), 0 ≤ i → i.toNat + d = l.length →
    Ev (fun k => spec_moTask.l0 k n l l (l.length : Int) i) (((l.drop i.toNat).all g) && (decide (1 ≤ n ∧ n ≤ 5) && decide ((l.length : Int) ≤ 12))) := by
  intro d
  induction d with
  | zero =>
    intro i h0 hd
    refine Ev.step (fun k => by rw [spec_moTask.l0]) ?_
    rw [List.drop_of_length_le (by omega)]
    refine evNeg (by omega) ?_
    rw [l1In_eq]
    refine evSome ?_
    by_cases c : 1 ≤ n ∧ n ≤ 5
    · exact evPos (by simpa using c) (evEq (by simp [c]))
    · refine evNeg (by simpa using c) (evEq ?_)
      rw [decide_eq_false c]; simp
  | succ d ih =>
    intro i h0 hd
    refine Ev.step (fun k => by rw [spec_moTask.l0]) ?_
    refine evPos (by omega) (evPos h0 (evPos (by omega) ?_))
    rw [hg, wr (by omega) (by omega), List.drop_eq_getElem_cons (show i.toNat < l.length by omega), List.all_cons]
    have e : rd_T45 l i = l[i.toNat] := by unfold rd_T45; rw [List.getD_eq_getElem?_getD, List.getElem?_eq_getElem (by omega)]; rfl
    rw [e]
    refine evSome ?_
    by_cases c : g l[i.toNat] = true
    · refine evPos c (evTo (ih (i + 1) (by omega) (by omega)) ?_)
      rw [c, show (i + 1).toNat = i.toNat + 1 by omega]; simp
    · refine evNeg c (evEq ?_)
      rw [Bool.eq_false_iff.mpr c]; simp
theorem moTask_ev (n : Int) (l : List S45) (hl : l.length ≤ 1048576) : Ev (fun k => spec_moTask.f k n l) (okTask n l) := by
  unfold spec_moTask.f okTask
  by_cases c : 1 ≤ n ∧ n ≤ 5
  · exact evTo (moTask_l0 n (fun m => isMv n m.f0 m.f1 m.f2) (fun m => moGood_eq n _ _ _ (by omega) (by omega)) l hl l.length 0 (by omega) (by simp)) (by simp)
  · refine evTo (moTask_l0 n _ (fun m => moGood_some n m.f0 m.f1 m.f2) l hl l.length 0 (by omega) (by simp)) ?_
    rw [decide_eq_false c]; simp
/-! spec_raFactorial -/
theorem raFactorial_tab : ((List.range 13).all fun n => spec_raFactorial.f 20 (n : Int) == some (fac n : Int)) = true := by decide +kernel
theorem raFactorial_ev (n : Nat) (hn : n ≤ 12) : Ev (fun r => spec_raFactorial.f r (n : Int)) (fac n : Int) := by
  refine evTab (g := fun r => spec_raFactorial.f r (n : Int)) (spec_raFactorial.mono _) 20 ?_
  exact beq_iff_eq.1 (List.all_eq_true.1 raFactorial_tab n (List.mem_range.2 (by omega)))
/-! spec_l1Own -/
theorem l1Own_eq (l : List Int) (hn : l.length ≤ 10000000000000) : spec_l1Own.f l = some l := by
  unfold spec_l1Own.f
  simp only [Option.bind_some, List.nil_append, List.length_nil, Nat.zero_add]
  rw [if_pos (by omega)]
/-! spec_moApply -/
theorem moApply_l0 (l : List Int) (hl : l.length ≤ 1000) (b : Int) (hb : b ≤ l.length) (a c : Int) : ∀ (d : Nat) (x5 : List Int) (i : Int), 0 ≤ i → i + d = b → x5.length = l.length → x5.take i.toNat = (l.take b.toNat).reverse.take i.toNat → x5.drop i.toNat = l.drop i.toNat →
    Ev (fun k => spec_moApply.l0 k l x5 i a b c) ((l.take b.toNat).reverse ++ l.drop b.toNat) := by
  intro d
  induction d with
  | zero =>
    intro x5 i h0 hi h5 ht hd
    refine Ev.step (fun k => by rw [spec_moApply.l0]) ?_
    refine evNeg (by omega) (evEq ?_)
    obtain rfl : i = b := by omega
    rw [← List.take_append_drop i.toNat x5, ht, hd, List.take_of_length_le (by rw [List.length_reverse, List.length_take]; omega)]
  | succ d ih =>
    intro x5 i h0 hi h5 ht hd
    refine Ev.step (fun k => by rw [spec_moApply.l0]) ?_
    simp (disch := omega) only [wr]
    refine evPos (by omega) (evPos (by omega) (evPos (by omega) (evPos (by omega) (evPos (by omega) ?_))))
    refine ih _ (i + 1) (by omega) (by omega) (by simpa using h5) ?_ ?_
    · rw [set_takeI _ _ _ h0 (by omega), ht, show (i + 1).toNat = i.toNat + 1 by omega, List.take_add_one, List.getElem?_reverse (by rw [List.length_take]; omega), List.length_take, show min b.toNat l.length - 1 - i.toNat = (b - 1 - i).toNat by omega, List.getElem?_take, if_pos (by omega)]
      unfold rd
      rw [List.getD_eq_getElem?_getD, List.getElem?_eq_getElem (show (b - 1 - i).toNat < l.length by omega)]
      rfl
    · rw [show (i + 1).toNat = i.toNat + 1 by omega, List.drop_set_of_lt (by omega), ← List.drop_drop, ← List.drop_drop, hd]
theorem moApply_l1 (l : List Int) (hl : l.length ≤ 1000) (b : Int) (hb0 : 1 ≤ b) (hb : b ≤ l.length) (a c : Int) : ∀ (d : Nat) (x5 : List Int) (i : Int), 0 ≤ i → i + d = b → x5.length = l.length → x5.take i.toNat = ((l.take b.toNat).drop 1 ++ (l.take b.toNat).take 1).take i.toNat → x5.drop i.toNat = l.drop i.toNat →
    Ev (fun k => spec_moApply.l1 k l x5 i a b c) ((l.take b.toNat).drop 1 ++ (l.take b.toNat).take 1 ++ l.drop b.toNat) := by
  intro d
  have hlen : ((l.take b.toNat).drop 1 ++ (l.take b.toNat).take 1).length = b.toNat := by
    simp; omega
  induction d with
  | zero =>
    intro x5 i h0 hi h5 ht hd
    refine Ev.step (fun k => by rw [spec_moApply.l1]) ?_
    refine evNeg (by omega) (evEq ?_)
    obtain rfl : i = b := by omega
    rw [← List.take_append_drop i.toNat x5, ht, hd, List.take_of_length_le (by omega)]
  | succ d ih =>
    intro x5 i h0 hi h5 ht hd
    refine Ev.step (fun k => by rw [spec_moApply.l1]) ?_
    simp (disch := omega) only [wr]
    rw [Int.tmod_eq_emod_of_nonneg (by omega)]
    have hm : (i + 1) % b = if i + 1 < b then i + 1 else 0 := by
      split
      · exact Int.emod_eq_of_lt (by omega) (by omega)
      · rw [show i + 1 = b by omega, Int.emod_self]
    rw [hm]
    refine evPos (by omega) (evNeg (by omega) (evPos (by split <;> omega) (evPos (by split <;> omega) (evPos (by omega) (evPos (by omega) ?_)))))
    refine ih _ (i + 1) (by omega) (by omega) (by simpa using h5) ?_ ?_
    · rw [set_takeI _ _ _ h0 (by omega), ht, show (i + 1).toNat = i.toNat + 1 by omega, List.take_add_one (l := _ ++ _)]
      congr 1
      unfold rd
      by_cases c : i + 1 < b
      · rw [if_pos c, List.getElem?_append_left (by simp; omega), List.getElem?_drop, List.getElem?_take, if_pos (by omega), show 1 + i.toNat = (i + 1).toNat by omega, List.getD_eq_getElem?_getD, List.getElem?_eq_getElem (by omega)]
        rfl
      · rw [if_neg c, List.getElem?_append_right (by simp; omega)]
        have e : i.toNat - ((l.take b.toNat).drop 1).length = 0 := by simp; omega
        rw [e, List.getElem?_take, if_pos (by omega), List.getElem?_take, if_pos (by omega), List.getD_eq_getElem?_getD, show (0 : Int).toNat = 0 from rfl, List.getElem?_eq_getElem (show 0 < l.length by omega)]
        rfl
    · rw [show (i + 1).toNat = i.toNat + 1 by omega, List.drop_set_of_lt (by omega), ← List.drop_drop, ← List.drop_drop, hd]
theorem moApply_ev (l : List Int) (hl : l.length ≤ 1000) (a b c : Int) (hg : Mgood l.length a b c) : Ev (fun q => spec_moApply.f q l a b c) (mv l a b c) := by
  unfold spec_moApply.f
  rw [l1Own_eq l (by omega)]
  refine evSome ?_
  rcases hg with ⟨rfl, h1, h2, h3⟩ | ⟨rfl, h1, h2, rfl⟩ | ⟨rfl, h1, h2, rfl⟩
  · exact evPos rfl (evPos (by omega) (evPos (by omega) (evPos (by omega) (evPos (by omega) (evPos (by omega) (evPos (by omega) (evEq rfl)))))))
  · refine evNeg (by decide) (evPos rfl ?_)
    refine evTo (moApply_l0 l hl b h2 1 0 b.toNat l 0 (by omega) (by omega) rfl (by simp) (by simp)) (by simp [mv])
  · refine evNeg (by decide) (evNeg (by decide) ?_)
    refine evTo (moApply_l1 l hl b (by omega) h2 2 0 b.toNat l 0 (by omega) (by omega) rfl (by simp) (by simp)) (by simp [mv])
/-! spec_l1Same -/
theorem l1Same_l0 (a b : List Int) (hn : a.length ≤ 35184372088832) (hb : a.length = b.length) : ∀ (d : Nat) (j : Int), 0 ≤ j → j.toNat + d = a.length →
    Ev (fun k => spec_l1Same.l0 k a b (a.length : Int) j) (decide (a.drop j.toNat = b.drop j.toNat)) := by
  intro d
  induction d with
  | zero =>
    intro j h0 hd
    refine Ev.step (fun k => by rw [spec_l1Same.l0]) ?_
    refine evNeg (by omega) ?_
    rw [drop_end a j (by omega), drop_end b j (by omega)]
    exact evEq rfl
  | succ d ih =>
    intro j h0 hd
    refine Ev.step (fun k => by rw [spec_l1Same.l0]) ?_
    refine evPos (by omega) (evPos (by omega) (evPos (by omega) (evPos (by omega) ?_)))
    rw [wr (by omega) (by omega), drop_rd a j h0 (by omega), drop_rd b j h0 (by omega)]
    by_cases c : rd a j = rd b j
    · refine evPos c (evTo (ih _ (by omega) (by omega)) ?_)
      simp [c]
    · refine evNeg c (evEq ?_)
      simp [c]
theorem l1Same_ev (a b : List Int) (hn : a.length ≤ 35184372088832) : Ev (fun k => spec_l1Same.f k a b) (decide (a = b)) := by
  unfold spec_l1Same.f
  by_cases hb : a.length = b.length
  · exact evPos (by omega) (l1Same_l0 a b hn hb a.length 0 (by omega) (by simp))
  · refine evNeg (by omega) (evEq ?_)
    exact (decide_eq_false (fun e => hb (by rw [e]))).symm
/-! spec_raPlace -/
theorem raPlace_l0 (l : List Int) (L : List (List Int)) (hL : L.length ≤ 1000000000) (hl : ∀ t ∈ L, t.length ≤ 35184372088832) : ∀ (d : Nat) (j : Int), 0 ≤ j → j.toNat + d = L.length →
    Ev (fun k => spec_raPlace.l0 k l L (L.length : Int) j) (placeI l j (L.drop j.toNat)) := by
  intro d
  induction d with
  | zero =>
    intro j h0 hd
    refine Ev.step (fun k => by rw [spec_raPlace.l0]) ?_
    refine evNeg (by omega) ?_
    rw [drop_end L j (by omega)]
    exact evEq rfl
  | succ d ih =>
    intro j h0 hd
    refine Ev.step (fun k => by rw [spec_raPlace.l0]) ?_
    have hm : rd_L3 L j ∈ L := by
      unfold rd_L3
      rw [List.getD_eq_getElem?_getD, List.getElem?_eq_getElem (show j.toNat < L.length by omega)]
      exact List.getElem_mem _
    refine evPos (by omega) (evPos (by omega) (evPos (by omega) (Ev.bind (l1Same_ev _ l (hl _ hm)) ?_)))
    have hcons : L.drop j.toNat = rd_L3 L j :: L.drop (j + 1).toNat := dropD [] L j h0 (by omega)
    rw [wr (by omega) (by omega), hcons, placeI]
    by_cases c : rd_L3 L j = l
    · rw [if_pos c]; exact evPos (decide_eq_true c) (Ev.now _)
    · rw [if_neg c]; exact evNeg (by simpa using c) (ih _ (by omega) (by omega))
theorem raPlace_ev (L : List (List Int)) (l : List Int) (hL : L.length ≤ 1000000000) (hl : ∀ t ∈ L, t.length ≤ 35184372088832) : Ev (fun k => spec_raPlace.f k L l) (placeI l 0 L) := by
  unfold spec_raPlace.f
  exact evTo (raPlace_l0 l L hL hl L.length 0 (by omega) (by simp)) (by simp)
/-! spec_raUpTo -/
theorem raUpTo_l0 (n : Nat) (hn : n ≤ 1000000000) : ∀ (d : Nat) (j : Int), 0 ≤ j → j.toNat + d = n → Ev (fun k => spec_raUpTo.l0 k (n : Int) (upTo j.toNat) j) (upTo n) := by
  intro d
  induction d with
  | zero =>
    intro j h0 hd
    refine Ev.step (fun k => by rw [spec_raUpTo.l0]) ?_
    exact evNeg (by omega) (evEq (by rw [show j.toNat = n from by omega]))
  | succ d ih =>
    intro j h0 hd
    refine Ev.step (fun k => by rw [spec_raUpTo.l0]) ?_
    refine evPos (by omega) (evPos (by rw [upTo_length]; omega) ?_)
    have h := ih (j + 1) (by omega) (by omega)
    rw [show (j + 1).toNat = j.toNat + 1 from by omega, upTo_succ, Int.toNat_of_nonneg h0] at h
    rw [wr (by omega) (by omega)]
    exact h
theorem raUpTo_ev (n : Nat) (hn : n ≤ 1000000000) : Ev (fun k => spec_raUpTo.f k (n : Int)) (upTo n) := by
  unfold spec_raUpTo.f
  exact raUpTo_l0 n hn n 0 (by omega) (by simp)
/-! laws_toMoveS -/
def conv (l : List S72) : List S45 := l.map fun m => (⟨m.f0, m.f1, m.f2⟩ : S45)
theorem conv_length (l : List S72) : (conv l).length = l.length := by simp [conv]
theorem toMoveS_l0 (x0 : List S72) (hn : x0.length ≤ 1048576) : ∀ (d : Nat) (x3 : List S45) (j : Int), 0 ≤ j → j.toNat + d = x0.length → x3.length = x0.length → x3.take j.toNat = (conv x0).take j.toNat →
    Ev (fun k => laws_toMoveS.l0 k x0 x3 j) (conv x0) := by
  intro d
  have hc := conv_length x0
  induction d with
  | zero =>
    intro x3 j h0 hd hl ht
    refine Ev.step (fun k => by rw [laws_toMoveS.l0]) ?_
    refine evNeg (by omega) ?_
    rw [List.take_of_length_le (by omega), List.take_of_length_le (by omega)] at ht
    exact evEq ht
  | succ d ih =>
    intro x3 j h0 hd hl ht
    refine Ev.step (fun k => by rw [laws_toMoveS.l0]) ?_
    refine evPos (by omega) (evPos (by omega) (evSome (evPos (by omega) ?_)))
    rw [wr (by omega) (by omega)]
    refine ih _ _ (by omega) (by omega) (by simpa using hl) ?_
    rw [set_takeG x3 j _ h0 (by omega), ht, show (j + 1).toNat = j.toNat + 1 by omega, List.take_add_one]
    congr 1
    simp only [conv, List.getElem?_map, rd_T72, List.getD_eq_getElem?_getD]
    rw [List.getElem?_eq_getElem (show j.toNat < x0.length by omega)]
    rfl
theorem toMoveS_ev (l : List S72) (hn : l.length ≤ 1048576) : Ev (fun k => laws_toMoveS.f k l) (conv l) := by
  unfold laws_toMoveS.f
  refine evPos (by omega) (evPos (by simp; omega) ?_)
  exact toMoveS_l0 l hn l.length _ 0 (by omega) (by simp) (by simp) (by simp)
/-! impl_within -/
theorem within_eq (x a b : Int) : impl_within.f x a b = some (decide (a ≤ x ∧ x ≤ b)) := by
  unfold impl_within.f
  by_cases h : x ≥ a
  · rw [if_pos h]; have h' : a ≤ x := h; simp [h']
  · rw [if_neg h]; have h' : ¬ a ≤ x := h; simp [h']
/-! impl_isMove -/
theorem isMove_eq (n c i j : Int) (h0 : 0 ≤ n) (hn : n ≤ 12) : impl_isMove.f n c i j = some (isMv n c i j) := by
  unfold impl_isMove.f isMv
  simp only [within_eq, Option.bind_some]
  by_cases c0 : c = 0
  · rw [if_pos c0]
    by_cases c1 : 0 ≤ i
    · rw [if_pos c1]
      by_cases c2 : i < j
      · rw [if_pos c2]; congr 1; apply decide_eq_decide.2; omega
      · rw [if_neg c2]; congr 1; exact (decide_eq_false (by omega)).symm
    · rw [if_neg c1]; congr 1; exact (decide_eq_false (by omega)).symm
  · rw [if_neg c0]
    by_cases c1 : c = 1
    · rw [if_pos c1]
      by_cases c3 : 2 ≤ i ∧ i ≤ n
      · rw [if_pos (by simpa using c3)]
        congr 1; rw [Bool.eq_iff_iff]; simp; omega
      · rw [if_neg (by simpa using c3)]
        congr 1; exact (decide_eq_false (by omega)).symm
    · rw [if_neg c1]
      by_cases c2 : c = 2
      · rw [if_pos c2]
        by_cases c3 : 2 ≤ i ∧ i ≤ n
        · rw [if_pos (by simpa using c3)]
          congr 1; rw [Bool.eq_iff_iff]; simp; omega
        · rw [if_neg (by simpa using c3)]
          congr 1; exact (decide_eq_false (by omega)).symm
      · rw [if_neg c2]
        congr 1; exact (decide_eq_false (by omega)).symm
/-! impl_areMoves -/
theorem isMove_some (n a b c : Int) : impl_isMove.f n a b c = some ((impl_isMove.f n a b c).getD false) := by
  unfold impl_isMove.f
  simp only [within_eq, Option.bind_some]
  repeat' split
  all_goals rfl
theorem areMoves_l0 (n : Int) (g : S45 → Bool) (hg : ∀ m : S45, impl_isMove.f n m.f0 m.f1 m.f2 = some (g m)) (l : List S45) (hl : l.length ≤ 1048576) : ∀ (d : Nat) (i : Int), 0 ≤ i → i.toNat + d = l.length →
    Ev (fun k => impl_areMoves.l0 k n l l (l.length : Int) i) (((l.drop i.toNat).all g) && (decide (1 ≤ n ∧ n ≤ 5) && decide ((l.length : Int) ≤ 12))) := by
  intro d
  induction d with
  | zero =>
    intro i h0 hd
    refine Ev.step (fun k => by rw [impl_areMoves.l0]) ?_
    rw [List.drop_of_length_le (by omega)]
    refine evNeg (by omega) ?_
    rw [within_eq]
    refine evSome ?_
    by_cases c : 1 ≤ n ∧ n ≤ 5
    · exact evPos (by simpa using c) (evEq (by simp [c]))
    · refine evNeg (by simpa using c) (evEq ?_)
      rw [decide_eq_false c]; simp
  | succ d ih =>
    intro i h0 hd
    refine Ev.step (fun k => by rw [impl_areMoves.l0]) ?_
    refine evPos (by omega) (evPos h0 (evPos (by omega) ?_))
    rw [hg, wr (by omega) (by omega), List.drop_eq_getElem_cons (show i.toNat < l.length by omega), List.all_cons]
    have e : rd_T45 l i = l[i.toNat] := by unfold rd_T45; rw [List.getD_eq_getElem?_getD, List.getElem?_eq_getElem (by omega)]; rfl
    rw [e]
    refine evSome ?_
    by_cases c : g l[i.toNat] = true
    · refine evPos c (evTo (ih (i + 1) (by omega) (by omega)) ?_)
      rw [c, show (i + 1).toNat = i.toNat + 1 by omega]; simp
    · refine evNeg c (evEq ?_)
      rw [Bool.eq_false_iff.mpr c]; simp
theorem areMoves_ev (n : Int) (l : List S45) (hl : l.length ≤ 1048576) : Ev (fun k => impl_areMoves.f k n l) (okTask n l) := by
  unfold impl_areMoves.f okTask
  by_cases c : 1 ≤ n ∧ n ≤ 5
  · exact evTo (areMoves_l0 n (fun m => isMv n m.f0 m.f1 m.f2) (fun m => isMove_eq n _ _ _ (by omega) (by omega)) l hl l.length 0 (by omega) (by simp)) (by simp)
  · refine evTo (areMoves_l0 n _ (fun m => isMove_some n m.f0 m.f1 m.f2) l hl l.length 0 (by omega) (by simp)) ?_
    rw [decide_eq_false c]; simp
/-! impl_identity -/
theorem identity_l0 (n : Nat) (hn : n ≤ 1000000000) : ∀ (d : Nat) (j : Int), 0 ≤ j → j.toNat + d = n → Ev (fun k => impl_identity.l0 k (upTo j.toNat) (n : Int) j) (upTo n) := by
  intro d
  induction d with
  | zero =>
    intro j h0 hd
    refine Ev.step (fun k => by rw [impl_identity.l0]) ?_
    exact evNeg (by omega) (evEq (by rw [show j.toNat = n from by omega]))
  | succ d ih =>
    intro j h0 hd
    refine Ev.step (fun k => by rw [impl_identity.l0]) ?_
    refine evPos (by omega) (evPos (by rw [upTo_length]; omega) ?_)
    have h := ih (j + 1) (by omega) (by omega)
    rw [show (j + 1).toNat = j.toNat + 1 from by omega, upTo_succ, Int.toNat_of_nonneg h0] at h
    rw [wr (by omega) (by omega)]
    exact h
theorem identity_ev (n : Nat) (hn : n ≤ 1000000000) : Ev (fun k => impl_identity.f k (n : Int)) (upTo n) := by
  unfold impl_identity.f
  exact identity_l0 n hn n 0 (by omega) (by simp)
/-! impl_factorial -/
theorem factorial_tab : ((List.range 13).all fun n => impl_factorial.f 20 (n : Int) == some (fac n : Int)) = true := by decide +kernel
theorem factorial_ev (n : Nat) (hn : n ≤ 12) : Ev (fun r => impl_factorial.f r (n : Int)) (fac n : Int) := by
  refine evTab (g := fun r => impl_factorial.f r (n : Int)) (impl_factorial.mono _) 20 ?_
  exact beq_iff_eq.1 (List.all_eq_true.1 factorial_tab n (List.mem_range.2 (by omega)))
/-! impl_copied -/
theorem copied_eq (l : List Int) (hn : l.length ≤ 10000000000000) : impl_copied.f l = some l := by
  unfold impl_copied.f
  simp only [Option.bind_some, List.nil_append, List.length_nil, Nat.zero_add]
  rw [if_pos (by omega)]
/-! impl_moved -/
theorem moved_r0 : ∀ (n : Nat) (p m s : List Int), m.length ≤ n → Ev (fun k => impl_moved.r0 k (p ++ m ++ s) (p.length : Int) ((p.length : Int) + m.length - 1)) (p ++ m.reverse ++ s) := by
  intro n
  induction n with
  | zero =>
    intro p m s hm
    obtain rfl : m = [] := List.length_eq_zero_iff.1 (by omega)
    refine Ev.step (fun q => by rw [impl_moved.r0]) ?_
    exact evNeg (by simp; omega) (evEq (by simp))
  | succ n ih =>
    intro p m s hm
    refine Ev.step (fun q => by rw [impl_moved.r0]) ?_
    match m, hm with
    | [], _ => exact evNeg (by simp; omega) (evEq (by simp))
    | [x], _ => exact evNeg (by simp) (evEq (by simp))
    | x :: y :: t, hm =>
      obtain ⟨u, z, hz⟩ : ∃ u z, y :: t = u ++ [z] := ⟨(y :: t).dropLast, (y :: t).getLast (by simp), (List.dropLast_concat_getLast (by simp)).symm⟩
      rw [hz]
      have hl : u.length + 1 = t.length + 1 := by have := congrArg List.length hz; simp at this; omega
      simp only [List.length_cons] at hm
      refine evPos (by simp; omega) ?_
      have e1 : (p.length : Int).toNat = p.length := Int.toNat_natCast _
      have e2 : ((p.length : Int) + ((x :: (u ++ [z])).length : Nat) - 1).toNat = p.length + u.length + 1 := by simp; omega
      have r1 : rd (p ++ x :: (u ++ [z]) ++ s) (p.length : Int) = x := by
        unfold rd; rw [e1]; simp
      have r2 : rd (p ++ x :: (u ++ [z]) ++ s) ((p.length : Int) + ((x :: (u ++ [z])).length : Nat) - 1) = z := by
        unfold rd; rw [e2]
        rw [List.getD_eq_getElem?_getD, List.append_assoc, List.getElem?_append_right (by omega), show p.length + u.length + 1 - p.length = u.length + 1 by omega]
        simp
      rw [r1, r2, e1, e2]
      have hset : ((p ++ x :: (u ++ [z]) ++ s).set p.length z).set (p.length + u.length + 1) x = (p ++ [z]) ++ u ++ ([x] ++ s) := by
        rw [List.append_assoc p, List.set_append_right _ _ (by omega), Nat.sub_self, List.cons_append, List.set_cons_zero, List.set_append_right _ _ (by omega), show p.length + u.length + 1 - p.length = u.length + 1 by omega, List.set_cons_succ]
        rw [List.append_assoc u, List.set_append_right _ _ (by omega), Nat.sub_self]
        simp
      rw [hset]
      refine evTo (Ev.congr (fun k => ?_) (ih (p ++ [z]) u ([x] ++ s) (by omega))) ?_
      · congr 1
        · simp
        · simp; omega
      · simp
theorem moved_ev (l : List Int) (hl : l.length ≤ 1000) (a b c : Int) (hg : Mgood l.length a b c) : Ev (fun q => impl_moved.f q l a b c) (mv l a b c) := by
  unfold impl_moved.f
  rw [copied_eq l (by omega)]
  refine evSome (evPos (by omega) ?_)
  rcases hg with ⟨rfl, h1, h2, h3⟩ | ⟨rfl, h1, h2, rfl⟩ | ⟨rfl, h1, h2, rfl⟩
  · exact evPos rfl (evPos (by omega) (evPos (by omega) (evPos (by omega) (evPos (by omega) (evEq rfl)))))
  · refine evNeg (by decide) (evPos rfl (evPos (by omega) (evPos (by omega) ?_)))
    have h := moved_r0 b.toNat [] (l.take b.toNat) (l.drop b.toNat) (by rw [List.length_take]; omega)
    rw [List.length_take, show min b.toNat l.length = b.toNat by omega] at h
    refine evTo (Ev.congr (fun k => ?_) h) (by simp [mv])
    rw [List.nil_append, List.take_append_drop]
    congr 1
    simp; omega
  · refine evNeg (by decide) (evNeg (by decide) (evPos rfl (evPos (by omega) (evPos (by omega) (evEq ?_)))))
    obtain ⟨n, hn⟩ : ∃ n : Nat, b = (n : Int) + 1 := ⟨b.toNat - 1, by omega⟩
    subst hn
    rw [show ((n : Int) + 1).toNat = n + 1 by omega, show ((n : Int) + 1 - 1).toNat = n by omega]
    match l, h2 with
    | x :: t, h2 =>
      simp at h2
      have e : rd (x :: t) 0 = x := rfl
      rw [e]
      simp only [mv, List.take_succ_cons, List.drop_succ_cons, List.drop_zero]
      rw [show ((n : Int) + 1).toNat = n + 1 by omega]
      simp only [List.take_succ_cons, List.drop_succ_cons, List.drop_zero, List.take_zero]
      rw [if_neg (by decide), if_neg (by decide)]
      have hd : (x :: t).drop n = (x :: t)[n]'(by simp; omega) :: t.drop n := by
        rw [List.drop_eq_getElem_cons (by simp; omega)]; simp
      rw [hd, List.set_append_right _ _ (by rw [List.length_take]; omega), List.length_take, show n - min n t.length = 0 by omega]
      simp
/-! impl_permutationRank -/
theorem permutationRank_tab : ((List.range 6).all fun n => (List.range (facN n)).all fun r => impl_permutationRank.f 60 (PA n r) == some (r : Int)) = true := by decide +kernel
theorem permutationRank_ev (n r : Nat) (hn : n ≤ 5) (hr : r < facN n) : Ev (fun q => impl_permutationRank.f q (PA n r)) (r : Int) := by
  refine evTab (g := fun q => impl_permutationRank.f q (PA n r)) (impl_permutationRank.mono _) 60 ?_
  exact beq_iff_eq.1 (List.all_eq_true.1 (List.all_eq_true.1 permutationRank_tab n (List.mem_range.2 (by omega))) r (List.mem_range.2 hr))
/-! impl_FirstPath -/
/-- The ranks met by a way. -/
def rkM (X : List (List Int)) : List Int := (X.map (fun l => (Moves.rk l : Int))).reverse
theorem rkM_snoc (X : List (List Int)) (l : List Int) : rkM (X ++ [l]) = (Moves.rk l : Int) :: rkM X := by simp [rkM]
theorem rkM_length (X : List (List Int)) : (rkM X).length = X.length := by simp [rkM]
theorem rkM_mem {n : Nat} (hn : n ≤ 5) {X : List (List Int)} (hX : ∀ t ∈ X, isPm t = true ∧ t.length = n) {l : List Int} (h1 : isPm l = true) (h2 : l.length = n) : (Moves.rk l : Int) ∈ rkM X ↔ l ∈ X := by
  unfold rkM
  rw [List.mem_reverse, List.mem_map]
  constructor
  · rintro ⟨t, ht, e⟩
    have := rk_inj hn (hX t ht).1 (hX t ht).2 h1 h2 (by exact_mod_cast e)
    exact this ▸ ht
  · intro h
    exact ⟨l, h, rfl⟩
theorem rkM_nodup {n : Nat} (hn : n ≤ 5) {X : List (List Int)} (hX : ∀ t ∈ X, isPm t = true ∧ t.length = n) (hd : X.Nodup) : (rkM X).Nodup := by
  unfold rkM
  unfold List.Nodup
  rw [List.pairwise_reverse, List.pairwise_map]
  exact List.Pairwise.imp_of_mem (fun {a b} ha hb hab e => hab (rk_inj hn (hX a ha).1 (hX a ha).2 (hX b hb).1 (hX b hb).2 (by exact_mod_cast e.symm))) hd
/-! laws_eqIntS -/
theorem eqIntS_l0 (a b : List Int) (hn : a.length ≤ 35184372088832) (hb : a.length = b.length) : ∀ (d : Nat) (j : Int), 0 ≤ j → j.toNat + d = a.length →
    Ev (fun k => laws_eqIntS.l0 k a b j) (decide (a.drop j.toNat = b.drop j.toNat)) := by
  intro d
  induction d with
  | zero =>
    intro j h0 hd
    refine Ev.step (fun k => by rw [laws_eqIntS.l0]) ?_
    refine evNeg (by omega) ?_
    rw [drop_end a j (by omega), drop_end b j (by omega)]
    exact evEq rfl
  | succ d ih =>
    intro j h0 hd
    refine Ev.step (fun k => by rw [laws_eqIntS.l0]) ?_
    refine evPos (by omega) (evPos (by omega) (evPos (by omega) ?_))
    rw [wr (by omega) (by omega), drop_rd a j h0 (by omega), drop_rd b j h0 (by omega)]
    by_cases c : rd a j = rd b j
    · refine evPos c (evTo (ih _ (by omega) (by omega)) ?_)
      simp [c]
    · refine evNeg c (evEq ?_)
      simp [c]
theorem eqIntS_ev (a b : List Int) (hn : a.length ≤ 35184372088832) : Ev (fun k => laws_eqIntS.f k a b) (decide (a = b)) := by
  unfold laws_eqIntS.f
  by_cases hb : a.length = b.length
  · exact evPos (by omega) (eqIntS_l0 a b hn hb a.length 0 (by omega) (by simp))
  · refine evNeg (by omega) (evEq ?_)
    exact (decide_eq_false (fun e => hb (by rw [e]))).symm
theorem eqIntS_self (a : List Int) (hn : a.length ≤ 35184372088832) : Ev (fun k => laws_eqIntS.f k a a) true := evTo (eqIntS_ev a a hn) (by simp)
/-! laws_eqMoveS -/
theorem eqMoveS_l0 (a : List S45) (hn : a.length ≤ 1048576) : ∀ (d : Nat) (j : Int), 0 ≤ j → j.toNat + d = a.length → Ev (fun k => laws_eqMoveS.l0 k a a j) true := by
  intro d
  induction d with
  | zero =>
    intro j h0 hd
    refine Ev.step (fun k => by rw [laws_eqMoveS.l0]) ?_
    exact evNeg (by omega) (Ev.now _)
  | succ d ih =>
    intro j h0 hd
    refine Ev.step (fun k => by rw [laws_eqMoveS.l0]) ?_
    refine evPos (by omega) (evPos (by omega) (evPos (by omega) ?_))
    rw [wr (by omega) (by omega)]
    have e : ∀ x y z : Int, laws_eqMove.f x y z x y z = some true := by intro x y z; unfold laws_eqMove.f; rw [if_pos rfl, if_pos rfl, if_pos rfl]
    rw [e]
    exact evSome (evPos rfl (ih _ (by omega) (by omega)))
theorem eqMoveS_self (a : List S45) (hn : a.length ≤ 1048576) : Ev (fun k => laws_eqMoveS.f k a a) true := by
  unfold laws_eqMoveS.f
  exact evPos rfl (eqMoveS_l0 a hn a.length 0 (by omega) (by simp))
/-! laws_markMoveS -/
theorem markMoveS_l0 : ∀ (d : Nat) (xs : List S45) (m j : Int), 0 ≤ j → j.toNat + d = xs.length → xs.length ≤ 1048576 → 0 ≤ m → m + 3 * d ≤ 70368744177664 →
    ∃ l', Ev (fun k => laws_markMoveS.l0 k xs m j) (m + 3 * d, l') := by
  intro d
  induction d with
  | zero =>
    intro xs m j h0 hd hn hm hk
    refine ⟨xs, ?_⟩
    refine Ev.step (fun k => by rw [laws_markMoveS.l0]) ?_
    exact evNeg (by omega) (evEq (by simp))
  | succ d ih =>
    intro xs m j h0 hd hn hm hk
    obtain ⟨l', h⟩ := ih (((xs.set j.toNat (⟨m, (rd_T45 xs j).f1, (rd_T45 xs j).f2⟩ : S45)).set j.toNat (⟨(rd_T45 (xs.set j.toNat (⟨m, (rd_T45 xs j).f1, (rd_T45 xs j).f2⟩ : S45)) j).f0, m + 1, (rd_T45 (xs.set j.toNat (⟨m, (rd_T45 xs j).f1, (rd_T45 xs j).f2⟩ : S45)) j).f2⟩ : S45)).set j.toNat (⟨(rd_T45 ((xs.set j.toNat (⟨m, (rd_T45 xs j).f1, (rd_T45 xs j).f2⟩ : S45)).set j.toNat (⟨(rd_T45 (xs.set j.toNat (⟨m, (rd_T45 xs j).f1, (rd_T45 xs j).f2⟩ : S45)) j).f0, m + 1, (rd_T45 (xs.set j.toNat (⟨m, (rd_T45 xs j).f1, (rd_T45 xs j).f2⟩ : S45)) j).f2⟩ : S45)) j).f0, (rd_T45 ((xs.set j.toNat (⟨m, (rd_T45 xs j).f1, (rd_T45 xs j).f2⟩ : S45)).set j.toNat (⟨(rd_T45 (xs.set j.toNat (⟨m, (rd_T45 xs j).f1, (rd_T45 xs j).f2⟩ : S45)) j).f0, m + 1, (rd_T45 (xs.set j.toNat (⟨m, (rd_T45 xs j).f1, (rd_T45 xs j).f2⟩ : S45)) j).f2⟩ : S45)) j).f1, m + 1 + 1⟩ : S45)) (m + 1 + 1 + 1) (j + 1) (by omega) (by simp; omega) (by simpa using hn) (by omega) (by omega)
    refine ⟨l', ?_⟩
    refine Ev.step (fun k => by rw [laws_markMoveS.l0]) ?_
    refine evPos (by omega) (evPos h0 (evSome (evSome ?_)))
    simp (disch := omega) only [wr]
    exact evTo h (by simp; omega)
theorem markMoveS_ev (xs : List S45) (hn : xs.length ≤ 1048576) : ∃ l', Ev (fun k => laws_markMoveS.f k xs 1) (1 + 3 * (xs.length : Int), l') := by
  unfold laws_markMoveS.f
  exact markMoveS_l0 xs.length xs 1 0 (by omega) (by simp) hn (by omega) (by omega)
/-! laws_markIntS -/
theorem markIntS_l0 : ∀ (d : Nat) (xs : List Int) (m j : Int), 0 ≤ j → j.toNat + d = xs.length → xs.length ≤ 35184372088832 → 0 ≤ m → m + d ≤ 70368744177664 →
    Ev (fun k => laws_markIntS.l0 k xs m j) (m + d, xs.take j.toNat ++ iotaI m d) := by
  intro d
  induction d with
  | zero =>
    intro xs m j h0 hd hn hm hk
    refine Ev.step (fun k => by rw [laws_markIntS.l0]) ?_
    refine evNeg (by omega) (evEq ?_)
    rw [take_end xs j (by omega)]
    simp [iotaI]
  | succ d ih =>
    intro xs m j h0 hd hn hm hk
    refine Ev.step (fun k => by rw [laws_markIntS.l0]) ?_
    refine evPos (by omega) (evPos (by omega) ?_)
    rw [wr (by omega) (by omega), wr (by omega) (by omega)]
    refine evTo (ih (xs.set j.toNat m) (m + 1) (j + 1) (by omega) (by simp; omega) (by simpa using hn) (by omega) (by omega)) ?_
    rw [set_takeI xs j m h0 (by omega)]
    simp [iotaI]
    omega
theorem markIntS_ev (xs : List Int) (m : Int) (hn : xs.length ≤ 35184372088832) (hm : 0 ≤ m) (hk : m + xs.length ≤ 70368744177664) :
    Ev (fun k => laws_markIntS.f k xs m) (m + xs.length, iotaI m xs.length) := by
  unfold laws_markIntS.f
  refine evTo (markIntS_l0 xs.length xs m 0 (by omega) (by simp) hn hm hk) (by simp)
/-! laws_heldIntS -/
theorem heldIntS_l0 (xs : List Int) (hn : xs.length ≤ 35184372088832) : ∀ (d : Nat) (m j : Int), 0 ≤ j → j.toNat + d = xs.length → 0 ≤ m → m + d ≤ 70368744177664 → (∀ i : Int, j ≤ i → i < xs.length → rd xs i = m + (i - j)) →
    Ev (fun k => laws_heldIntS.l0 k xs m j) (m + d) := by
  intro d
  induction d with
  | zero =>
    intro m j h0 hd hm hk h
    refine Ev.step (fun k => by rw [laws_heldIntS.l0]) ?_
    exact evNeg (by omega) (evEq (by simp))
  | succ d ih =>
    intro m j h0 hd hm hk h
    refine Ev.step (fun k => by rw [laws_heldIntS.l0]) ?_
    have hr := h j (by omega) (by omega)
    refine evPos (by omega) (evPos (by omega) (evPos (by omega) ?_))
    rw [wr (by omega) (by omega), wr (by omega) (by omega)]
    refine evTo (ih (m + 1) (j + 1) (by omega) (by omega) (by omega) (by omega) (fun i h1 h2 => ?_)) (by omega)
    rw [h i (by omega) h2]; omega
theorem heldIntS_ev (n : Nat) (m : Int) (hn : n ≤ 35184372088832) (hm : 0 ≤ m) (hk : m + n ≤ 70368744177664) :
    Ev (fun k => laws_heldIntS.f k (iotaI m n) m) (m + n) := by
  unfold laws_heldIntS.f
  have hl := iotaI_length m n
  refine heldIntS_l0 (iotaI m n) (by omega) n m 0 (by omega) (by omega) hm hk (fun i h1 h2 => ?_)
  rw [iotaI_rd n m i h1 (by omega)]; omega
theorem facN_5 {n : Nat} (hn : n ≤ 5) : facN n ≤ 120 := by rw [facN_eq]; exact Nat.le_trans (fac_mono hn) (by decide)
/-- What stays of a way. -/
structure FInv (n : Nat) (X : List (List Int)) : Prop where
  pos : 0 < X.length
  pm : ∀ t ∈ X, isPm t = true ∧ t.length = n
  nd : X.Nodup
theorem FInv.next {n : Nat} {X : List (List Int)} (h : FInv n X) {l : List Int} (hl : isPm l = true ∧ l.length = n) (hx : l ∉ X) : FInv n (X ++ [l]) := by
  refine ⟨by simp, fun t ht => ?_, ?_⟩
  · rcases List.mem_append.1 ht with ht | ht
    · exact h.pm t ht
    · rw [List.mem_singleton.1 ht]; exact hl
  · rw [List.nodup_append]
    refine ⟨h.nd, by simp, fun a ha b hb e => ?_⟩
    rw [List.mem_singleton.1 hb] at e
    exact hx (e ▸ ha)
theorem fp_rdL (X : List (List Int)) (h : 0 < X.length) : rd_L3 X ((X.length : Int) - 1) = lastL X := by
  unfold rd_L3 lastL
  rw [show ((X.length : Int) - 1).toNat = X.length - 1 from by omega]
theorem fp_rdT (L : List S45) (i : Nat) (h : i < L.length) : rd_T45 L (i : Int) = L[i] := by
  unfold rd_T45; rw [Int.toNat_natCast, List.getD_eq_getElem?_getD, List.getElem?_eq_getElem h]; rfl
/-- The two searches end alike. -/
def FRel (M out : List Int) (bud put : Int) (z : Bool × Bool × List Int × Int × List Int) (y : List Int × Bool × Int) : Prop :=
  (z.1 = true ∧ y.2.1 = true ∧ y.1 = z.2.2.2.2 ∧ y.1.length ≤ 1000) ∨
  (z.1 = false ∧ z.2.1 = true ∧ z.2.2.1 = M ∧ z.2.2.2.2 = out ∧ y.1 = [] ∧ y.2.1 = false ∧ y.2.2 = bud - z.2.2.2.1 ∧ put ≤ z.2.2.2.1 ∧ z.2.2.2.1 ≤ bud) ∨
  (z.1 = false ∧ z.2.1 = false ∧ y.1 = [] ∧ y.2.1 = false ∧ y.2.2 < 0)
theorem fp_loop (n : Nat) (hn : n ≤ 5) (L : List S45) (hL : L.length ≤ 1048576) (hg : ∀ m ∈ L, Mgood n m.f0 m.f1 m.f2) (bud : Int) (hb : bud ≤ 4000) (X : List (List Int)) (h : FInv n X) (out : List Int) (ho : out.length + 1 = X.length) (hlt : X.length < facN n)
    (ih : ∀ (nx : List Int) (put : Int) (i : Int), FInv n (X ++ [nx]) → 1 ≤ put → put ≤ bud → ∃ z y, Ev (fun k => impl_FirstPath.e k (n : Int) bud L nx (rkM (X ++ [nx])) put (out ++ [i])) z ∧ Ev (fun k => spec_FirstPath.e k L (facN n : Int) (bud - put + 1) (X ++ [nx]) (out ++ [i])) y ∧ FRel (rkM (X ++ [nx])) (out ++ [i]) bud put z y) :
    ∀ (c i : Nat) (put : Int), i + c = L.length → 1 ≤ put → put ≤ bud →
    ∃ z y, Ev (fun k => impl_FirstPath.l k (n : Int) bud L (lastL X) (i : Int) (rkM X) put out) z ∧ Ev (fun k => spec_FirstPath.l k L (facN n : Int) X out (i : Int) (bud - put)) y ∧ FRel (rkM X) out bud put z y := by
  have hf := facN_5 hn
  have hlast := h.pm _ (lastL_mem h.pos)
  intro c
  induction c with
  | zero =>
    intro i put hi h1 h2
    have hz : Ev (fun k => impl_FirstPath.l k (n : Int) bud L (lastL X) (i : Int) (rkM X) put out) (false, true, rkM X, put, out) := by
      refine Ev.step (fun k => by rw [impl_FirstPath.l]) ?_
      exact evNeg (by omega) (Ev.now _)
    have hy : Ev (fun k => spec_FirstPath.l k L (facN n : Int) X out (i : Int) (bud - put)) ([], false, bud - put) := by
      refine Ev.step (fun k => by rw [spec_FirstPath.l]) ?_
      exact evNeg (by omega) (Ev.now _)
    refine ⟨(false, true, rkM X, put, out), ([], false, bud - put), hz, hy, .inr (.inl ⟨rfl, rfl, rfl, rfl, rfl, rfl, rfl, Int.le_refl _, h2⟩)⟩
  | succ c ihc =>
    intro i put hi h1 h2
    have hil : i < L.length := by omega
    have e := fp_rdT L i hil
    have hgi := hg _ (List.getElem_mem hil)
    have hmv := isPm_mv hn hlast.1 hlast.2 _ _ _ hgi
    obtain ⟨r1, r2⟩ := PA_of hn hmv.1 hmv.2
    have hr := permutationRank_ev n (Moves.rk (mv (lastL X) L[i].f0 L[i].f1 L[i].f2)) hn r1
    rw [r2] at hr
    have hwf : (Lit.int .i64 (Moves.rk (mv (lastL X) L[i].f0 L[i].f1 L[i].f2) : Int)).wf = true := by
      simp [Lit.wf, IntKind.min, IntKind.max, IntKind.signed, IntKind.bits]; omega
    have hm := rkM_mem hn h.pm hmv.1 hmv.2
    have hpm := placeI_mem X (mv (lastL X) L[i].f0 L[i].f1 L[i].f2) 0 (by omega)
    have si : ∀ (z : Bool × Bool × List Int × Int × List Int), Ev (fun k => if (Moves.rk (mv (lastL X) L[i].f0 L[i].f1 L[i].f2) : Int) ∈ rkM X then impl_FirstPath.l k (n : Int) bud L (lastL X) (wrap64 ((i : Int) + 1)) (rkM X) put out else (if (-1000 ≤ put ∧ put ≤ 1000000) ∧ (rkM X).length < 1000000 ∧ out.length < 1000000 then (if bud < put + 1 then some (false, false, rkM X, put + 1, out) else ((impl_FirstPath.e k (n : Int) bud L (mv (lastL X) L[i].f0 L[i].f1 L[i].f2) ((Moves.rk (mv (lastL X) L[i].f0 L[i].f1 L[i].f2) : Int) :: rkM X) (put + 1) (out ++ [(i : Int)])).bind fun z => (if z.1 = true then some z else (if z.2.1 = false then some z else (if z.2.2.1.Nodup ∧ 0 < z.2.2.2.2.length ∧ z.2.2.2.2.length < 1000000 then (impl_FirstPath.l k (n : Int) bud L (lastL X) (wrap64 ((i : Int) + 1)) (z.2.2.1.erase (Moves.rk (mv (lastL X) L[i].f0 L[i].f1 L[i].f2) : Int)) z.2.2.2.1 (z.2.2.2.2.take (z.2.2.2.2.length - 1))) else none))))) else none)) z →
        Ev (fun k => impl_FirstPath.l k (n : Int) bud L (lastL X) (i : Int) (rkM X) put out) z := by
      intro z hz
      refine Ev.step (fun k => by rw [impl_FirstPath.l]) ?_
      rw [e]
      exact evPos (by omega) (evPos (by omega) (Ev.bind (moved_ev _ (by omega) _ _ _ (by rw [hlast.2]; exact hgi)) (Ev.bind hr (evPos hwf hz))))
    have ss : ∀ (y : List Int × Bool × Int), Ev (fun k => if 0 ≤ placeI (mv (lastL X) L[i].f0 L[i].f1 L[i].f2) 0 X then spec_FirstPath.l k L (facN n : Int) X out (wrap64 ((i : Int) + 1)) (bud - put) else ((spec_l1Own.f out).bind fun so => (if so.length < 1000000 then ((spec_FirstPath.e k L (facN n : Int) (bud - put) (X ++ [mv (lastL X) L[i].f0 L[i].f1 L[i].f2]) (so ++ [(i : Int)])).bind fun z => (if z.2.1 = true then some (z.1, true, z.2.2) else (if z.2.2 < 0 then some ([], false, z.2.2) else (spec_FirstPath.l k L (facN n : Int) X out (wrap64 ((i : Int) + 1)) z.2.2)))) else none))) y →
        Ev (fun k => spec_FirstPath.l k L (facN n : Int) X out (i : Int) (bud - put)) y := by
      intro y hy
      refine Ev.step (fun k => by rw [spec_FirstPath.l]) ?_
      rw [e, fp_rdL X h.pos]
      exact evPos (by omega) (evPos (by omega) (evPos ⟨h.pos, by omega⟩ (Ev.bind (moApply_ev _ (by omega) _ _ _ (by rw [hlast.2]; exact hgi)) (Ev.bind (raPlace_ev X _ (by omega) (fun t ht => by have := (h.pm t ht).2; omega)) hy))))
    have hw : wrap64 ((i : Int) + 1) = ((i + 1 : Nat) : Int) := by rw [wr (by omega) (by omega)]; omega
    by_cases cx : mv (lastL X) L[i].f0 L[i].f1 L[i].f2 ∈ X
    · obtain ⟨z, y, hz, hy, hR⟩ := ihc (i + 1) put (by omega) h1 h2
      refine ⟨z, y, si z (evPos (hm.2 cx) ?_), ss y (evPos (hpm.2 cx) ?_), hR⟩
      · rw [hw]; exact hz
      · rw [hw]; exact hy
    · have hnm : ¬ (Moves.rk (mv (lastL X) L[i].f0 L[i].f1 L[i].f2) : Int) ∈ rkM X := fun h_ => cx (hm.1 h_)
      have hnp : ¬ 0 ≤ placeI (mv (lastL X) L[i].f0 L[i].f1 L[i].f2) 0 X := fun h_ => cx (hpm.1 h_)
      have hln := rkM_length X
      have hcond : (-1000 ≤ put ∧ put ≤ 1000000) ∧ (rkM X).length < 1000000 ∧ out.length < 1000000 := ⟨⟨by omega, by omega⟩, by omega, by omega⟩
      have hown : spec_l1Own.f out = some out := l1Own_eq out (by omega)
      by_cases cb : bud < put + 1
      · refine ⟨(false, false, rkM X, put + 1, out), ([], false, bud - put - 1), si _ (evNeg hnm (evPos hcond (evPos cb (Ev.now _)))), ss _ (evNeg hnp ?_), .inr (.inr ⟨rfl, rfl, rfl, rfl, by show bud - put - 1 < 0; omega⟩)⟩
        have he : Ev (fun k => spec_FirstPath.e k L (facN n : Int) (bud - put) (X ++ [mv (lastL X) L[i].f0 L[i].f1 L[i].f2]) (out ++ [(i : Int)])) (([] : List Int), false, bud - put - 1) := by
          refine Ev.step (fun k => by rw [spec_FirstPath.e]) ?_
          exact evPos ⟨by omega, by omega⟩ (evPos (by omega) (Ev.now _))
        rw [hown]
        exact evSome (evPos (by omega) (Ev.bind he (evNeg (by simp) (evPos (by show bud - put - 1 < 0; omega) (Ev.now _)))))
      · have h3 := h.next hmv cx
        obtain ⟨z, y, hz, hy, hR⟩ := ih _ (put + 1) (i : Int) h3 (by omega) (by omega)
        rw [rkM_snoc] at hz hR
        rw [show bud - (put + 1) + 1 = bud - put from by omega] at hy
        rcases hR with ⟨q1, q2, q3, q4⟩ | ⟨q1, q2, q3, q4, q5, q6, q7, q8, q9⟩ | ⟨q1, q2, q3, q4, q5⟩
        · refine ⟨z, (y.1, true, y.2.2), si z (evNeg hnm (evPos hcond (evNeg cb (Ev.bind hz (evPos q1 (Ev.now _)))))), ss _ (evNeg hnp ?_), .inl ⟨q1, rfl, q3, q4⟩⟩
          rw [hown]
          exact evSome (evPos (by omega) (Ev.bind hy (evPos q2 (Ev.now _))))
        · obtain ⟨z', y', hz', hy', hR'⟩ := ihc (i + 1) z.2.2.2.1 (by omega) (by omega) q9
          have er : ((Moves.rk (mv (lastL X) L[i].f0 L[i].f1 L[i].f2) : Int) :: rkM X).erase (Moves.rk (mv (lastL X) L[i].f0 L[i].f1 L[i].f2) : Int) = rkM X := List.erase_cons_head ..
          have et : (out ++ [(i : Int)]).take ((out ++ [(i : Int)]).length - 1) = out := by simp
          have hnd : ((Moves.rk (mv (lastL X) L[i].f0 L[i].f1 L[i].f2) : Int) :: rkM X).Nodup := by rw [← rkM_snoc]; exact rkM_nodup hn h3.pm h3.nd
          refine ⟨z', y', si z' (evNeg hnm (evPos hcond (evNeg cb (Ev.bind hz (evNeg (by simp [q1]) (evNeg (by simp [q2]) (evPos ⟨by rw [q3]; exact hnd, by rw [q4]; simp, by rw [q4]; simp; omega⟩ ?_))))))), ss y' (evNeg hnp ?_), ?_⟩
          · rw [hw, q3, q4, er, et]; exact hz'
          · rw [hown]
            refine evSome (evPos (by omega) (Ev.bind hy (evNeg (by simp [q6]) (evNeg (by omega) ?_))))
            rw [hw, q7]; exact hy'
          · rcases hR' with hR' | ⟨p1, p2, p3, p4, p5, p6, p7, p8, p9⟩ | hR'
            · exact .inl hR'
            · exact .inr (.inl ⟨p1, p2, p3, p4, p5, p6, p7, by omega, p9⟩)
            · exact .inr (.inr hR')
        · refine ⟨z, ([], false, y.2.2), si z (evNeg hnm (evPos hcond (evNeg cb (Ev.bind hz (evNeg (by simp [q1]) (evPos q2 (Ev.now _))))))), ss _ (evNeg hnp ?_), .inr (.inr ⟨q1, q2, rfl, rfl, q5⟩)⟩
          rw [hown]
          exact evSome (evPos (by omega) (Ev.bind hy (evNeg (by simp [q4]) (evPos q5 (Ev.now _)))))
theorem fp_both (n : Nat) (hn : n ≤ 5) (L : List S45) (hL : L.length ≤ 1048576) (hg : ∀ m ∈ L, Mgood n m.f0 m.f1 m.f2) (bud : Int) (hb : bud ≤ 4000) : ∀ (d : Nat) (X : List (List Int)) (put : Int) (out : List Int), X.length + d = facN n → FInv n X → out.length + 1 = X.length → 1 ≤ put → put ≤ bud →
    ∃ z y, Ev (fun k => impl_FirstPath.e k (n : Int) bud L (lastL X) (rkM X) put out) z ∧ Ev (fun k => spec_FirstPath.e k L (facN n : Int) (bud - put + 1) X out) y ∧ FRel (rkM X) out bud put z y := by
  have hf := facN_5 hn
  have hfe : (fac n : Int) = (facN n : Int) := by rw [facN_eq]
  intro d
  induction d with
  | zero =>
    intro X put out hd h ho h1 h2
    have hz : Ev (fun k => impl_FirstPath.e k (n : Int) bud L (lastL X) (rkM X) put out) (true, true, rkM X, put, out) := by
      refine Ev.step (fun k => by rw [impl_FirstPath.e]) ?_
      exact Ev.bind (factorial_ev n (by omega)) (evPos (by rw [rkM_length]; omega) (Ev.now _))
    have hy : Ev (fun k => spec_FirstPath.e k L (facN n : Int) (bud - put + 1) X out) (out, true, bud - put + 1 - 1) := by
      refine Ev.step (fun k => by rw [spec_FirstPath.e]) ?_
      exact evPos ⟨by omega, by omega⟩ (evNeg (by omega) (evPos (by omega) (Ev.now _)))
    refine ⟨(true, true, rkM X, put, out), (out, true, bud - put + 1 - 1), hz, hy, .inl ⟨rfl, rfl, rfl, by show out.length ≤ 1000; omega⟩⟩
  | succ d ih =>
    intro X put out hd h ho h1 h2
    obtain ⟨z, y, hz, hy, hR⟩ := fp_loop n hn L hL hg bud hb X h out ho (by omega) (fun nx put' i h3 h4 h5 => by
      have := ih (X ++ [nx]) put' (out ++ [i]) (by simp; omega) h3 (by simp; omega) h4 h5
      rw [lastL_snoc] at this
      exact this) L.length 0 put (by omega) h1 h2
    have hz' : Ev (fun k => impl_FirstPath.e k (n : Int) bud L (lastL X) (rkM X) put out) z := by
      refine Ev.step (fun k => by rw [impl_FirstPath.e]) ?_
      exact Ev.bind (factorial_ev n (by omega)) (evNeg (by rw [rkM_length]; omega) hz)
    have hy' : Ev (fun k => spec_FirstPath.e k L (facN n : Int) (bud - put + 1) X out) y := by
      refine Ev.step (fun k => by rw [spec_FirstPath.e]) ?_
      refine evPos ⟨by omega, by omega⟩ (evNeg (by omega) (evNeg (by omega) ?_))
      rw [show bud - put + 1 - 1 = bud - put from by omega]
      exact hy
    exact ⟨z, y, hz', hy', hR⟩
theorem FnExactFirstPath (n : Int) (l : List S72) (bud : Int) (wn : (Lit.int .i64 n).wf = true) (hm : l.length ≤ maxLen) (hg : ∀ x ∈ l, (fun x : S72 => (Lit.int .i64 x.f0).wf = true ∧ (Lit.int .i64 x.f1).wf = true ∧ (Lit.int .i64 x.f2).wf = true) x) (wb : (Lit.int .i64 bud).wf = true) :
    ∃ k, laws_FnExactFirstPath.f k n l bud = some true := by
  refine Ev.rounds (g := fun q => laws_FnExactFirstPath.f q n l bud) ?_
  unfold laws_FnExactFirstPath.f
  rw [szMoveS_eq l hm]
  by_cases c : l.length ≤ 1048576
  rotate_left
  · rw [if_neg c]; exact evSome (evPos (by decide) (Ev.now _))
  rw [if_pos c]
  refine evSome (evNeg (by omega) ?_)
  have ec := conv_length l
  have key : ∃ (G : List Int) (b : Bool), Ev (fun q => spec_FirstPath.f q n (conv l) bud) (G, b) ∧ Ev (fun q => impl_FirstPath.f q n (conv l) bud) (G, b) ∧ G.length ≤ 1000 := by
    have ht := moTask_ev n (conv l) (by omega)
    have hi := areMoves_ev n (conv l) (by omega)
    unfold spec_FirstPath.f impl_FirstPath.f
    simp only [l1In_eq, within_eq]
    by_cases hok : okTask n (conv l) = true
    rotate_left
    · exact ⟨[], false, Ev.bind ht (evNeg hok (Ev.now _)), Ev.bind hi (evNeg hok (Ev.now _)), by simp⟩
    by_cases c4 : 4 < n
    · exact ⟨[], false, Ev.bind ht (evPos hok (evPos c4 (Ev.now _))), Ev.bind hi (evPos hok (evPos c4 (Ev.now _))), by simp⟩
    by_cases cb : 1 ≤ bud ∧ bud ≤ 4000
    rotate_left
    · exact ⟨[], false, Ev.bind ht (evPos hok (evNeg c4 (evSome (evNeg (by simpa using cb) (Ev.now _))))), Ev.bind hi (evPos hok (evNeg c4 (evSome (evNeg (by simpa using cb) (Ev.now _))))), by simp⟩
    have h := hok
    simp only [okTask, Bool.and_eq_true, decide_eq_true_eq, List.all_eq_true] at h
    obtain ⟨N, rfl⟩ := Int.eq_ofNat_of_zero_le (show 0 ≤ n by omega)
    have hN : N ≤ 5 := by omega
    have hf0 := facN_pos N
    have hgd : ∀ m ∈ conv l, Mgood N m.f0 m.f1 m.f2 := fun m hm => by have := h.1 m hm; simp only [isMv, decide_eq_true_eq] at this; unfold Mgood; omega
    have h0 : FInv N [upTo N] := ⟨by simp, fun t ht => by rw [List.mem_singleton.1 ht]; exact ⟨isPm_upTo (by omega), upTo_length N⟩, by simp⟩
    obtain ⟨z, y, hz, hy, hR⟩ := fp_both N hN (conv l) (by omega) hgd bud cb.2 (facN N - 1) [upTo N] 1 [] (by simp; omega) h0 (by simp) (by omega) cb.1
    have e1 : lastL [upTo N] = upTo N := rfl
    have e2 : rkM [upTo N] = [0] := by unfold rkM; simp [rk_upTo hN]
    rw [e1, e2] at hz
    rw [show bud - 1 + 1 = bud from by omega] at hy
    have hs : Ev (fun q => spec_raFactorial.f q (N : Int)) (facN N : Int) := by rw [facN_eq]; exact raFactorial_ev N (by omega)
    refine ⟨y.1, y.2.1, Ev.bind ht (evPos hok (evNeg c4 (evSome (evPos (by simpa using cb) (Ev.bind hs (Ev.bind (raUpTo_ev N (by omega)) (Ev.bind hy (Ev.now _)))))))), Ev.bind hi (evPos hok (evNeg c4 (evSome (evPos (by simpa using cb) (Ev.bind (identity_ev N (by omega)) (Ev.bind hz ?_)))))), ?_⟩
    · rcases hR with ⟨q1, q2, q3, q4⟩ | ⟨q1, q2, q3, q4, q5, q6, q7, q8⟩ | ⟨q1, q2, q3, q4, q5⟩
      · rw [q3, q2]; exact evPos q1 (Ev.now _)
      · rw [q5, q6]; exact evNeg (by simp [q1]) (Ev.now _)
      · rw [q3, q4]; exact evNeg (by simp [q1]) (Ev.now _)
    · rcases hR with ⟨q1, q2, q3, q4⟩ | ⟨q1, q2, q3, q4, q5, q6, q7, q8⟩ | ⟨q1, q2, q3, q4, q5⟩
      · exact q4
      · rw [q5]; simp
      · rw [q3]; simp
  obtain ⟨G, b, hs, hi, hgl⟩ := key
  obtain ⟨e1, hmk⟩ := markMoveS_ev (conv l) (by omega)
  repeat (first
    | (with_reducible exact Ev.now _)
    | (with_reducible refine Ev.bind hs ?_)
    | (with_reducible refine Ev.bind hi ?_)
    | (with_reducible refine Ev.bind (toMoveS_ev l c) ?_)
    | (with_reducible refine Ev.bind (eqMoveS_self _ (by omega)) ?_)
    | (with_reducible refine Ev.bind hmk ?_)
    | (with_reducible refine Ev.bind (toIntS_ev _ (by omega)) ?_)
    | (with_reducible refine Ev.bind (eqIntS_self _ (by omega)) ?_)
    | (with_reducible refine Ev.bind (markIntS_ev _ 1 (by omega) (by omega) (by omega)) ?_)
    | (with_reducible refine Ev.bind (heldIntS_ev _ 1 (by omega) (by omega) (by omega)) ?_)
    | (with_reducible refine evPos rfl ?_)
    | (with_reducible refine evPos trivial ?_)
    | (with_reducible refine evNeg (by omega) ?_)
    | (rw [bne_self_eq_false])
    | (simp only [bne_self_eq_false])
    | (refine evNeg (by decide) ?_)
    | (refine Ev.step (fun k => by rw [laws_FnExactFirstPath.j0]) ?_)
    | (refine Ev.step (fun k => by rw [laws_FnExactFirstPath.j1]) ?_)
    | (refine Ev.step (fun k => by rw [laws_FnExactFirstPath.j2]) ?_))

end Go.Proofs.Ytllhnnjkonghlaa.Pure
