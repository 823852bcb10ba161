/- The pure statement of FnExactIsMoveList: for all arguments that fit, the law as a Lean function answers true after enough rounds. -/
import Derived.Test.YtcplfdfmebibpaaMFnExactIsMoveListx1
import Derived.Test.YtcplfdfmebibpaaMFnExactIsMoveListx2
import Derived.Test.YtcplfdfmebibpaaMFnExactIsMoveListx3
import Derived.Test.YtcplfdfmebibpaaMFnExactIsMoveListx4
import Derived.Test.YtcplfdfmebibpaaMFnExactIsMoveListx5
import Derived.Test.YtcplfdfmebibpaaMFnExactIsMoveListx6
import Derived.Test.YtcplfdfmebibpaaMFnExactIsMoveListx7
import Derived.Test.YtcplfdfmebibpaaMFnExactIsMoveListx8
import Derived.Test.YtcplfdfmebibpaaMFnExactIsMoveListx9
import Derived.Test.YtcplfdfmebibpaaBase
import Derived.Test.YtcplfdfmebibpaaComb
import Derived.Test.YtcplfdfmebibpaaTrot
import Derived.Test.YtcplfdfmebibpaaMoves
import Derived.Test.YtcplfdfmebibpaaPerms
import Derived.Test.YtcplfdfmebibpaaPerm5
namespace Go.Proofs.Ytcplfdfmebibpaa.Pure
open Go.RowKit Go.Proofs.Ytcplfdfmebibpaa.MFnExactIsMoveList Go.Proofs.YtcplfdfmebibpaaW.PrintWords Go.Proofs.YtcplfdfmebibpaaW.PrintLast Go.Proofs.Ytcplfdfmebibpaa.Base Go.Proofs.Ytcplfdfmebibpaa.Comb Go.Proofs.Ytcplfdfmebibpaa.Trot Go.Proofs.Ytcplfdfmebibpaa.Moves Go.Proofs.Ytcplfdfmebibpaa.Perms Go.Proofs.Ytcplfdfmebibpaa.Perm5
set_option linter.unusedVariables false
set_option linter.unusedSimpArgs false

/-! laws_szMoveS -/
theorem szMoveS_eq (l : List S53) (h : l.length ≤ maxLen) : laws_szMoveS.f l 1048576 = some (if l.length ≤ 1048576 then (1048576 - (l.length : Int)) else -1) := by
  have hm : maxLen = 9223372036854775807 := rfl
  unfold laws_szMoveS.f
  rw [wr (by omega) (by omega)]
  by_cases c : l.length ≤ 1048576
  · rw [if_neg (by omega), if_pos c]
  · rw [if_pos (by omega), if_neg c]
theorem szMoveS_left (l : List S53) (s : Int) (h : l.length ≤ maxLen) (h0 : 0 ≤ s) (h1 : s ≤ 1048576) : laws_szMoveS.f l s = some (if (l.length : Int) ≤ s then (s - (l.length : Int)) else -1) := by
  have hm : maxLen = 9223372036854775807 := rfl
  unfold laws_szMoveS.f
  rw [wr (by omega) (by omega)]
  by_cases c : (l.length : Int) ≤ s
  · rw [if_neg (by omega), if_pos c]
  · rw [if_pos (by omega), if_neg c]
/-! laws_toMoveS -/
def conv (l : List S53) : List S55 := l.map fun m => (⟨m.f0, m.f1, m.f2⟩ : S55)
theorem conv_length (l : List S53) : (conv l).length = l.length := by simp [conv]
theorem toMoveS_l0 (x0 : List S53) (hn : x0.length ≤ 1048576) : ∀ (d : Nat) (x3 : List S55) (j : Int), 0 ≤ j → j.toNat + d = x0.length → x3.length = x0.length → x3.take j.toNat = (conv x0).take j.toNat →
    Ev (fun k => laws_toMoveS.l0 k x0 x3 j) (conv x0) := by
  intro d
  have hc := conv_length x0
  induction d with
  | zero =>
    intro x3 j h0 hd hl ht
    refine Ev.step (fun k => by rw [laws_toMoveS.l0]) ?_
    refine evNeg (by omega) ?_
    rw [List.take_of_length_le (by omega), List.take_of_length_le (by omega)] at ht
    exact evEq ht
  | succ d ih =>
    intro x3 j h0 hd hl ht
    refine Ev.step (fun k => by rw [laws_toMoveS.l0]) ?_
    refine evPos (by omega) (evPos (by omega) (evSome (evPos (by omega) ?_)))
    rw [wr (by omega) (by omega)]
    refine ih _ _ (by omega) (by omega) (by simpa using hl) ?_
    rw [set_takeG x3 j _ h0 (by omega), ht, show (j + 1).toNat = j.toNat + 1 by omega, List.take_add_one]
    congr 1
    simp only [conv, List.getElem?_map, rd_T53, List.getD_eq_getElem?_getD]
    rw [List.getElem?_eq_getElem (show j.toNat < x0.length by omega)]
    rfl
theorem toMoveS_ev (l : List S53) (hn : l.length ≤ 1048576) : Ev (fun k => laws_toMoveS.f k l) (conv l) := by
  unfold laws_toMoveS.f
  refine evPos (by omega) (evPos (by simp; omega) ?_)
  exact toMoveS_l0 l hn l.length _ 0 (by omega) (by simp) (by simp) (by simp)
/-! laws_eqMoveS -/
theorem eqMoveS_l0 (a : List S55) (hn : a.length ≤ 1048576) : ∀ (d : Nat) (j : Int), 0 ≤ j → j.toNat + d = a.length → Ev (fun k => laws_eqMoveS.l0 k a a j) true := by
  intro d
  induction d with
  | zero =>
    intro j h0 hd
    refine Ev.step (fun k => by rw [laws_eqMoveS.l0]) ?_
    exact evNeg (by omega) (Ev.now _)
  | succ d ih =>
    intro j h0 hd
    refine Ev.step (fun k => by rw [laws_eqMoveS.l0]) ?_
    refine evPos (by omega) (evPos (by omega) (evPos (by omega) ?_))
    rw [wr (by omega) (by omega)]
    have e : ∀ x y z : Int, laws_eqMove.f x y z x y z = some true := by intro x y z; unfold laws_eqMove.f; rw [if_pos rfl, if_pos rfl, if_pos rfl]
    rw [e]
    exact evSome (evPos rfl (ih _ (by omega) (by omega)))
theorem eqMoveS_self (a : List S55) (hn : a.length ≤ 1048576) : Ev (fun k => laws_eqMoveS.f k a a) true := by
  unfold laws_eqMoveS.f
  exact evPos rfl (eqMoveS_l0 a hn a.length 0 (by omega) (by simp))
/-! laws_eqIntS -/
theorem eqIntS_l0 (a b : List Int) (hn : a.length ≤ 35184372088832) (hb : a.length = b.length) : ∀ (d : Nat) (j : Int), 0 ≤ j → j.toNat + d = a.length →
    Ev (fun k => laws_eqIntS.l0 k a b j) (decide (a.drop j.toNat = b.drop j.toNat)) := by
  intro d
  induction d with
  | zero =>
    intro j h0 hd
    refine Ev.step (fun k => by rw [laws_eqIntS.l0]) ?_
    refine evNeg (by omega) ?_
    rw [drop_end a j (by omega), drop_end b j (by omega)]
    exact evEq rfl
  | succ d ih =>
    intro j h0 hd
    refine Ev.step (fun k => by rw [laws_eqIntS.l0]) ?_
    refine evPos (by omega) (evPos (by omega) (evPos (by omega) ?_))
    rw [wr (by omega) (by omega), drop_rd a j h0 (by omega), drop_rd b j h0 (by omega)]
    by_cases c : rd a j = rd b j
    · refine evPos c (evTo (ih _ (by omega) (by omega)) ?_)
      simp [c]
    · refine evNeg c (evEq ?_)
      simp [c]
theorem eqIntS_ev (a b : List Int) (hn : a.length ≤ 35184372088832) : Ev (fun k => laws_eqIntS.f k a b) (decide (a = b)) := by
  unfold laws_eqIntS.f
  by_cases hb : a.length = b.length
  · exact evPos (by omega) (eqIntS_l0 a b hn hb a.length 0 (by omega) (by simp))
  · refine evNeg (by omega) (evEq ?_)
    exact (decide_eq_false (fun e => hb (by rw [e]))).symm
theorem eqIntS_self (a : List Int) (hn : a.length ≤ 35184372088832) : Ev (fun k => laws_eqIntS.f k a a) true := evTo (eqIntS_ev a a hn) (by simp)
/-! laws_eqIntSS -/
theorem eqIntSS_self (L : List (List Int)) (hn : L.length ≤ 1000000000) (hl : ∀ t ∈ L, t.length ≤ 35184372088832) : Ev (fun k => laws_eqIntSS.f k L L) true := by
  have key : ∀ (d : Nat) (j : Int), 0 ≤ j → j.toNat + d = L.length → Ev (fun k => laws_eqIntSS.l0 k L L j) true := by
    intro d
    induction d with
    | zero =>
      intro j h0 hd
      refine Ev.step (fun k => by rw [laws_eqIntSS.l0]) ?_
      exact evNeg (by omega) (Ev.now _)
    | succ d ih =>
      intro j h0 hd
      refine Ev.step (fun k => by rw [laws_eqIntSS.l0]) ?_
      have hm : rd_L3 L j ∈ L := by
        unfold rd_L3
        rw [List.getD_eq_getElem?_getD, List.getElem?_eq_getElem (show j.toNat < L.length by omega)]
        exact List.getElem_mem _
      refine evPos (by omega) (evPos (by omega) (evPos (by omega) (Ev.bind (eqIntS_self _ (hl _ hm)) (evPos rfl ?_))))
      rw [wr (by omega) (by omega)]
      exact ih _ (by omega) (by omega)
  unfold laws_eqIntSS.f
  exact evPos rfl (key L.length 0 (by omega) (by simp))
/-! laws_szIntSS -/
theorem szIntSS_l0 (L : List (List Int)) (hL : L.length ≤ 1048576) (hl : ∀ t ∈ L, t.length ≤ maxLen) : ∀ (d : Nat) (j left : Int), 0 ≤ j → j.toNat + d = L.length → 0 ≤ left → left ≤ 1048576 →
    ∃ s, Ev (fun k => laws_szIntSS.l0 k L left j) s ∧ (s < 0 ∨ (0 ≤ s ∧ s = left - sumLen (L.drop j.toNat) ∧ ∀ t ∈ L.drop j.toNat, t.length ≤ 1048576)) := by
  have hm : maxLen = 9223372036854775807 := rfl
  intro d
  induction d with
  | zero =>
    intro j left h0 hd h1 h2
    refine ⟨left, Ev.step (fun k => by rw [laws_szIntSS.l0]) (evNeg (by omega) (Ev.now _)), .inr ⟨h1, ?_, ?_⟩⟩
    · rw [drop_end L j (by omega)]; simp [sumLen]
    · rw [drop_end L j (by omega)]; simp
  | succ d ih =>
    intro j left h0 hd h1 h2
    have hj : j.toNat < L.length := by omega
    have e : rd_L3 L j = L[j.toNat] := by unfold rd_L3; rw [List.getD_eq_getElem?_getD, List.getElem?_eq_getElem hj]; rfl
    have ht := hl _ (List.getElem_mem hj)
    have ed : L.drop j.toNat = L[j.toNat] :: L.drop (j + 1).toNat := by
      rw [show (j + 1).toNat = j.toNat + 1 from by omega]; exact List.drop_eq_getElem_cons hj
    by_cases c : left - (L[j.toNat].length : Int) < 0
    · refine ⟨-1, Ev.step (fun k => by rw [laws_szIntSS.l0]) (evPos (by omega) (evPos h0 ?_)), .inl (by decide)⟩
      unfold laws_szIntS.f
      rw [e, wr (by omega) (by omega), if_pos c]
      exact evSome (evPos (by decide) (Ev.now _))
    · obtain ⟨s, hs, hr⟩ := ih (j + 1) (left - (L[j.toNat].length : Int)) (by omega) (by omega) (by omega) (by omega)
      refine ⟨s, Ev.step (fun k => by rw [laws_szIntSS.l0]) (evPos (by omega) (evPos h0 ?_)), ?_⟩
      · unfold laws_szIntS.f
        rw [e, wr (by omega) (by omega), if_neg c, wr (by omega) (by omega)]
        exact evSome (evNeg c hs)
      · rcases hr with hr | ⟨r1, r2, r3⟩
        · exact .inl hr
        · refine .inr ⟨r1, ?_, ?_⟩
          · rw [ed, sumLen, r2]; omega
          · rw [ed]
            intro t ht'
            rcases List.mem_cons.1 ht' with rfl | ht'
            · omega
            · exact r3 t ht'
theorem szIntSS_ev (L : List (List Int)) (hL : L.length ≤ maxLen) (hl : ∀ t ∈ L, t.length ≤ maxLen) :
    ∃ s, Ev (fun k => laws_szIntSS.f k L 1048576) s ∧ (s < 0 ∨ (0 ≤ s ∧ s = 1048576 - (L.length : Int) - sumLen L ∧ L.length ≤ 1048576 ∧ ∀ t ∈ L, t.length ≤ 1048576)) := by
  have hm : maxLen = 9223372036854775807 := rfl
  unfold laws_szIntSS.f
  rw [wr (by omega) (by omega)]
  by_cases c : 1048576 - (L.length : Int) < 0
  · exact ⟨-1, evPos c (Ev.now _), .inl (by decide)⟩
  · obtain ⟨s, h1, h2⟩ := szIntSS_l0 L (by omega) hl L.length 0 (1048576 - (L.length : Int)) (by omega) (by simp) (by omega) (by omega)
    refine ⟨s, evNeg c h1, ?_⟩
    rcases h2 with h2 | ⟨r1, r2, r3⟩
    · exact .inl h2
    · exact .inr ⟨r1, by simpa using r2, by omega, by simpa using r3⟩
/-! laws_toIntS -/
theorem toIntS_l0 (x0 : List Int) (hn : x0.length ≤ 35184372088832) : ∀ (d : Nat) (x3 : List Int) (j : Int), 0 ≤ j → j.toNat + d = x0.length → x3.length = x0.length → x3.take j.toNat = x0.take j.toNat →
    Ev (fun k => laws_toIntS.l0 k x0 x3 j) x0 := by
  intro d
  induction d with
  | zero =>
    intro x3 j h0 hd hl ht
    refine Ev.step (fun k => by rw [laws_toIntS.l0]) ?_
    refine evNeg (by omega) ?_
    rw [take_end x0 j (by omega), take_end x3 j (by omega)] at ht
    exact evEq ht
  | succ d ih =>
    intro x3 j h0 hd hl ht
    refine Ev.step (fun k => by rw [laws_toIntS.l0]) ?_
    refine evPos (by omega) (evPos (by omega) (evPos (by omega) ?_))
    rw [wr (by omega) (by omega)]
    refine ih _ _ (by omega) (by omega) (by simpa using hl) ?_
    rw [set_takeI x3 j _ h0 (by omega), take_rd x0 j h0 (by omega), ht]
theorem toIntS_ev (l : List Int) (hn : l.length ≤ 35184372088832) : Ev (fun k => laws_toIntS.f k l) l := by
  unfold laws_toIntS.f
  refine evPos (by omega) (evPos (by simpa using hn) ?_)
  exact toIntS_l0 l hn l.length _ 0 (by omega) (by simp) (by simp) (by simp)
/-! laws_toIntSS -/
theorem toIntSS_l0 (L : List (List Int)) (hL : L.length ≤ 1048576) (hl : ∀ t ∈ L, t.length ≤ 1048576) : ∀ (d : Nat) (X : List (List Int)) (j : Int), 0 ≤ j → j.toNat + d = L.length → X.length = L.length → X.take j.toNat = L.take j.toNat →
    Ev (fun k => laws_toIntSS.l0 k L X j) L := by
  intro d
  induction d with
  | zero =>
    intro X j h0 hd hX ht
    refine Ev.step (fun k => by rw [laws_toIntSS.l0]) ?_
    refine evNeg (by omega) ?_
    rw [take_end L j (by omega), take_end X j (by omega)] at ht
    exact evEq ht
  | succ d ih =>
    intro X j h0 hd hX ht
    have hj : j.toNat < L.length := by omega
    have e : rd_L3 L j = L[j.toNat] := by unfold rd_L3; rw [List.getD_eq_getElem?_getD, List.getElem?_eq_getElem hj]; rfl
    refine Ev.step (fun k => by rw [laws_toIntSS.l0]) ?_
    refine evPos (by omega) (evPos h0 ?_)
    rw [e, wr (by omega) (by omega)]
    refine Ev.bind (toIntS_ev _ (by have := hl _ (List.getElem_mem hj); omega)) (evPos (by omega) ?_)
    refine ih _ _ (by omega) (by omega) (by simpa using hX) ?_
    have hx : j.toNat < X.length := by omega
    rw [show (j + 1).toNat = j.toNat + 1 from by omega, List.take_succ_eq_append_getElem (by simpa using hx), List.take_succ_eq_append_getElem hj]
    simp [List.take_set_of_le, ht]
theorem toIntSS_ev (L : List (List Int)) (hL : L.length ≤ 1048576) (hl : ∀ t ∈ L, t.length ≤ 1048576) : Ev (fun k => laws_toIntSS.f k L) L := by
  unfold laws_toIntSS.f
  refine evPos (by omega) (evPos (by simp; omega) ?_)
  exact toIntSS_l0 L hL hl L.length _ 0 (by omega) (by simp) (by simp) (by simp)
/-! spec_l1In -/
theorem l1In_eq (x a b : Int) : spec_l1In.f x a b = some (decide (a ≤ x ∧ x ≤ b)) := by
  unfold spec_l1In.f
  by_cases h : x ≥ a
  · rw [if_pos h]; have h' : a ≤ x := h; simp [h']
  · rw [if_neg h]; have h' : ¬ a ≤ x := h; simp [h']
/-! spec_moGood -/
/-- A move of permutations of n. -/
def isMv (n c i j : Int) : Bool := decide ((c = 0 ∧ 0 ≤ i ∧ i < j ∧ j < n) ∨ ((c = 1 ∨ c = 2) ∧ 2 ≤ i ∧ i ≤ n ∧ j = 0))
theorem moGood_eq (n c i j : Int) (h0 : 0 ≤ n) (hn : n ≤ 12) : spec_moGood.f n c i j = some (isMv n c i j) := by
  unfold spec_moGood.f isMv
  rw [wr (x := n - 1) (by omega) (by omega)]
  simp only [l1In_eq, Option.bind_some]
  by_cases c0 : c = 0
  · rw [if_pos c0]
    by_cases c1 : 1 ≤ j ∧ j ≤ n - 1
    · rw [if_pos (by simpa using c1), wr (by omega) (by omega)]
      congr 1; apply decide_eq_decide.2; omega
    · rw [if_neg (by simpa using c1)]
      congr 1; exact (decide_eq_false (by omega)).symm
  · rw [if_neg c0]
    by_cases c1 : c = 1
    · rw [if_pos c1]
      by_cases c3 : 2 ≤ i ∧ i ≤ n
      · rw [if_pos (by simpa using c3)]
        congr 1; rw [Bool.eq_iff_iff]; simp; omega
      · rw [if_neg (by simpa using c3)]
        congr 1; exact (decide_eq_false (by omega)).symm
    · rw [if_neg c1]
      by_cases c2 : c = 2
      · rw [if_pos c2]
        by_cases c3 : 2 ≤ i ∧ i ≤ n
        · rw [if_pos (by simpa using c3)]
          congr 1; rw [Bool.eq_iff_iff]; simp; omega
        · rw [if_neg (by simpa using c3)]
          congr 1; exact (decide_eq_false (by omega)).symm
      · rw [if_neg c2]
        congr 1; exact (decide_eq_false (by omega)).symm
/-! spec_moTask -/
def okTask (n : Int) (l : List S55) : Bool := (l.all fun m => isMv n m.f0 m.f1 m.f2) && (decide (1 ≤ n ∧ n ≤ 5) && decide ((l.length : Int) ≤ 12))
theorem moGood_some (n a b c : Int) : spec_moGood.f n a b c = some ((spec_moGood.f n a b c).getD false) := by
  unfold spec_moGood.f
  simp only [l1In_eq, Option.bind_some]
  repeat' split
  all_goals rfl
theorem moTask_l0 (n : Int) (g : S55 → Bool) (hg : ∀ m : S55, spec_moGood.f n m.f0 m.f1 m.f2 = some (g m)) (l : List S55) (hl : l.length ≤ 1048576) : ∀ (d : Nat) (i : Int), 0 ≤ i → i.toNat + d = l.length →
    Ev (fun k => spec_moTask.l0 k n l l (l.length : Int) i) (((l.drop i.toNat).all g) && (decide (1 ≤ n ∧ n ≤ 5) && decide ((l.length : Int) ≤ 12))) := by
  intro d
  induction d with
  | zero =>
    intro i h0 hd
    refine Ev.step (fun k => by rw [spec_moTask.l0]) ?_
    rw [List.drop_of_length_le (by omega)]
    refine evNeg (by omega) ?_
    rw [l1In_eq]
    refine evSome ?_
    by_cases c : 1 ≤ n ∧ n ≤ 5
    · exact evPos (by simpa using c) (evEq (by simp [c]))
    · refine evNeg (by simpa using c) (evEq ?_)
      rw [decide_eq_false c]; simp
  | succ d ih =>
    intro i h0 hd
    refine Ev.step (fun k => by rw [spec_moTask.l0]) ?_
    refine evPos (by omega) (evPos h0 (evPos (by omega) ?_))
    rw [hg, wr (by omega) (by omega), List.drop_eq_getElem_cons (show i.toNat < l.length by omega), List.all_cons]
    have e : rd_T55 l i = l[i.toNat] := by unfold rd_T55; rw [List.getD_eq_getElem?_getD, List.getElem?_eq_getElem (by omega)]; rfl
    rw [e]
    refine evSome ?_
    by_cases c : g l[i.toNat] = true
    · refine evPos c (evTo (ih (i + 1) (by omega) (by omega)) ?_)
      rw [c, show (i + 1).toNat = i.toNat + 1 by omega]; simp
    · refine evNeg c (evEq ?_)
      rw [Bool.eq_false_iff.mpr c]; simp
theorem moTask_ev (n : Int) (l : List S55) (hl : l.length ≤ 1048576) : Ev (fun k => spec_moTask.f k n l) (okTask n l) := by
  unfold spec_moTask.f okTask
  by_cases c : 1 ≤ n ∧ n ≤ 5
  · exact evTo (moTask_l0 n (fun m => isMv n m.f0 m.f1 m.f2) (fun m => moGood_eq n _ _ _ (by omega) (by omega)) l hl l.length 0 (by omega) (by simp)) (by simp)
  · refine evTo (moTask_l0 n _ (fun m => moGood_some n m.f0 m.f1 m.f2) l hl l.length 0 (by omega) (by simp)) ?_
    rw [decide_eq_false c]; simp
/-! spec_l1Has -/
theorem l1Has_l0 (x : Int) (xs : List Int) (hn : xs.length ≤ 35184372088832) : ∀ (d : Nat) (j : Int), 0 ≤ j → j.toNat + d = xs.length →
    Ev (fun k => spec_l1Has.l0 k x xs (xs.length : Int) j) (decide (x ∈ xs.drop j.toNat)) := by
  intro d
  induction d with
  | zero =>
    intro j h0 hd
    refine Ev.step (fun k => by rw [spec_l1Has.l0]) ?_
    refine evNeg (by omega) (evEq ?_)
    rw [drop_end _ _ (by omega)]; simp
  | succ d ih =>
    intro j h0 hd
    refine Ev.step (fun k => by rw [spec_l1Has.l0]) ?_
    refine evPos (by omega) (evPos (by omega) (evPos (by omega) ?_))
    rw [wr (by omega) (by omega), drop_rd xs j h0 (by omega)]
    by_cases c : rd xs j = x
    · exact evPos c (evEq (by simp [c]))
    · exact evNeg c (evTo (ih _ (by omega) (by omega)) (by simp [List.mem_cons, Ne.symm c]))
theorem l1Has_ev (xs : List Int) (x : Int) (hn : xs.length ≤ 35184372088832) : Ev (fun k => spec_l1Has.f k xs x) (decide (x ∈ xs)) := by
  unfold spec_l1Has.f
  exact evTo (l1Has_l0 x xs hn xs.length 0 (by omega) (by simp)) (by simp)
/-! spec_raPermutation -/
theorem raPermutation_l0 (l : List Int) (hl : l.length ≤ 1048576) : ∀ (d : Nat) (i : Int), 0 ≤ i → i.toNat + d = l.length →
    Ev (fun q => spec_raPermutation.l0 q l l (l.length : Int) i) (decide (∀ j (h : j < l.length), i.toNat ≤ j → j < 12 ∧ (0 ≤ l[j] ∧ l[j] ≤ (l.length : Int) - 1) ∧ l[j] ∉ l.take j)) := by
  intro d
  induction d with
  | zero =>
    intro i h0 hd
    refine Ev.step (fun k => by rw [spec_raPermutation.l0]) ?_
    refine evNeg (by omega) (evEq (decide_eq_true ?_).symm)
    intro j h hj; omega
  | succ d ih =>
    intro i h0 hd
    refine Ev.step (fun k => by rw [spec_raPermutation.l0]) ?_
    have hil : i.toNat < l.length := by omega
    have e : rd l i = l[i.toNat] := by unfold rd; rw [List.getD_eq_getElem?_getD, List.getElem?_eq_getElem hil]; rfl
    refine evPos (by omega) (evPos h0 (evPos (by omega) ?_))
    by_cases c1 : i ≥ 12
    · refine evPos c1 (evEq (decide_eq_false ?_).symm)
      intro h
      have := (h i.toNat hil (Nat.le_refl _)).1
      omega
    · refine evNeg c1 ?_
      rw [l1In_eq, wr (by omega) (by omega), wr (by omega) (by omega)]
      refine evSome ?_
      by_cases c2 : 0 ≤ rd l i ∧ rd l i ≤ (l.length : Int) - 1
      · refine evPos (by simpa using c2) (evPos (by omega) (Ev.bind (l1Has_ev _ _ (by rw [List.length_take]; omega)) ?_))
        by_cases c3 : rd l i ∈ l.take i.toNat
        · refine evPos (decide_eq_true c3) (evEq (decide_eq_false ?_).symm)
          intro h
          rw [e] at c3
          exact (h i.toNat hil (Nat.le_refl _)).2.2 c3
        · refine evNeg (by simpa using c3) (evTo (ih (i + 1) (by omega) (by omega)) ?_)
          apply decide_eq_decide.2
          constructor
          · intro h j hj hij
            by_cases ej : j = i.toNat
            · subst ej
              rw [e] at c2 c3
              exact ⟨by omega, c2, c3⟩
            · exact h j hj (by omega)
          · intro h j hj hij
            exact h j hj (by omega)
      · refine evNeg (by simpa using c2) (evEq (decide_eq_false ?_).symm)
        intro h
        rw [e] at c2
        exact c2 (h i.toNat hil (Nat.le_refl _)).2.1
theorem raPermutation_ev (l : List Int) (hl : l.length ≤ 1048576) : Ev (fun q => spec_raPermutation.f q l) (isPm l) := by
  unfold spec_raPermutation.f
  refine evTo (raPermutation_l0 l hl l.length 0 (by omega) (by simp)) ?_
  rw [Bool.eq_iff_iff, isPm_iff, decide_eq_true_eq]
  constructor
  · intro h j hj; exact h j hj (by simp)
  · intro h j hj _; exact h j hj
/-! spec_moLists -/
/-- Lists are permutations of n, not too many. -/
def okLists (n : Int) (L : List (List Int)) : Bool := (L.all fun l => decide ((l.length : Int) = n) && isPm l) && decide ((L.length : Int) ≤ 1100)
theorem moLists_l0 (n : Int) (L : List (List Int)) (hL : L.length ≤ 1048576) (hl : ∀ t ∈ L, t.length ≤ 1048576) : ∀ (d : Nat) (j : Int), 0 ≤ j → j.toNat + d = L.length →
    Ev (fun k => spec_moLists.l0 k n L L (L.length : Int) j) (((L.drop j.toNat).all fun l => decide ((l.length : Int) = n) && isPm l) && decide ((L.length : Int) ≤ 1100)) := by
  intro d
  induction d with
  | zero =>
    intro j h0 hd
    refine Ev.step (fun k => by rw [spec_moLists.l0]) ?_
    refine evNeg (by omega) (evEq ?_)
    rw [drop_end L j (by omega)]; simp
  | succ d ih =>
    intro j h0 hd
    have hj : j.toNat < L.length := by omega
    have e : rd_L3 L j = L[j.toNat] := by unfold rd_L3; rw [List.getD_eq_getElem?_getD, List.getElem?_eq_getElem hj]; rfl
    have ed : L.drop j.toNat = L[j.toNat] :: L.drop (j + 1).toNat := by
      rw [show (j + 1).toNat = j.toNat + 1 from by omega]; exact List.drop_eq_getElem_cons hj
    refine Ev.step (fun k => by rw [spec_moLists.l0]) ?_
    refine evPos (by omega) (evPos h0 (evPos (by omega) ?_))
    rw [e, wr (by omega) (by omega), ed, List.all_cons]
    by_cases c : (L[j.toNat].length : Int) = n
    · refine evPos c (Ev.bind (raPermutation_ev _ (by have := hl _ (List.getElem_mem hj); omega)) ?_)
      by_cases c2 : isPm L[j.toNat] = true
      · refine evPos c2 (evTo (ih (j + 1) (by omega) (by omega)) ?_)
        rw [decide_eq_true c, c2]; simp
      · refine evNeg c2 (evEq ?_)
        simp only [Bool.not_eq_true] at c2
        rw [c2]; simp
    · refine evNeg c (evEq ?_)
      rw [decide_eq_false c]; simp
theorem moLists_ev (n : Int) (L : List (List Int)) (hL : L.length ≤ 1048576) (hl : ∀ t ∈ L, t.length ≤ 1048576) : Ev (fun k => spec_moLists.f k n L) (okLists n L) := by
  unfold spec_moLists.f
  exact evTo (moLists_l0 n L hL hl L.length 0 (by omega) (by simp)) (by simp [okLists])
/-! spec_l1Own -/
theorem l1Own_eq (l : List Int) (hn : l.length ≤ 10000000000000) : spec_l1Own.f l = some l := by
  unfold spec_l1Own.f
  simp only [Option.bind_some, List.nil_append, List.length_nil, Nat.zero_add]
  rw [if_pos (by omega)]
/-! spec_moApply -/
theorem moApply_l0 (l : List Int) (hl : l.length ≤ 1000) (b : Int) (hb : b ≤ l.length) (a c : Int) : ∀ (d : Nat) (x5 : List Int) (i : Int), 0 ≤ i → i + d = b → x5.length = l.length → x5.take i.toNat = (l.take b.toNat).reverse.take i.toNat → x5.drop i.toNat = l.drop i.toNat →
    Ev (fun k => spec_moApply.l0 k l x5 i a b c) ((l.take b.toNat).reverse ++ l.drop b.toNat) := by
  intro d
  induction d with
  | zero =>
    intro x5 i h0 hi h5 ht hd
    refine Ev.step (fun k => by rw [spec_moApply.l0]) ?_
    refine evNeg (by omega) (evEq ?_)
    obtain rfl : i = b := by omega
    rw [← List.take_append_drop i.toNat x5, ht, hd, List.take_of_length_le (by rw [List.length_reverse, List.length_take]; omega)]
  | succ d ih =>
    intro x5 i h0 hi h5 ht hd
    refine Ev.step (fun k => by rw [spec_moApply.l0]) ?_
    simp (disch := omega) only [wr]
    refine evPos (by omega) (evPos (by omega) (evPos (by omega) (evPos (by omega) (evPos (by omega) ?_))))
    refine ih _ (i + 1) (by omega) (by omega) (by simpa using h5) ?_ ?_
    · rw [set_takeI _ _ _ h0 (by omega), ht, show (i + 1).toNat = i.toNat + 1 by omega, List.take_add_one, List.getElem?_reverse (by rw [List.length_take]; omega), List.length_take, show min b.toNat l.length - 1 - i.toNat = (b - 1 - i).toNat by omega, List.getElem?_take, if_pos (by omega)]
      unfold rd
      rw [List.getD_eq_getElem?_getD, List.getElem?_eq_getElem (show (b - 1 - i).toNat < l.length by omega)]
      rfl
    · rw [show (i + 1).toNat = i.toNat + 1 by omega, List.drop_set_of_lt (by omega), ← List.drop_drop, ← List.drop_drop, hd]
theorem moApply_l1 (l : List Int) (hl : l.length ≤ 1000) (b : Int) (hb0 : 1 ≤ b) (hb : b ≤ l.length) (a c : Int) : ∀ (d : Nat) (x5 : List Int) (i : Int), 0 ≤ i → i + d = b → x5.length = l.length → x5.take i.toNat = ((l.take b.toNat).drop 1 ++ (l.take b.toNat).take 1).take i.toNat → x5.drop i.toNat = l.drop i.toNat →
    Ev (fun k => spec_moApply.l1 k l x5 i a b c) ((l.take b.toNat).drop 1 ++ (l.take b.toNat).take 1 ++ l.drop b.toNat) := by
  intro d
  have hlen : ((l.take b.toNat).drop 1 ++ (l.take b.toNat).take 1).length = b.toNat := by
    simp; omega
  induction d with
  | zero =>
    intro x5 i h0 hi h5 ht hd
    refine Ev.step (fun k => by rw [spec_moApply.l1]) ?_
    refine evNeg (by omega) (evEq ?_)
    obtain rfl : i = b := by omega
    rw [← List.take_append_drop i.toNat x5, ht, hd, List.take_of_length_le (by omega)]
  | succ d ih =>
    intro x5 i h0 hi h5 ht hd
    refine Ev.step (fun k => by rw [spec_moApply.l1]) ?_
    simp (disch := omega) only [wr]
    rw [Int.tmod_eq_emod_of_nonneg (by omega)]
    have hm : (i + 1) % b = if i + 1 < b then i + 1 else 0 := by
      split
      · exact Int.emod_eq_of_lt (by omega) (by omega)
      · rw [show i + 1 = b by omega, Int.emod_self]
    rw [hm]
    refine evPos (by omega) (evNeg (by omega) (evPos (by split <;> omega) (evPos (by split <;> omega) (evPos (by omega) (evPos (by omega) ?_)))))
    refine ih _ (i + 1) (by omega) (by omega) (by simpa using h5) ?_ ?_
    · rw [set_takeI _ _ _ h0 (by omega), ht, show (i + 1).toNat = i.toNat + 1 by omega, List.take_add_one (l := _ ++ _)]
      congr 1
      unfold rd
      by_cases c : i + 1 < b
      · rw [if_pos c, List.getElem?_append_left (by simp; omega), List.getElem?_drop, List.getElem?_take, if_pos (by omega), show 1 + i.toNat = (i + 1).toNat by omega, List.getD_eq_getElem?_getD, List.getElem?_eq_getElem (by omega)]
        rfl
      · rw [if_neg c, List.getElem?_append_right (by simp; omega)]
        have e : i.toNat - ((l.take b.toNat).drop 1).length = 0 := by simp; omega
        rw [e, List.getElem?_take, if_pos (by omega), List.getElem?_take, if_pos (by omega), List.getD_eq_getElem?_getD, show (0 : Int).toNat = 0 from rfl, List.getElem?_eq_getElem (show 0 < l.length by omega)]
        rfl
    · rw [show (i + 1).toNat = i.toNat + 1 by omega, List.drop_set_of_lt (by omega), ← List.drop_drop, ← List.drop_drop, hd]
theorem moApply_ev (l : List Int) (hl : l.length ≤ 1000) (a b c : Int) (hg : Mgood l.length a b c) : Ev (fun q => spec_moApply.f q l a b c) (mv l a b c) := by
  unfold spec_moApply.f
  rw [l1Own_eq l (by omega)]
  refine evSome ?_
  rcases hg with ⟨rfl, h1, h2, h3⟩ | ⟨rfl, h1, h2, rfl⟩ | ⟨rfl, h1, h2, rfl⟩
  · exact evPos rfl (evPos (by omega) (evPos (by omega) (evPos (by omega) (evPos (by omega) (evPos (by omega) (evPos (by omega) (evEq rfl)))))))
  · refine evNeg (by decide) (evPos rfl ?_)
    refine evTo (moApply_l0 l hl b h2 1 0 b.toNat l 0 (by omega) (by omega) rfl (by simp) (by simp)) (by simp [mv])
  · refine evNeg (by decide) (evNeg (by decide) ?_)
    refine evTo (moApply_l1 l hl b (by omega) h2 2 0 b.toNat l 0 (by omega) (by omega) rfl (by simp) (by simp)) (by simp [mv])
/-! spec_l1Same -/
theorem l1Same_l0 (a b : List Int) (hn : a.length ≤ 35184372088832) (hb : a.length = b.length) : ∀ (d : Nat) (j : Int), 0 ≤ j → j.toNat + d = a.length →
    Ev (fun k => spec_l1Same.l0 k a b (a.length : Int) j) (decide (a.drop j.toNat = b.drop j.toNat)) := by
  intro d
  induction d with
  | zero =>
    intro j h0 hd
    refine Ev.step (fun k => by rw [spec_l1Same.l0]) ?_
    refine evNeg (by omega) ?_
    rw [drop_end a j (by omega), drop_end b j (by omega)]
    exact evEq rfl
  | succ d ih =>
    intro j h0 hd
    refine Ev.step (fun k => by rw [spec_l1Same.l0]) ?_
    refine evPos (by omega) (evPos (by omega) (evPos (by omega) (evPos (by omega) ?_)))
    rw [wr (by omega) (by omega), drop_rd a j h0 (by omega), drop_rd b j h0 (by omega)]
    by_cases c : rd a j = rd b j
    · refine evPos c (evTo (ih _ (by omega) (by omega)) ?_)
      simp [c]
    · refine evNeg c (evEq ?_)
      simp [c]
theorem l1Same_ev (a b : List Int) (hn : a.length ≤ 35184372088832) : Ev (fun k => spec_l1Same.f k a b) (decide (a = b)) := by
  unfold spec_l1Same.f
  by_cases hb : a.length = b.length
  · exact evPos (by omega) (l1Same_l0 a b hn hb a.length 0 (by omega) (by simp))
  · refine evNeg (by omega) (evEq ?_)
    exact (decide_eq_false (fun e => hb (by rw [e]))).symm
/-! spec_moWhich -/
/-- Does a move lead from one list to another one? -/
def leads (a b : List Int) (m : S55) : Bool := decide (mv a m.f0 m.f1 m.f2 = b)
theorem moWhich_l0 (a b : List Int) (M : List S55) (ha : a.length ≤ 1000) (hM : M.length ≤ 1048576) (hg : ∀ m ∈ M, Mgood a.length m.f0 m.f1 m.f2) : ∀ (d : Nat) (i : Int), 0 ≤ i → i.toNat + d = M.length →
    Ev (fun k => spec_moWhich.l0 k a b M (M.length : Int) i) (pIdx (leads a b) i (M.drop i.toNat)) := by
  intro d
  induction d with
  | zero =>
    intro i h0 hd
    refine Ev.step (fun k => by rw [spec_moWhich.l0]) ?_
    refine evNeg (by omega) (evEq ?_)
    rw [List.drop_of_length_le (by omega)]; rfl
  | succ d ih =>
    intro i h0 hd
    have hil : i.toNat < M.length := by omega
    have e : rd_T55 M i = M[i.toNat] := by unfold rd_T55; rw [List.getD_eq_getElem?_getD, List.getElem?_eq_getElem hil]; rfl
    refine Ev.step (fun k => by rw [spec_moWhich.l0]) ?_
    refine evPos (by omega) (evPos h0 (evPos (by omega) ?_))
    rw [wr (by omega) (by omega), List.drop_eq_getElem_cons hil, pIdx, e]
    refine Ev.bind (moApply_ev a ha _ _ _ (hg _ (List.getElem_mem hil))) (Ev.bind (l1Same_ev _ _ (by rw [mv_length]; omega)) ?_)
    by_cases c : leads a b M[i.toNat] = true
    · rw [if_pos c]; exact evPos c (Ev.now _)
    · rw [if_neg c]
      refine evNeg c (evTo (ih (i + 1) (by omega) (by omega)) ?_)
      rw [show (i + 1).toNat = i.toNat + 1 from by omega]
theorem moWhich_ev (a b : List Int) (M : List S55) (ha : a.length ≤ 1000) (hM : M.length ≤ 1048576) (hg : ∀ m ∈ M, Mgood a.length m.f0 m.f1 m.f2) : Ev (fun k => spec_moWhich.f k a b M) (pIdx (leads a b) 0 M) := by
  unfold spec_moWhich.f
  exact evTo (moWhich_l0 a b M ha hM hg M.length 0 (by omega) (by simp)) (by simp)
/-- The moves between neighbours. -/
def stepsR (M : List S55) : List Int → List Int → List (List Int) → List Int × Bool
  | acc, _, [] => (acc, true)
  | acc, a, b :: T => if pIdx (leads a b) 0 M < 0 then ([], false) else stepsR M (acc ++ [pIdx (leads a b) 0 M]) b T
def stepsL (M : List S55) : List (List Int) → List Int × Bool
  | [] => ([], true)
  | a :: T => stepsR M [] a T
theorem stepsR_length (M : List S55) : ∀ (T : List (List Int)) (acc a : List Int), (stepsR M acc a T).1.length ≤ acc.length + T.length
  | [], acc, a => by simp [stepsR]
  | b :: T, acc, a => by
    rw [stepsR]
    split
    · simp
    · have := stepsR_length M T (acc ++ [pIdx (leads a b) 0 M]) b
      simp at this ⊢; omega
theorem stepsL_length (M : List S55) (L : List (List Int)) : (stepsL M L).1.length ≤ L.length := by
  cases L with
  | nil => simp [stepsL]
  | cons a T => have := stepsR_length M T [] a; simp [stepsL] at this ⊢; omega
/-! spec_moSteps -/
theorem moSteps_l0 (n : Nat) (hn : n ≤ 12) (M : List S55) (hM : M.length ≤ 1048576) (hg : ∀ m ∈ M, Mgood n m.f0 m.f1 m.f2) (L : List (List Int)) (hL : L.length ≤ 1100) (hl : ∀ t ∈ L, t.length = n) : ∀ (d : Nat) (out : List Int) (i : Nat), i + d = L.length → (h1 : 1 ≤ i) → out.length ≤ i →
    Ev (fun k => spec_moSteps.l0 k L M out (i : Int)) (stepsR M out (L.getD (i - 1) []) (L.drop i)) := by
  intro d
  induction d with
  | zero =>
    intro out i hd h1 ho
    refine Ev.step (fun k => by rw [spec_moSteps.l0]) ?_
    refine evNeg (by omega) (evEq ?_)
    rw [List.drop_of_length_le (by omega)]; rfl
  | succ d ih =>
    intro out i hd h1 ho
    have hi : i < L.length := by omega
    have hp : i - 1 < L.length := by omega
    have e1 : rd_L3 L (i : Int) = L[i] := by unfold rd_L3; rw [Int.toNat_natCast, List.getD_eq_getElem?_getD, List.getElem?_eq_getElem hi]; rfl
    have e2 : rd_L3 L ((i : Int) - 1) = L[i - 1] := by unfold rd_L3; rw [show ((i : Int) - 1).toNat = i - 1 from by omega, List.getD_eq_getElem?_getD, List.getElem?_eq_getElem hp]; rfl
    have e3 : L.getD (i - 1) [] = L[i - 1] := by rw [List.getD_eq_getElem?_getD, List.getElem?_eq_getElem hp]; rfl
    have ha := hl _ (List.getElem_mem hp)
    refine Ev.step (fun k => by rw [spec_moSteps.l0]) ?_
    rw [wr (by omega) (by omega), e1, e2, e3, List.drop_eq_getElem_cons hi, stepsR]
    refine evPos (by omega) (evPos (by omega) (evPos (by omega) (evPos (by omega) (Ev.bind (moWhich_ev _ _ M (by omega) hM (by rw [ha]; exact hg)) ?_))))
    by_cases c : pIdx (leads L[i - 1] L[i]) 0 M < 0
    · rw [if_pos c]; exact evPos c (Ev.now _)
    · rw [if_neg c]
      refine evNeg c (evPos (by omega) ?_)
      rw [wr (by omega) (by omega), show (i : Int) + 1 = ((i + 1 : Nat) : Int) from by omega]
      refine evTo (ih _ (i + 1) (by omega) (by omega) (by simp; omega)) ?_
      rw [show i + 1 - 1 = i from by omega, List.getD_eq_getElem?_getD, List.getElem?_eq_getElem hi]
      rfl
theorem moSteps_ev (n : Nat) (hn : n ≤ 12) (M : List S55) (hM : M.length ≤ 1048576) (hg : ∀ m ∈ M, Mgood n m.f0 m.f1 m.f2) (L : List (List Int)) (hL : L.length ≤ 1100) (hl : ∀ t ∈ L, t.length = n) : Ev (fun k => spec_moSteps.f k L M) (stepsL M L) := by
  unfold spec_moSteps.f
  cases L with
  | nil =>
    refine Ev.step (fun k => by rw [spec_moSteps.l0]) ?_
    exact evNeg (by simp) (Ev.now _)
  | cons a T => exact evTo (moSteps_l0 n hn M hM hg (a :: T) hL hl T.length [] 1 (by simp; omega) (by omega) (by simp)) (by simp [stepsL])
/-! spec_raFactorial -/
theorem raFactorial_tab : ((List.range 13).all fun n => spec_raFactorial.f 20 (n : Int) == some (fac n : Int)) = true := by decide +kernel
theorem raFactorial_ev (n : Nat) (hn : n ≤ 12) : Ev (fun r => spec_raFactorial.f r (n : Int)) (fac n : Int) := by
  refine evTab (g := fun r => spec_raFactorial.f r (n : Int)) (spec_raFactorial.mono _) 20 ?_
  exact beq_iff_eq.1 (List.all_eq_true.1 raFactorial_tab n (List.mem_range.2 (by omega)))
/-! spec_raPlace -/
theorem raPlace_l0 (l : List Int) (L : List (List Int)) (hL : L.length ≤ 1000000000) (hl : ∀ t ∈ L, t.length ≤ 35184372088832) : ∀ (d : Nat) (j : Int), 0 ≤ j → j.toNat + d = L.length →
    Ev (fun k => spec_raPlace.l0 k l L (L.length : Int) j) (placeI l j (L.drop j.toNat)) := by
  intro d
  induction d with
  | zero =>
    intro j h0 hd
    refine Ev.step (fun k => by rw [spec_raPlace.l0]) ?_
    refine evNeg (by omega) ?_
    rw [drop_end L j (by omega)]
    exact evEq rfl
  | succ d ih =>
    intro j h0 hd
    refine Ev.step (fun k => by rw [spec_raPlace.l0]) ?_
    have hm : rd_L3 L j ∈ L := by
      unfold rd_L3
      rw [List.getD_eq_getElem?_getD, List.getElem?_eq_getElem (show j.toNat < L.length by omega)]
      exact List.getElem_mem _
    refine evPos (by omega) (evPos (by omega) (evPos (by omega) (Ev.bind (l1Same_ev _ l (hl _ hm)) ?_)))
    have hcons : L.drop j.toNat = rd_L3 L j :: L.drop (j + 1).toNat := dropD [] L j h0 (by omega)
    rw [wr (by omega) (by omega), hcons, placeI]
    by_cases c : rd_L3 L j = l
    · rw [if_pos c]; exact evPos (decide_eq_true c) (Ev.now _)
    · rw [if_neg c]; exact evNeg (by simpa using c) (ih _ (by omega) (by omega))
theorem raPlace_ev (L : List (List Int)) (l : List Int) (hL : L.length ≤ 1000000000) (hl : ∀ t ∈ L, t.length ≤ 35184372088832) : Ev (fun k => spec_raPlace.f k L l) (placeI l 0 L) := by
  unfold spec_raPlace.f
  exact evTo (raPlace_l0 l L hL hl L.length 0 (by omega) (by simp)) (by simp)
/-! spec_moAll -/
theorem moAll_l0 (n : Nat) (hn : n ≤ 12) (L : List (List Int)) (hL : L.length ≤ 1048576) (hl : ∀ t ∈ L, t.length ≤ 1048576) : ∀ (d : Nat) (i : Int), 0 ≤ i → i.toNat + d = L.length →
    Ev (fun q => spec_moAll.l0 q (n : Int) L L (L.length : Int) i) (decide (∀ j (h : j < L.length), i.toNat ≤ j → L[j] ∉ L.take j) && decide (L.length = fac n)) := by
  intro d
  induction d with
  | zero =>
    intro i h0 hd
    refine Ev.step (fun k => by rw [spec_moAll.l0]) ?_
    refine evNeg (by omega) (Ev.bind (raFactorial_ev n hn) (evEq ?_))
    rw [decide_eq_true (show ∀ j (h : j < L.length), i.toNat ≤ j → L[j] ∉ L.take j from fun j h hj => by omega), Bool.true_and, Bool.eq_iff_iff]
    simp
    omega
  | succ d ih =>
    intro i h0 hd
    refine Ev.step (fun k => by rw [spec_moAll.l0]) ?_
    have hil : i.toNat < L.length := by omega
    have e : rd_L3 L i = L[i.toNat] := by unfold rd_L3; rw [List.getD_eq_getElem?_getD, List.getElem?_eq_getElem hil]; rfl
    refine evPos (by omega) (evPos h0 (evPos (by omega) (evPos (by omega) ?_)))
    rw [e, wr (by omega) (by omega)]
    refine Ev.bind (raPlace_ev _ _ (by rw [List.length_take]; omega) (fun t ht => by have := hl t (List.mem_of_mem_take ht); omega)) ?_
    by_cases c : L[i.toNat] ∈ L.take i.toNat
    · refine evPos ((placeI_mem _ _ 0 (by omega)).2 c) (evEq ?_)
      rw [decide_eq_false (fun h => h i.toNat hil (Nat.le_refl _) c)]; rfl
    · refine evNeg (fun h => c ((placeI_mem _ _ 0 (by omega)).1 h)) (evTo (ih (i + 1) (by omega) (by omega)) ?_)
      congr 1
      apply decide_eq_decide.2
      constructor
      · intro h j hj hij
        by_cases ej : j = i.toNat
        · subst ej; exact c
        · exact h j hj (by omega)
      · intro h j hj hij
        exact h j hj (by omega)
theorem moAll_ev (n : Nat) (hn : n ≤ 12) (L : List (List Int)) (hL : L.length ≤ 1048576) (hl : ∀ t ∈ L, t.length ≤ 1048576) : Ev (fun q => spec_moAll.f q (n : Int) L) (decide (L.Nodup) && decide (L.length = fac n)) := by
  unfold spec_moAll.f
  refine evTo (moAll_l0 n hn L hL hl L.length 0 (by omega) (by simp)) ?_
  congr 1
  apply decide_eq_decide.2
  rw [nodup_takeG]
  simp
/-! impl_factorial -/
theorem factorial_tab : ((List.range 13).all fun n => impl_factorial.f 20 (n : Int) == some (fac n : Int)) = true := by decide +kernel
theorem factorial_ev (n : Nat) (hn : n ≤ 12) : Ev (fun r => impl_factorial.f r (n : Int)) (fac n : Int) := by
  refine evTab (g := fun r => impl_factorial.f r (n : Int)) (impl_factorial.mono _) 20 ?_
  exact beq_iff_eq.1 (List.all_eq_true.1 factorial_tab n (List.mem_range.2 (by omega)))
/-! impl_within -/
theorem within_eq (x a b : Int) : impl_within.f x a b = some (decide (a ≤ x ∧ x ≤ b)) := by
  unfold impl_within.f
  by_cases h : x ≥ a
  · rw [if_pos h]; have h' : a ≤ x := h; simp [h']
  · rw [if_neg h]; have h' : ¬ a ≤ x := h; simp [h']
/-! impl_isMove -/
theorem isMove_eq (n c i j : Int) (h0 : 0 ≤ n) (hn : n ≤ 12) : impl_isMove.f n c i j = some (isMv n c i j) := by
  unfold impl_isMove.f isMv
  simp only [within_eq, Option.bind_some]
  by_cases c0 : c = 0
  · rw [if_pos c0]
    by_cases c1 : 0 ≤ i
    · rw [if_pos c1]
      by_cases c2 : i < j
      · rw [if_pos c2]; congr 1; apply decide_eq_decide.2; omega
      · rw [if_neg c2]; congr 1; exact (decide_eq_false (by omega)).symm
    · rw [if_neg c1]; congr 1; exact (decide_eq_false (by omega)).symm
  · rw [if_neg c0]
    by_cases c1 : c = 1
    · rw [if_pos c1]
      by_cases c3 : 2 ≤ i ∧ i ≤ n
      · rw [if_pos (by simpa using c3)]
        congr 1; rw [Bool.eq_iff_iff]; simp; omega
      · rw [if_neg (by simpa using c3)]
        congr 1; exact (decide_eq_false (by omega)).symm
    · rw [if_neg c1]
      by_cases c2 : c = 2
      · rw [if_pos c2]
        by_cases c3 : 2 ≤ i ∧ i ≤ n
        · rw [if_pos (by simpa using c3)]
          congr 1; rw [Bool.eq_iff_iff]; simp; omega
        · rw [if_neg (by simpa using c3)]
          congr 1; exact (decide_eq_false (by omega)).symm
      · rw [if_neg c2]
        congr 1; exact (decide_eq_false (by omega)).symm
/-! impl_areMoves -/
theorem isMove_some (n a b c : Int) : impl_isMove.f n a b c = some ((impl_isMove.f n a b c).getD false) := by
  unfold impl_isMove.f
  simp only [within_eq, Option.bind_some]
  repeat' split
  all_goals rfl
theorem areMoves_l0 (n : Int) (g : S55 → Bool) (hg : ∀ m : S55, impl_isMove.f n m.f0 m.f1 m.f2 = some (g m)) (l : List S55) (hl : l.length ≤ 1048576) : ∀ (d : Nat) (i : Int), 0 ≤ i → i.toNat + d = l.length →
    Ev (fun k => impl_areMoves.l0 k n l l (l.length : Int) i) (((l.drop i.toNat).all g) && (decide (1 ≤ n ∧ n ≤ 5) && decide ((l.length : Int) ≤ 12))) := by
  intro d
  induction d with
  | zero =>
    intro i h0 hd
    refine Ev.step (fun k => by rw [impl_areMoves.l0]) ?_
    rw [List.drop_of_length_le (by omega)]
    refine evNeg (by omega) ?_
    rw [within_eq]
    refine evSome ?_
    by_cases c : 1 ≤ n ∧ n ≤ 5
    · exact evPos (by simpa using c) (evEq (by simp [c]))
    · refine evNeg (by simpa using c) (evEq ?_)
      rw [decide_eq_false c]; simp
  | succ d ih =>
    intro i h0 hd
    refine Ev.step (fun k => by rw [impl_areMoves.l0]) ?_
    refine evPos (by omega) (evPos h0 (evPos (by omega) ?_))
    rw [hg, wr (by omega) (by omega), List.drop_eq_getElem_cons (show i.toNat < l.length by omega), List.all_cons]
    have e : rd_T55 l i = l[i.toNat] := by unfold rd_T55; rw [List.getD_eq_getElem?_getD, List.getElem?_eq_getElem (by omega)]; rfl
    rw [e]
    refine evSome ?_
    by_cases c : g l[i.toNat] = true
    · refine evPos c (evTo (ih (i + 1) (by omega) (by omega)) ?_)
      rw [c, show (i + 1).toNat = i.toNat + 1 by omega]; simp
    · refine evNeg c (evEq ?_)
      rw [Bool.eq_false_iff.mpr c]; simp
theorem areMoves_ev (n : Int) (l : List S55) (hl : l.length ≤ 1048576) : Ev (fun k => impl_areMoves.f k n l) (okTask n l) := by
  unfold impl_areMoves.f okTask
  by_cases c : 1 ≤ n ∧ n ≤ 5
  · exact evTo (areMoves_l0 n (fun m => isMv n m.f0 m.f1 m.f2) (fun m => isMove_eq n _ _ _ (by omega) (by omega)) l hl l.length 0 (by omega) (by simp)) (by simp)
  · refine evTo (areMoves_l0 n _ (fun m => isMove_some n m.f0 m.f1 m.f2) l hl l.length 0 (by omega) (by simp)) ?_
    rw [decide_eq_false c]; simp
/-! impl_permutationRank -/
theorem permutationRank_tab : ((List.range 6).all fun n => (List.range (facN n)).all fun r => impl_permutationRank.f 60 (PA n r) == some (r : Int)) = true := by decide +kernel
theorem permutationRank_ev (n r : Nat) (hn : n ≤ 5) (hr : r < facN n) : Ev (fun q => impl_permutationRank.f q (PA n r)) (r : Int) := by
  refine evTab (g := fun q => impl_permutationRank.f q (PA n r)) (impl_permutationRank.mono _) 60 ?_
  exact beq_iff_eq.1 (List.all_eq_true.1 (List.all_eq_true.1 permutationRank_tab n (List.mem_range.2 (by omega))) r (List.mem_range.2 hr))
/-! impl_identity -/
theorem identity_l0 (n : Nat) (hn : n ≤ 1000000000) : ∀ (d : Nat) (j : Int), 0 ≤ j → j.toNat + d = n → Ev (fun k => impl_identity.l0 k (upTo j.toNat) (n : Int) j) (upTo n) := by
  intro d
  induction d with
  | zero =>
    intro j h0 hd
    refine Ev.step (fun k => by rw [impl_identity.l0]) ?_
    exact evNeg (by omega) (evEq (by rw [show j.toNat = n from by omega]))
  | succ d ih =>
    intro j h0 hd
    refine Ev.step (fun k => by rw [impl_identity.l0]) ?_
    refine evPos (by omega) (evPos (by rw [upTo_length]; omega) ?_)
    have h := ih (j + 1) (by omega) (by omega)
    rw [show (j + 1).toNat = j.toNat + 1 from by omega, upTo_succ, Int.toNat_of_nonneg h0] at h
    rw [wr (by omega) (by omega)]
    exact h
theorem identity_ev (n : Nat) (hn : n ≤ 1000000000) : Ev (fun k => impl_identity.f k (n : Int)) (upTo n) := by
  unfold impl_identity.f
  exact identity_l0 n hn n 0 (by omega) (by simp)
/-! slices_Equal_int_int -/
theorem slicesEqual_l0 (a b : List Int) (hn : a.length ≤ 35184372088832) (hb : a.length = b.length) : ∀ (d : Nat) (j : Int), 0 ≤ j → j.toNat + d = a.length →
    Ev (fun k => slices_Equal_int_int.l0 k a b (a.length : Int) j) (decide (a.drop j.toNat = b.drop j.toNat)) := by
  intro d
  induction d with
  | zero =>
    intro j h0 hd
    refine Ev.step (fun k => by rw [slices_Equal_int_int.l0]) ?_
    refine evNeg (by omega) ?_
    rw [drop_end a j (by omega), drop_end b j (by omega)]
    exact evEq rfl
  | succ d ih =>
    intro j h0 hd
    refine Ev.step (fun k => by rw [slices_Equal_int_int.l0]) ?_
    refine evPos (by omega) (evPos (by omega) (evPos (by omega) (evPos (by omega) ?_)))
    rw [wr (by omega) (by omega), drop_rd a j h0 (by omega), drop_rd b j h0 (by omega)]
    by_cases c : rd a j = rd b j
    · refine evPos c (evTo (ih _ (by omega) (by omega)) ?_)
      simp [c]
    · refine evNeg c (evEq ?_)
      simp [c]
theorem slicesEqual_ev (a b : List Int) (hn : a.length ≤ 35184372088832) : Ev (fun k => slices_Equal_int_int.f k a b) (decide (a = b)) := by
  unfold slices_Equal_int_int.f
  by_cases hb : a.length = b.length
  · exact evPos (by omega) (slicesEqual_l0 a b hn hb a.length 0 (by omega) (by simp))
  · refine evNeg (by omega) (evEq ?_)
    exact (decide_eq_false (fun e => hb (by rw [e]))).symm
/-! impl_IsPermutation -/
theorem IsPermutation_ev (l : List Int) (hl : l.length ≤ 35184372088832) : Ev (fun q => impl_IsPermutation.f q l) (isPm l) := by
  unfold impl_IsPermutation.f isPm
  by_cases c : l.length ≤ 12
  · refine evPos c (Ev.bind (identity_ev l.length (by omega)) ?_)
    have hs : (srt l).length = l.length := (srt_perm l).length_eq
    refine evTo (slicesEqual_ev (srt l) (upTo l.length) (by omega)) ?_
    rw [decide_eq_true c, Bool.true_and]
  · refine evNeg c (evEq ?_)
    rw [decide_eq_false c, Bool.false_and]
/-! impl_arePermutations -/
theorem arePermutations_l0 (n : Int) (L : List (List Int)) (hL : L.length ≤ 1048576) (hl : ∀ t ∈ L, t.length ≤ 1048576) : ∀ (d : Nat) (j : Int), 0 ≤ j → j.toNat + d = L.length →
    Ev (fun k => impl_arePermutations.l0 k n L L (L.length : Int) j) (((L.drop j.toNat).all fun l => decide ((l.length : Int) = n) && isPm l) && decide ((L.length : Int) ≤ 1100)) := by
  intro d
  induction d with
  | zero =>
    intro j h0 hd
    refine Ev.step (fun k => by rw [impl_arePermutations.l0]) ?_
    refine evNeg (by omega) (evEq ?_)
    rw [drop_end L j (by omega)]; simp
  | succ d ih =>
    intro j h0 hd
    have hj : j.toNat < L.length := by omega
    have e : rd_L3 L j = L[j.toNat] := by unfold rd_L3; rw [List.getD_eq_getElem?_getD, List.getElem?_eq_getElem hj]; rfl
    have ed : L.drop j.toNat = L[j.toNat] :: L.drop (j + 1).toNat := by
      rw [show (j + 1).toNat = j.toNat + 1 from by omega]; exact List.drop_eq_getElem_cons hj
    refine Ev.step (fun k => by rw [impl_arePermutations.l0]) ?_
    refine evPos (by omega) (evPos h0 (evPos (by omega) ?_))
    rw [e, wr (by omega) (by omega), ed, List.all_cons]
    by_cases c : (L[j.toNat].length : Int) = n
    · refine evPos c (Ev.bind (IsPermutation_ev _ (by have := hl _ (List.getElem_mem hj); omega)) ?_)
      by_cases c2 : isPm L[j.toNat] = true
      · refine evPos c2 (evTo (ih (j + 1) (by omega) (by omega)) ?_)
        rw [decide_eq_true c, c2]; simp
      · refine evNeg c2 (evEq ?_)
        simp only [Bool.not_eq_true] at c2
        rw [c2]; simp
    · refine evNeg c (evEq ?_)
      rw [decide_eq_false c]; simp
theorem arePermutations_ev (n : Int) (L : List (List Int)) (hL : L.length ≤ 1048576) (hl : ∀ t ∈ L, t.length ≤ 1048576) : Ev (fun k => impl_arePermutations.f k n L) (okLists n L) := by
  unfold impl_arePermutations.f
  exact evTo (arePermutations_l0 n L hL hl L.length 0 (by omega) (by simp)) (by simp [okLists])
/-! impl_copied -/
theorem copied_eq (l : List Int) (hn : l.length ≤ 10000000000000) : impl_copied.f l = some l := by
  unfold impl_copied.f
  simp only [Option.bind_some, List.nil_append, List.length_nil, Nat.zero_add]
  rw [if_pos (by omega)]
/-! impl_moved -/
theorem moved_r0 : ∀ (n : Nat) (p m s : List Int), m.length ≤ n → Ev (fun k => impl_moved.r0 k (p ++ m ++ s) (p.length : Int) ((p.length : Int) + m.length - 1)) (p ++ m.reverse ++ s) := by
  intro n
  induction n with
  | zero =>
    intro p m s hm
    obtain rfl : m = [] := List.length_eq_zero_iff.1 (by omega)
    refine Ev.step (fun q => by rw [impl_moved.r0]) ?_
    exact evNeg (by simp; omega) (evEq (by simp))
  | succ n ih =>
    intro p m s hm
    refine Ev.step (fun q => by rw [impl_moved.r0]) ?_
    match m, hm with
    | [], _ => exact evNeg (by simp; omega) (evEq (by simp))
    | [x], _ => exact evNeg (by simp) (evEq (by simp))
    | x :: y :: t, hm =>
      obtain ⟨u, z, hz⟩ : ∃ u z, y :: t = u ++ [z] := ⟨(y :: t).dropLast, (y :: t).getLast (by simp), (List.dropLast_concat_getLast (by simp)).symm⟩
      rw [hz]
      have hl : u.length + 1 = t.length + 1 := by have := congrArg List.length hz; simp at this; omega
      simp only [List.length_cons] at hm
      refine evPos (by simp; omega) ?_
      have e1 : (p.length : Int).toNat = p.length := Int.toNat_natCast _
      have e2 : ((p.length : Int) + ((x :: (u ++ [z])).length : Nat) - 1).toNat = p.length + u.length + 1 := by simp; omega
      have r1 : rd (p ++ x :: (u ++ [z]) ++ s) (p.length : Int) = x := by
        unfold rd; rw [e1]; simp
      have r2 : rd (p ++ x :: (u ++ [z]) ++ s) ((p.length : Int) + ((x :: (u ++ [z])).length : Nat) - 1) = z := by
        unfold rd; rw [e2]
        rw [List.getD_eq_getElem?_getD, List.append_assoc, List.getElem?_append_right (by omega), show p.length + u.length + 1 - p.length = u.length + 1 by omega]
        simp
      rw [r1, r2, e1, e2]
      have hset : ((p ++ x :: (u ++ [z]) ++ s).set p.length z).set (p.length + u.length + 1) x = (p ++ [z]) ++ u ++ ([x] ++ s) := by
        rw [List.append_assoc p, List.set_append_right _ _ (by omega), Nat.sub_self, List.cons_append, List.set_cons_zero, List.set_append_right _ _ (by omega), show p.length + u.length + 1 - p.length = u.length + 1 by omega, List.set_cons_succ]
        rw [List.append_assoc u, List.set_append_right _ _ (by omega), Nat.sub_self]
        simp
      rw [hset]
      refine evTo (Ev.congr (fun k => ?_) (ih (p ++ [z]) u ([x] ++ s) (by omega))) ?_
      · congr 1
        · simp
        · simp; omega
      · simp
theorem moved_ev (l : List Int) (hl : l.length ≤ 1000) (a b c : Int) (hg : Mgood l.length a b c) : Ev (fun q => impl_moved.f q l a b c) (mv l a b c) := by
  unfold impl_moved.f
  rw [copied_eq l (by omega)]
  refine evSome (evPos (by omega) ?_)
  rcases hg with ⟨rfl, h1, h2, h3⟩ | ⟨rfl, h1, h2, rfl⟩ | ⟨rfl, h1, h2, rfl⟩
  · exact evPos rfl (evPos (by omega) (evPos (by omega) (evPos (by omega) (evPos (by omega) (evEq rfl)))))
  · refine evNeg (by decide) (evPos rfl (evPos (by omega) (evPos (by omega) ?_)))
    have h := moved_r0 b.toNat [] (l.take b.toNat) (l.drop b.toNat) (by rw [List.length_take]; omega)
    rw [List.length_take, show min b.toNat l.length = b.toNat by omega] at h
    refine evTo (Ev.congr (fun k => ?_) h) (by simp [mv])
    rw [List.nil_append, List.take_append_drop]
    congr 1
    simp; omega
  · refine evNeg (by decide) (evNeg (by decide) (evPos rfl (evPos (by omega) (evPos (by omega) (evEq ?_)))))
    obtain ⟨n, hn⟩ : ∃ n : Nat, b = (n : Int) + 1 := ⟨b.toNat - 1, by omega⟩
    subst hn
    rw [show ((n : Int) + 1).toNat = n + 1 by omega, show ((n : Int) + 1 - 1).toNat = n by omega]
    match l, h2 with
    | x :: t, h2 =>
      simp at h2
      have e : rd (x :: t) 0 = x := rfl
      rw [e]
      simp only [mv, List.take_succ_cons, List.drop_succ_cons, List.drop_zero]
      rw [show ((n : Int) + 1).toNat = n + 1 by omega]
      simp only [List.take_succ_cons, List.drop_succ_cons, List.drop_zero, List.take_zero]
      rw [if_neg (by decide), if_neg (by decide)]
      have hd : (x :: t).drop n = (x :: t)[n]'(by simp; omega) :: t.drop n := by
        rw [List.drop_eq_getElem_cons (by simp; omega)]; simp
      rw [hd, List.set_append_right _ _ (by rw [List.length_take]; omega), List.length_take, show n - min n t.length = 0 by omega]
      simp
/-! impl_steps -/
theorem steps_idx_ev (g : Nat → S55 → Option Bool) (p : S55 → Bool) (L : List S55) (hn : L.length ≤ 1048576) (hg : ∀ x ∈ L, Ev (fun k => g k x) (p x)) : ∀ (d : Nat) (i : Int), 0 ≤ i → i.toNat + d = L.length →
    Ev (fun k => impl_steps.idx g k L i) (pIdx p i (L.drop i.toNat)) := by
  intro d
  induction d with
  | zero =>
    intro i h0 hd
    refine Ev.step (fun k => by rw [impl_steps.idx]) ?_
    refine evNeg (by omega) (evEq ?_)
    rw [List.drop_of_length_le (by omega)]; rfl
  | succ d ih =>
    intro i h0 hd
    refine Ev.step (fun k => by rw [impl_steps.idx]) ?_
    have hil : i.toNat < L.length := by omega
    have e : rd_T55 L i = L[i.toNat] := by unfold rd_T55; rw [List.getD_eq_getElem?_getD, List.getElem?_eq_getElem hil]; rfl
    refine evPos (by omega) (evPos h0 ?_)
    rw [wr (by omega) (by omega), List.drop_eq_getElem_cons hil, pIdx, e]
    refine Ev.bind (hg _ (List.getElem_mem hil)) ?_
    by_cases c : p L[i.toNat] = true
    · rw [if_pos c]; exact evPos c (Ev.now _)
    · rw [if_neg c]
      refine evNeg c (evTo (ih (i + 1) (by omega) (by omega)) ?_)
      rw [show (i + 1).toNat = i.toNat + 1 from by omega]
theorem steps_l0 (n : Nat) (hn : n ≤ 12) (M : List S55) (hM : M.length ≤ 1048576) (hg : ∀ m ∈ M, Mgood n m.f0 m.f1 m.f2) (L : List (List Int)) (hL : L.length ≤ 1100) (hl : ∀ t ∈ L, t.length = n) : ∀ (d : Nat) (out : List Int) (i : Nat), i + d = L.length → (h1 : 1 ≤ i) → out.length ≤ i →
    Ev (fun k => impl_steps.l0 k L M out (i : Int)) (stepsR M out (L.getD (i - 1) []) (L.drop i)) := by
  intro d
  induction d with
  | zero =>
    intro out i hd h1 ho
    refine Ev.step (fun k => by rw [impl_steps.l0]) ?_
    refine evNeg (by omega) (evEq ?_)
    rw [List.drop_of_length_le (by omega)]; rfl
  | succ d ih =>
    intro out i hd h1 ho
    have hi : i < L.length := by omega
    have hp : i - 1 < L.length := by omega
    have e1 : rd_L3 L (i : Int) = L[i] := by unfold rd_L3; rw [Int.toNat_natCast, List.getD_eq_getElem?_getD, List.getElem?_eq_getElem hi]; rfl
    have e2 : rd_L3 L ((i : Int) - 1) = L[i - 1] := by unfold rd_L3; rw [show ((i : Int) - 1).toNat = i - 1 from by omega, List.getD_eq_getElem?_getD, List.getElem?_eq_getElem hp]; rfl
    have e3 : L.getD (i - 1) [] = L[i - 1] := by rw [List.getD_eq_getElem?_getD, List.getElem?_eq_getElem hp]; rfl
    have ha := hl _ (List.getElem_mem hp)
    refine Ev.step (fun k => by rw [impl_steps.l0]) ?_
    rw [e3, List.drop_eq_getElem_cons hi, stepsR]
    have hidx := steps_idx_ev (impl_steps.g L (i : Int)) (leads L[i - 1] L[i]) M hM (fun m hm => by
      unfold impl_steps.g
      refine evPos (by omega) (evPos (by omega) (evPos (by omega) ?_))
      rw [e1, e2]
      refine Ev.bind (moved_ev _ (by omega) _ _ _ (by rw [ha]; exact hg m hm)) ?_
      exact slicesEqual_ev _ _ (by rw [mv_length]; omega)) M.length 0 (by omega) (by simp)
    refine evPos (by omega) (Ev.bind hidx ?_)
    simp only [Int.toNat_zero, List.drop_zero]
    by_cases c : pIdx (leads L[i - 1] L[i]) 0 M < 0
    · rw [if_pos c]; exact evPos c (Ev.now _)
    · rw [if_neg c]
      refine evNeg c (evPos (by omega) ?_)
      rw [wr (by omega) (by omega), show (i : Int) + 1 = ((i + 1 : Nat) : Int) from by omega]
      refine evTo (ih _ (i + 1) (by omega) (by omega) (by simp; omega)) ?_
      rw [show i + 1 - 1 = i from by omega, List.getD_eq_getElem?_getD, List.getElem?_eq_getElem hi]
      rfl
theorem steps_ev (n : Nat) (hn : n ≤ 12) (M : List S55) (hM : M.length ≤ 1048576) (hg : ∀ m ∈ M, Mgood n m.f0 m.f1 m.f2) (L : List (List Int)) (hL : L.length ≤ 1100) (hl : ∀ t ∈ L, t.length = n) : Ev (fun k => impl_steps.f k L M) (stepsL M L) := by
  unfold impl_steps.f
  cases L with
  | nil =>
    refine Ev.step (fun k => by rw [impl_steps.l0]) ?_
    exact evNeg (by simp) (Ev.now _)
  | cons a T => exact evTo (steps_l0 n hn M hM hg (a :: T) hL hl T.length [] 1 (by simp; omega) (by omega) (by simp)) (by simp [stepsL])
/-! impl_IsMoveList -/
theorem IsMoveList_l0 (n : Nat) (hn : n ≤ 5) (L : List (List Int)) (hL : L.length ≤ 1100) (hl : ∀ t ∈ L, isPm t = true ∧ t.length = n) : ∀ (d : Nat) (i : Int) (acc : List Int), 0 ≤ i → i.toNat + d = L.length → acc.length ≤ i.toNat →
    Ev (fun q => impl_IsMoveList.l0 q L i acc) (metF acc (L.drop i.toNat)) := by
  intro d
  induction d with
  | zero =>
    intro i acc h0 hd ha
    refine Ev.step (fun k => by rw [impl_IsMoveList.l0]) ?_
    refine evNeg (by omega) (evEq ?_)
    rw [List.drop_of_length_le (by omega)]; rfl
  | succ d ih =>
    intro i acc h0 hd ha
    have hil : i.toNat < L.length := by omega
    have e : rd_L3 L i = L[i.toNat] := by unfold rd_L3; rw [List.getD_eq_getElem?_getD, List.getElem?_eq_getElem hil]; rfl
    obtain ⟨hp, hlen⟩ := hl _ (List.getElem_mem hil)
    obtain ⟨hr, hpa⟩ := PA_of hn hp hlen
    have hf : facN n ≤ 120 := by rw [facN_eq]; exact Nat.le_trans (fac_mono hn) (by decide)
    have hrank := permutationRank_ev n (rk L[i.toNat]) hn hr
    rw [hpa] at hrank
    refine Ev.step (fun k => by rw [impl_IsMoveList.l0]) ?_
    refine evPos (by omega) (evPos h0 ?_)
    rw [e, wr (by omega) (by omega)]
    refine Ev.bind hrank (evPos ?_ (evPos (by omega) ?_))
    · simp [Lit.wf, IntKind.min, IntKind.max, IntKind.signed, IntKind.bits]; omega
    · have hle : (if (Moves.rk L[i.toNat] : Int) ∈ acc then acc else (Moves.rk L[i.toNat] : Int) :: acc).length ≤ (i + 1).toNat := by
        by_cases c_ : (Moves.rk L[i.toNat] : Int) ∈ acc
        · rw [if_pos c_]; omega
        · rw [if_neg c_, List.length_cons]; omega
      refine evTo (ih (i + 1) _ (by omega) (by omega) hle) ?_
      rw [show (i + 1).toNat = i.toNat + 1 from by omega, List.drop_eq_getElem_cons hil, metF]
theorem okLists_parts {n : Int} {L : List (List Int)} (h : okLists n L = true) : L.length ≤ 1100 ∧ ∀ t ∈ L, (t.length : Int) = n ∧ isPm t = true := by
  simp only [okLists, Bool.and_eq_true, decide_eq_true_eq, List.all_eq_true] at h
  exact ⟨by omega, h.1⟩
theorem FnExactIsMoveList (n : Int) (L : List (List Int)) (l : List S53) (wn : (Lit.int .i64 n).wf = true) (hmL : L.length ≤ maxLen) (hgL : ∀ x ∈ L, (fun l : List Int => l.length ≤ maxLen ∧ ∀ x ∈ l, (Lit.int .i64 x).wf = true) x) (hm : l.length ≤ maxLen) (hg : ∀ x ∈ l, (fun x : S53 => (Lit.int .i64 x.f0).wf = true ∧ (Lit.int .i64 x.f1).wf = true ∧ (Lit.int .i64 x.f2).wf = true) x) :
    ∃ k, laws_FnExactIsMoveList.f k n L l = some true := by
  refine Ev.rounds (g := fun q => laws_FnExactIsMoveList.f q n L l) ?_
  unfold laws_FnExactIsMoveList.f
  obtain ⟨s0, hs0, hr⟩ := szIntSS_ev L hmL (fun t ht => (hgL t ht).1)
  refine Ev.bind hs0 ?_
  rcases hr with hr | ⟨r1, r2, r3, r4⟩
  · exact evPos hr (Ev.now _)
  have hsn := sumLen_nonneg L
  refine evNeg (by omega) ?_
  rw [szMoveS_left l s0 hm r1 (by omega)]
  refine evSome ?_
  by_cases c : (l.length : Int) ≤ s0
  rotate_left
  · rw [if_neg c]; exact evPos (by decide) (Ev.now _)
  rw [if_pos c]
  refine evNeg (by omega) ?_
  have ec := conv_length l
  have h6 := toIntSS_ev L r3 r4
  have h9 := toMoveS_ev l (by omega)
  have key : ∃ (g b : Bool), Ev (fun q => spec_IsMoveList.f q n L (conv l)) (g, b) ∧ Ev (fun q => impl_IsMoveList.f q n L (conv l)) (g, b) := by
    have ht := moTask_ev n (conv l) (by omega)
    have hi := areMoves_ev n (conv l) (by omega)
    unfold spec_IsMoveList.f impl_IsMoveList.f
    by_cases hok : okTask n (conv l) = true
    rotate_left
    · refine ⟨false, false, Ev.bind ht (evNeg hok ?_), Ev.bind hi (evNeg hok (Ev.now _))⟩
      refine Ev.step (fun k => by rw [spec_IsMoveList.j0]) ?_
      exact evPos rfl (Ev.now _)
    have h := hok
    simp only [okTask, Bool.and_eq_true, decide_eq_true_eq, List.all_eq_true] at h
    obtain ⟨N, rfl⟩ := Int.eq_ofNat_of_zero_le (show 0 ≤ n by omega)
    have hgd : ∀ m ∈ conv l, Mgood N m.f0 m.f1 m.f2 := fun m hm => by have := h.1 m hm; simp only [isMv, decide_eq_true_eq] at this; unfold Mgood; omega
    have ha := moLists_ev N L r3 r4
    have hb := arePermutations_ev N L r3 r4
    by_cases ho : okLists N L = true
    rotate_left
    · simp only [Bool.not_eq_true] at ho
      rw [ho] at ha hb
      refine ⟨false, false, Ev.bind ht (evPos hok (Ev.bind ha ?_)), Ev.bind hi (evPos hok (Ev.bind hb (evNeg (by simp) (Ev.now _))))⟩
      refine Ev.step (fun k => by rw [spec_IsMoveList.j0]) ?_
      exact evPos rfl (Ev.now _)
    rw [ho] at ha hb
    obtain ⟨o1, o2⟩ := okLists_parts ho
    have hlen : ∀ t ∈ L, t.length = N := fun t ht => by have := (o2 t ht).1; omega
    have hN : N ≤ 5 := by omega
    have hpm : ∀ t ∈ L, isPm t = true ∧ t.length = N := fun t ht => ⟨(o2 t ht).2, hlen t ht⟩
    have hm1 := moSteps_ev N (by omega) (conv l) (by omega) hgd L o1 hlen
    have hm2 := steps_ev N (by omega) (conv l) (by omega) hgd L o1 hlen
    have hl0 := IsMoveList_l0 N hN L o1 hpm L.length 0 [] (by omega) (by simp) (by simp)
    simp only [Int.toNat_zero, List.drop_zero] at hl0
    obtain ⟨⟨st, sb⟩, hsl⟩ : ∃ r, stepsL (conv l) L = r := ⟨_, rfl⟩
    rw [hsl] at hm1 hm2
    cases sb
    · refine ⟨false, true, Ev.bind ht (evPos hok (Ev.bind ha ?_)), Ev.bind hi (evPos hok (Ev.bind hb (evPos rfl (Ev.bind hl0 (Ev.bind hm2 (evNeg (by simp) (Ev.now _)))))))⟩
      refine Ev.step (fun k => by rw [spec_IsMoveList.j0]) ?_
      exact evNeg (by simp) (Ev.bind hm1 (evNeg (by simp) (Ev.now _)))
    · have hall := moAll_ev N (by omega) L r3 r4
      refine ⟨decide L.Nodup && decide (L.length = fac N), true, Ev.bind ht (evPos hok (Ev.bind ha ?_)), Ev.bind hi (evPos hok (Ev.bind hb (evPos rfl (Ev.bind hl0 (Ev.bind hm2 (evPos rfl (Ev.bind (factorial_ev N (by omega)) ?_)))))))⟩
      · refine Ev.step (fun k => by rw [spec_IsMoveList.j0]) ?_
        exact evNeg (by simp) (Ev.bind hm1 (evPos rfl (Ev.bind hall (Ev.now _))))
      · have hmi := metF_iff L []
        simp only [List.length_nil, Nat.zero_add, List.not_mem_nil, not_false_eq_true, implies_true, and_true] at hmi
        rw [map_nodup hN L hpm] at hmi
        by_cases cf : L.length = fac N
        · refine evPos (by omega) (evEq ?_)
          rw [decide_eq_true cf, Bool.and_true]
          congr 1
          exact decide_eq_decide.2 hmi
        · refine evNeg (by omega) (evEq ?_)
          rw [decide_eq_false cf, Bool.and_false]
  obtain ⟨g, b, hs, hi⟩ := key
  refine Ev.bind h6 (Ev.bind h9 (Ev.bind hs (Ev.bind h6 (Ev.bind h9 (Ev.bind hi (evNeg (by simp) ?_))))))
  refine Ev.step (fun k => by rw [laws_FnExactIsMoveList.j0]) ?_
  refine evNeg (by simp) ?_
  refine Ev.bind h6 (Ev.bind (eqIntSS_self L (by omega) (fun t ht => by have := r4 t ht; omega)) (evPos rfl (Ev.bind h9 (Ev.bind (eqMoveS_self (conv l) (by omega)) (evPos rfl (Ev.now _))))))

end Go.Proofs.Ytcplfdfmebibpaa.Pure
