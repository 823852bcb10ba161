import Derived.Test.YtmkokfljonbcmaaMFnExactAdjacentListx1
import Derived.Test.YtmkokfljonbcmaaMFnExactAdjacentListx2
import Derived.Test.YtmkokfljonbcmaaMFnExactAdjacentListx3
import Derived.Test.YtmkokfljonbcmaaMFnExactAdjacentListx4
import Derived.Test.YtmkokfljonbcmaaMFnExactAdjacentListx5
import Derived.Test.YtmkokfljonbcmaaMFnExactAdjacentListx6
import Derived.Test.YtmkokfljonbcmaaMFnExactAdjacentListx7
import Derived.Test.YtmkokfljonbcmaaBase
import Derived.Test.YtmkokfljonbcmaaComb
import Derived.Test.YtmkokfljonbcmaaGoes
namespace Go.Proofs.Ytmkokfljonbcmaa.Pure
open Go.RowKit Go.Proofs.Ytmkokfljonbcmaa.MFnExactAdjacentList Go.Proofs.YtmkokfljonbcmaaW.PrintWords Go.Proofs.YtmkokfljonbcmaaW.PrintLast Go.Proofs.Ytmkokfljonbcmaa.Base Go.Proofs.Ytmkokfljonbcmaa.Comb Go.Proofs.Ytmkokfljonbcmaa.Goes
set_option linter.unusedVariables false
set_option linter.unusedSimpArgs false
theorem l1In_eq (x a b : Int) : spec_l1In.f x a b = some (decide (a ≤ x ∧ x ≤ b)) := by
  unfold spec_l1In.f
  by_cases h : x ≥ a
  · rw [if_pos h]; have h' : a ≤ x := h; simp [h']
  · rw [if_neg h]; have h' : ¬ a ≤ x := h; simp [h']
theorem binomial_tab : ((List.range 13).all fun n => (List.range 13).all fun k => impl_binomial.f 20 (n : Int) (k : Int) == some (C n k : Int)) = true := by decide +kernel
theorem binomial_ev (n k : Nat) (hn : n ≤ 12) (hk : k ≤ 12) : Ev (fun r => impl_binomial.f r (n : Int) (k : Int)) (C n k : Int) := by
  refine evTab (g := fun r => impl_binomial.f r (n : Int) (k : Int)) (impl_binomial.mono _ _) 20 ?_
  have h := List.all_eq_true.1 (List.all_eq_true.1 binomial_tab n (List.mem_range.2 (by omega))) k (List.mem_range.2 (by omega))
  exact beq_iff_eq.1 h
theorem binomial_evI (n k : Int) (hn : 0 ≤ n) (hn' : n ≤ 12) (hk : 0 ≤ k) (hk' : k ≤ 12) : Ev (fun r => impl_binomial.f r n k) (C n.toNat k.toNat : Int) := by
  have := binomial_ev n.toNat k.toNat (by omega) (by omega)
  rwa [Int.toNat_of_nonneg hn, Int.toNat_of_nonneg hk] at this
theorem combinationAt_l0 (n K : Int) (hn0 : 0 ≤ n) (hn : n ≤ 12) (hK : K ≤ 12) : ∀ (m kk : Nat) (r x : Int) (out : List Int), 0 ≤ x → x + m = n → (out.length : Int) + kk = K → 0 ≤ r → r < C m kk →
    Ev (fun k => impl_combinationAt.l0 k n K r out x) (out ++ (lexC m kk x).getD r.toNat []) := by
  intro m
  induction m with
  | zero =>
    intro kk r x out h0 hx hk hr0 hr
    cases kk with
    | succ kk => simp at hr; omega
    | zero =>
      refine Ev.step (fun k => by rw [impl_combinationAt.l0]) ?_
      refine evNeg (by omega) (evEq ?_)
      simp at hr
      have : r = 0 := by omega
      subst this; simp
  | succ m ih =>
    intro kk r x out h0 hx hk hr0 hr
    cases kk with
    | zero =>
      refine Ev.step (fun k => by rw [impl_combinationAt.l0]) ?_
      refine evNeg (by omega) (evEq ?_)
      simp at hr
      have : r = 0 := by omega
      subst this; simp
    | succ kk =>
      refine Ev.step (fun k => by rw [impl_combinationAt.l0]) ?_
      refine evPos (by omega) ?_
      simp (disch := omega) only [wr]
      have hb := binomial_evI (n - x - 1) (K - out.length - 1) (by omega) (by omega) (by omega) (by omega)
      rw [show (n - x - 1).toNat = m from by omega, show (K - (out.length : Int) - 1).toNat = kk from by omega] at hb
      refine Ev.bind hb ?_
      have hc := C_le12 m kk (by omega)
      have hc2 := C_le12 (m + 1) (kk + 1) (by omega)
      by_cases c : r < C m kk
      · refine evPos c (evPos (by omega) (evTo (ih kk r (x + 1) (out ++ [x]) (by omega) (by omega) (by simp; omega) hr0 c) ?_))
        have hl : r.toNat < ((lexC m kk (x + 1)).map (x :: ·)).length := by rw [List.length_map, lexC_length]; omega
        simp only [lexC]
        rw [List.getD_eq_getElem?_getD, List.getD_eq_getElem?_getD, List.getElem?_append_left hl, List.getElem?_map]
        have hl2 : r.toNat < (lexC m kk (x + 1)).length := by rw [lexC_length]; omega
        rw [List.getElem?_eq_getElem hl2]
        simp
      · simp (disch := omega) only [wr]
        refine evNeg c (evTo (ih (kk + 1) (r - C m kk) (x + 1) out (by omega) (by omega) (by omega) (by omega) (by rw [C_succ] at hr; omega)) ?_)
        simp only [lexC]
        rw [List.getD_eq_getElem?_getD, List.getD_eq_getElem?_getD, List.getElem?_append_right (by rw [List.length_map, lexC_length]; omega), List.length_map, lexC_length]
        rw [show (r - (C m kk : Int)).toNat = r.toNat - C m kk from by omega]
theorem combinationAt_ev (n k : Nat) (hn : n ≤ 12) (hk : k ≤ n) (r : Int) (hr0 : 0 ≤ r) (hr : r < C n k) : Ev (fun q => impl_combinationAt.f q (n : Int) (k : Int) r) ((lexC n k 0).getD r.toNat []) := by
  unfold impl_combinationAt.f
  exact evTo (combinationAt_l0 n k (by omega) (by omega) (by omega) n k r 0 [] (by omega) (by omega) (by simp) hr0 hr) (by simp)
theorem allCombinations_l0 (n k : Nat) (hn : n ≤ 12) (hk : k ≤ n) : ∀ (d : Nat) (out : List (List Int)) (j : Int), 0 ≤ j → j.toNat + d = C n k → out = (lexC n k 0).take j.toNat →
    Ev (fun q => impl_allCombinations.l0 q (n : Int) (k : Int) out (C n k : Int) j) (lexC n k 0) := by
  have hc := C_le12 n k hn
  have hl := lexC_length n k 0
  intro d
  induction d with
  | zero =>
    intro out j h0 hd ho
    refine Ev.step (fun q => by rw [impl_allCombinations.l0]) ?_
    refine evNeg (by omega) (evEq ?_)
    rw [ho, take_end _ _ (by omega)]
  | succ d ih =>
    intro out j h0 hd ho
    refine Ev.step (fun q => by rw [impl_allCombinations.l0]) ?_
    refine evPos (by omega) (Ev.bind (combinationAt_ev n k hn hk j h0 (by omega)) ?_)
    have ho2 : out.length = j.toNat := by rw [ho, List.length_take]; omega
    rw [wr (by omega) (by omega)]
    refine evPos (by omega) (ih _ _ (by omega) (by omega) ?_)
    rw [takeD [] _ j h0 (by omega), ho]
theorem allCombinations_ev (n k : Nat) (hn : n ≤ 12) (hk : k ≤ n) : Ev (fun q => impl_allCombinations.f q (n : Int) (k : Int)) (lexC n k 0) := by
  unfold impl_allCombinations.f
  refine Ev.bind (binomial_ev n k hn (by omega)) ?_
  exact allCombinations_l0 n k hn hk (C n k) [] 0 (by omega) (by simp) (by simp)
theorem within_eq (x a b : Int) : impl_within.f x a b = some (decide (a ≤ x ∧ x ≤ b)) := by
  unfold impl_within.f
  by_cases h : x ≥ a
  · rw [if_pos h]; have h' : a ≤ x := h; simp [h']
  · rw [if_neg h]; have h' : ¬ a ≤ x := h; simp [h']
theorem isChoice_eq (n k : Int) : impl_isChoice.f n k = some (decide (0 ≤ n ∧ n ≤ 12 ∧ 0 ≤ k ∧ k ≤ n)) := by
  unfold impl_isChoice.f
  simp only [within_eq, Option.bind_some]
  by_cases h : 0 ≤ n ∧ n ≤ 12
  · rw [if_pos (by simpa using h)]; simp [h]
  · rw [if_neg (by simpa using h)]; congr 1; exact (decide_eq_false (by omega)).symm
theorem sum_l0 (l : List Int) (hl : l.length ≤ 12) (hb : ∀ y ∈ l, 0 ≤ y ∧ y < 12) : ∀ (d : Nat) (s j : Int), 0 ≤ j → j.toNat + d = l.length → 0 ≤ s → s ≤ 12 * j → s + sumI (l.drop j.toNat) = sumI l →
    Ev (fun q => impl_sum.l0 q s l (l.length : Int) j) (sumI l) := by
  intro d
  induction d with
  | zero =>
    intro s j h0 hd hs0 hs1 hs
    refine Ev.step (fun q => by rw [impl_sum.l0]) ?_
    refine evNeg (by omega) (evEq ?_)
    rw [drop_end _ _ (by omega)] at hs
    simpa [sumI] using hs
  | succ d ih =>
    intro s j h0 hd hs0 hs1 hs
    refine Ev.step (fun q => by rw [impl_sum.l0]) ?_
    have hm : rd l j ∈ l := by rw [rd_get l j (by omega)]; exact List.getElem_mem _
    have := hb _ hm
    refine evPos (by omega) (evPos (by omega) (evPos (by omega) ?_))
    rw [wr (x := s + rd l j) (by omega) (by omega), wr (x := j + 1) (by omega) (by omega)]
    refine ih _ _ (by omega) (by omega) (by omega) (by omega) ?_
    rw [drop_rd l j h0 (by omega), sumI_cons] at hs
    omega
theorem sum_ev (l : List Int) (hl : l.length ≤ 12) (hb : ∀ y ∈ l, 0 ≤ y ∧ y < 12) : Ev (fun q => impl_sum.f q l) (sumI l) := by
  unfold impl_sum.f
  exact sum_l0 l hl hb l.length 0 0 (by omega) (by simp) (by omega) (by omega) (by simp)
theorem AdjacentHalves_l0 (n k : Nat) (hn : n ≤ 12) (hk : k ≤ n) (ts : List (List Int)) (hc : ts.length = C n k) (htl : ∀ t ∈ ts, t.length ≤ 12 ∧ ∀ y ∈ t, 0 ≤ y ∧ y < 12) :
    ∀ (d : Nat) (o j : Int), 0 ≤ j → j.toNat + d = ts.length → 0 ≤ o → o ≤ j → o + odds (ts.drop j.toNat) = odds ts →
      Ev (fun q => impl_AdjacentHalves.l0 q (n : Int) (k : Int) o ts (ts.length : Int) j) ((C n k : Int) - odds ts, (odds ts : Int), true) := by
  have hc2 := C_le12 n k hn
  have hol := odds_le ts
  intro d
  induction d with
  | zero =>
    intro o j h0 hd ho hoj hs
    refine Ev.step (fun q => by rw [impl_AdjacentHalves.l0]) ?_
    refine evNeg (by omega) (Ev.bind (binomial_ev n k hn (by omega)) ?_)
    rw [drop_end _ _ (by omega)] at hs
    have hs' : o = odds ts := by simpa [odds] using hs
    rw [wr (by omega) (by omega), hs']
    exact Ev.now _
  | succ d ih =>
    intro o j h0 hd ho hoj hs
    refine Ev.step (fun q => by rw [impl_AdjacentHalves.l0]) ?_
    refine evPos (by omega) (evPos (by omega) (evPos (by omega) ?_))
    have hm : rd_L1 ts j ∈ ts := by
      unfold rd_L1
      rw [List.getD_eq_getElem?_getD, List.getElem?_eq_getElem (show j.toNat < ts.length by omega)]
      exact List.getElem_mem _
    obtain ⟨hl, hb⟩ := htl _ hm
    refine Ev.bind (sum_ev _ hl hb) ?_
    have hsb := sumI_bound _ hb
    rw [Int.tmod_eq_emod_of_nonneg hsb.1]
    have hcons : ts.drop j.toNat = rd_L1 ts j :: ts.drop (j + 1).toNat := dropD [] ts j h0 (by omega)
    rw [hcons, odds_cons] at hs
    have hm2 := Int.emod_nonneg (sumI (rd_L1 ts j)) (show (2 : Int) ≠ 0 by decide)
    have hm3 := Int.emod_lt_of_pos (sumI (rd_L1 ts j)) (show (0 : Int) < 2 by decide)
    rw [wr (x := o + _) (by omega) (by omega), wr (x := j + 1) (by omega) (by omega)]
    refine ih _ _ (by omega) (by omega) (by omega) (by omega) ?_
    by_cases c : sumI (rd_L1 ts j) % 2 = 0
    · rw [if_pos c] at hs; omega
    · rw [if_neg c] at hs; omega
theorem AdjacentHalves_ev (n k : Nat) (hn : n ≤ 12) (hk : k ≤ n) : Ev (fun q => impl_AdjacentHalves.f q (n : Int) (k : Int)) ((C n k : Int) - odds (lexC n k 0), (odds (lexC n k 0) : Int), true) := by
  unfold impl_AdjacentHalves.f
  simp only [isChoice_eq, Option.bind_some]
  refine evPos (by simp; omega) (Ev.bind (allCombinations_ev n k hn hk) ?_)
  exact AdjacentHalves_l0 n k hn hk _ (lexC_length n k 0) (lex_small n k hn hk) _ 0 0 (by omega) (by simp; rfl) (by omega) (by omega) (by simp)
def adjOk (n k : Int) : Bool := match spec_AdjacentList.f 1000 n k, impl_AdjacentList.f 1000 n k with
  | some (L, b), some (L', b') => decide (L = L') && (b == b') && decide (L.length ≤ 100) && L.all (fun t => decide (t.length ≤ 12))
  | _, _ => false
set_option maxRecDepth 100000 in
theorem adj_tab : ((List.range 7).all fun n => (List.range (n + 1)).all fun k => adjOk (n : Int) (k : Int)) = true := by decide +kernel
theorem AdjacentList_both (n k : Int) : ∃ (L : List (List Int)) (b : Bool), Ev (fun q => spec_AdjacentList.f q n k) (L, b) ∧ Ev (fun q => impl_AdjacentList.f q n k) (L, b) ∧ L.length ≤ 100 ∧ (∀ t ∈ L, t.length ≤ 12) ∧ (b = true → ∃ N K : Nat, n = (N : Int) ∧ k = (K : Int) ∧ N ≤ 6 ∧ K ≤ N ∧ impl_AdjacentList.f 1000 n k = some (L, b)) := by
  by_cases h : 0 ≤ n ∧ n ≤ 6 ∧ 0 ≤ k ∧ k ≤ n
  · obtain ⟨N, rfl⟩ := Int.eq_ofNat_of_zero_le h.1
    obtain ⟨K, rfl⟩ := Int.eq_ofNat_of_zero_le h.2.2.1
    have ht := List.all_eq_true.1 (List.all_eq_true.1 adj_tab N (List.mem_range.2 (by omega))) K (List.mem_range.2 (by omega))
    unfold adjOk at ht
    cases hs : spec_AdjacentList.f 1000 (N : Int) (K : Int) with
    | none => simp [hs] at ht
    | some r =>
      cases hi : impl_AdjacentList.f 1000 (N : Int) (K : Int) with
      | none => simp [hs, hi] at ht
      | some r' =>
        obtain ⟨L, b⟩ := r
        obtain ⟨L', b'⟩ := r'
        simp only [hs, hi, Bool.and_eq_true, decide_eq_true_eq, beq_iff_eq, List.all_eq_true] at ht
        obtain ⟨⟨⟨rfl, rfl⟩, h3⟩, h4⟩ := ht
        exact ⟨L, b, evTab (g := fun q => spec_AdjacentList.f q (N : Int) (K : Int)) (spec_AdjacentList.mono _ _) 1000 hs, evTab (g := fun q => impl_AdjacentList.f q (N : Int) (K : Int)) (impl_AdjacentList.mono _ _) 1000 hi, h3, h4, fun _ => ⟨N, K, rfl, rfl, by omega, by omega, rfl⟩⟩
  · refine ⟨[], false, ?_, ?_, by simp, by simp, fun h => by cases h⟩
    · unfold spec_AdjacentList.f
      simp only [l1In_eq, Option.bind_some]
      have hj : Ev (fun q => spec_AdjacentList.j0 q n k true) ([], false) := Ev.step (fun q => by rw [spec_AdjacentList.j0]) (by exact evPos rfl (Ev.now _))
      by_cases h1 : 0 ≤ n ∧ n ≤ 6
      · have e : (!decide (0 ≤ k ∧ k ≤ n)) = true := by simp; omega
        rw [e]
        exact evPos (by simpa using h1) hj
      · exact evNeg (by simpa using h1) hj
    · unfold impl_AdjacentList.f
      by_cases h1 : 0 ≤ n ∧ n ≤ 12 ∧ 0 ≤ k ∧ k ≤ n
      · obtain ⟨N, rfl⟩ := Int.eq_ofNat_of_zero_le h1.1
        obtain ⟨K, rfl⟩ := Int.eq_ofNat_of_zero_le h1.2.2.1
        exact Ev.bind (AdjacentHalves_ev N K (by omega) (by omega)) (evPos rfl (evPos (by omega) (Ev.now _)))
      · have h2 : Ev (fun q => impl_AdjacentHalves.f q n k) (0, 0, false) := by
          unfold impl_AdjacentHalves.f
          simp only [isChoice_eq, Option.bind_some]
          exact evNeg (by simpa using h1) (Ev.now _)
        exact Ev.bind h2 (evNeg (by simp) (Ev.now _))
theorem eqIntS_l0 (a b : List Int) (hn : a.length ≤ 35184372088832) (hb : a.length = b.length) : ∀ (d : Nat) (j : Int), 0 ≤ j → j.toNat + d = a.length →
    Ev (fun k => laws_eqIntS.l0 k a b j) (decide (a.drop j.toNat = b.drop j.toNat)) := by
  intro d
  induction d with
  | zero =>
    intro j h0 hd
    refine Ev.step (fun k => by rw [laws_eqIntS.l0]) ?_
    refine evNeg (by omega) ?_
    rw [drop_end a j (by omega), drop_end b j (by omega)]
    exact evEq rfl
  | succ d ih =>
    intro j h0 hd
    refine Ev.step (fun k => by rw [laws_eqIntS.l0]) ?_
    refine evPos (by omega) (evPos (by omega) (evPos (by omega) ?_))
    rw [wr (by omega) (by omega), drop_rd a j h0 (by omega), drop_rd b j h0 (by omega)]
    by_cases c : rd a j = rd b j
    · refine evPos c (evTo (ih _ (by omega) (by omega)) ?_)
      simp [c]
    · refine evNeg c (evEq ?_)
      simp [c]
theorem eqIntS_ev (a b : List Int) (hn : a.length ≤ 35184372088832) : Ev (fun k => laws_eqIntS.f k a b) (decide (a = b)) := by
  unfold laws_eqIntS.f
  by_cases hb : a.length = b.length
  · exact evPos (by omega) (eqIntS_l0 a b hn hb a.length 0 (by omega) (by simp))
  · refine evNeg (by omega) (evEq ?_)
    exact (decide_eq_false (fun e => hb (by rw [e]))).symm
theorem eqIntS_self (a : List Int) (hn : a.length ≤ 35184372088832) : Ev (fun k => laws_eqIntS.f k a a) true := evTo (eqIntS_ev a a hn) (by simp)
theorem eqIntSS_self (L : List (List Int)) (hn : L.length ≤ 1000000000) (hl : ∀ t ∈ L, t.length ≤ 35184372088832) : Ev (fun k => laws_eqIntSS.f k L L) true := by
  have key : ∀ (d : Nat) (j : Int), 0 ≤ j → j.toNat + d = L.length → Ev (fun k => laws_eqIntSS.l0 k L L j) true := by
    intro d
    induction d with
    | zero =>
      intro j h0 hd
      refine Ev.step (fun k => by rw [laws_eqIntSS.l0]) ?_
      exact evNeg (by omega) (Ev.now _)
    | succ d ih =>
      intro j h0 hd
      refine Ev.step (fun k => by rw [laws_eqIntSS.l0]) ?_
      have hm : rd_L1 L j ∈ L := by
        unfold rd_L1
        rw [List.getD_eq_getElem?_getD, List.getElem?_eq_getElem (show j.toNat < L.length by omega)]
        exact List.getElem_mem _
      refine evPos (by omega) (evPos (by omega) (evPos (by omega) (Ev.bind (eqIntS_self _ (hl _ hm)) (evPos rfl ?_))))
      rw [wr (by omega) (by omega)]
      exact ih _ (by omega) (by omega)
  unfold laws_eqIntSS.f
  exact evPos rfl (key L.length 0 (by omega) (by simp))
theorem markIntS_l0 : ∀ (d : Nat) (xs : List Int) (m j : Int), 0 ≤ j → j.toNat + d = xs.length → xs.length ≤ 35184372088832 → 0 ≤ m → m + d ≤ 70368744177664 →
    Ev (fun k => laws_markIntS.l0 k xs m j) (m + d, xs.take j.toNat ++ iotaI m d) := by
  intro d
  induction d with
  | zero =>
    intro xs m j h0 hd hn hm hk
    refine Ev.step (fun k => by rw [laws_markIntS.l0]) ?_
    refine evNeg (by omega) (evEq ?_)
    rw [take_end xs j (by omega)]
    simp [iotaI]
  | succ d ih =>
    intro xs m j h0 hd hn hm hk
    refine Ev.step (fun k => by rw [laws_markIntS.l0]) ?_
    refine evPos (by omega) (evPos (by omega) ?_)
    rw [wr (by omega) (by omega), wr (by omega) (by omega)]
    refine evTo (ih (xs.set j.toNat m) (m + 1) (j + 1) (by omega) (by simp; omega) (by simpa using hn) (by omega) (by omega)) ?_
    rw [set_takeI xs j m h0 (by omega)]
    simp [iotaI]
    omega
theorem markIntS_ev (xs : List Int) (m : Int) (hn : xs.length ≤ 35184372088832) (hm : 0 ≤ m) (hk : m + xs.length ≤ 70368744177664) :
    Ev (fun k => laws_markIntS.f k xs m) (m + xs.length, iotaI m xs.length) := by
  unfold laws_markIntS.f
  refine evTo (markIntS_l0 xs.length xs m 0 (by omega) (by simp) hn hm hk) (by simp)
theorem markIntSS_l0 (B : Nat) (hB : B ≤ 1100000) : ∀ (d : Nat) (L : List (List Int)) (m j : Int), 0 ≤ j → j.toNat + d = L.length → L.length ≤ 1100000 → (∀ t ∈ L, t.length ≤ B) → 0 ≤ m → m + d * B ≤ 70368744177664 →
    Ev (fun k => laws_markIntSS.l0 k L m j) (m + sumLen (L.drop j.toNat), L.take j.toNat ++ iotaSS m (L.drop j.toNat)) := by
  intro d
  induction d with
  | zero =>
    intro L m j h0 hd hn hl hm hk
    refine Ev.step (fun k => by rw [laws_markIntSS.l0]) ?_
    refine evNeg (by omega) (evEq ?_)
    rw [take_end L j (by omega), drop_end L j (by omega)]
    simp [sumLen, iotaSS]
  | succ d ih =>
    intro L m j h0 hd hn hl hm hk
    refine Ev.step (fun k => by rw [laws_markIntSS.l0]) ?_
    have hm1 : rd_L1 L j ∈ L := by
      unfold rd_L1
      rw [List.getD_eq_getElem?_getD, List.getElem?_eq_getElem (show j.toNat < L.length by omega)]
      exact List.getElem_mem _
    have hb := hl _ hm1
    have hmul : (d + 1) * B = d * B + B := Nat.succ_mul d B
    have hk2 : ((d + 1 : Nat) : Int) * (B : Int) = d * B + B := by exact_mod_cast hmul
    have hnn : 0 ≤ (d : Int) * (B : Int) := Int.mul_nonneg (by omega) (by omega)
    refine evPos (by omega) (evPos (by omega) (Ev.bind (markIntS_ev _ m (by omega) hm (by omega)) ?_))
    rw [wr (by omega) (by omega)]
    refine evTo (ih (L.set j.toNat (iotaI m (rd_L1 L j).length)) (m + (rd_L1 L j).length) (j + 1) (by omega) (by simp; omega) (by simpa using hn) (fun t ht => ?_) (by omega) (by omega)) ?_
    · rcases List.mem_or_eq_of_mem_set ht with ht | rfl
      · exact hl t ht
      · rw [iotaI_length]; exact hb
    · have hdrop : (L.set j.toNat (iotaI m (rd_L1 L j).length)).drop (j + 1).toNat = L.drop (j + 1).toNat := by
        rw [List.drop_set, if_pos (by omega)]
      have htake : (L.set j.toNat (iotaI m (rd_L1 L j).length)).take (j + 1).toNat = L.take j.toNat ++ [iotaI m (rd_L1 L j).length] := by
        have hjl : j.toNat < L.length := by omega
        rw [show (j + 1).toNat = j.toNat + 1 from by omega, List.take_succ_eq_append_getElem (by simpa using hjl)]
        simp [List.take_set_of_le]
      have hcons : L.drop j.toNat = rd_L1 L j :: L.drop (j + 1).toNat := dropD [] L j h0 (by omega)
      rw [hdrop, htake, hcons]
      simp only [sumLen, iotaSS, List.append_assoc, List.singleton_append]
      congr 1; omega
theorem markIntSS_ev (L : List (List Int)) (m : Int) (B : Nat) (hB : B ≤ 1100000) (hn : L.length ≤ 1100000) (hl : ∀ t ∈ L, t.length ≤ B) (hm : 0 ≤ m) (hm2 : m ≤ 2200000) :
    Ev (fun k => laws_markIntSS.f k L m) (m + sumLen L, iotaSS m L) := by
  unfold laws_markIntSS.f
  have h1 : L.length * B ≤ 1210000000000 := Nat.le_trans (Nat.mul_le_mul hn hB) (by decide)
  have h2 : ((L.length * B : Nat) : Int) ≤ 1210000000000 := by omega
  rw [Int.natCast_mul] at h2
  exact evTo (markIntSS_l0 B hB L.length L m 0 (by omega) (by simp) hn hl hm (by omega)) (by simp)
theorem heldIntS_l0 (xs : List Int) (hn : xs.length ≤ 35184372088832) : ∀ (d : Nat) (m j : Int), 0 ≤ j → j.toNat + d = xs.length → 0 ≤ m → m + d ≤ 70368744177664 → (∀ i : Int, j ≤ i → i < xs.length → rd xs i = m + (i - j)) →
    Ev (fun k => laws_heldIntS.l0 k xs m j) (m + d) := by
  intro d
  induction d with
  | zero =>
    intro m j h0 hd hm hk h
    refine Ev.step (fun k => by rw [laws_heldIntS.l0]) ?_
    exact evNeg (by omega) (evEq (by simp))
  | succ d ih =>
    intro m j h0 hd hm hk h
    refine Ev.step (fun k => by rw [laws_heldIntS.l0]) ?_
    have hr := h j (by omega) (by omega)
    refine evPos (by omega) (evPos (by omega) (evPos (by omega) ?_))
    rw [wr (by omega) (by omega), wr (by omega) (by omega)]
    refine evTo (ih (m + 1) (j + 1) (by omega) (by omega) (by omega) (by omega) (fun i h1 h2 => ?_)) (by omega)
    rw [h i (by omega) h2]; omega
theorem heldIntS_ev (n : Nat) (m : Int) (hn : n ≤ 35184372088832) (hm : 0 ≤ m) (hk : m + n ≤ 70368744177664) :
    Ev (fun k => laws_heldIntS.f k (iotaI m n) m) (m + n) := by
  unfold laws_heldIntS.f
  have hl := iotaI_length m n
  refine heldIntS_l0 (iotaI m n) (by omega) n m 0 (by omega) (by omega) hm hk (fun i h1 h2 => ?_)
  rw [iotaI_rd n m i h1 (by omega)]; omega
theorem heldIntSS_l0 (B : Nat) (hB : B ≤ 1100000) (L0 : List (List Int)) (hn : L0.length ≤ 1100000) : ∀ (d : Nat) (T : List (List Int)) (m j : Int), 0 ≤ j → j.toNat + d = L0.length → T.length = d → L0.drop j.toNat = iotaSS m T → (∀ t ∈ T, t.length ≤ B) → 0 ≤ m → m + d * B ≤ 70368744177664 →
    Ev (fun k => laws_heldIntSS.l0 k L0 m j) (m + sumLen T) := by
  intro d
  induction d with
  | zero =>
    intro T m j h0 hd hT hL hl hm hk
    refine Ev.step (fun k => by rw [laws_heldIntSS.l0]) ?_
    refine evNeg (by omega) (evEq ?_)
    rw [List.length_eq_zero_iff.1 hT]; simp [sumLen]
  | succ d ih =>
    intro T m j h0 hd hT hL hl hm hk
    refine Ev.step (fun k => by rw [laws_heldIntSS.l0]) ?_
    cases T with
    | nil => simp at hT
    | cons t T =>
      have hcons : L0.drop j.toNat = rd_L1 L0 j :: L0.drop (j + 1).toNat := dropD [] L0 j h0 (by omega)
      rw [hcons] at hL
      simp only [iotaSS, List.cons.injEq] at hL
      have hb := hl t (by simp)
      have hmul : (d + 1) * B = d * B + B := Nat.succ_mul d B
      have hk2 : ((d + 1 : Nat) : Int) * (B : Int) = d * B + B := by exact_mod_cast hmul
      have hnn : 0 ≤ (d : Int) * (B : Int) := Int.mul_nonneg (by omega) (by omega)
      refine evPos (by omega) (evPos (by omega) ?_)
      rw [hL.1]
      refine Ev.bind (heldIntS_ev t.length m (by omega) hm (by omega)) (evNeg (by omega) ?_)
      rw [wr (by omega) (by omega)]
      refine evTo (ih T (m + t.length) (j + 1) (by omega) (by omega) (by simpa using hT) hL.2 (fun t' ht => hl t' (by simp [ht])) (by omega) (by omega)) ?_
      simp only [sumLen]; omega
theorem heldIntSS_ev (L : List (List Int)) (m : Int) (B : Nat) (hB : B ≤ 1100000) (hn : L.length ≤ 1100000) (hl : ∀ t ∈ L, t.length ≤ B) (hm : 0 ≤ m) (hm2 : m ≤ 2200000) :
    Ev (fun k => laws_heldIntSS.f k (iotaSS m L) m) (m + sumLen L) := by
  unfold laws_heldIntSS.f
  have h1 : L.length * B ≤ 1210000000000 := Nat.le_trans (Nat.mul_le_mul hn hB) (by decide)
  have h2 : ((L.length * B : Nat) : Int) ≤ 1210000000000 := by omega
  rw [Int.natCast_mul] at h2
  have h3 := iotaSS_length m L
  exact heldIntSS_l0 B hB (iotaSS m L) (by omega) L.length L m 0 (by omega) (by omega) rfl (by simp) hl hm (by omega)
theorem markSS_all (L : List (List Int)) (B : Nat) (hB : B ≤ 1100000) (hn : L.length ≤ 1100000) (hl : ∀ t ∈ L, t.length ≤ B) :
    ∃ (L' : List (List Int)) (m : Int), Ev (fun k => laws_eqIntSS.f k L L) true ∧ Ev (fun k => laws_markIntSS.f k L 1) (m, L') ∧ Ev (fun k => laws_heldIntSS.f k L' 1) m ∧ 0 ≤ m ∧ L'.length = L.length :=
  ⟨iotaSS 1 L, 1 + sumLen L, eqIntSS_self L (by omega) (fun t ht => by have := hl t ht; omega), markIntSS_ev L 1 B hB hn hl (by omega) (by omega), heldIntSS_ev L 1 B hB hn hl (by omega) (by omega), by have := sumLen_nonneg L; omega, iotaSS_length 1 L⟩
theorem FnExactAdjacentList (n k : Int) (wn : (Lit.int .i64 n).wf = true) (wk : (Lit.int .i64 k).wf = true) : ∃ q, laws_FnExactAdjacentList.Fine q n k := by
  obtain ⟨L, b, h1, h2, h3, h4, _⟩ := AdjacentList_both n k
  obtain ⟨L', m, g3, g4, g5, g6, g7⟩ := markSS_all L 12 (by omega) (by omega) h4
  obtain ⟨K1, h1⟩ := h1; obtain ⟨K2, h2⟩ := h2; obtain ⟨K3, g3⟩ := g3; obtain ⟨K4, g4⟩ := g4; obtain ⟨K5, g5⟩ := g5
  exact ⟨K1 + K2 + K3 + K4 + K5, L, L', b, m, h1 _ (by omega), h2 _ (by omega), g3 _ (by omega), g4 _ (by omega), g5 _ (by omega), g6, g7⟩
end Go.Proofs.Ytmkokfljonbcmaa.Pure
