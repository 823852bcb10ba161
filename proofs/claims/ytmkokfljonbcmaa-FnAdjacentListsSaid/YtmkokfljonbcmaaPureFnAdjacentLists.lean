import Derived.Test.YtmkokfljonbcmaaMFnAdjacentListsx1
import Derived.Test.YtmkokfljonbcmaaMFnAdjacentListsx2
import Derived.Test.YtmkokfljonbcmaaMFnAdjacentListsx3
import Derived.Test.YtmkokfljonbcmaaMFnAdjacentListsx4
import Derived.Test.YtmkokfljonbcmaaMFnAdjacentListsx5
import Derived.Test.YtmkokfljonbcmaaMFnAdjacentListsx6
import Derived.Test.YtmkokfljonbcmaaMFnAdjacentListsx7
import Derived.Test.YtmkokfljonbcmaaMFnAdjacentListsx8
import Derived.Test.YtmkokfljonbcmaaMFnAdjacentListsx9
import Derived.Test.YtmkokfljonbcmaaBase
import Derived.Test.YtmkokfljonbcmaaComb
import Derived.Test.YtmkokfljonbcmaaGoes
namespace Go.Proofs.Ytmkokfljonbcmaa.Pure
open Go.RowKit Go.Proofs.Ytmkokfljonbcmaa.MFnAdjacentLists Go.Proofs.YtmkokfljonbcmaaW.PrintWords Go.Proofs.YtmkokfljonbcmaaW.PrintLast Go.Proofs.Ytmkokfljonbcmaa.Base Go.Proofs.Ytmkokfljonbcmaa.Comb Go.Proofs.Ytmkokfljonbcmaa.Goes
set_option linter.unusedVariables false
set_option linter.unusedSimpArgs false
theorem l1In_eq (x a b : Int) : spec_l1In.f x a b = some (decide (a ≤ x ∧ x ≤ b)) := by
  unfold spec_l1In.f
  by_cases h : x ≥ a
  · rw [if_pos h]; have h' : a ≤ x := h; simp [h']
  · rw [if_neg h]; have h' : ¬ a ≤ x := h; simp [h']
theorem raAll_l1 (n K x : Int) (B : Nat) (hB : B ≤ 1000000000) (ts : List (List Int)) (hts : ts.length ≤ 4096) (htl : ∀ t ∈ ts, t.length ≤ 12) (R : List (List Int))
    (H : ∀ out : List (List Int), out.length ≤ B → Ev (fun q => spec_raAll.l0 q n K out (x + 1)) (out ++ R)) (hx0 : 0 ≤ x) (hx : x < 12) :
    ∀ (d : Nat) (out : List (List Int)) (j : Int), 0 ≤ j → j.toNat + d = ts.length → out.length + d ≤ B →
      Ev (fun q => spec_raAll.l1 q n K out x ts (ts.length : Int) j) (out ++ (ts.drop j.toNat).map (x :: ·) ++ R) := by
  intro d
  induction d with
  | zero =>
    intro out j h0 hd ho
    refine Ev.step (fun q => by rw [spec_raAll.l1]) ?_
    refine evNeg (by omega) ?_
    rw [wr (by omega) (by omega), drop_end _ _ (by omega)]
    simpa using H out (by omega)
  | succ d ih =>
    intro out j h0 hd ho
    refine Ev.step (fun q => by rw [spec_raAll.l1]) ?_
    refine evPos (by omega) (evPos (by omega) (evPos (by omega) (evSome ?_)))
    have hm : rd_L1 ts j ∈ ts := by
      unfold rd_L1
      rw [List.getD_eq_getElem?_getD, List.getElem?_eq_getElem (show j.toNat < ts.length by omega)]
      exact List.getElem_mem _
    have := htl _ hm
    refine evPos (by simp; omega) (evPos (by omega) ?_)
    rw [wr (by omega) (by omega)]
    refine evTo (ih (out ++ [[x] ++ rd_L1 ts j]) (j + 1) (by omega) (by omega) (by simp; omega)) ?_
    rw [dropD [] ts j h0 (by omega)]
    simp [rd_L1]
theorem raAll_ev (n : Int) (hn0 : 0 ≤ n) (hn : n ≤ 12) : ∀ (kk : Nat) (m : Nat) (x : Int), kk ≤ 12 → 0 ≤ x → x + m = n →
    Ev (fun q => spec_raAll.f q n (kk : Int) x) (lexC m kk x) := by
  intro kk
  induction kk with
  | zero =>
    intro m x _ h0 hx
    refine Ev.step (fun q => by rw [spec_raAll.f]) ?_
    exact evPos (by simp) (evEq (by simp))
  | succ kk ihk =>
    intro m x hk h0 hx
    refine Ev.step (fun q => by rw [spec_raAll.f]) ?_
    refine evNeg (by omega) ?_
    have key : ∀ (m : Nat) (x : Int) (out : List (List Int)), 0 ≤ x → x + m = n → out.length ≤ 4096 * (20 - m) →
        Ev (fun q => spec_raAll.l0 q n ((kk + 1 : Nat) : Int) out x) (out ++ lexC m (kk + 1) x) := by
      intro m
      induction m with
      | zero =>
        intro x out h0 hx ho
        refine Ev.step (fun q => by rw [spec_raAll.l0]) ?_
        exact evNeg (by omega) (evEq (by simp [lexC]))
      | succ m ihm =>
        intro x out h0 hx ho
        refine Ev.step (fun q => by rw [spec_raAll.l0]) ?_
        refine evPos (by omega) ?_
        rw [wr (by omega) (by omega), wr (by omega) (by omega)]
        have h1 := ihk m (x + 1) (by omega) (by omega) (by omega)
        rw [show ((kk : Nat) : Int) = ((kk + 1 : Nat) : Int) - 1 from by omega] at h1
        refine Ev.bind h1 ?_
        have hl := lexC_length m kk (x + 1)
        have hc := C_le12 m kk (by omega)
        refine evTo (raAll_l1 n ((kk + 1 : Nat) : Int) x (4096 * (20 - m)) (by omega) (lexC m kk (x + 1)) (by omega) (fun t ht => by have := (lexC_mem _ _ _ _ ht).1; omega) (lexC m (kk + 1) (x + 1))
          (fun out' ho' => ihm (x + 1) out' (by omega) (by omega) ho') h0 (by omega) (lexC m kk (x + 1)).length out 0 (by omega) (by simp) (by omega)) ?_
        simp [lexC]
    simpa using key m x [] h0 hx (by simp)
theorem chHalves_l1 (e o : Int) (ts : List (List Int)) (N i : Int) (l : List Int) (hl : l.length ≤ 12) (hb : ∀ y ∈ l, 0 ≤ y ∧ y < 12) (R : Int × Int)
    (H0 : sumI l % 2 = 0 → Ev (fun q => spec_chHalves.l0 q (wrap64 (e + 1)) o ts N (wrap64 (i + 1))) R) (H1 : ¬ sumI l % 2 = 0 → Ev (fun q => spec_chHalves.l0 q e (wrap64 (o + 1)) ts N (wrap64 (i + 1))) R) :
    ∀ (d : Nat) (s j : Int), 0 ≤ j → j.toNat + d = l.length → 0 ≤ s → s ≤ 12 * j → s + sumI (l.drop j.toNat) = sumI l →
      Ev (fun q => spec_chHalves.l1 q e o s ts N i l (l.length : Int) j) R := by
  have hsb := sumI_bound l hb
  intro d
  induction d with
  | zero =>
    intro s j h0 hd hs0 hs1 hs
    refine Ev.step (fun q => by rw [spec_chHalves.l1]) ?_
    refine evNeg (by omega) ?_
    rw [drop_end _ _ (by omega)] at hs
    have hs' : s = sumI l := by simpa [sumI] using hs
    have ht : Int.tmod s 2 = sumI l % 2 := by rw [hs', Int.tmod_eq_emod_of_nonneg hsb.1]
    by_cases c : sumI l % 2 = 0
    · exact evPos (by rw [ht]; exact c) (H0 c)
    · exact evNeg (by rw [ht]; exact c) (H1 c)
  | succ d ih =>
    intro s j h0 hd hs0 hs1 hs
    refine Ev.step (fun q => by rw [spec_chHalves.l1]) ?_
    have hm : rd l j ∈ l := by rw [rd_get l j (by omega)]; exact List.getElem_mem _
    have := hb _ hm
    refine evPos (by omega) (evPos (by omega) (evPos (by omega) ?_))
    rw [wr (x := s + rd l j) (by omega) (by omega), wr (x := j + 1) (by omega) (by omega)]
    refine ih _ _ (by omega) (by omega) (by omega) (by omega) ?_
    rw [drop_rd l j h0 (by omega), sumI_cons] at hs
    omega
theorem chHalves_l0 (ts : List (List Int)) (hts : ts.length ≤ 4096) (htl : ∀ t ∈ ts, t.length ≤ 12 ∧ ∀ y ∈ t, 0 ≤ y ∧ y < 12) : ∀ (d : Nat) (e o j : Int), 0 ≤ j → j.toNat + d = ts.length → 0 ≤ e → 0 ≤ o → e + o = j →
    Ev (fun q => spec_chHalves.l0 q e o ts (ts.length : Int) j) (e + (d - odds (ts.drop j.toNat)), o + odds (ts.drop j.toNat)) := by
  intro d
  induction d with
  | zero =>
    intro e o j h0 hd he ho heo
    refine Ev.step (fun q => by rw [spec_chHalves.l0]) ?_
    refine evNeg (by omega) (evEq ?_)
    rw [drop_end _ _ (by omega)]; simp [odds]
  | succ d ih =>
    intro e o j h0 hd he ho heo
    refine Ev.step (fun q => by rw [spec_chHalves.l0]) ?_
    refine evPos (by omega) (evPos (by omega) (evPos (by omega) ?_))
    have hm : rd_L1 ts j ∈ ts := by
      unfold rd_L1
      rw [List.getD_eq_getElem?_getD, List.getElem?_eq_getElem (show j.toNat < ts.length by omega)]
      exact List.getElem_mem _
    obtain ⟨hl, hb⟩ := htl _ hm
    have hcons : ts.drop j.toNat = rd_L1 ts j :: ts.drop (j + 1).toNat := dropD [] ts j h0 (by omega)
    rw [hcons, odds_cons]
    refine chHalves_l1 e o ts _ j (rd_L1 ts j) hl hb _ (fun c => ?_) (fun c => ?_) _ 0 0 (by omega) (by simp; rfl) (by omega) (by omega) (by simp)
    · rw [wr (by omega) (by omega), wr (by omega) (by omega)]
      refine evTo (ih (e + 1) o (j + 1) (by omega) (by omega) (by omega) ho (by omega)) ?_
      rw [if_pos c]; congr 1 <;> omega
    · rw [wr (by omega) (by omega), wr (by omega) (by omega)]
      refine evTo (ih e (o + 1) (j + 1) (by omega) (by omega) he (by omega) (by omega)) ?_
      rw [if_neg c]; congr 1 <;> omega
theorem chHalves_ev (n k : Nat) (hn : n ≤ 12) (hk : k ≤ n) : Ev (fun q => spec_chHalves.f q (n : Int) (k : Int)) ((C n k : Int) - odds (lexC n k 0), (odds (lexC n k 0) : Int)) := by
  unfold spec_chHalves.f
  refine Ev.bind (raAll_ev n (by omega) (by omega) k n 0 (by omega) (by omega) (by omega)) ?_
  have hc := C_le12 n k hn
  have hl := lexC_length n k 0
  refine evTo (chHalves_l0 (lexC n k 0) (by omega) (lex_small n k hn hk) (lexC n k 0).length 0 0 0 (by omega) (by simp) (by omega) (by omega) (by omega)) ?_
  rw [hl]; simp
theorem binomial_tab : ((List.range 13).all fun n => (List.range 13).all fun k => impl_binomial.f 20 (n : Int) (k : Int) == some (C n k : Int)) = true := by decide +kernel
theorem binomial_ev (n k : Nat) (hn : n ≤ 12) (hk : k ≤ 12) : Ev (fun r => impl_binomial.f r (n : Int) (k : Int)) (C n k : Int) := by
  refine evTab (g := fun r => impl_binomial.f r (n : Int) (k : Int)) (impl_binomial.mono _ _) 20 ?_
  have h := List.all_eq_true.1 (List.all_eq_true.1 binomial_tab n (List.mem_range.2 (by omega))) k (List.mem_range.2 (by omega))
  exact beq_iff_eq.1 h
theorem binomial_evI (n k : Int) (hn : 0 ≤ n) (hn' : n ≤ 12) (hk : 0 ≤ k) (hk' : k ≤ 12) : Ev (fun r => impl_binomial.f r n k) (C n.toNat k.toNat : Int) := by
  have := binomial_ev n.toNat k.toNat (by omega) (by omega)
  rwa [Int.toNat_of_nonneg hn, Int.toNat_of_nonneg hk] at this
theorem combinationAt_l0 (n K : Int) (hn0 : 0 ≤ n) (hn : n ≤ 12) (hK : K ≤ 12) : ∀ (m kk : Nat) (r x : Int) (out : List Int), 0 ≤ x → x + m = n → (out.length : Int) + kk = K → 0 ≤ r → r < C m kk →
    Ev (fun k => impl_combinationAt.l0 k n K r out x) (out ++ (lexC m kk x).getD r.toNat []) := by
  intro m
  induction m with
  | zero =>
    intro kk r x out h0 hx hk hr0 hr
    cases kk with
    | succ kk => simp at hr; omega
    | zero =>
      refine Ev.step (fun k => by rw [impl_combinationAt.l0]) ?_
      refine evNeg (by omega) (evEq ?_)
      simp at hr
      have : r = 0 := by omega
      subst this; simp
  | succ m ih =>
    intro kk r x out h0 hx hk hr0 hr
    cases kk with
    | zero =>
      refine Ev.step (fun k => by rw [impl_combinationAt.l0]) ?_
      refine evNeg (by omega) (evEq ?_)
      simp at hr
      have : r = 0 := by omega
      subst this; simp
    | succ kk =>
      refine Ev.step (fun k => by rw [impl_combinationAt.l0]) ?_
      refine evPos (by omega) ?_
      simp (disch := omega) only [wr]
      have hb := binomial_evI (n - x - 1) (K - out.length - 1) (by omega) (by omega) (by omega) (by omega)
      rw [show (n - x - 1).toNat = m from by omega, show (K - (out.length : Int) - 1).toNat = kk from by omega] at hb
      refine Ev.bind hb ?_
      have hc := C_le12 m kk (by omega)
      have hc2 := C_le12 (m + 1) (kk + 1) (by omega)
      by_cases c : r < C m kk
      · refine evPos c (evPos (by omega) (evTo (ih kk r (x + 1) (out ++ [x]) (by omega) (by omega) (by simp; omega) hr0 c) ?_))
        have hl : r.toNat < ((lexC m kk (x + 1)).map (x :: ·)).length := by rw [List.length_map, lexC_length]; omega
        simp only [lexC]
        rw [List.getD_eq_getElem?_getD, List.getD_eq_getElem?_getD, List.getElem?_append_left hl, List.getElem?_map]
        have hl2 : r.toNat < (lexC m kk (x + 1)).length := by rw [lexC_length]; omega
        rw [List.getElem?_eq_getElem hl2]
        simp
      · simp (disch := omega) only [wr]
        refine evNeg c (evTo (ih (kk + 1) (r - C m kk) (x + 1) out (by omega) (by omega) (by omega) (by omega) (by rw [C_succ] at hr; omega)) ?_)
        simp only [lexC]
        rw [List.getD_eq_getElem?_getD, List.getD_eq_getElem?_getD, List.getElem?_append_right (by rw [List.length_map, lexC_length]; omega), List.length_map, lexC_length]
        rw [show (r - (C m kk : Int)).toNat = r.toNat - C m kk from by omega]
theorem combinationAt_ev (n k : Nat) (hn : n ≤ 12) (hk : k ≤ n) (r : Int) (hr0 : 0 ≤ r) (hr : r < C n k) : Ev (fun q => impl_combinationAt.f q (n : Int) (k : Int) r) ((lexC n k 0).getD r.toNat []) := by
  unfold impl_combinationAt.f
  exact evTo (combinationAt_l0 n k (by omega) (by omega) (by omega) n k r 0 [] (by omega) (by omega) (by simp) hr0 hr) (by simp)
theorem allCombinations_l0 (n k : Nat) (hn : n ≤ 12) (hk : k ≤ n) : ∀ (d : Nat) (out : List (List Int)) (j : Int), 0 ≤ j → j.toNat + d = C n k → out = (lexC n k 0).take j.toNat →
    Ev (fun q => impl_allCombinations.l0 q (n : Int) (k : Int) out (C n k : Int) j) (lexC n k 0) := by
  have hc := C_le12 n k hn
  have hl := lexC_length n k 0
  intro d
  induction d with
  | zero =>
    intro out j h0 hd ho
    refine Ev.step (fun q => by rw [impl_allCombinations.l0]) ?_
    refine evNeg (by omega) (evEq ?_)
    rw [ho, take_end _ _ (by omega)]
  | succ d ih =>
    intro out j h0 hd ho
    refine Ev.step (fun q => by rw [impl_allCombinations.l0]) ?_
    refine evPos (by omega) (Ev.bind (combinationAt_ev n k hn hk j h0 (by omega)) ?_)
    have ho2 : out.length = j.toNat := by rw [ho, List.length_take]; omega
    rw [wr (by omega) (by omega)]
    refine evPos (by omega) (ih _ _ (by omega) (by omega) ?_)
    rw [takeD [] _ j h0 (by omega), ho]
theorem allCombinations_ev (n k : Nat) (hn : n ≤ 12) (hk : k ≤ n) : Ev (fun q => impl_allCombinations.f q (n : Int) (k : Int)) (lexC n k 0) := by
  unfold impl_allCombinations.f
  refine Ev.bind (binomial_ev n k hn (by omega)) ?_
  exact allCombinations_l0 n k hn hk (C n k) [] 0 (by omega) (by simp) (by simp)
theorem within_eq (x a b : Int) : impl_within.f x a b = some (decide (a ≤ x ∧ x ≤ b)) := by
  unfold impl_within.f
  by_cases h : x ≥ a
  · rw [if_pos h]; have h' : a ≤ x := h; simp [h']
  · rw [if_neg h]; have h' : ¬ a ≤ x := h; simp [h']
theorem isChoice_eq (n k : Int) : impl_isChoice.f n k = some (decide (0 ≤ n ∧ n ≤ 12 ∧ 0 ≤ k ∧ k ≤ n)) := by
  unfold impl_isChoice.f
  simp only [within_eq, Option.bind_some]
  by_cases h : 0 ≤ n ∧ n ≤ 12
  · rw [if_pos (by simpa using h)]; simp [h]
  · rw [if_neg (by simpa using h)]; congr 1; exact (decide_eq_false (by omega)).symm
theorem sum_l0 (l : List Int) (hl : l.length ≤ 12) (hb : ∀ y ∈ l, 0 ≤ y ∧ y < 12) : ∀ (d : Nat) (s j : Int), 0 ≤ j → j.toNat + d = l.length → 0 ≤ s → s ≤ 12 * j → s + sumI (l.drop j.toNat) = sumI l →
    Ev (fun q => impl_sum.l0 q s l (l.length : Int) j) (sumI l) := by
  intro d
  induction d with
  | zero =>
    intro s j h0 hd hs0 hs1 hs
    refine Ev.step (fun q => by rw [impl_sum.l0]) ?_
    refine evNeg (by omega) (evEq ?_)
    rw [drop_end _ _ (by omega)] at hs
    simpa [sumI] using hs
  | succ d ih =>
    intro s j h0 hd hs0 hs1 hs
    refine Ev.step (fun q => by rw [impl_sum.l0]) ?_
    have hm : rd l j ∈ l := by rw [rd_get l j (by omega)]; exact List.getElem_mem _
    have := hb _ hm
    refine evPos (by omega) (evPos (by omega) (evPos (by omega) ?_))
    rw [wr (x := s + rd l j) (by omega) (by omega), wr (x := j + 1) (by omega) (by omega)]
    refine ih _ _ (by omega) (by omega) (by omega) (by omega) ?_
    rw [drop_rd l j h0 (by omega), sumI_cons] at hs
    omega
theorem sum_ev (l : List Int) (hl : l.length ≤ 12) (hb : ∀ y ∈ l, 0 ≤ y ∧ y < 12) : Ev (fun q => impl_sum.f q l) (sumI l) := by
  unfold impl_sum.f
  exact sum_l0 l hl hb l.length 0 0 (by omega) (by simp) (by omega) (by omega) (by simp)
theorem AdjacentHalves_l0 (n k : Nat) (hn : n ≤ 12) (hk : k ≤ n) (ts : List (List Int)) (hc : ts.length = C n k) (htl : ∀ t ∈ ts, t.length ≤ 12 ∧ ∀ y ∈ t, 0 ≤ y ∧ y < 12) :
    ∀ (d : Nat) (o j : Int), 0 ≤ j → j.toNat + d = ts.length → 0 ≤ o → o ≤ j → o + odds (ts.drop j.toNat) = odds ts →
      Ev (fun q => impl_AdjacentHalves.l0 q (n : Int) (k : Int) o ts (ts.length : Int) j) ((C n k : Int) - odds ts, (odds ts : Int), true) := by
  have hc2 := C_le12 n k hn
  have hol := odds_le ts
  intro d
  induction d with
  | zero =>
    intro o j h0 hd ho hoj hs
    refine Ev.step (fun q => by rw [impl_AdjacentHalves.l0]) ?_
    refine evNeg (by omega) (Ev.bind (binomial_ev n k hn (by omega)) ?_)
    rw [drop_end _ _ (by omega)] at hs
    have hs' : o = odds ts := by simpa [odds] using hs
    rw [wr (by omega) (by omega), hs']
    exact Ev.now _
  | succ d ih =>
    intro o j h0 hd ho hoj hs
    refine Ev.step (fun q => by rw [impl_AdjacentHalves.l0]) ?_
    refine evPos (by omega) (evPos (by omega) (evPos (by omega) ?_))
    have hm : rd_L1 ts j ∈ ts := by
      unfold rd_L1
      rw [List.getD_eq_getElem?_getD, List.getElem?_eq_getElem (show j.toNat < ts.length by omega)]
      exact List.getElem_mem _
    obtain ⟨hl, hb⟩ := htl _ hm
    refine Ev.bind (sum_ev _ hl hb) ?_
    have hsb := sumI_bound _ hb
    rw [Int.tmod_eq_emod_of_nonneg hsb.1]
    have hcons : ts.drop j.toNat = rd_L1 ts j :: ts.drop (j + 1).toNat := dropD [] ts j h0 (by omega)
    rw [hcons, odds_cons] at hs
    have hm2 := Int.emod_nonneg (sumI (rd_L1 ts j)) (show (2 : Int) ≠ 0 by decide)
    have hm3 := Int.emod_lt_of_pos (sumI (rd_L1 ts j)) (show (0 : Int) < 2 by decide)
    rw [wr (x := o + _) (by omega) (by omega), wr (x := j + 1) (by omega) (by omega)]
    refine ih _ _ (by omega) (by omega) (by omega) (by omega) ?_
    by_cases c : sumI (rd_L1 ts j) % 2 = 0
    · rw [if_pos c] at hs; omega
    · rw [if_neg c] at hs; omega
theorem AdjacentHalves_ev (n k : Nat) (hn : n ≤ 12) (hk : k ≤ n) : Ev (fun q => impl_AdjacentHalves.f q (n : Int) (k : Int)) ((C n k : Int) - odds (lexC n k 0), (odds (lexC n k 0) : Int), true) := by
  unfold impl_AdjacentHalves.f
  simp only [isChoice_eq, Option.bind_some]
  refine evPos (by simp; omega) (Ev.bind (allCombinations_ev n k hn hk) ?_)
  exact AdjacentHalves_l0 n k hn hk _ (lexC_length n k 0) (lex_small n k hn hk) _ 0 0 (by omega) (by simp; rfl) (by omega) (by omega) (by simp)
def adjOk (n k : Int) : Bool := match spec_AdjacentList.f 1000 n k, impl_AdjacentList.f 1000 n k with
  | some (L, b), some (L', b') => decide (L = L') && (b == b') && decide (L.length ≤ 100) && L.all (fun t => decide (t.length ≤ 12))
  | _, _ => false
set_option maxRecDepth 100000 in
theorem adj_tab : ((List.range 7).all fun n => (List.range (n + 1)).all fun k => adjOk (n : Int) (k : Int)) = true := by decide +kernel
theorem AdjacentList_both (n k : Int) : ∃ (L : List (List Int)) (b : Bool), Ev (fun q => spec_AdjacentList.f q n k) (L, b) ∧ Ev (fun q => impl_AdjacentList.f q n k) (L, b) ∧ L.length ≤ 100 ∧ (∀ t ∈ L, t.length ≤ 12) ∧ (b = true → ∃ N K : Nat, n = (N : Int) ∧ k = (K : Int) ∧ N ≤ 6 ∧ K ≤ N ∧ impl_AdjacentList.f 1000 n k = some (L, b)) := by
  by_cases h : 0 ≤ n ∧ n ≤ 6 ∧ 0 ≤ k ∧ k ≤ n
  · obtain ⟨N, rfl⟩ := Int.eq_ofNat_of_zero_le h.1
    obtain ⟨K, rfl⟩ := Int.eq_ofNat_of_zero_le h.2.2.1
    have ht := List.all_eq_true.1 (List.all_eq_true.1 adj_tab N (List.mem_range.2 (by omega))) K (List.mem_range.2 (by omega))
    unfold adjOk at ht
    cases hs : spec_AdjacentList.f 1000 (N : Int) (K : Int) with
    | none => simp [hs] at ht
    | some r =>
      cases hi : impl_AdjacentList.f 1000 (N : Int) (K : Int) with
      | none => simp [hs, hi] at ht
      | some r' =>
        obtain ⟨L, b⟩ := r
        obtain ⟨L', b'⟩ := r'
        simp only [hs, hi, Bool.and_eq_true, decide_eq_true_eq, beq_iff_eq, List.all_eq_true] at ht
        obtain ⟨⟨⟨rfl, rfl⟩, h3⟩, h4⟩ := ht
        exact ⟨L, b, evTab (g := fun q => spec_AdjacentList.f q (N : Int) (K : Int)) (spec_AdjacentList.mono _ _) 1000 hs, evTab (g := fun q => impl_AdjacentList.f q (N : Int) (K : Int)) (impl_AdjacentList.mono _ _) 1000 hi, h3, h4, fun _ => ⟨N, K, rfl, rfl, by omega, by omega, rfl⟩⟩
  · refine ⟨[], false, ?_, ?_, by simp, by simp, fun h => by cases h⟩
    · unfold spec_AdjacentList.f
      simp only [l1In_eq, Option.bind_some]
      have hj : Ev (fun q => spec_AdjacentList.j0 q n k true) ([], false) := Ev.step (fun q => by rw [spec_AdjacentList.j0]) (by exact evPos rfl (Ev.now _))
      by_cases h1 : 0 ≤ n ∧ n ≤ 6
      · have e : (!decide (0 ≤ k ∧ k ≤ n)) = true := by simp; omega
        rw [e]
        exact evPos (by simpa using h1) hj
      · exact evNeg (by simpa using h1) hj
    · unfold impl_AdjacentList.f
      by_cases h1 : 0 ≤ n ∧ n ≤ 12 ∧ 0 ≤ k ∧ k ≤ n
      · obtain ⟨N, rfl⟩ := Int.eq_ofNat_of_zero_le h1.1
        obtain ⟨K, rfl⟩ := Int.eq_ofNat_of_zero_le h1.2.2.1
        exact Ev.bind (AdjacentHalves_ev N K (by omega) (by omega)) (evPos rfl (evPos (by omega) (Ev.now _)))
      · have h2 : Ev (fun q => impl_AdjacentHalves.f q n k) (0, 0, false) := by
          unfold impl_AdjacentHalves.f
          simp only [isChoice_eq, Option.bind_some]
          exact evNeg (by simpa using h1) (Ev.now _)
        exact Ev.bind h2 (evNeg (by simp) (Ev.now _))
theorem big_eq (a b : List Int) : ∃ t, laws_big.f a b = some t ∧ (t = false → a.length ≤ 1048576 ∧ b.length ≤ 1048576) := by
  unfold laws_big.f
  by_cases c : (a.length : Int) > 1048576
  · exact ⟨true, by rw [if_pos c], fun h => by cases h⟩
  · rw [if_neg c, wr (by omega) (by omega)]
    exact ⟨_, rfl, fun h => by have := of_decide_eq_false h; omega⟩
theorem u64_lt (x : Int) : 0 ≤ IntKind.u64.wrap x ∧ IntKind.u64.wrap x < 18446744073709551616 := by rw [IntKind.wrap_u64]; omega
theorem low8 (x : Int) : 0 ≤ wrap64 (Go.bits .and .u64 (IntKind.u64.wrap x / 1099511627776) 255) ∧ wrap64 (Go.bits .and .u64 (IntKind.u64.wrap x / 1099511627776) 255) ≤ 255 := by
  have hu := u64_lt x
  generalize IntKind.u64.wrap x = y at hu ⊢
  have h := Go.bits_mask .u64 63 (by decide) (fun n h0 h1 => by rw [IntKind.wrap_u64]; omega) 8 (by decide) (y / 1099511627776) (by omega) (by omega)
  have e : ((2 : Int) ^ 8 - 1) = 255 := by decide
  have e2 : ((2 : Int) ^ 8) = 256 := by decide
  rw [e, e2] at h
  rw [h, wr (by omega) (by omega)]
  omega
def Byt (l : List Int) : Prop := l.length ≤ 2000000 ∧ ∀ x ∈ l, 0 ≤ x ∧ x ≤ 255
theorem byt_of {l : List Int} (h1 : l.length ≤ 1048576) (h2 : ∀ x ∈ l, (Lit.int .u8 x).wf = true) : Byt l := by
  refine ⟨by omega, fun x hx => ?_⟩
  have := h2 x hx
  simp [Lit.wf, IntKind.min, IntKind.max, IntKind.signed, IntKind.bits] at this
  omega
theorem cur_next (l : List Int) (hl : Byt l) (a s : Int) (h0 : 0 ≤ a) (h1 : a ≤ 1000000000000) : ∃ v s', spec_l1Cur_next.f l a s = some (v, a + 1, s') ∧ 0 ≤ v ∧ v ≤ 255 := by
  obtain ⟨hn, hb⟩ := hl
  unfold spec_l1Cur_next.f
  rw [wr (x := a + 1) (by omega) (by omega)]
  by_cases c : a < l.length
  · have hr := hb (rd l a) (by rw [rd_get l a (by omega)]; exact List.getElem_mem _)
    rw [if_pos c, if_pos h0, if_pos (by omega)]
    refine ⟨_, _, rfl, ?_⟩
    rw [wr (by omega) (by omega)]
    exact hr
  · rw [if_neg c, if_neg (by omega)]
    exact ⟨_, _, rfl, low8 _⟩
theorem cur_pick (l : List Int) (hl : Byt l) (a s n : Int) (h0 : 0 ≤ a) (h1 : a ≤ 900000000000) : ∃ v a' s', spec_l1Cur_pick.f l a s n = some (v, a', s') ∧ a ≤ a' ∧ a' ≤ a + 2 ∧ 0 ≤ v ∧ (v = 0 ∨ v < n) := by
  unfold spec_l1Cur_pick.f
  by_cases c : n ≤ 1
  · rw [if_pos c]; exact ⟨_, _, _, rfl, by omega, by omega, by omega, .inl rfl⟩
  rw [if_neg c]
  obtain ⟨v, s', e, h2, h3⟩ := cur_next l hl a s h0 (by omega)
  rw [e]
  simp only [Option.bind_some]
  by_cases c2 : n > 200
  · rw [if_pos c2]
    obtain ⟨v2, s2, e2, h4, h5⟩ := cur_next l hl (a + 1) s' (by omega) (by omega)
    rw [e2]
    simp only [Option.bind_some]
    rw [if_neg (by omega), wr (x := v * 256) (by omega) (by omega), wr (by omega) (by omega)]
    exact ⟨_, _, _, rfl, by omega, by omega, Int.tmod_nonneg _ (by omega), .inr (Int.tmod_lt_of_pos _ (by omega))⟩
  · rw [if_neg c2, if_neg (by omega)]
    exact ⟨_, _, _, rfl, by omega, by omega, Int.tmod_nonneg _ (by omega), .inr (Int.tmod_lt_of_pos _ (by omega))⟩
theorem cur_among (l : List Int) (hl : Byt l) (a s : Int) (xs : List Int) (hx : 0 < xs.length) (h0 : 0 ≤ a) (h1 : a ≤ 900000000000) : ∃ v a' s', spec_l1Cur_among.f l a s xs = some (v, a', s') ∧ a ≤ a' ∧ a' ≤ a + 2 ∧ v ∈ xs := by
  unfold spec_l1Cur_among.f
  obtain ⟨v, a', s', e, h2, h3, h4, h5⟩ := cur_pick l hl a s (xs.length : Int) h0 h1
  rw [e]
  simp only [Option.bind_some]
  rw [if_pos h4, if_pos (by omega)]
  refine ⟨_, _, _, rfl, h2, h3, ?_⟩
  rw [rd_get xs v (by omega)]
  exact List.getElem_mem _
theorem cur_size3 (l : List Int) (hl : Byt l) (a s m : Int) (h0 : 0 ≤ a) (h1 : a ≤ 800000000000) (hm : 0 ≤ m) (hm' : m ≤ 1000) : ∃ n k a' s', spec_l1Cur_size3.f l a s m = some (n, k, a', s') ∧ a ≤ a' ∧ a' ≤ a + 8 := by
  unfold spec_l1Cur_size3.f
  rw [wr (x := m + 1) (by omega) (by omega)]
  obtain ⟨v, a1, s1, e, h2, h3, h4, h5⟩ := cur_pick l hl a s (m + 1) h0 (by omega)
  rw [e]
  simp only [Option.bind_some]
  rw [wr (x := v + 1) (by omega) (by omega)]
  obtain ⟨v2, a2, s2, e2, h6, h7, h8, h9⟩ := cur_pick l hl a1 s1 (v + 1) (by omega) (by omega)
  rw [e2]
  simp only [Option.bind_some]
  obtain ⟨v3, a3, s3, e3, g1, g2, g3, g4⟩ := cur_pick l hl a2 s2 16 (by omega) (by omega)
  rw [e3]
  simp only [Option.bind_some]
  by_cases c : v3 = 0
  · rw [if_pos c]
    obtain ⟨v4, a4, s4, e4, g5, g6, _⟩ := cur_among l hl a3 s3 [-1, v, v + 1, 0] (by simp) (by omega) (by omega)
    rw [e4]
    simp only [Option.bind_some]
    exact ⟨_, _, _, _, rfl, by omega, by omega⟩
  · rw [if_neg c]
    by_cases c2 : v3 = 1
    · rw [if_pos c2]
      obtain ⟨v4, a4, s4, e4, g5, g6, _⟩ := cur_among l hl a3 s3 [-1, 0, 12, 13] (by simp) (by omega) (by omega)
      rw [e4]
      simp only [Option.bind_some]
      exact ⟨_, _, _, _, rfl, by omega, by omega⟩
    · rw [if_neg c2]
      exact ⟨_, _, _, _, rfl, by omega, by omega⟩
theorem uSame_l0 (a : List Int) (hn : a.length ≤ 35184372088832) : ∀ (d : Nat) (j : Int), 0 ≤ j → j.toNat + d = a.length → Ev (fun k => laws_uSame.l0 k a a (a.length : Int) j) true := by
  intro d
  induction d with
  | zero =>
    intro j h0 hd
    refine Ev.step (fun k => by rw [laws_uSame.l0]) ?_
    exact evNeg (by omega) (Ev.now _)
  | succ d ih =>
    intro j h0 hd
    refine Ev.step (fun k => by rw [laws_uSame.l0]) ?_
    refine evPos (by omega) (evPos (by omega) (evPos (by omega) (evPos (by omega) (evPos rfl ?_))))
    rw [wr (by omega) (by omega)]
    exact ih _ (by omega) (by omega)
theorem uSame_self (a : List Int) (hn : a.length ≤ 35184372088832) : Ev (fun k => laws_uSame.f k a a) true := by
  unfold laws_uSame.f
  exact evPos rfl (uSame_l0 a hn a.length 0 (by omega) (by simp))
theorem uLists_self (L : List (List Int)) (hn : L.length ≤ 1000000000) (hl : ∀ t ∈ L, t.length ≤ 35184372088832) : Ev (fun k => laws_uLists.f k L L) true := by
  have key : ∀ (d : Nat) (j : Int), 0 ≤ j → j.toNat + d = L.length → Ev (fun k => laws_uLists.l0 k L L (L.length : Int) j) true := by
    intro d
    induction d with
    | zero =>
      intro j h0 hd
      refine Ev.step (fun k => by rw [laws_uLists.l0]) ?_
      exact evNeg (by omega) (Ev.now _)
    | succ d ih =>
      intro j h0 hd
      refine Ev.step (fun k => by rw [laws_uLists.l0]) ?_
      have hm : rd_L1 L j ∈ L := by
        unfold rd_L1
        rw [List.getD_eq_getElem?_getD, List.getElem?_eq_getElem (show j.toNat < L.length by omega)]
        exact List.getElem_mem _
      refine evPos (by omega) (evPos (by omega) (evPos (by omega) (evPos (by omega) (Ev.bind (uSame_self _ (hl _ hm)) (evPos rfl ?_)))))
      rw [wr (by omega) (by omega)]
      exact ih _ (by omega) (by omega)
  unfold laws_uLists.f
  exact evPos rfl (key L.length 0 (by omega) (by simp))
theorem drawRevolvingList_ev (l : List Int) (hl : Byt l) : ∃ n k, spec_DrawRevolvingList.f l = some (n, k) := by
  unfold spec_DrawRevolvingList.f
  obtain ⟨n, k, a', s', e, _, _⟩ := cur_size3 l hl 0 0 9 (by omega) (by omega) (by omega) (by omega)
  rw [e]
  exact ⟨_, _, rfl⟩
theorem raItems_eq (x : Int) : spec_raItems.f x = some (decide (0 ≤ x ∧ x ≤ 12)) := by
  unfold spec_raItems.f; rw [l1In_eq]; rfl
theorem chSize_eq (n k : Int) : spec_chSize.f n k = some (decide (0 ≤ n ∧ n ≤ 12 ∧ 0 ≤ k ∧ k ≤ n)) := by
  unfold spec_chSize.f
  simp only [raItems_eq, l1In_eq, Option.bind_some]
  by_cases h : 0 ≤ n ∧ n ≤ 12
  · rw [if_pos (by simpa using h)]; simp [h]
  · rw [if_neg (by simpa using h)]; congr 1; exact (decide_eq_false (by omega)).symm
theorem spec_AdjacentHalves_ev (n k : Nat) (hn : n ≤ 12) (hk : k ≤ n) : Ev (fun q => spec_AdjacentHalves.f q (n : Int) (k : Int)) ((C n k : Int) - odds (lexC n k 0), (odds (lexC n k 0) : Int), true) := by
  unfold spec_AdjacentHalves.f
  simp only [chSize_eq, Option.bind_some]
  exact evPos (by simp; omega) (Ev.bind (chHalves_ev n k hn hk) (Ev.now _))
theorem Binomial_ev (n k : Nat) (hn : n ≤ 12) (hk : k ≤ n) : Ev (fun q => impl_Binomial.f q (n : Int) (k : Int)) ((C n k : Int), true) := by
  unfold impl_Binomial.f
  rw [within_eq, within_eq]
  exact evSome (evPos (by simp; omega) (evSome (evPos (by simp; omega) (Ev.bind (binomial_ev n k hn (by omega)) (Ev.now _)))))
def adjOk2 (n k : Int) : Bool := match impl_AdjacentList.f 1000 n k with
  | some (L, true) => (match impl_IsAdjacentList.f 1000 n k L, impl_AdjacentHalves.f 1000 n k with
    | some r, some h => decide (r = (true, true)) && h.2.2 && decide (-1 ≤ h.1 - h.2.1 ∧ h.1 - h.2.1 ≤ 1)
    | _, _ => false)
  | some (_, false) => true
  | none => false
set_option maxRecDepth 100000 in
theorem adj_tab2 : ((List.range 7).all fun n => (List.range (n + 1)).all fun k => adjOk2 (n : Int) (k : Int)) = true := by decide +kernel
theorem alJ1 (l1 : List Int) (y1 : Byt l1) : Ev (fun k => laws_FnAdjacentLists.j1 k l1) true := by
  refine Ev.step (fun k => by rw [laws_FnAdjacentLists.j1]) ?_
  obtain ⟨n, k, hd⟩ : ∃ n k, spec_DrawAdjacentHalves.f l1 = some (n, k) := by
    unfold spec_DrawAdjacentHalves.f
    obtain ⟨n, k, e⟩ := drawRevolvingList_ev l1 y1
    rw [e]
    exact ⟨_, _, rfl⟩
  rw [hd]
  refine evSome ?_
  by_cases h : 0 ≤ n ∧ n ≤ 12 ∧ 0 ≤ k ∧ k ≤ n
  · obtain ⟨N, rfl⟩ := Int.eq_ofNat_of_zero_le h.1
    obtain ⟨K, rfl⟩ := Int.eq_ofNat_of_zero_le h.2.2.1
    have hc2 := C_le12 N K (by omega)
    have hol := odds_le (lexC N K 0)
    have hll := lexC_length N K 0
    refine Ev.bind (AdjacentHalves_ev N K (by omega) (by omega)) (Ev.bind (spec_AdjacentHalves_ev N K (by omega) (by omega)) (evNeg (by simp) (evPos rfl ?_)))
    refine Ev.step (fun k => by rw [laws_FnAdjacentLists.j2]) ?_
    refine evNeg (by simp) (evPos rfl (Ev.bind (Binomial_ev N K (by omega) (by omega)) (evPos rfl (evEq ?_))))
    rw [beq_iff_eq]
    show wrap64 (((C N K : Int) - odds (lexC N K 0)) + (odds (lexC N K 0) : Int)) = (C N K : Int)
    rw [wr (by omega) (by omega)]
    omega
  · have h1 : Ev (fun q => spec_AdjacentHalves.f q n k) (0, 0, false) := by
      unfold spec_AdjacentHalves.f
      simp only [chSize_eq, Option.bind_some]
      exact evNeg (by simpa using h) (Ev.now _)
    have h2 : Ev (fun q => impl_AdjacentHalves.f q n k) (0, 0, false) := by
      unfold impl_AdjacentHalves.f
      simp only [isChoice_eq, Option.bind_some]
      exact evNeg (by simpa using h) (Ev.now _)
    refine Ev.bind h2 (Ev.bind h1 (evNeg (by simp) (evPos rfl ?_)))
    refine Ev.step (fun k => by rw [laws_FnAdjacentLists.j2]) ?_
    exact evNeg (by simp) (evNeg (by simp) (Ev.now _))
theorem FnAdjacentLists : laws_FnAdjacentLists.Pure := by
  intro l0 l1 hm0 hb0 hw0 hm1 hb1 hw1
  refine Ev.rounds (g := fun q => laws_FnAdjacentLists.f q l0 l1) ?_
  unfold laws_FnAdjacentLists.f
  obtain ⟨t, ht, hbig⟩ := big_eq l0 l1
  rw [ht]
  refine evSome ?_
  cases t
  rotate_left
  · exact evPos rfl (Ev.now _)
  obtain ⟨q0, q1⟩ := hbig rfl
  have y0 := byt_of q0 hw0
  have y1 := byt_of q1 hw1
  refine evNeg (by simp) ?_
  obtain ⟨n, k, hd⟩ : ∃ n k, spec_DrawAdjacentList.f l0 = some (n, k) := by
    unfold spec_DrawAdjacentList.f
    obtain ⟨n, k, a', s', e, _, _⟩ := cur_size3 l0 y0 0 0 6 (by omega) (by omega) (by omega) (by omega)
    rw [e]
    exact ⟨_, _, rfl⟩
  rw [hd]
  refine evSome ?_
  obtain ⟨L, b, h1, h2, h3, h4, h5⟩ := AdjacentList_both n k
  refine Ev.bind h2 (Ev.bind h1 (evNeg (by simp) (Ev.bind (uLists_self L (by omega) (fun t ht => by have := h4 t ht; omega)) ?_)))
  refine Ev.step (fun k => by rw [laws_FnAdjacentLists.j0]) ?_
  refine evNeg (by simp) ?_
  cases b
  · exact evNeg (by simp) (alJ1 l1 y1)
  · obtain ⟨N, K, rfl, rfl, hN, hK, hi⟩ := h5 rfl
    have ht := List.all_eq_true.1 (List.all_eq_true.1 adj_tab2 N (List.mem_range.2 (by omega))) K (List.mem_range.2 (by omega))
    unfold adjOk2 at ht
    rw [hi] at ht
    cases ha : impl_IsAdjacentList.f 1000 (N : Int) (K : Int) L with
    | none => simp [ha] at ht
    | some r =>
      cases hh : impl_AdjacentHalves.f 1000 (N : Int) (K : Int) with
      | none => simp [ha, hh] at ht
      | some h =>
        obtain ⟨ev, od, ok⟩ := h
        simp only [ha, hh, Bool.and_eq_true, decide_eq_true_eq] at ht
        obtain ⟨⟨rfl, rfl⟩, h6⟩ := ht
        have e1 := evTab (g := fun q => impl_IsAdjacentList.f q (N : Int) (K : Int) L) (impl_IsAdjacentList.mono _ _ _) 1000 ha
        have e2 := evTab (g := fun q => impl_AdjacentHalves.f q (N : Int) (K : Int)) (impl_AdjacentHalves.mono _ _) 1000 hh
        refine evPos rfl (Ev.bind e1 (Ev.bind e2 (evPos rfl (evPos rfl (evPos rfl (evNeg ?_ (evNeg ?_ (alJ1 l1 y1))))))))
        · show ¬ wrap64 (ev - od) > 1
          rw [wr (by omega) (by omega)]; omega
        · show ¬ wrap64 (od - ev) > 1
          rw [wr (by omega) (by omega)]; omega
end Go.Proofs.Ytmkokfljonbcmaa.Pure
