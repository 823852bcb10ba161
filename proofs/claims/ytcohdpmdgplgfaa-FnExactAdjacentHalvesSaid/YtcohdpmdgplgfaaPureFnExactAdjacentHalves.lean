/- The pure statement of FnExactAdjacentHalves: for all arguments that fit, the law as a Lean function answers true after enough rounds. -/
import Derived.Test.YtcohdpmdgplgfaaMFnExactAdjacentHalvesx1
import Derived.Test.YtcohdpmdgplgfaaMFnExactAdjacentHalvesx2
import Derived.Test.YtcohdpmdgplgfaaBase
import Derived.Test.YtcohdpmdgplgfaaComb
namespace Go.Proofs.Ytcohdpmdgplgfaa.Pure
open Go.RowKit Go.Proofs.Ytcohdpmdgplgfaa.MFnExactAdjacentHalves Go.Proofs.YtcohdpmdgplgfaaW.PrintWords Go.Proofs.YtcohdpmdgplgfaaW.PrintLast Go.Proofs.Ytcohdpmdgplgfaa.Base Go.Proofs.Ytcohdpmdgplgfaa.Comb
set_option linter.unusedVariables false
set_option linter.unusedSimpArgs false

/-! spec_l1In -/
theorem l1In_eq (x a b : Int) : spec_l1In.f x a b = some (decide (a ≤ x ∧ x ≤ b)) := by
  unfold spec_l1In.f
  by_cases h : x ≥ a
  · rw [if_pos h]; have h' : a ≤ x := h; simp [h']
  · rw [if_neg h]; have h' : ¬ a ≤ x := h; simp [h']
/-! spec_raItems -/
theorem raItems_eq (x : Int) : spec_raItems.f x = some (decide (0 ≤ x ∧ x ≤ 12)) := by
  unfold spec_raItems.f; rw [l1In_eq]; rfl
/-! spec_chSize -/
theorem chSize_eq (n k : Int) : spec_chSize.f n k = some (decide (0 ≤ n ∧ n ≤ 12 ∧ 0 ≤ k ∧ k ≤ n)) := by
  unfold spec_chSize.f
  simp only [raItems_eq, l1In_eq, Option.bind_some]
  by_cases h : 0 ≤ n ∧ n ≤ 12
  · rw [if_pos (by simpa using h)]; simp [h]
  · rw [if_neg (by simpa using h)]; congr 1; exact (decide_eq_false (by omega)).symm
/-! spec_raAll -/
theorem raAll_l1 (n K x : Int) (B : Nat) (hB : B ≤ 1000000000) (ts : List (List Int)) (hts : ts.length ≤ 4096) (htl : ∀ t ∈ ts, t.length ≤ 12) (R : List (List Int))
    (H : ∀ out : List (List Int), out.length ≤ B → Ev (fun q => spec_raAll.l0 q n K out (x + 1)) (out ++ R)) (hx0 : 0 ≤ x) (hx : x < 12) :
    ∀ (d : Nat) (out : List (List Int)) (j : Int), 0 ≤ j → j.toNat + d = ts.length → out.length + d ≤ B →
      Ev (fun q => spec_raAll.l1 q n K out x ts (ts.length : Int) j) (out ++ (ts.drop j.toNat).map (x :: ·) ++ R) := by
  intro d
  induction d with
  | zero =>
    intro out j h0 hd ho
    refine Ev.step (fun q => by rw [spec_raAll.l1]) ?_
    refine evNeg (by omega) ?_
    rw [wr (by omega) (by omega), drop_end _ _ (by omega)]
    simpa using H out (by omega)
  | succ d ih =>
    intro out j h0 hd ho
    refine Ev.step (fun q => by rw [spec_raAll.l1]) ?_
    refine evPos (by omega) (evPos (by omega) (evPos (by omega) (evSome ?_)))
    have hm : rd_L1 ts j ∈ ts := by
      unfold rd_L1
      rw [List.getD_eq_getElem?_getD, List.getElem?_eq_getElem (show j.toNat < ts.length by omega)]
      exact List.getElem_mem _
    have := htl _ hm
    refine evPos (by simp; omega) (evPos (by omega) ?_)
    rw [wr (by omega) (by omega)]
    refine evTo (ih (out ++ [[x] ++ rd_L1 ts j]) (j + 1) (by omega) (by omega) (by simp; omega)) ?_
    rw [dropD [] ts j h0 (by omega)]
    simp [rd_L1]
theorem raAll_ev (n : Int) (hn0 : 0 ≤ n) (hn : n ≤ 12) : ∀ (kk : Nat) (m : Nat) (x : Int), kk ≤ 12 → 0 ≤ x → x + m = n →
    Ev (fun q => spec_raAll.f q n (kk : Int) x) (lexC m kk x) := by
  intro kk
  induction kk with
  | zero =>
    intro m x _ h0 hx
    refine Ev.step (fun q => by rw [spec_raAll.f]) ?_
    exact evPos (by simp) (evEq (by simp))
  | succ kk ihk =>
    intro m x hk h0 hx
    refine Ev.step (fun q => by rw [spec_raAll.f]) ?_
    refine evNeg (by omega) ?_
    have key : ∀ (m : Nat) (x : Int) (out : List (List Int)), 0 ≤ x → x + m = n → out.length ≤ 4096 * (20 - m) →
        Ev (fun q => spec_raAll.l0 q n ((kk + 1 : Nat) : Int) out x) (out ++ lexC m (kk + 1) x) := by
      intro m
      induction m with
      | zero =>
        intro x out h0 hx ho
        refine Ev.step (fun q => by rw [spec_raAll.l0]) ?_
        exact evNeg (by omega) (evEq (by simp [lexC]))
      | succ m ihm =>
        intro x out h0 hx ho
        refine Ev.step (fun q => by rw [spec_raAll.l0]) ?_
        refine evPos (by omega) ?_
        rw [wr (by omega) (by omega), wr (by omega) (by omega)]
        have h1 := ihk m (x + 1) (by omega) (by omega) (by omega)
        rw [show ((kk : Nat) : Int) = ((kk + 1 : Nat) : Int) - 1 from by omega] at h1
        refine Ev.bind h1 ?_
        have hl := lexC_length m kk (x + 1)
        have hc := C_le12 m kk (by omega)
        refine evTo (raAll_l1 n ((kk + 1 : Nat) : Int) x (4096 * (20 - m)) (by omega) (lexC m kk (x + 1)) (by omega) (fun t ht => by have := (lexC_mem _ _ _ _ ht).1; omega) (lexC m (kk + 1) (x + 1))
          (fun out' ho' => ihm (x + 1) out' (by omega) (by omega) ho') h0 (by omega) (lexC m kk (x + 1)).length out 0 (by omega) (by simp) (by omega)) ?_
        simp [lexC]
    simpa using key m x [] h0 hx (by simp)
/-! spec_chHalves -/
theorem chHalves_l1 (e o : Int) (ts : List (List Int)) (N i : Int) (l : List Int) (hl : l.length ≤ 12) (hb : ∀ y ∈ l, 0 ≤ y ∧ y < 12) (R : Int × Int)
    (H0 : sumI l % 2 = 0 → Ev (fun q => spec_chHalves.l0 q (wrap64 (e + 1)) o ts N (wrap64 (i + 1))) R) (H1 : ¬ sumI l % 2 = 0 → Ev (fun q => spec_chHalves.l0 q e (wrap64 (o + 1)) ts N (wrap64 (i + 1))) R) :
    ∀ (d : Nat) (s j : Int), 0 ≤ j → j.toNat + d = l.length → 0 ≤ s → s ≤ 12 * j → s + sumI (l.drop j.toNat) = sumI l →
      Ev (fun q => spec_chHalves.l1 q e o s ts N i l (l.length : Int) j) R := by
  have hsb := sumI_bound l hb
  intro d
  induction d with
  | zero =>
    intro s j h0 hd hs0 hs1 hs
    refine Ev.step (fun q => by rw [spec_chHalves.l1]) ?_
    refine evNeg (by omega) ?_
    rw [drop_end _ _ (by omega)] at hs
    have hs' : s = sumI l := by simpa [sumI] using hs
    have ht : Int.tmod s 2 = sumI l % 2 := by rw [hs', Int.tmod_eq_emod_of_nonneg hsb.1]
    by_cases c : sumI l % 2 = 0
    · exact evPos (by rw [ht]; exact c) (H0 c)
    · exact evNeg (by rw [ht]; exact c) (H1 c)
  | succ d ih =>
    intro s j h0 hd hs0 hs1 hs
    refine Ev.step (fun q => by rw [spec_chHalves.l1]) ?_
    have hm : rd l j ∈ l := by rw [rd_get l j (by omega)]; exact List.getElem_mem _
    have := hb _ hm
    refine evPos (by omega) (evPos (by omega) (evPos (by omega) ?_))
    rw [wr (x := s + rd l j) (by omega) (by omega), wr (x := j + 1) (by omega) (by omega)]
    refine ih _ _ (by omega) (by omega) (by omega) (by omega) ?_
    rw [drop_rd l j h0 (by omega), sumI_cons] at hs
    omega
theorem chHalves_l0 (ts : List (List Int)) (hts : ts.length ≤ 4096) (htl : ∀ t ∈ ts, t.length ≤ 12 ∧ ∀ y ∈ t, 0 ≤ y ∧ y < 12) : ∀ (d : Nat) (e o j : Int), 0 ≤ j → j.toNat + d = ts.length → 0 ≤ e → 0 ≤ o → e + o = j →
    Ev (fun q => spec_chHalves.l0 q e o ts (ts.length : Int) j) (e + (d - odds (ts.drop j.toNat)), o + odds (ts.drop j.toNat)) := by
  intro d
  induction d with
  | zero =>
    intro e o j h0 hd he ho heo
    refine Ev.step (fun q => by rw [spec_chHalves.l0]) ?_
    refine evNeg (by omega) (evEq ?_)
    rw [drop_end _ _ (by omega)]; simp [odds]
  | succ d ih =>
    intro e o j h0 hd he ho heo
    refine Ev.step (fun q => by rw [spec_chHalves.l0]) ?_
    refine evPos (by omega) (evPos (by omega) (evPos (by omega) ?_))
    have hm : rd_L1 ts j ∈ ts := by
      unfold rd_L1
      rw [List.getD_eq_getElem?_getD, List.getElem?_eq_getElem (show j.toNat < ts.length by omega)]
      exact List.getElem_mem _
    obtain ⟨hl, hb⟩ := htl _ hm
    have hcons : ts.drop j.toNat = rd_L1 ts j :: ts.drop (j + 1).toNat := dropD [] ts j h0 (by omega)
    rw [hcons, odds_cons]
    refine chHalves_l1 e o ts _ j (rd_L1 ts j) hl hb _ (fun c => ?_) (fun c => ?_) _ 0 0 (by omega) (by simp; rfl) (by omega) (by omega) (by simp)
    · rw [wr (by omega) (by omega), wr (by omega) (by omega)]
      refine evTo (ih (e + 1) o (j + 1) (by omega) (by omega) (by omega) ho (by omega)) ?_
      rw [if_pos c]; congr 1 <;> omega
    · rw [wr (by omega) (by omega), wr (by omega) (by omega)]
      refine evTo (ih e (o + 1) (j + 1) (by omega) (by omega) he (by omega) (by omega)) ?_
      rw [if_neg c]; congr 1 <;> omega
theorem chHalves_ev (n k : Nat) (hn : n ≤ 12) (hk : k ≤ n) : Ev (fun q => spec_chHalves.f q (n : Int) (k : Int)) ((C n k : Int) - odds (lexC n k 0), (odds (lexC n k 0) : Int)) := by
  unfold spec_chHalves.f
  refine Ev.bind (raAll_ev n (by omega) (by omega) k n 0 (by omega) (by omega) (by omega)) ?_
  have hc := C_le12 n k hn
  have hl := lexC_length n k 0
  refine evTo (chHalves_l0 (lexC n k 0) (by omega) (lex_small n k hn hk) (lexC n k 0).length 0 0 0 (by omega) (by simp) (by omega) (by omega) (by omega)) ?_
  rw [hl]; simp
/-! spec_AdjacentHalves -/
theorem spec_AdjacentHalves_ev (n k : Nat) (hn : n ≤ 12) (hk : k ≤ n) : Ev (fun q => spec_AdjacentHalves.f q (n : Int) (k : Int)) ((C n k : Int) - odds (lexC n k 0), (odds (lexC n k 0) : Int), true) := by
  unfold spec_AdjacentHalves.f
  simp only [chSize_eq, Option.bind_some]
  exact evPos (by simp; omega) (Ev.bind (chHalves_ev n k hn hk) (Ev.now _))
/-! impl_within -/
theorem within_eq (x a b : Int) : impl_within.f x a b = some (decide (a ≤ x ∧ x ≤ b)) := by
  unfold impl_within.f
  by_cases h : x ≥ a
  · rw [if_pos h]; have h' : a ≤ x := h; simp [h']
  · rw [if_neg h]; have h' : ¬ a ≤ x := h; simp [h']
/-! impl_isChoice -/
theorem isChoice_eq (n k : Int) : impl_isChoice.f n k = some (decide (0 ≤ n ∧ n ≤ 12 ∧ 0 ≤ k ∧ k ≤ n)) := by
  unfold impl_isChoice.f
  simp only [within_eq, Option.bind_some]
  by_cases h : 0 ≤ n ∧ n ≤ 12
  · rw [if_pos (by simpa using h)]; simp [h]
  · rw [if_neg (by simpa using h)]; congr 1; exact (decide_eq_false (by omega)).symm
/-! impl_binomial -/
theorem binomial_tab : ((List.range 13).all fun n => (List.range 13).all fun k => impl_binomial.f 20 (n : Int) (k : Int) == some (C n k : Int)) = true := by decide +kernel
theorem binomial_ev (n k : Nat) (hn : n ≤ 12) (hk : k ≤ 12) : Ev (fun r => impl_binomial.f r (n : Int) (k : Int)) (C n k : Int) := by
  refine evTab (g := fun r => impl_binomial.f r (n : Int) (k : Int)) (impl_binomial.mono _ _) 20 ?_
  have h := List.all_eq_true.1 (List.all_eq_true.1 binomial_tab n (List.mem_range.2 (by omega))) k (List.mem_range.2 (by omega))
  exact beq_iff_eq.1 h
theorem binomial_evI (n k : Int) (hn : 0 ≤ n) (hn' : n ≤ 12) (hk : 0 ≤ k) (hk' : k ≤ 12) : Ev (fun r => impl_binomial.f r n k) (C n.toNat k.toNat : Int) := by
  have := binomial_ev n.toNat k.toNat (by omega) (by omega)
  rwa [Int.toNat_of_nonneg hn, Int.toNat_of_nonneg hk] at this
/-! impl_combinationAt -/
theorem combinationAt_l0 (n K : Int) (hn0 : 0 ≤ n) (hn : n ≤ 12) (hK : K ≤ 12) : ∀ (m kk : Nat) (r x : Int) (out : List Int), 0 ≤ x → x + m = n → (out.length : Int) + kk = K → 0 ≤ r → r < C m kk →
    Ev (fun k => impl_combinationAt.l0 k n K r out x) (out ++ (lexC m kk x).getD r.toNat []) := by
  intro m
  induction m with
  | zero =>
    intro kk r x out h0 hx hk hr0 hr
    cases kk with
    | succ kk => simp at hr; omega
    | zero =>
      refine Ev.step (fun k => by rw [impl_combinationAt.l0]) ?_
      refine evNeg (by omega) (evEq ?_)
      simp at hr
      have : r = 0 := by omega
      subst this; simp
  | succ m ih =>
    intro kk r x out h0 hx hk hr0 hr
    cases kk with
    | zero =>
      refine Ev.step (fun k => by rw [impl_combinationAt.l0]) ?_
      refine evNeg (by omega) (evEq ?_)
      simp at hr
      have : r = 0 := by omega
      subst this; simp
    | succ kk =>
      refine Ev.step (fun k => by rw [impl_combinationAt.l0]) ?_
      refine evPos (by omega) ?_
      simp (disch := omega) only [wr]
      have hb := binomial_evI (n - x - 1) (K - out.length - 1) (by omega) (by omega) (by omega) (by omega)
      rw [show (n - x - 1).toNat = m from by omega, show (K - (out.length : Int) - 1).toNat = kk from by omega] at hb
      refine Ev.bind hb ?_
      have hc := C_le12 m kk (by omega)
      have hc2 := C_le12 (m + 1) (kk + 1) (by omega)
      by_cases c : r < C m kk
      · refine evPos c (evPos (by omega) (evTo (ih kk r (x + 1) (out ++ [x]) (by omega) (by omega) (by simp; omega) hr0 c) ?_))
        have hl : r.toNat < ((lexC m kk (x + 1)).map (x :: ·)).length := by rw [List.length_map, lexC_length]; omega
        simp only [lexC]
        rw [List.getD_eq_getElem?_getD, List.getD_eq_getElem?_getD, List.getElem?_append_left hl, List.getElem?_map]
        have hl2 : r.toNat < (lexC m kk (x + 1)).length := by rw [lexC_length]; omega
        rw [List.getElem?_eq_getElem hl2]
        simp
      · simp (disch := omega) only [wr]
        refine evNeg c (evTo (ih (kk + 1) (r - C m kk) (x + 1) out (by omega) (by omega) (by omega) (by omega) (by rw [C_succ] at hr; omega)) ?_)
        simp only [lexC]
        rw [List.getD_eq_getElem?_getD, List.getD_eq_getElem?_getD, List.getElem?_append_right (by rw [List.length_map, lexC_length]; omega), List.length_map, lexC_length]
        rw [show (r - (C m kk : Int)).toNat = r.toNat - C m kk from by omega]
theorem combinationAt_ev (n k : Nat) (hn : n ≤ 12) (hk : k ≤ n) (r : Int) (hr0 : 0 ≤ r) (hr : r < C n k) : Ev (fun q => impl_combinationAt.f q (n : Int) (k : Int) r) ((lexC n k 0).getD r.toNat []) := by
  unfold impl_combinationAt.f
  exact evTo (combinationAt_l0 n k (by omega) (by omega) (by omega) n k r 0 [] (by omega) (by omega) (by simp) hr0 hr) (by simp)
/-! impl_allCombinations -/
theorem allCombinations_l0 (n k : Nat) (hn : n ≤ 12) (hk : k ≤ n) : ∀ (d : Nat) (out : List (List Int)) (j : Int), 0 ≤ j → j.toNat + d = C n k → out = (lexC n k 0).take j.toNat →
    Ev (fun q => impl_allCombinations.l0 q (n : Int) (k : Int) out (C n k : Int) j) (lexC n k 0) := by
  have hc := C_le12 n k hn
  have hl := lexC_length n k 0
  intro d
  induction d with
  | zero =>
    intro out j h0 hd ho
    refine Ev.step (fun q => by rw [impl_allCombinations.l0]) ?_
    refine evNeg (by omega) (evEq ?_)
    rw [ho, take_end _ _ (by omega)]
  | succ d ih =>
    intro out j h0 hd ho
    refine Ev.step (fun q => by rw [impl_allCombinations.l0]) ?_
    refine evPos (by omega) (Ev.bind (combinationAt_ev n k hn hk j h0 (by omega)) ?_)
    have ho2 : out.length = j.toNat := by rw [ho, List.length_take]; omega
    rw [wr (by omega) (by omega)]
    refine evPos (by omega) (ih _ _ (by omega) (by omega) ?_)
    rw [takeD [] _ j h0 (by omega), ho]
theorem allCombinations_ev (n k : Nat) (hn : n ≤ 12) (hk : k ≤ n) : Ev (fun q => impl_allCombinations.f q (n : Int) (k : Int)) (lexC n k 0) := by
  unfold impl_allCombinations.f
  refine Ev.bind (binomial_ev n k hn (by omega)) ?_
  exact allCombinations_l0 n k hn hk (C n k) [] 0 (by omega) (by simp) (by simp)
/-! impl_sum -/
theorem sum_l0 (l : List Int) (hl : l.length ≤ 12) (hb : ∀ y ∈ l, 0 ≤ y ∧ y < 12) : ∀ (d : Nat) (s j : Int), 0 ≤ j → j.toNat + d = l.length → 0 ≤ s → s ≤ 12 * j → s + sumI (l.drop j.toNat) = sumI l →
    Ev (fun q => impl_sum.l0 q s l (l.length : Int) j) (sumI l) := by
  intro d
  induction d with
  | zero =>
    intro s j h0 hd hs0 hs1 hs
    refine Ev.step (fun q => by rw [impl_sum.l0]) ?_
    refine evNeg (by omega) (evEq ?_)
    rw [drop_end _ _ (by omega)] at hs
    simpa [sumI] using hs
  | succ d ih =>
    intro s j h0 hd hs0 hs1 hs
    refine Ev.step (fun q => by rw [impl_sum.l0]) ?_
    have hm : rd l j ∈ l := by rw [rd_get l j (by omega)]; exact List.getElem_mem _
    have := hb _ hm
    refine evPos (by omega) (evPos (by omega) (evPos (by omega) ?_))
    rw [wr (x := s + rd l j) (by omega) (by omega), wr (x := j + 1) (by omega) (by omega)]
    refine ih _ _ (by omega) (by omega) (by omega) (by omega) ?_
    rw [drop_rd l j h0 (by omega), sumI_cons] at hs
    omega
theorem sum_ev (l : List Int) (hl : l.length ≤ 12) (hb : ∀ y ∈ l, 0 ≤ y ∧ y < 12) : Ev (fun q => impl_sum.f q l) (sumI l) := by
  unfold impl_sum.f
  exact sum_l0 l hl hb l.length 0 0 (by omega) (by simp) (by omega) (by omega) (by simp)
/-! impl_AdjacentHalves -/
theorem AdjacentHalves_l0 (n k : Nat) (hn : n ≤ 12) (hk : k ≤ n) (ts : List (List Int)) (hc : ts.length = C n k) (htl : ∀ t ∈ ts, t.length ≤ 12 ∧ ∀ y ∈ t, 0 ≤ y ∧ y < 12) :
    ∀ (d : Nat) (o j : Int), 0 ≤ j → j.toNat + d = ts.length → 0 ≤ o → o ≤ j → o + odds (ts.drop j.toNat) = odds ts →
      Ev (fun q => impl_AdjacentHalves.l0 q (n : Int) (k : Int) o ts (ts.length : Int) j) ((C n k : Int) - odds ts, (odds ts : Int), true) := by
  have hc2 := C_le12 n k hn
  have hol := odds_le ts
  intro d
  induction d with
  | zero =>
    intro o j h0 hd ho hoj hs
    refine Ev.step (fun q => by rw [impl_AdjacentHalves.l0]) ?_
    refine evNeg (by omega) (Ev.bind (binomial_ev n k hn (by omega)) ?_)
    rw [drop_end _ _ (by omega)] at hs
    have hs' : o = odds ts := by simpa [odds] using hs
    rw [wr (by omega) (by omega), hs']
    exact Ev.now _
  | succ d ih =>
    intro o j h0 hd ho hoj hs
    refine Ev.step (fun q => by rw [impl_AdjacentHalves.l0]) ?_
    refine evPos (by omega) (evPos (by omega) (evPos (by omega) ?_))
    have hm : rd_L1 ts j ∈ ts := by
      unfold rd_L1
      rw [List.getD_eq_getElem?_getD, List.getElem?_eq_getElem (show j.toNat < ts.length by omega)]
      exact List.getElem_mem _
    obtain ⟨hl, hb⟩ := htl _ hm
    refine Ev.bind (sum_ev _ hl hb) ?_
    have hsb := sumI_bound _ hb
    rw [Int.tmod_eq_emod_of_nonneg hsb.1]
    have hcons : ts.drop j.toNat = rd_L1 ts j :: ts.drop (j + 1).toNat := dropD [] ts j h0 (by omega)
    rw [hcons, odds_cons] at hs
    have hm2 := Int.emod_nonneg (sumI (rd_L1 ts j)) (show (2 : Int) ≠ 0 by decide)
    have hm3 := Int.emod_lt_of_pos (sumI (rd_L1 ts j)) (show (0 : Int) < 2 by decide)
    rw [wr (x := o + _) (by omega) (by omega), wr (x := j + 1) (by omega) (by omega)]
    refine ih _ _ (by omega) (by omega) (by omega) (by omega) ?_
    by_cases c : sumI (rd_L1 ts j) % 2 = 0
    · rw [if_pos c] at hs; omega
    · rw [if_neg c] at hs; omega
theorem AdjacentHalves_ev (n k : Nat) (hn : n ≤ 12) (hk : k ≤ n) : Ev (fun q => impl_AdjacentHalves.f q (n : Int) (k : Int)) ((C n k : Int) - odds (lexC n k 0), (odds (lexC n k 0) : Int), true) := by
  unfold impl_AdjacentHalves.f
  simp only [isChoice_eq, Option.bind_some]
  refine evPos (by simp; omega) (Ev.bind (allCombinations_ev n k hn hk) ?_)
  exact AdjacentHalves_l0 n k hn hk _ (lexC_length n k 0) (lex_small n k hn hk) _ 0 0 (by omega) (by simp; rfl) (by omega) (by omega) (by simp)
theorem FnExactAdjacentHalves : laws_FnExactAdjacentHalves.Pure := by
  intro n k wn wk
  refine Ev.rounds (g := fun q => laws_FnExactAdjacentHalves.f q n k) ?_
  unfold laws_FnExactAdjacentHalves.f
  by_cases h : 0 ≤ n ∧ n ≤ 12 ∧ 0 ≤ k ∧ k ≤ n
  · obtain ⟨N, rfl⟩ := Int.eq_ofNat_of_zero_le h.1
    obtain ⟨K, rfl⟩ := Int.eq_ofNat_of_zero_le h.2.2.1
    refine Ev.bind (spec_AdjacentHalves_ev N K (by omega) (by omega)) (Ev.bind (AdjacentHalves_ev N K (by omega) (by omega)) ?_)
    exact evPos rfl (evPos rfl (evNeg (by simp) (Ev.now _)))
  · have h1 : Ev (fun q => spec_AdjacentHalves.f q n k) (0, 0, false) := by
      unfold spec_AdjacentHalves.f
      simp only [chSize_eq, Option.bind_some]
      exact evNeg (by simpa using h) (Ev.now _)
    have h2 : Ev (fun q => impl_AdjacentHalves.f q n k) (0, 0, false) := by
      unfold impl_AdjacentHalves.f
      simp only [isChoice_eq, Option.bind_some]
      exact evNeg (by simpa using h) (Ev.now _)
    exact Ev.bind h1 (Ev.bind h2 (evPos rfl (evPos rfl (evNeg (by simp) (Ev.now _)))))

end Go.Proofs.Ytcohdpmdgplgfaa.Pure
