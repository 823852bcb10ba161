import Derived.Test.YtapbbmicfkbafaaFocG
namespace Go.Proofs.Ytapbbmicfkbafaa.FocM
open Go.Proofs.Ytapbbmicfkbafaa.Base Go.Proofs.Ytapbbmicfkbafaa.Foc Go.Proofs.Ytapbbmicfkbafaa.FocB Go.Proofs.Ytapbbmicfkbafaa.FocR Go.Proofs.Ytapbbmicfkbafaa.FocG Go.Proofs.YtapbbmicfkbafaaW.PrintWords
set_option linter.unusedVariables false
set_option linter.unusedSimpArgs false
theorem evOk {α : Type} {o : Option α} {x : α} (h : o = some x) : Ev (fun _ => o) x := h ▸ Ev.now x
theorem all2_of : ∀ (B D : List Int), D.length = B.length → (∀ i (h : i < B.length) (h' : i < D.length), 0 ≤ D[i] ∧ D[i] ≤ B[i] - 1) → all2 B D = true
  | [], [], _, _ => rfl
  | [], _ :: _, h, _ => by simp at h
  | _ :: _, [], h, _ => by simp at h
  | b :: B, d :: D, h, hr => by
    have h0 := hr 0 (by simp) (by simp)
    simp only [List.getElem_cons_zero] at h0
    rw [all2, Bool.and_eq_true, decide_eq_true_eq]
    exact ⟨h0, all2_of B D (by simpa using h) (fun i hi hi' => by have := hr (i + 1) (by simpa using hi) (by simpa using hi'); simpa using this)⟩
theorem st_all2 (cs : List Nat) (hR : Rad cs) (r : Nat) : all2 (bs cs) (st cs r).d = true := by
  refine all2_of _ _ (by rw [bs_length]; exact (st_lens cs r).1) (fun i h h' => ?_)
  have hl := bs_length cs
  have hg := gd_length cs r
  have hd : (st cs r).d = (gd cs r).reverse := rfl
  have h2 : i < (gd cs r).reverse.length := by rw [← hd]; exact h'
  have e1 : (st cs r).d[i] = (gd cs r)[(gd cs r).length - 1 - i]'(by simp at h2; omega) := by
    have : (st cs r).d[i] = (gd cs r).reverse[i] := rfl
    rw [this, List.getElem_reverse]
  have e2 : (bs cs)[i] = (cs[cs.length - 1 - i]'(by omega) : Int) := by
    have h6 : i < (cs.map (fun c : Nat => (c : Int))).reverse.length := h
    have : (bs cs)[i] = (cs.map (fun c : Nat => (c : Int))).reverse[i] := rfl
    refine this.trans ?_
    rw [List.getElem_reverse, List.getElem_map]
    congr 2
    simp
  have hm := gd_mem cs r hR ((gd cs r).length - 1 - i) (by simp at h2; omega)
  have e3 : cs.getD ((gd cs r).length - 1 - i) 0 = cs[cs.length - 1 - i]'(by omega) := by
    rw [hg, getD_get _ _ _ (by omega)]
  rw [e3] at hm
  omega
theorem gF_st (cs : List Nat) (hk : Ok cs) (hf : fob (bs cs) = true) (r : Nat) (hr : r < prod cs) : gF (bs cs) (st cs r).d (st cs r).u (st cs r).p = true := by
  have e : mr (bs cs) (st cs r).d = r := mr_gd cs r hk.rad hr
  unfold gF
  rw [hf, st_all2 cs hk.rad r, csOf_bs, e, Int.toNat_natCast]
  simp
def md : List Int → Int → List Int
  | [], _ => []
  | _ :: B, r => (r / prodI B) :: md B (if (r / prodI B) % 2 = 1 then prodI B - 1 - r % prodI B else r % prodI B)
theorem md_spec : ∀ (B : List Int) (r : Int), (∀ x ∈ B, 2 ≤ x ∧ x ≤ 12) → 0 ≤ r → r < prodI B → all2 B (md B r) = true ∧ mr B (md B r) = r
  | [], r, _, h0, h => by simp [prodI] at h; simp [md, all2, mr]; omega
  | b :: B, r, hx, h0, h => by
    have hP := prodI_pos B (fun x hx' => hx x (by simp [hx']))
    have hb := hx b (by simp)
    rw [prodI] at h
    have hq0 : 0 ≤ r / prodI B := Int.ediv_nonneg h0 (by omega)
    have hq1 : r / prodI B < b := Int.ediv_lt_of_lt_mul (by omega) h
    have hm0 := Int.emod_nonneg r (show prodI B ≠ 0 by omega)
    have hm1 := Int.emod_lt_of_pos r (show 0 < prodI B by omega)
    have hd := Int.mul_ediv_add_emod r (prodI B)
    have hR : 0 ≤ (if (r / prodI B) % 2 = 1 then prodI B - 1 - r % prodI B else r % prodI B) ∧ (if (r / prodI B) % 2 = 1 then prodI B - 1 - r % prodI B else r % prodI B) < prodI B := by split <;> omega
    obtain ⟨i1, i2⟩ := md_spec B _ (fun x hx' => hx x (by simp [hx'])) hR.1 hR.2
    rw [md]
    constructor
    · rw [all2, i1, Bool.and_true, decide_eq_true_eq]
      omega
    · rw [mr]
      simp only [List.getD_cons_zero, List.drop_succ_cons, List.drop_zero]
      rw [i2, Int.mul_comm (r / prodI B) (prodI B)]
      by_cases c : (r / prodI B) % 2 = 1
      · simp only [if_pos c]; omega
      · simp only [if_neg c]; omega
theorem mr_inj : ∀ (B D E : List Int), all2 B D = true → all2 B E = true → mr B D = mr B E → D = E
  | [], [], [], _, _, _ => rfl
  | [], _ :: _, _, h, _, _ => by simp [all2] at h
  | [], [], _ :: _, _, h, _ => by simp [all2] at h
  | _ :: _, [], _, h, _, _ => by simp [all2] at h
  | _ :: _, _ :: _, [], _, h, _ => by simp [all2] at h
  | b :: B, x :: D, y :: E, h, g, e => by
    rw [all2, Bool.and_eq_true, decide_eq_true_eq] at h g
    obtain ⟨h1, h2⟩ := mr_range B D (all2_len B D h.2) (all2_at B D h.2)
    obtain ⟨g1, g2⟩ := mr_range B E (all2_len B E g.2) (all2_at B E g.2)
    simp only [mr, List.getD_cons_zero, List.drop_succ_cons, List.drop_zero] at e
    have hx : 0 ≤ (if x % 2 = 1 then prodI B - 1 - mr B D else mr B D) ∧ (if x % 2 = 1 then prodI B - 1 - mr B D else mr B D) < prodI B := by split <;> omega
    have hy : 0 ≤ (if y % 2 = 1 then prodI B - 1 - mr B E else mr B E) ∧ (if y % 2 = 1 then prodI B - 1 - mr B E else mr B E) < prodI B := by split <;> omega
    have exy : x = y := by
      rcases Int.lt_trichotomy x y with c | c | c
      · have : (x + 1) * prodI B ≤ y * prodI B := Int.mul_le_mul_of_nonneg_right (by omega) (by omega)
        rw [Int.add_mul, Int.one_mul] at this
        omega
      · exact c
      · have : (y + 1) * prodI B ≤ x * prodI B := Int.mul_le_mul_of_nonneg_right (by omega) (by omega)
        rw [Int.add_mul, Int.one_mul] at this
        omega
    subst exy
    have e2 : mr B D = mr B E := by
      by_cases c : x % 2 = 1
      · rw [if_pos c, if_pos c] at e; omega
      · rw [if_neg c, if_neg c] at e; omega
    rw [mr_inj B D E h.2 g.2 e2]
theorem md_st (cs : List Nat) (hk : Ok cs) (r : Nat) (hr : r < prod cs) : md (bs cs) (r : Int) = (st cs r).d := by
  have hx : ∀ x ∈ bs cs, 2 ≤ x ∧ x ≤ 12 := by
    intro x hx
    unfold bs at hx
    rw [List.mem_reverse, List.mem_map] at hx
    obtain ⟨c, hc, rfl⟩ := hx
    have h1 := hk.rad c hc
    have h2 := hk.le c hc
    omega
  obtain ⟨a, b⟩ := md_spec (bs cs) (r : Int) hx (by omega) (by rw [prodI_bs]; exact_mod_cast hr)
  exact mr_inj (bs cs) _ _ a (st_all2 cs hk.rad r) (by rw [b]; exact (mr_gd cs r hk.rad hr).symm)
theorem run_len (cs : List Nat) (h : Ok cs) : ∀ (m r : Nat), r < prod cs → (run cs r m).length = min m (prod cs - 1 - r)
  | 0, r, hr => by simp [run]
  | m + 1, r, hr => by
    rw [run]
    by_cases c : fa cs r < cs.length
    · have c2 := (last_rank cs h r hr).1 c
      rw [if_pos c, List.length_cons, run_len cs h m (r + 1) c2]
      omega
    · have c2 : ¬ r + 1 < prod cs := fun q => c ((last_rank cs h r hr).2 q)
      rw [if_neg c, List.length_nil]
      omega
theorem run_get (cs : List Nat) : ∀ (m r j : Nat) (hj : j < (run cs r m).length), fa cs (r + j) < cs.length ∧ (run cs r m)[j] = (cs.length : Int) - 1 - ((fa cs (r + j) : Nat) : Int)
  | 0, r, j, hj => by simp [run] at hj
  | m + 1, r, j, hj => by
    by_cases c : fa cs r < cs.length
    · have e : run cs r (m + 1) = ((cs.length : Int) - 1 - ((fa cs r : Nat) : Int)) :: run cs (r + 1) m := by rw [run, if_pos c]
      cases j with
      | zero => exact ⟨c, by simp only [e, List.getElem_cons_zero]; rfl⟩
      | succ j =>
        have hj' : j < (run cs (r + 1) m).length := by rw [e] at hj; simpa using hj
        obtain ⟨q1, q2⟩ := run_get cs m (r + 1) j hj'
        rw [show r + (j + 1) = r + 1 + j from by omega]
        exact ⟨q1, by simp only [e, List.getElem_cons_succ]; exact q2⟩
    · exfalso
      rw [run, if_neg c] at hj
      simp at hj
def sumI : List Int → Int
  | [] => 0
  | x :: t => x + sumI t
theorem sum_set : ∀ (l : List Int) (i : Nat) (v : Int), i < l.length → sumI (l.set i v) = sumI l - l.getD i 0 + v
  | [], i, v, h => by simp at h
  | x :: t, 0, v, _ => by simp [sumI]; omega
  | x :: t, i + 1, v, h => by
    have := sum_set t i v (by simpa using h)
    simp only [List.set_cons_succ, sumI, List.getD_cons_succ]
    omega
theorem tally_sum : ∀ (xs acc : List Int), (∀ x ∈ xs, 0 ≤ x ∧ x < acc.length) → sumI (tally acc xs) = sumI acc + xs.length
  | [], acc, _ => by simp [tally]
  | x :: t, acc, h => by
    have hx := h x (by simp)
    rw [tally, tally_sum t _ (fun y hy => by rw [List.length_set]; exact h y (by simp [hy])), sum_set _ _ _ (by omega), List.length_cons]
    have : rd acc x = acc.getD x.toNat 0 := rfl
    rw [this]
    push_cast
    omega
theorem tally_nonneg : ∀ (xs acc : List Int), (∀ y ∈ acc, 0 ≤ y) → ∀ y ∈ tally acc xs, 0 ≤ y
  | [], acc, h, y, hy => h y hy
  | x :: t, acc, h, y, hy => by
    rw [tally] at hy
    refine tally_nonneg t _ (fun z hz => ?_) y hy
    rcases List.mem_or_eq_of_mem_set hz with hz | rfl
    · exact h z hz
    · have : rd acc x = acc.getD x.toNat 0 := rfl
      rw [this]
      rcases Nat.lt_or_ge x.toNat acc.length with c | c
      · rw [getD_get _ _ _ c]; have := h _ (List.getElem_mem c); omega
      · rw [List.getD_eq_getElem?_getD, List.getElem?_eq_none c]; simp
theorem sum_replicate (n : Nat) : sumI (List.replicate n 0) = 0 := by
  induction n with
  | zero => rfl
  | succ n ih => rw [List.replicate_succ, sumI, ih]; rfl
end Go.Proofs.Ytapbbmicfkbafaa.FocM
