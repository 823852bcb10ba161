import Derived.Test.YtapbbmicfkbafaaGreatBase
namespace Go.Proofs.YtapbbmicfkbafaaGreat.Foc
set_option linter.unusedVariables false
set_option linter.unusedSimpArgs false
def prod : List Nat → Nat
  | [] => 1
  | c :: cs => c * prod cs
def fa : List Nat → Nat → Nat
  | [], _ => 0
  | c :: cs, r => if r % c = c - 1 then fa cs (r / c) + 1 else 0
def gd : List Nat → Nat → List Int
  | [], _ => []
  | c :: cs, r => (if (r / c) % 2 = 0 then ((r % c : Nat) : Int) else (c : Int) - 1 - ((r % c : Nat) : Int)) :: gd cs (r / c)
def gu : List Nat → Nat → List Bool
  | [], _ => []
  | c :: cs, r => (decide ((r / c) % 2 = 0) != decide (r % c = c - 1)) :: gu cs (r / c)
def gp : Nat → List Nat → Nat → Bool → List Int
  | j, [], _, _ => [(j : Int)]
  | j, c :: cs, r, act => (if act then ((j + fa (c :: cs) r : Nat) : Int) else (j : Int)) :: gp (j + 1) cs (r / c) (decide (r % c ≠ c - 1))
def fin : List Nat → Nat → Bool
  | [], _ => false
  | c :: cs, r => if r % c = c - 1 then fin cs (r / c) else decide (r % c + 1 = c - 1)
def Rad (cs : List Nat) : Prop := ∀ c ∈ cs, 2 ≤ c
theorem Rad.head {c : Nat} {cs : List Nat} (h : Rad (c :: cs)) : 2 ≤ c := h c (List.mem_cons_self ..)
theorem Rad.tail {c : Nat} {cs : List Nat} (h : Rad (c :: cs)) : Rad cs := fun d hd => h d (List.mem_cons_of_mem _ hd)
theorem gd_length : ∀ (cs : List Nat) (r : Nat), (gd cs r).length = cs.length
  | [], _ => rfl
  | c :: cs, r => by simp [gd, gd_length cs]
theorem gu_length : ∀ (cs : List Nat) (r : Nat), (gu cs r).length = cs.length
  | [], _ => rfl
  | c :: cs, r => by simp [gu, gu_length cs]
theorem gp_length : ∀ (cs : List Nat) (j r : Nat) (a : Bool), (gp j cs r a).length = cs.length + 1
  | [], _, _, _ => rfl
  | c :: cs, j, r, a => by simp [gp, gp_length cs]
theorem prod_pos : ∀ (cs : List Nat), Rad cs → 0 < prod cs
  | [], _ => by simp [prod]
  | c :: cs, h => Nat.mul_pos (by have := h.head; omega) (prod_pos cs h.tail)
theorem next_end {c r : Nat} (h : 2 ≤ c) (e : r % c = c - 1) : (r + 1) % c = 0 ∧ (r + 1) / c = r / c + 1 := by
  have hd := Nat.div_add_mod r c
  have h1 : r + 1 = c * (r / c + 1) := by rw [Nat.mul_add, Nat.mul_one]; omega
  rw [h1]
  exact ⟨Nat.mul_mod_right _ _, Nat.mul_div_cancel_left _ (by omega)⟩
theorem next_in {c r : Nat} (h : 2 ≤ c) (e : ¬ r % c = c - 1) : (r + 1) % c = r % c + 1 ∧ (r + 1) / c = r / c := by
  have hd := Nat.div_add_mod r c
  have hl := Nat.mod_lt r (show 0 < c by omega)
  have h1 : r + 1 = (r % c + 1) + c * (r / c) := by omega
  have h2 : r % c + 1 < c := by omega
  constructor
  · rw [h1, Nat.add_mul_mod_self_left, Nat.mod_eq_of_lt h2]
  · rw [h1, Nat.add_mul_div_left _ _ (by omega), Nat.div_eq_of_lt h2]; omega
theorem fa_lt : ∀ (cs : List Nat) (r : Nat), Rad cs → r + 1 < prod cs → fa cs r < cs.length
  | [], r, _, h => by simp [prod] at h
  | c :: cs, r, hR, h => by
    rw [fa]
    by_cases e : r % c = c - 1
    · rw [if_pos e]
      have := fa_lt cs (r / c) hR.tail (by
        have h2 := (next_end hR.head e).2
        rw [prod] at h
        have : (r + 1) / c < prod cs := Nat.div_lt_of_lt_mul h
        omega)
      simp; omega
    · rw [if_neg e]; simp
theorem fa_full : ∀ (cs : List Nat) (r : Nat), Rad cs → r + 1 = prod cs → fa cs r = cs.length
  | [], r, _, h => rfl
  | c :: cs, r, hR, h => by
    rw [fa]
    rw [prod] at h
    have hc := hR.head
    have hp := prod_pos cs hR.tail
    have e : r % c = c - 1 := by
      by_cases e : r % c = c - 1
      · exact e
      · have := (next_in hc e).1
        rw [h, Nat.mul_mod_right] at this; omega
    have h2 := (next_end hc e).2
    rw [h, Nat.mul_div_cancel_left _ (by omega)] at h2
    rw [if_pos e, fa_full cs (r / c) hR.tail h2.symm]; simp
theorem gd_step : ∀ (cs : List Nat) (r : Nat), Rad cs → fa cs r < cs.length → ∃ (h1 : fa cs r < (gd cs r).length) (h2 : fa cs r < (gu cs r).length),
    gd cs (r + 1) = (gd cs r).set (fa cs r) (if (gu cs r)[fa cs r] then (gd cs r)[fa cs r] + 1 else (gd cs r)[fa cs r] - 1)
    ∧ ((if (gu cs r)[fa cs r] then (gd cs r)[fa cs r] + 1 else (gd cs r)[fa cs r] - 1) = 0 ∨ (if (gu cs r)[fa cs r] then (gd cs r)[fa cs r] + 1 else (gd cs r)[fa cs r] - 1) = (cs.getD (fa cs r) 0 : Int) - 1 ↔ fin cs r = true)
    ∧ gu cs (r + 1) = (if fin cs r then (gu cs r).set (fa cs r) (!(gu cs r)[fa cs r]) else gu cs r)
  | [], r, _, h => by simp at h
  | c :: cs, r, hR, h => by
    have hc := hR.head
    by_cases e : r % c = c - 1
    · have ef : fa (c :: cs) r = fa cs (r / c) + 1 := by rw [fa, if_pos e]
      have efin : fin (c :: cs) r = fin cs (r / c) := by rw [fin, if_pos e]
      rw [ef] at h
      obtain ⟨h1, h2, h3, h4, h5⟩ := gd_step cs (r / c) hR.tail (by simpa using h)
      obtain ⟨n1, n2⟩ := next_end hc e
      refine ⟨by rw [ef, gd_length]; simpa using h, by rw [ef, gu_length]; simpa using h, ?_, ?_, ?_⟩
      · simp only [ef, gd, gu, List.getElem_cons_succ, List.set_cons_succ, n1, n2]
        rw [h3]
        congr 1
        rw [e]
        by_cases p : r / c % 2 = 0
        · rw [if_pos p, if_neg (by omega)]; omega
        · rw [if_neg p, if_pos (by omega)]; omega
      · simp only [ef, gd, gu, List.getElem_cons_succ, List.getD_cons_succ, efin]
        exact h4
      · simp only [ef, gu, n1, n2, efin, List.getElem_cons_succ, List.set_cons_succ]
        rw [h5]
        have hh : (decide ((r / c + 1) % 2 = 0) != decide (0 = c - 1)) = (decide (r / c % 2 = 0) != decide (r % c = c - 1)) := by
          rw [decide_eq_true e, decide_eq_false (show ¬ 0 = c - 1 by omega)]
          by_cases p : r / c % 2 = 0
          · rw [decide_eq_true p, decide_eq_false (by omega)]; rfl
          · rw [decide_eq_false p, decide_eq_true (by omega)]; rfl
        rw [hh]
        cases fin cs (r / c) <;> simp
    · have ef : fa (c :: cs) r = 0 := by rw [fa, if_neg e]
      have efin : fin (c :: cs) r = decide (r % c + 1 = c - 1) := by rw [fin, if_neg e]
      obtain ⟨n1, n2⟩ := next_in hc e
      have hl := Nat.mod_lt r (show 0 < c by omega)
      refine ⟨by rw [ef]; simp [gd], by rw [ef]; simp [gu], ?_, ?_, ?_⟩
      · simp only [ef, gd, gu, List.getElem_cons_zero, List.set_cons_zero, n1, n2, decide_eq_false e]
        congr 1
        by_cases p : r / c % 2 = 0
        · simp [p]
        · simp [p]; omega
      · simp only [ef, gd, gu, List.getElem_cons_zero, List.getD_cons_zero, efin, decide_eq_false e, decide_eq_true_eq]
        by_cases p : r / c % 2 = 0
        · simp [p]; omega
        · simp [p]; omega
      · simp only [ef, gu, n1, n2, efin, decide_eq_false e, List.getElem_cons_zero, List.set_cons_zero]
        by_cases q : r % c + 1 = c - 1
        · simp [q]
        · simp [q]
theorem gp_step : ∀ (cs : List Nat) (j r : Nat), Rad cs → fa cs r < cs.length → ∃ (h1 : fa cs r + 1 < (gp j cs r false).length),
    gp j cs (r + 1) true = (if fin cs r then ((gp j cs r false).set (fa cs r) (gp j cs r false)[fa cs r + 1]).set (fa cs r + 1) ((j + fa cs r + 1 : Nat) : Int) else gp j cs r false)
  | [], j, r, _, h => by simp at h
  | c :: cs, j, r, hR, h => by
    have hc := hR.head
    by_cases e : r % c = c - 1
    · have ef : fa (c :: cs) r = fa cs (r / c) + 1 := by rw [fa, if_pos e]
      have efin : fin (c :: cs) r = fin cs (r / c) := by rw [fin, if_pos e]
      rw [ef] at h
      obtain ⟨h1, h3⟩ := gp_step cs (j + 1) (r / c) hR.tail (by simpa using h)
      obtain ⟨n1, n2⟩ := next_end hc e
      refine ⟨by rw [ef, gp_length]; simp at h ⊢; omega, ?_⟩
      have ef1 : fa (c :: cs) (r + 1) = 0 := by rw [fa, n1, if_neg (by omega)]
      simp only [gp, ef, ef1, n1, n2, efin, List.getElem_cons_succ, List.set_cons_succ, decide_not, decide_eq_true e, decide_eq_false (show ¬ 0 = c - 1 by omega)]
      simp only [Bool.not_false, Bool.not_true, if_true, Nat.add_zero]
      rw [h3]
      cases fin cs (r / c)
      · simp
      · simp only [if_true]
        rw [show j + 1 + fa cs (r / c) + 1 = j + (fa cs (r / c) + 1) + 1 from by omega]
        rfl
    · have ef : fa (c :: cs) r = 0 := by rw [fa, if_neg e]
      have efin : fin (c :: cs) r = decide (r % c + 1 = c - 1) := by rw [fin, if_neg e]
      obtain ⟨n1, n2⟩ := next_in hc e
      have hl := Nat.mod_lt r (show 0 < c by omega)
      refine ⟨by rw [ef, gp_length]; simp, ?_⟩
      by_cases q : r % c + 1 = c - 1
      · have ef1 : fa (c :: cs) (r + 1) = fa cs (r / c) + 1 := by rw [fa, n1, if_pos q, n2]
        simp only [gp, ef, ef1, n1, n2, efin, decide_eq_true q, if_true, decide_not, decide_eq_false e, Bool.not_false, Bool.not_true, List.getElem_cons_succ, List.set_cons_zero, List.set_cons_succ]
        cases cs with
        | nil => simp [gp, fa]
        | cons c2 cs2 =>
          simp only [gp, List.getElem_cons_zero, List.set_cons_zero]
          simp
          omega
      · have ef1 : fa (c :: cs) (r + 1) = 0 := by rw [fa, n1, if_neg q]
        simp [gp, ef, ef1, n1, n2, efin, q, e]
theorem gp_head (cs : List Nat) (r : Nat) : ∃ t, gp 0 cs r true = ((fa cs r : Nat) : Int) :: t := by
  cases cs with
  | nil => exact ⟨[], rfl⟩
  | cons c cs => exact ⟨_, by simp [gp]; rfl⟩
theorem gp_false (cs : List Nat) (r : Nat) : (gp 0 cs r true).set 0 0 = gp 0 cs r false := by
  cases cs with
  | nil => rfl
  | cons c cs => simp [gp]
theorem gd_zero : ∀ (cs : List Nat), Rad cs → gd cs 0 = List.replicate cs.length 0
  | [], _ => rfl
  | c :: cs, h => by simp [gd, List.replicate_succ, gd_zero cs h.tail]
theorem gu_zero : ∀ (cs : List Nat), Rad cs → gu cs 0 = List.replicate cs.length true
  | [], _ => rfl
  | c :: cs, h => by
    have h2 := h.head
    have e : decide (0 = c - 1) = false := decide_eq_false (by omega)
    simp [gu, List.replicate_succ, gu_zero cs h.tail]
    exact e
theorem fa_zero : ∀ (cs : List Nat), Rad cs → fa cs 0 = 0
  | [], _ => rfl
  | c :: cs, h => by
    have := h.head
    rw [fa, if_neg (by simp; omega)]
theorem gp_zero : ∀ (cs : List Nat) (j : Nat) (a : Bool), Rad cs → gp j cs 0 a = (List.range' j (cs.length + 1)).map (fun i : Nat => (i : Int))
  | [], j, a, _ => rfl
  | c :: cs, j, a, h => by
    have h2 := h.head
    rw [gp, fa_zero _ h, List.length_cons, List.range'_succ, List.map_cons, Nat.zero_div, gp_zero cs (j + 1) _ h.tail]
    simp
theorem gd_mem : ∀ (cs : List Nat) (r : Nat), Rad cs → ∀ (i : Nat) (h : i < (gd cs r).length), 0 ≤ (gd cs r)[i] ∧ (gd cs r)[i] ≤ (cs.getD i 0 : Int) - 1
  | [], r, _, i, h => by simp [gd] at h
  | c :: cs, r, hR, i, h => by
    have hc := hR.head
    have hl := Nat.mod_lt r (show 0 < c by omega)
    cases i with
    | zero => simp only [gd, List.getElem_cons_zero, List.getD_cons_zero]; split <;> omega
    | succ i => simp only [gd, List.getElem_cons_succ, List.getD_cons_succ]; exact gd_mem cs (r / c) hR.tail i _
theorem set_rev {α : Type} (l : List α) (j : Nat) (v : α) (h : j < l.length) : l.reverse.set (l.length - 1 - j) v = (l.set j v).reverse := by
  apply List.ext_getElem
  · simp
  · intro i h1 h2
    simp at h1 h2
    rw [List.getElem_set, List.getElem_reverse, List.getElem_reverse, List.getElem_set]
    simp
    by_cases e : l.length - 1 - j = i
    · rw [if_pos e, if_pos (by omega)]
    · rw [if_neg e, if_neg (by omega)]
theorem get_rev {α : Type} (l : List α) (j : Nat) (h : j < l.length) : l.reverse[l.length - 1 - j]'(by simp; omega) = l[j] := by
  rw [List.getElem_reverse]
  congr 1
  omega
structure Fo where
  d : List Int
  u : List Bool
  p : List Int
def st (cs : List Nat) (r : Nat) : Fo := ⟨(gd cs r).reverse, (gu cs r).reverse, gp 0 cs r true⟩
def step (b : List Int) (s : Fo) (j : Nat) : Fo :=
  let i := b.length - 1 - j
  let p0 := s.p.set 0 0
  let x := if s.u.getD i false then s.d.getD i 0 + 1 else s.d.getD i 0 - 1
  if x = 0 ∨ x = b.getD i 0 - 1 then ⟨s.d.set i x, s.u.set i (!s.u.getD i false), (p0.set j (p0.getD (j + 1) 0)).set (j + 1) ((j : Int) + 1)⟩
  else ⟨s.d.set i x, s.u, p0⟩
def bs (cs : List Nat) : List Int := (cs.map (fun c : Nat => (c : Int))).reverse
theorem bs_length (cs : List Nat) : (bs cs).length = cs.length := by simp [bs]
theorem getD_get {α : Type} (l : List α) (i : Nat) (z : α) (h : i < l.length) : l.getD i z = l[i] := by
  rw [List.getD_eq_getElem?_getD, List.getElem?_eq_getElem h]; rfl
theorem st_step (cs : List Nat) (r : Nat) (hR : Rad cs) (h : fa cs r < cs.length) : st cs (r + 1) = step (bs cs) (st cs r) (fa cs r) := by
  obtain ⟨h1, h2, e1, e2, e3⟩ := gd_step cs r hR h
  obtain ⟨h3, e4⟩ := gp_step cs 0 r hR h
  have hb : (bs cs).length - 1 - fa cs r = (gd cs r).length - 1 - fa cs r := by rw [bs_length, gd_length]
  have hb2 : (gd cs r).length - 1 - fa cs r = (gu cs r).length - 1 - fa cs r := by rw [gu_length, gd_length]
  have hu : (gu cs r).reverse.getD ((gu cs r).length - 1 - fa cs r) false = (gu cs r)[fa cs r] := by
    rw [getD_get _ _ _ (by simp; omega), get_rev _ _ h2]
  have hd : (gd cs r).reverse.getD ((gd cs r).length - 1 - fa cs r) 0 = (gd cs r)[fa cs r] := by
    rw [getD_get _ _ _ (by simp; omega), get_rev _ _ h1]
  have hbb : (bs cs).getD ((gd cs r).length - 1 - fa cs r) 0 = (cs.getD (fa cs r) 0 : Int) := by
    have h5 : fa cs r < (cs.map (fun c : Nat => (c : Int))).length := by simpa using h
    have : (bs cs).getD ((cs.map (fun c : Nat => (c : Int))).length - 1 - fa cs r) 0 = (cs.map (fun c : Nat => (c : Int)))[fa cs r] := by
      unfold bs
      rw [getD_get _ _ _ (by simp; simp at h5; omega), get_rev _ _ h5]
    rw [List.length_map] at this
    rw [gd_length, this, getD_get _ _ _ h]
    simp
  unfold st step
  simp only [hb, hd, hbb]
  rw [hb2]
  simp only [hu]
  rw [← hb2, gp_false, e1, e3, e4]
  by_cases c : fin cs r = true
  · rw [if_pos (e2.2 c)]
    simp only [c, if_true]
    rw [set_rev _ _ _ h1, hb2, set_rev _ _ _ h2, getD_get _ _ _ h3]
    simp
  · rw [if_neg (fun e => c (e2.1 e))]
    simp only [Bool.not_eq_true] at c
    simp only [c, Bool.false_eq_true, if_false]
    rw [set_rev _ _ _ h1]
theorem st_head (cs : List Nat) (r : Nat) : (st cs r).p.getD 0 0 = (fa cs r : Int) := by
  obtain ⟨t, e⟩ := gp_head cs r
  simp [st, e]
def prodI : List Int → Int
  | [] => 1
  | b :: B => b * prodI B
def mr : List Int → List Int → Int
  | [], _ => 0
  | b :: B, D => D.getD 0 0 * prodI B + (if D.getD 0 0 % 2 = 1 then prodI B - 1 - mr B (D.drop 1) else mr B (D.drop 1))
theorem prodI_snoc : ∀ (B : List Int) (c : Int), prodI (B ++ [c]) = prodI B * c
  | [], c => by simp [prodI]
  | b :: B, c => by rw [List.cons_append, prodI, prodI, prodI_snoc B c, Int.mul_assoc]
theorem mr_range : ∀ (B D : List Int), D.length = B.length → (∀ i (h : i < B.length) (h' : i < D.length), 0 ≤ D[i] ∧ D[i] ≤ B[i] - 1) → 0 ≤ mr B D ∧ mr B D < prodI B
  | [], D, _, _ => by simp [mr, prodI]
  | b :: B, [], h, _ => by simp at h
  | b :: B, x :: D, h, hr => by
    have h0 := hr 0 (by simp) (by simp)
    simp only [List.getElem_cons_zero] at h0
    obtain ⟨h1, h2⟩ := mr_range B D (by simpa using h) (fun i hi hi' => by have := hr (i + 1) (by simpa using hi) (by simpa using hi'); simpa using this)
    simp only [mr, prodI, List.getD_cons_zero, List.drop_succ_cons, List.drop_zero]
    have h3 : x * prodI B ≤ (b - 1) * prodI B := Int.mul_le_mul_of_nonneg_right (by omega) (by omega)
    rw [Int.sub_mul, Int.one_mul] at h3
    have h4 : 0 ≤ x * prodI B := Int.mul_nonneg h0.1 (by omega)
    split <;> omega
theorem mr_snoc : ∀ (B D : List Int) (c x : Int), D.length = B.length → mr (B ++ [c]) (D ++ [x]) = mr B D * c + (if mr B D % 2 = 0 then x else c - 1 - x)
  | [], D, c, x, h => by
    obtain rfl : D = [] := List.length_eq_zero_iff.1 (by simpa using h)
    simp [mr, prodI]
  | b :: B, [], c, x, h => by simp at h
  | b :: B, y :: D, c, x, h => by
    have ih := mr_snoc B D c x (by simpa using h)
    simp only [List.cons_append, mr, List.getD_cons_zero, List.drop_succ_cons, List.drop_zero, prodI_snoc]
    rw [ih]
    generalize mr B D = r
    generalize prodI B = q
    have e1 : y * (q * c) = y * q * c := (Int.mul_assoc ..).symm
    by_cases hy : y % 2 = 1
    · rw [if_pos hy, if_pos hy]
      have hp : (y * q + (q - 1 - r)) % 2 = (1 + r) % 2 := by
        obtain ⟨k, hk⟩ : ∃ k, y = 2 * k + 1 := ⟨y / 2, by omega⟩
        have : y * q + (q - 1 - r) = 2 * (k * q + q - 1 - r) + (1 + r) := by
          rw [hk, Int.add_mul, Int.mul_assoc]; omega
        omega
      have e2 : (y * q + (q - 1 - r)) * c = y * q * c + q * c - c - r * c := by
        rw [Int.add_mul, Int.sub_mul, Int.sub_mul]; omega
      rw [e2, e1]
      by_cases hr : r % 2 = 0
      · rw [if_pos hr, if_neg (by omega)]; omega
      · rw [if_neg hr, if_pos (by omega)]; omega
    · rw [if_neg hy, if_neg hy]
      have hp : (y * q + r) % 2 = r % 2 := by
        obtain ⟨k, hk⟩ : ∃ k, y = 2 * k := ⟨y / 2, by omega⟩
        have : y * q + r = 2 * (k * q) + r := by rw [hk, Int.mul_assoc]
        omega
      rw [hp, e1, Int.add_mul]
      split <;> omega
theorem mr_gd : ∀ (cs : List Nat) (r : Nat), Rad cs → r < prod cs → mr (bs cs) (gd cs r).reverse = r
  | [], r, _, h => by
    have : r = 0 := by simp [prod] at h; omega
    subst this; rfl
  | c :: cs, r, hR, h => by
    have hc := hR.head
    have hq : r / c < prod cs := Nat.div_lt_of_lt_mul h
    have ih := mr_gd cs (r / c) hR.tail hq
    have hb : bs (c :: cs) = bs cs ++ [(c : Int)] := by simp [bs]
    rw [hb, gd, List.reverse_cons, mr_snoc _ _ _ _ (by simp [gd_length, bs_length]), ih]
    have hd := Nat.div_add_mod r c
    have hm : ((r / c : Nat) : Int) * (c : Int) + ((r % c : Nat) : Int) = r := by
      have : (r / c) * c + r % c = r := by rw [Nat.mul_comm]; exact hd
      exact_mod_cast this
    by_cases p : r / c % 2 = 0
    · rw [if_pos p, if_pos (by omega)]; exact hm
    · rw [if_neg p, if_neg (by omega)]; omega
theorem prodI_bs : ∀ (cs : List Nat), prodI (bs cs) = prod cs
  | [] => rfl
  | c :: cs => by
    have hb : bs (c :: cs) = bs cs ++ [(c : Int)] := by simp [bs]
    rw [hb, prodI_snoc, prodI_bs cs, prod]
    push_cast
    rw [Int.mul_comm]
end Go.Proofs.YtapbbmicfkbafaaGreat.Foc
