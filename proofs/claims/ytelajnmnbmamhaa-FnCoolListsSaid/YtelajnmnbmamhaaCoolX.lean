/- The list by cool steps: its members are different, each a step behind the one before. Plain mathematics: nothing here speaks of the program. -/
import Derived.Test.YtelajnmnbmamhaaGoes
namespace Go.Proofs.Ytelajnmnbmamhaa.CoolX
open Go.Proofs.Ytelajnmnbmamhaa.Base Go.Proofs.Ytelajnmnbmamhaa.Comb Go.Proofs.Ytelajnmnbmamhaa.Goes
set_option linter.unusedVariables false
set_option linter.unusedSimpArgs false

theorem coolL_perm (xs : List Int) : (coolL xs).Perm xs := by
  have h := coolM_bound xs
  unfold coolL
  by_cases c : coolM xs = 0
  · rw [if_pos c, List.length_eq_zero_iff.1 (h.2 c)]
  · rw [if_neg c]
    have hl : coolM xs - 1 < xs.length := by omega
    have e : Go.Proofs.YtelajnmnbmamhaaW.PrintWords.rd xs ((coolM xs : Int) - 1) = xs[coolM xs - 1] := by
      rw [rd_get xs _ (by omega)]
      congr 1; omega
    rw [e]
    have h2 : xs = xs.take (coolM xs - 1) ++ xs[coolM xs - 1] :: xs.drop (coolM xs) := by
      have h3 := List.drop_eq_getElem_cons hl
      rw [show coolM xs - 1 + 1 = coolM xs from by omega] at h3
      rw [← h3, List.take_append_drop]
    exact List.Perm.trans (List.perm_middle.symm) (by rw [← h2])
/-- So many cool steps. -/
def ci : Nat → List Int → List Int
  | 0, l => l
  | i + 1, l => ci i (coolL l)
theorem ci_add (a : Nat) : ∀ (b : Nat) (l : List Int), ci (a + b) l = ci a (ci b l)
  | 0, l => rfl
  | b + 1, l => by rw [← Nat.add_assoc, ci, ci_add a b, ci]
theorem ci_succ (i : Nat) (l : List Int) : ci (i + 1) l = coolL (ci i l) := by
  rw [Nat.add_comm, ci_add]; rfl
theorem ci_perm : ∀ (i : Nat) (l : List Int), (ci i l).Perm l
  | 0, l => List.Perm.refl _
  | i + 1, l => (ci_perm i (coolL l)).trans (coolL_perm l)
theorem run_spec (f : List Int) : ∀ (m : Nat) (l : List Int) (R : List (List Int)), coolRun f m l = some R → (∀ (i : Nat) (h : i < R.length), R[i] = ci i l) ∧ ci R.length l = f ∧ (∀ i, i < R.length → ci i l ≠ f) := by
  intro m
  induction m with
  | zero => intro l R h; simp [coolRun] at h
  | succ m ih =>
    intro l R h
    rw [coolRun] at h
    by_cases c : l = f
    · rw [if_pos c] at h; injection h with h; subst h
      exact ⟨fun i h => by simp at h, c, fun i h => by simp at h⟩
    · rw [if_neg c] at h
      obtain ⟨L1, h1, rfl⟩ := Option.map_eq_some_iff.1 h
      obtain ⟨h2, h3, h4⟩ := ih _ _ h1
      refine ⟨fun i hi => ?_, h3, fun i hi => ?_⟩
      · cases i with
        | zero => rfl
        | succ i => exact h2 i (by simpa using hi)
      · cases i with
        | zero => exact c
        | succ i => exact h4 i (by simpa using hi)
theorem list_get (f : List Int) (m : Nat) (R : List (List Int)) (h : coolRun f m (coolL f) = some R) (i : Nat) (hi : i < (f :: R).length) : (f :: R)[i] = ci i f := by
  cases i with
  | zero => rfl
  | succ i => exact (run_spec f m _ R h).1 i (by simpa using hi)
theorem list_next (f : List Int) (m : Nat) (R : List (List Int)) (h : coolRun f m (coolL f) = some R) (i : Nat) (hi : i < (f :: R).length) :
    coolL (f :: R)[i] = (f :: R)[(i + 1) % (f :: R).length]'(Nat.mod_lt _ (by simp)) := by
  rw [list_get f m R h i hi, ← ci_succ]
  have hl : (f :: R).length = R.length + 1 := rfl
  by_cases c : i + 1 < (f :: R).length
  · have e : (i + 1) % (f :: R).length = i + 1 := Nat.mod_eq_of_lt c
    simp only [e]
    rw [list_get f m R h (i + 1) c]
  · have e : (i + 1) % (f :: R).length = 0 := by rw [show i + 1 = (f :: R).length from by omega, Nat.mod_self]
    simp only [e]
    obtain rfl : i = R.length := by omega
    exact (run_spec f m _ R h).2.1
theorem ci_ne (f : List Int) (m : Nat) (R : List (List Int)) (h : coolRun f m (coolL f) = some R) (i j : Nat) (hij : i < j) (hj : j < (f :: R).length) : ci i f ≠ ci j f := by
  intro e
  have hs := run_spec f m _ R h
  have hl : (f :: R).length = R.length + 1 := rfl
  have h1 : ci (R.length + 1) f = f := hs.2.1
  have h2 : ci (R.length + 1) f = ci (R.length + 1 - j) (ci j f) := by rw [← ci_add]; congr 1; omega
  rw [← e, ← ci_add, h1, show R.length + 1 - j + i = (R.length - j + i) + 1 from by omega] at h2
  exact hs.2.2 (R.length - j + i) (by omega) h2.symm
theorem list_ne (f : List Int) (m : Nat) (R : List (List Int)) (h : coolRun f m (coolL f) = some R) (i j : Nat) (hi : i < (f :: R).length) (hj : j < (f :: R).length) (e : (f :: R)[i] = (f :: R)[j]) : i = j := by
  rw [list_get f m R h i hi, list_get f m R h j hj] at e
  rcases Nat.lt_trichotomy i j with c | c | c
  · exact absurd e (ci_ne f m R h i j c hj)
  · exact c
  · exact absurd e.symm (ci_ne f m R h j i c hi)
/-- Bits. -/
def B01 (l : List Int) : Prop := ∀ x ∈ l, 0 ≤ x ∧ x ≤ 1
theorem B01_perm {a b : List Int} (h : a.Perm b) (hb : B01 b) : B01 a := fun x hx => hb x (h.mem_iff.1 hx)
theorem sumI_perm {a b : List Int} (h : a.Perm b) : sumI a = sumI b := by
  induction h with
  | nil => rfl
  | cons x _ ih => rw [sumI_cons, sumI_cons, ih]
  | swap x y l => simp only [sumI_cons]; omega
  | trans _ _ ih1 ih2 => rw [ih1, ih2]
theorem setBits_B01 : ∀ (l out : List Int), B01 out → B01 (setBits out l)
  | [], out, h => h
  | x :: t, out, h => by
    rw [setBits]
    refine setBits_B01 t _ (fun y hy => ?_)
    rcases List.mem_or_eq_of_mem_set hy with h1 | h1
    · exact h y h1
    · omega
theorem bitsL_B01 (n : Nat) (l : List Int) : B01 (bitsL n l) := setBits_B01 l _ (fun x hx => by have := List.eq_of_mem_replicate hx; omega)
theorem onesI_mem : ∀ (l : List Int) (j x : Int), x ∈ onesI j l → j ≤ x ∧ x < j + l.length
  | [], j, x, h => by simp [onesI] at h
  | b :: t, j, x, h => by
    rw [onesI] at h
    by_cases c : b = 1
    · rw [if_pos c, List.mem_cons] at h
      rcases h with h | h
      · simp; omega
      · have := onesI_mem t (j + 1) x h; simp; omega
    · rw [if_neg c] at h
      have := onesI_mem t (j + 1) x h; simp; omega
theorem onesI_incr : ∀ (l : List Int) (j : Int), incrFrom j (onesI j l) = true
  | [], j => rfl
  | b :: t, j => by
    rw [onesI]
    by_cases c : b = 1
    · rw [if_pos c, incrFrom]; simp [onesI_incr t (j + 1)]
    · rw [if_neg c]; exact incrFrom_mono _ _ _ (by omega) (onesI_incr t (j + 1))
theorem onesI_comb (l : List Int) : comb (l.length : Int) (onesI 0 l) = true := by
  simp only [comb, Bool.and_eq_true, List.all_eq_true, decide_eq_true_eq]
  exact ⟨onesI_incr l 0, fun x hx => by have := onesI_mem l 0 x hx; omega⟩
theorem onesI_inj : ∀ (a b : List Int) (j : Int), B01 a → B01 b → a.length = b.length → onesI j a = onesI j b → a = b
  | [], b, j, _, _, hl, _ => (List.length_eq_zero_iff.1 hl.symm).symm
  | x :: a, [], j, _, _, hl, _ => by simp at hl
  | x :: a, y :: b, j, ha, hb, hl, h => by
    have hx := ha x (by simp)
    have hy := hb y (by simp)
    have ha' : B01 a := fun z hz => ha z (by simp [hz])
    have hb' : B01 b := fun z hz => hb z (by simp [hz])
    have hl' : a.length = b.length := by simpa using hl
    rw [onesI, onesI] at h
    by_cases c : x = 1
    · by_cases d : y = 1
      · rw [if_pos c, if_pos d] at h
        rw [c, d, onesI_inj a b (j + 1) ha' hb' hl' (List.cons.inj h).2]
      · rw [if_pos c, if_neg d] at h
        have : j ∈ onesI (j + 1) b := by rw [← h]; simp
        have := onesI_mem _ _ _ this
        omega
    · by_cases d : y = 1
      · rw [if_neg c, if_pos d] at h
        have : j ∈ onesI (j + 1) a := by rw [h]; simp
        have := onesI_mem _ _ _ this
        omega
      · rw [if_neg c, if_neg d] at h
        rw [show x = y from by omega, onesI_inj a b (j + 1) ha' hb' hl' h]
theorem B01_isBits {l : List Int} (h : B01 l) (hl : l.length ≤ 12) : isBits l = true := by
  simp only [isBits, Bool.and_eq_true, decide_eq_true_eq, List.all_eq_true]
  exact ⟨hl, h⟩
/-- The bits of the places of ones are the bits. -/
theorem setBits_get (l : List Int) : ∀ (out : List Int) (i : Nat) (hi : i < out.length), (∀ x ∈ l, 0 ≤ x) → (setBits out l)[i]'(by rw [setBits_length]; exact hi) = if (i : Int) ∈ l then 1 else out[i] := by
  induction l with
  | nil => intro out i hi _; simp [setBits]
  | cons x t ih =>
    intro out i hi h
    have h0 := h x (by simp)
    simp only [setBits]
    rw [ih (out.set x.toNat 1) i (by simpa using hi) (fun y hy => h y (by simp [hy]))]
    rw [List.getElem_set]
    by_cases c : (i : Int) ∈ t
    · simp [c]
    · rw [if_neg c]
      by_cases d : x.toNat = i
      · rw [if_pos d, if_pos (by simp; left; omega)]
      · rw [if_neg d, if_neg (by simp [c]; omega)]
theorem onesI_has : ∀ (l : List Int) (j : Int) (i : Nat) (hi : i < l.length), (j + i ∈ onesI j l ↔ l[i] = 1)
  | [], j, i, hi => by simp at hi
  | b :: t, j, i, hi => by
    rw [onesI]
    cases i with
    | zero =>
      have hno : j ∉ onesI (j + 1) t := fun h => by have := onesI_mem _ _ _ h; omega
      by_cases c : b = 1 <;> simp [c, hno]
    | succ i =>
      have ih := onesI_has t (j + 1) i (by simpa using hi)
      rw [show j + 1 + (i : Int) = j + ((i + 1 : Nat) : Int) from by push_cast; omega] at ih
      by_cases c : b = 1
      · rw [if_pos c, List.mem_cons, ih]
        simp; omega
      · rw [if_neg c, ih]; simp
theorem bitsL_ones (l : List Int) (h : B01 l) : bitsL l.length (onesI 0 l) = l := by
  refine List.ext_getElem (bitsL_length _ _) (fun i h1 h2 => ?_)
  refine (setBits_get (onesI 0 l) (List.replicate l.length 0) i (by simpa using h2) (fun x hx => (onesI_mem _ _ _ hx).1)).trans ?_
  have h3 := onesI_has l 0 i h2
  rw [Int.zero_add] at h3
  have h4 := h _ (List.getElem_mem h2)
  by_cases c : l[i] = 1
  · rw [if_pos (h3.2 c), c]
  · rw [if_neg (fun e => c (h3.1 e)), List.getElem_replicate]; omega
theorem coolFirst_eq (n k : Nat) (hk : k ≤ n) : coolFirst n k = List.replicate k 1 ++ List.replicate (n - k) 0 := by
  refine List.ext_getElem (by rw [coolFirst_length]; simp; omega) (fun i h1 h2 => ?_)
  rw [coolFirst_length] at h1
  refine (setBits_get (upTo k) (List.replicate n 0) i (by simpa using h1) (fun x hx => (mem_upTo.1 hx).1)).trans ?_
  by_cases c : i < k
  · rw [if_pos (mem_upTo.2 ⟨by omega, by omega⟩), List.getElem_append_left (by simpa using c)]; simp
  · rw [if_neg (fun h => by have := (mem_upTo.1 h).2; omega), List.getElem_append_right (by simp; omega)]; simp
theorem sumI_ones : ∀ (k : Nat) (r : List Int), sumI (List.replicate k 1 ++ r) = k + sumI r
  | 0, r => by simp
  | k + 1, r => by rw [List.replicate_succ, List.cons_append, sumI_cons, sumI_ones k r]; push_cast; omega
theorem sumI_zeros : ∀ (k : Nat), sumI (List.replicate k 0) = 0
  | 0 => rfl
  | k + 1 => by rw [List.replicate_succ, sumI_cons, sumI_zeros k]; rfl
theorem coolFirst_sum (n k : Nat) (hk : k ≤ n) : sumI (coolFirst n k) = k := by
  rw [coolFirst_eq n k hk, sumI_ones, sumI_zeros]; omega
/-- What a member of the list by cool steps is. -/
theorem member (n k : Nat) (hk : k ≤ n) (m : Nat) (R : List (List Int)) (h : coolRun (coolFirst n k) m (coolL (coolFirst n k)) = some R) (i : Nat) (hi : i < (coolFirst n k :: R).length) :
    B01 (coolFirst n k :: R)[i] ∧ (coolFirst n k :: R)[i].length = n ∧ (onesI 0 (coolFirst n k :: R)[i]).length = k := by
  rw [list_get _ m R h i hi]
  have hp := ci_perm i (coolFirst n k)
  have hb : B01 (ci i (coolFirst n k)) := B01_perm hp (bitsL_B01 _ _)
  refine ⟨hb, by rw [hp.length_eq, coolFirst_length], ?_⟩
  have h1 := onesI_length (ci i (coolFirst n k)) 0 hb
  rw [sumI_perm hp, coolFirst_sum n k hk] at h1
  omega
end Go.Proofs.Ytelajnmnbmamhaa.CoolX
