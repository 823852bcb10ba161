import Derived.Test.YtmkokfljonbcmaaComb
namespace Go.Proofs.Ytmkokfljonbcmaa.Goes
open Go.Proofs.Ytmkokfljonbcmaa.Base Go.Proofs.Ytmkokfljonbcmaa.Comb
set_option linter.unusedVariables false
set_option linter.unusedSimpArgs false
def lexI : Nat → Int → List Int → Nat
  | _, _, [] => 0
  | 0, _, _ :: _ => 0
  | m + 1, x, y :: t => if y = x then lexI m (x + 1) t else C m t.length + lexI m (x + 1) (y :: t)
theorem lexI_get (m : Nat) : ∀ (l : List Int) (x : Int), incrFrom x l = true → (∀ y ∈ l, y < x + m) → (lexC m l.length x)[lexI m x l]? = some l := by
  induction m with
  | zero =>
    intro l x h hb
    cases l with
    | nil => simp [lexI]
    | cons y t => have := hb y (by simp); have := incrFrom_ge _ _ h y (by simp); omega
  | succ m ih =>
    intro l x h hb
    cases l with
    | nil => simp [lexI]
    | cons y t =>
      have h' := h
      simp only [incrFrom, Bool.and_eq_true, decide_eq_true_eq] at h
      simp only [List.length_cons, lexC, lexI]
      by_cases e : y = x
      · rw [if_pos e]
        have hi := ih t (x + 1) (by rw [← e]; exact h.2) (fun z hz => by have := hb z (by simp [hz]); omega)
        obtain ⟨hlt, _⟩ := List.getElem?_eq_some_iff.1 hi
        rw [List.getElem?_append_left (by simpa using hlt), List.getElem?_map, hi, e]
        rfl
      · rw [if_neg e]
        have hi := ih (y :: t) (x + 1) (by simp only [incrFrom, Bool.and_eq_true, decide_eq_true_eq]; exact ⟨by omega, h.2⟩) (fun z hz => by have := hb z hz; omega)
        rw [List.getElem?_append_right (by simp [lexC_length]), List.length_map, lexC_length, Nat.add_sub_cancel_left]
        exact hi
theorem comb_lexI {n : Nat} {l : List Int} (h : comb n l = true) : (lexC n l.length 0)[lexI n 0 l]? = some l := by
  have h2 := comb_bound h
  simp only [comb, Bool.and_eq_true] at h
  exact lexI_get n l 0 h.1 (fun y hy => by have := h2 y hy; omega)
theorem lexI_inj {n : Nat} {l l' : List Int} (h : comb n l = true) (h' : comb n l' = true) (hl : l.length = l'.length) (e : lexI n 0 l = lexI n 0 l') : l = l' := by
  have h1 := comb_lexI h
  have h2 := comb_lexI h'
  rw [hl, e, h2] at h1
  exact (Option.some.inj h1).symm
theorem lexI_lt {n : Nat} {l : List Int} (h : comb n l = true) : lexI n 0 l < C n l.length := by
  obtain ⟨hlt, _⟩ := List.getElem?_eq_some_iff.1 (comb_lexI h)
  rwa [lexC_length] at hlt
theorem lexC_nodup (m : Nat) : ∀ (k : Nat) (x : Int), (lexC m k x).Nodup := by
  induction m with
  | zero => intro k x; cases k <;> simp [lexC]
  | succ m ih =>
    intro k x
    cases k with
    | zero => simp
    | succ k =>
      rw [lexC, List.nodup_append]
      refine ⟨?_, ih _ _, ?_⟩
      · refine List.Pairwise.map _ (fun a b hab e => hab ?_) (ih k (x + 1))
        injection e
      · intro a ha b hb e
        obtain ⟨t, _, rfl⟩ := List.mem_map.1 ha
        subst e
        have := (lexC_mem m (k + 1) (x + 1) _ hb).2 x (by simp)
        omega
theorem nodup_perm {α : Type} [DecidableEq α] : ∀ (a b : List α), a.Nodup → (∀ x ∈ a, x ∈ b) → b.length ≤ a.length → b.Perm a
  | [], b, _, _, h => by
    obtain rfl : b = [] := List.length_eq_zero_iff.1 (by simpa using h)
    exact List.Perm.refl _
  | x :: a, b, hd, hs, hl => by
    have hx : x ∈ b := hs x (by simp)
    have hp := List.perm_cons_erase hx
    rw [List.nodup_cons] at hd
    have h2 : (b.erase x).Perm a := by
      refine nodup_perm a (b.erase x) hd.2 (fun y hy => ?_) ?_
      · have hne : y ≠ x := fun e => hd.1 (e ▸ hy)
        exact (List.mem_erase_of_ne hne).2 (hs y (by simp [hy]))
      · rw [List.length_erase_of_mem hx]; simp at hl; omega
    exact hp.trans (h2.cons x)
def allL (n k : Nat) (L : List (List Int)) : Bool := ((lexC n k 0).all fun l => decide (l ∈ L)) && decide (L.length = C n k)
theorem allL_iff (n k : Nat) (L : List (List Int)) (hL : ∀ l ∈ L, comb n l = true) : allL n k L = true ↔ ((∀ l ∈ L, l.length = k) ∧ L.Nodup ∧ L.length = C n k) := by
  unfold allL
  rw [Bool.and_eq_true, List.all_eq_true, decide_eq_true_eq]
  constructor
  · intro ⟨h1, h2⟩
    have hp : L.Perm (lexC n k 0) := nodup_perm _ _ (lexC_nodup n k 0) (fun x hx => of_decide_eq_true (h1 x hx)) (by rw [lexC_length]; omega)
    refine ⟨fun l hl => (comb_of_lex (hp.mem_iff.1 hl)).2, hp.nodup_iff.2 (lexC_nodup n k 0), h2⟩
  · intro ⟨h1, h2, h3⟩
    have hp : (lexC n k 0).Perm L := nodup_perm _ _ h2 (fun x hx => by have := comb_mem (hL x hx); rwa [h1 x hx] at this) (by rw [lexC_length]; omega)
    exact ⟨fun x hx => decide_eq_true (hp.mem_iff.1 hx), h3⟩
def nearL (may : Int → Int → Bool) : List (List Int) → Bool
  | [] => true
  | [_] => true
  | a :: b :: T => (exchL a b).2.2 && may (exchL a b).1 (exchL a b).2.1 && nearL may (b :: T)
def gR (n kk : Nat) (may : Int → Int → Bool) : Option (List Int) → List Int → List (List Int) → Bool
  | _, _, [] => true
  | prev, met, l :: T => decide (l.length = kk) && (decide ((lexI n 0 l : Int) ∉ met) && ((match prev with | none => true | some p => (exchL p l).2.2 && may (exchL p l).1 (exchL p l).2.1) && gR n kk may (some l) ((lexI n 0 l : Int) :: met) T))
theorem gR_nil (n kk : Nat) (may : Int → Int → Bool) (prev : Option (List Int)) (met : List Int) : gR n kk may prev met [] = true := by cases prev <;> rfl
theorem gR_cons (n kk : Nat) (may : Int → Int → Bool) (prev : Option (List Int)) (met : List Int) (l : List Int) (T : List (List Int)) : gR n kk may prev met (l :: T) = (decide (l.length = kk) && (decide ((lexI n 0 l : Int) ∉ met) && ((match prev with | none => true | some p => (exchL p l).2.2 && may (exchL p l).1 (exchL p l).2.1) && gR n kk may (some l) ((lexI n 0 l : Int) :: met) T))) := by cases prev <;> rfl
def nearP (may : Int → Int → Bool) : Option (List Int) → List (List Int) → Bool
  | none, T => nearL may T
  | some p, T => nearL may (p :: T)
theorem gR_iff (n kk : Nat) (may : Int → Int → Bool) : ∀ (T : List (List Int)) (prev : Option (List Int)) (met : List Int), gR n kk may prev met T = true ↔ ((∀ l ∈ T, l.length = kk) ∧ (T.map (lexI n 0)).Nodup ∧ (∀ l ∈ T, (lexI n 0 l : Int) ∉ met) ∧ nearP may prev T = true)
  | [], prev, met => by cases prev <;> simp [gR_nil, nearP, nearL]
  | l :: T, prev, met => by
    rw [gR_cons]
    simp only [Bool.and_eq_true, decide_eq_true_eq, gR_iff n kk may T]
    have hn : nearP may prev (l :: T) = ((match prev with | none => true | some p => (exchL p l).2.2 && may (exchL p l).1 (exchL p l).2.1) && nearP may (some l) T) := by
      cases prev with
      | none => simp [nearP]
      | some p => simp [nearP, nearL]
    rw [hn]
    simp only [List.mem_cons, forall_eq_or_imp, List.map_cons, List.nodup_cons, List.mem_map, not_exists, not_and, not_or, Bool.and_eq_true]
    constructor
    · rintro ⟨h1, h2, h3, h4, h5, h6, h7⟩
      exact ⟨⟨h1, h4⟩, ⟨fun x hx e => (h6 x hx).1 (by rw [e]), h5⟩, ⟨h2, fun a ha => (h6 a ha).2⟩, h3, h7⟩
    · rintro ⟨⟨h1, h2⟩, ⟨h3, h4⟩, ⟨h5, h6⟩, h7, h8⟩
      exact ⟨h1, h5, h7, h2, h4, fun a ha => ⟨fun e => h3 a ha (by exact_mod_cast e), h6 a ha⟩, h8⟩
theorem map_lexI_nodup (n kk : Nat) (L : List (List Int)) (hL : ∀ l ∈ L, comb n l = true) (hk : ∀ l ∈ L, l.length = kk) : (L.map (lexI n 0)).Nodup ↔ L.Nodup := by
  unfold List.Nodup
  rw [List.pairwise_map]
  constructor
  · intro h; exact h.imp (fun hab e => hab (by rw [e]))
  · intro h
    exact List.Pairwise.imp_of_mem (fun {a b} ha hb hab e => hab (lexI_inj (hL a ha) (hL b hb) (by rw [hk a ha, hk b hb]) e)) h
theorem goes_all (n kk : Nat) (may : Int → Int → Bool) (L : List (List Int)) (hL : ∀ l ∈ L, comb n l = true) : (gR n kk may none [] L && decide (L.length = C n kk)) = (allL n kk L && nearL may L) := by
  rw [Bool.eq_iff_iff]
  simp only [Bool.and_eq_true, decide_eq_true_eq, gR_iff, allL_iff n kk L hL]
  constructor
  · rintro ⟨⟨h1, h2, _, h4⟩, h5⟩
    exact ⟨⟨h1, (map_lexI_nodup n kk L hL h1).1 h2, h5⟩, h4⟩
  · rintro ⟨⟨h1, h2, h3⟩, h4⟩
    exact ⟨⟨h1, (map_lexI_nodup n kk L hL h1).2 h2, by simp, h4⟩, h3⟩
theorem missL_mem {a b : List Int} {x : Int} : x ∈ missL a b ↔ x ∈ a ∧ x ∉ b := by simp [missL]
theorem exchL_mem (a b : List Int) (h : (exchL a b).2.2 = true) : ((exchL a b).1 ∈ a ∧ (exchL a b).1 ∉ b) ∧ (exchL a b).2.1 ∈ b ∧ (exchL a b).2.1 ∉ a := by
  unfold exchL at h ⊢
  by_cases c1 : ((missL a b).length : Int) = 1
  · rw [if_pos c1] at h ⊢
    by_cases c2 : ((missL b a).length : Int) = 1
    · rw [if_pos c2]
      have h1 : 0 < (missL a b).length := by omega
      have h2 : 0 < (missL b a).length := by omega
      have e1 : Go.Proofs.YtmkokfljonbcmaaW.PrintWords.rd (missL a b) 0 = (missL a b)[0] := rd_get _ 0 h1
      have e2 : Go.Proofs.YtmkokfljonbcmaaW.PrintWords.rd (missL b a) 0 = (missL b a)[0] := rd_get _ 0 h2
      simp only [e1, e2]
      exact ⟨missL_mem.1 (List.getElem_mem h1), missL_mem.1 (List.getElem_mem h2)⟩
    · rw [if_neg c2] at h; cases h
  · rw [if_neg c1] at h; cases h
theorem nearL_congr (p q : Int → Int → Bool) : ∀ (L : List (List Int)), (∀ a ∈ L, ∀ b ∈ L, (exchL a b).2.2 = true → p (exchL a b).1 (exchL a b).2.1 = q (exchL a b).1 (exchL a b).2.1) → nearL p L = nearL q L
  | [], _ => rfl
  | [_], _ => rfl
  | a :: b :: T, h => by
    rw [nearL, nearL, nearL_congr p q (b :: T) (fun x hx y hy => h x (List.mem_cons_of_mem _ hx) y (List.mem_cons_of_mem _ hy))]
    cases he : (exchL a b).2.2 with
    | false => rfl
    | true => rw [h a (by simp) b (by simp) he]
def okCombs (n : Int) (L : List (List Int)) : Bool := (L.all fun l => isComb n l) && (decide (0 ≤ n ∧ n ≤ 12) && decide ((L.length : Int) ≤ 1100))
theorem okCombs_parts {n : Int} {L : List (List Int)} (h : okCombs n L = true) : 0 ≤ n ∧ n ≤ 12 ∧ L.length ≤ 1100 ∧ ∀ t ∈ L, comb n t = true := by
  simp only [okCombs, Bool.and_eq_true, decide_eq_true_eq, List.all_eq_true] at h
  exact ⟨h.2.1.1, h.2.1.2, by omega, fun t ht => (isComb_parts (h.1 t ht)).2.2⟩
end Go.Proofs.Ytmkokfljonbcmaa.Goes
