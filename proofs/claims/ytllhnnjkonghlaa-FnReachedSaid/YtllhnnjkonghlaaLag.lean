import Derived.Test.YtllhnnjkonghlaaPerm5
import Derived.Test.YtllhnnjkonghlaaPmX
namespace Go.Proofs.Ytllhnnjkonghlaa.Lag
open Go.RowKit Go.Proofs.YtllhnnjkonghlaaW.PrintWords Go.Proofs.Ytllhnnjkonghlaa.Base Go.Proofs.Ytllhnnjkonghlaa.Moves Go.Proofs.Ytllhnnjkonghlaa.Perms Go.Proofs.Ytllhnnjkonghlaa.Perm5 Go.Proofs.Ytllhnnjkonghlaa.Sgn Go.Proofs.Ytllhnnjkonghlaa.PmX
set_option linter.unusedVariables false
set_option linter.unusedSimpArgs false
theorem parts {α : Type} (R : α → α → Bool) (hs : ∀ a b, R a b = true → R b a = true) (ht : ∀ a b c, R a b = true → R b c = true → R a c = true) (d : Nat) : ∀ (k : Nat) (X : List α), X.length ≤ k → (∀ x ∈ X, R x x = true) → (∀ x ∈ X, (X.filter (R x)).length = d) → d ∣ X.length := by
  intro k
  induction k with
  | zero =>
    intro X hk hr hd
    rw [show X.length = 0 from by omega]
    exact Nat.dvd_zero d
  | succ k ih =>
    intro X hk hr hd
    cases X with
    | nil => exact Nat.dvd_zero d
    | cons x t =>
      generalize hX : x :: t = X at *
      have hx : x ∈ X := by rw [← hX]; simp
      have e1 : X.length = (X.filter (R x)).length + (X.filter (fun y => !R x y)).length := by
        have h := List.length_eq_countP_add_countP (R x) (l := X)
        rw [List.countP_eq_length_filter, List.countP_eq_length_filter] at h
        have e : (fun a => decide ¬R x a = true) = (fun y => !R x y) := by funext y; cases R x y <;> rfl
        rw [e] at h
        exact h
      have hpos : 0 < (X.filter (R x)).length := List.length_pos_of_mem (List.mem_filter.2 ⟨hx, hr x hx⟩)
      have h2 : d ∣ (X.filter (fun y => !R x y)).length := by
        refine ih _ (by omega) (fun y hy => hr y (List.mem_filter.1 hy).1) (fun y hy => ?_)
        have hy2 := List.mem_filter.1 hy
        rw [← hd y hy2.1, List.filter_filter]
        congr 1
        refine List.filter_congr (fun z hz => ?_)
        cases c1 : R y z
        · simp
        · cases c2 : R x z
          · simp
          · have h3 := ht x z y c2 (hs y z c1)
            rw [h3] at hy2
            simp at hy2
      rw [e1, hd x hx]
      exact Nat.dvd_add (Nat.dvd_refl d) h2
inductive Rch (G : Int → Int → Int → Prop) : List Int → List Int → Prop
  | refl (l : List Int) : Rch G l l
  | step {l l' : List Int} (a b c : Int) (g : G a b c) (h : Rch G l l') : Rch G l (mv l' a b c)
theorem Rch.trans {G : Int → Int → Int → Prop} {l m n : List Int} (h : Rch G l m) (h2 : Rch G m n) : Rch G l n := by
  induction h2 with
  | refl => exact h
  | step a b c g _ ih => exact .step a b c g ih
theorem Rch.length {G : Int → Int → Int → Prop} {l m : List Int} (h : Rch G l m) : m.length = l.length := by
  induction h with
  | refl => rfl
  | step a b c g _ ih => rw [mv_length]; exact ih
theorem mvN_rch {G : Int → Int → Int → Prop} (a b c : Int) (g : G a b c) : ∀ (k : Nat) (l m : List Int), Rch G l m → Rch G l (mvN a b c k m)
  | 0, l, m, h => h
  | k + 1, l, m, h => mvN_rch a b c g k l _ (.step a b c g h)
theorem Rch.symm {G : Int → Int → Int → Prop} {n : Nat} (hG : ∀ a b c, G a b c → Mgood n a b c) {l m : List Int} (h : Rch G l m) (hl : l.length = n) : Rch G m l := by
  induction h with
  | refl => exact .refl _
  | @step m a b c g h ih =>
    have hm : m.length = n := by rw [h.length]; exact hl
    have hg := hG a b c g
    have h1 := mvN_ord m a b c (by rw [hm]; exact hg)
    have h2 : ∃ k, ord a b = k + 1 := ⟨ord a b - 1, by
      have : 0 < ord a b := by unfold ord; unfold Mgood at hg; split <;> omega
      omega⟩
    obtain ⟨k, hk⟩ := h2
    rw [hk, mvN] at h1
    have h3 := mvN_rch (G := G) a b c g k (mv m a b c) (mv m a b c) (.refl _)
    rw [h1] at h3
    exact h3.trans ih
theorem mv_map (f : Int → Int) (l : List Int) (a b c : Int) (hg : Mgood l.length a b c) : mv (l.map f) a b c = (mv l a b c).map f := by
  unfold mv
  by_cases h0 : a = 0
  · rw [if_pos h0, if_pos h0]
    have hb : b.toNat < l.length ∧ c.toNat < l.length := by unfold Mgood at hg; omega
    rw [List.map_set, List.map_set, rd_get _ _ (show c.toNat < (l.map f).length by simpa using hb.2), rd_get _ _ (show b.toNat < (l.map f).length by simpa using hb.1), rd_get _ _ hb.1, rd_get _ _ hb.2]
    simp
  · rw [if_neg h0, if_neg h0]
    by_cases h1 : a = 1
    · rw [if_pos h1, if_pos h1]; simp
    · rw [if_neg h1, if_neg h1]; simp
theorem Rch.map {G : Int → Int → Int → Prop} {n : Nat} (hG : ∀ a b c, G a b c → Mgood n a b c) (f : Int → Int) {l m : List Int} (h : Rch G l m) (hl : l.length = n) : Rch G (l.map f) (m.map f) := by
  induction h with
  | refl => exact .refl _
  | @step m a b c g h ih =>
    rw [← mv_map f m a b c (by rw [h.length, hl]; exact hG a b c g)]
    exact .step a b c g ih
theorem Rch.pm {G : Int → Int → Int → Prop} {n : Nat} (hG : ∀ a b c, G a b c → Mgood n a b c) {l m : List Int} (h : Rch G l m) (hl : isPm l = true ∧ l.length = n) : isPm m = true ∧ m.length = n := by
  induction h with
  | refl => exact hl
  | @step m a b c g h ih => exact ⟨isPm_mvX ih.1 a b c (by rw [ih.2]; exact hG a b c g), by rw [mv_length]; exact ih.2⟩
theorem map_rd (x : List Int) : (upTo x.length).map (rd x) = x := by
  refine List.ext_getElem (by simp [upTo_length]) (fun i h1 h2 => ?_)
  rw [List.getElem_map, upTo_get _ _ h2, rd_get _ _ (by simpa using h2)]
  simp
theorem rd_inj {x : List Int} (hd : x.Nodup) {i j : Int} (hi : 0 ≤ i ∧ i < x.length) (hj : 0 ≤ j ∧ j < x.length) (e : rd x i = rd x j) : i = j := by
  rw [rd_get _ _ (by omega), rd_get _ _ (by omega)] at e
  have := (List.getElem_inj hd).1 e
  omega
theorem map_rd_inj {n : Nat} {x p q : List Int} (hx : isPm x = true ∧ x.length = n) (hp : isPm p = true ∧ p.length = n) (hq : isPm q = true ∧ q.length = n) (e : p.map (rd x) = q.map (rd x)) : p = q := by
  refine List.ext_getElem (by omega) (fun i h1 h2 => ?_)
  have e2 : (p.map (rd x))[i]'(by simpa using h1) = (q.map (rd x))[i]'(by simpa using h2) := by simp only [e]
  rw [List.getElem_map, List.getElem_map] at e2
  have hpi := mem_upTo.1 ((isPm_perm hp.1).2.mem_iff.1 (List.getElem_mem h1))
  have hqi := mem_upTo.1 ((isPm_perm hq.1).2.mem_iff.1 (List.getElem_mem h2))
  exact rd_inj (isPm_nodup hx.1) (by omega) (by omega) e2
def allP (n : Nat) : List (List Int) := (List.range (facN n)).map (PA n)
theorem allP_length (n : Nat) : (allP n).length = facN n := by simp [allP]
theorem mem_allP {n : Nat} (hn : n ≤ 5) {l : List Int} : l ∈ allP n ↔ isPm l = true ∧ l.length = n := by
  unfold allP
  rw [List.mem_map]
  constructor
  · rintro ⟨r, hr, rfl⟩
    exact isPm_PA hn (List.mem_range.1 hr)
  · intro ⟨h1, h2⟩
    exact ⟨rk l, List.mem_range.2 (PA_of hn h1 h2).1, (PA_of hn h1 h2).2⟩
theorem PA_inj {n : Nat} (hn : n ≤ 5) {r s : Nat} (hr : r < facN n) (hs : s < facN n) (e : PA n r = PA n s) : r = s := by
  rw [← (PA_rk n r hn hr).2, ← (PA_rk n s hn hs).2, e]
theorem map_PA_nodup {n : Nat} (hn : n ≤ 5) (R : List Nat) (hR : ∀ r ∈ R, r < facN n) (hd : R.Nodup) : (R.map (PA n)).Nodup := by
  unfold List.Nodup
  rw [List.pairwise_map]
  exact List.Pairwise.imp_of_mem (fun {a b} ha hb hab e => hab (PA_inj hn (hR a ha) (hR b hb) e)) hd
theorem allP_nodup {n : Nat} (hn : n ≤ 5) : (allP n).Nodup := map_PA_nodup hn _ (fun r hr => List.mem_range.1 hr) List.nodup_range
theorem reach_dvd {n : Nat} (hn : n ≤ 5) (G : Int → Int → Int → Prop) (hG : ∀ a b c, G a b c → Mgood n a b c) (C : List (List Int)) (hd : C.Nodup) (hC : ∀ l, l ∈ C ↔ Rch G (upTo n) l) : C.length ∣ facN n := by
  have hid : isPm (upTo n) = true ∧ (upTo n).length = n := ⟨isPm_upTo (by omega), upTo_length n⟩
  let Q : List Int → List Int → Bool := fun a b => @decide (a.length = n ∧ Rch G a b) (Classical.propDecidable _)
  have hQ : ∀ a b, Q a b = true ↔ a.length = n ∧ Rch G a b := fun a b => @decide_eq_true_iff _ (Classical.propDecidable _)
  rw [← allP_length]
  refine parts Q (fun a b h => (hQ b a).2 ?_) (fun a b c h1 h2 => (hQ a c).2 ?_) C.length (allP n).length (allP n) (Nat.le_refl _) (fun x hx => (hQ x x).2 ⟨((mem_allP hn).1 hx).2, .refl _⟩) (fun x hx => ?_)
  · have h := (hQ a b).1 h
    exact ⟨by rw [h.2.length]; exact h.1, h.2.symm hG h.1⟩
  · have h1 := (hQ a b).1 h1
    exact ⟨h1.1, h1.2.trans ((hQ b c).1 h2).2⟩
  · have hx' := (mem_allP hn).1 hx
    have hCp : ∀ l ∈ C, isPm l = true ∧ l.length = n := fun l hl => ((hC l).1 hl).pm hG hid
    have hn1 : ((allP n).filter (Q x)).Nodup := (allP_nodup hn).filter _
    have hn2 : (C.map (fun p => p.map (rd x))).Nodup := by
      unfold List.Nodup
      rw [List.pairwise_map]
      exact List.Pairwise.imp_of_mem (fun {a b} ha hb hab e => hab (map_rd_inj hx' (hCp a ha) (hCp b hb) e)) hd
    have ex : (upTo n).map (rd x) = x := by have := map_rd x; rwa [hx'.2] at this
    have hm : ∀ y, y ∈ (allP n).filter (Q x) ↔ y ∈ C.map (fun p => p.map (rd x)) := by
      intro y
      rw [List.mem_filter, List.mem_map, hQ]
      constructor
      · rintro ⟨hm0, _, hr⟩
        clear hm0
        have : ∃ p, Rch G (upTo n) p ∧ p.map (rd x) = y := by
          induction hr with
          | refl => exact ⟨upTo n, .refl _, ex⟩
          | @step m a b c g h ih =>
            obtain ⟨p, hp, e⟩ := ih
            refine ⟨mv p a b c, .step a b c g hp, ?_⟩
            rw [← e, mv_map _ p a b c (by rw [hp.length, upTo_length]; exact hG a b c g)]
        obtain ⟨p, hp, e⟩ := this
        exact ⟨p, (hC p).2 hp, e⟩
      · rintro ⟨p, hp, rfl⟩
        have h1 := ((hC p).1 hp).map hG (rd x) hid.2
        rw [ex] at h1
        exact ⟨(mem_allP hn).2 (h1.pm hG hx'), hx'.2, h1⟩
    have l1 := nodup_le _ _ hn1 (fun y hy => (hm y).1 hy)
    have l2 := nodup_le _ _ hn2 (fun y hy => (hm y).2 hy)
    rw [List.length_map] at l1 l2
    omega
set_option maxRecDepth 100000 in
theorem half_tab : ((List.range 6).all fun n => decide (n ≤ 1) || (2 * ((allP n).countP fun l => inv [] l % 2 == 0) == facN n)) = true := by decide +kernel
theorem reach_even {n : Nat} (hn : n ≤ 5) (h2 : 2 ≤ n) (G : Int → Int → Int → Prop) (hG : ∀ a b c, G a b c → Mgood n a b c) (hE : ∀ a b c, G a b c → sgm a b c = 1) (C : List (List Int)) (hd : C.Nodup) (hC : ∀ l ∈ C, Rch G (upTo n) l) : 2 * C.length ≤ facN n := by
  have hid : isPm (upTo n) = true ∧ (upTo n).length = n := ⟨isPm_upTo (by omega), upTo_length n⟩
  have hsg : ∀ l, Rch G (upTo n) l → sg l = 1 := by
    intro l h
    induction h with
    | refl => unfold sg; rw [sg_id n (List.mem_range.2 (by omega))]; rfl
    | @step m a b c g h ih =>
      have hm := h.pm hG hid
      rw [sg_mv m (isPm_nodup hm.1) a b c (by rw [hm.2]; exact hG a b c g), ih, hE a b c g]; rfl
  have l1 := nodup_le C ((allP n).filter fun l => inv [] l % 2 == 0) hd (fun l hl => by
    have h := hC l hl
    refine List.mem_filter.2 ⟨(mem_allP hn).2 (h.pm hG hid), ?_⟩
    have h3 := hsg l h
    unfold sg at h3
    rw [beq_iff_eq]; omega)
  have ht := List.all_eq_true.1 half_tab n (List.mem_range.2 (by omega))
  rw [Bool.or_eq_true, decide_eq_true_eq, beq_iff_eq, List.countP_eq_length_filter] at ht
  rcases ht with ht | ht <;> omega
end Go.Proofs.Ytllhnnjkonghlaa.Lag
