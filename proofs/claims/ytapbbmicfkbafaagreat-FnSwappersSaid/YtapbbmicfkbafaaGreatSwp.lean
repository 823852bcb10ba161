import Derived.Test.YtapbbmicfkbafaaGreatFocG
import Derived.Test.YtapbbmicfkbafaaGreatTrot
import Derived.Test.YtapbbmicfkbafaaGreatPerms
namespace Go.Proofs.YtapbbmicfkbafaaGreat.Swp
open Go.Proofs.YtapbbmicfkbafaaGreat.Base Go.Proofs.YtapbbmicfkbafaaGreat.Foc Go.Proofs.YtapbbmicfkbafaaGreat.FocB Go.Proofs.YtapbbmicfkbafaaGreat.FocR Go.Proofs.YtapbbmicfkbafaaGreat.FocG Go.Proofs.YtapbbmicfkbafaaGreat.FoW Go.Proofs.YtapbbmicfkbafaaGreat.Trot Go.Proofs.YtapbbmicfkbafaaGreatW.PrintWords
set_option linter.unusedVariables false
set_option linter.unusedSimpArgs false
def cn : Nat → List Nat
  | 0 => []
  | 1 => []
  | n + 2 => (n + 2) :: cn (n + 1)
theorem cn_length : ∀ n, (cn n).length = n - 1
  | 0 => rfl
  | 1 => rfl
  | n + 2 => by rw [cn, List.length_cons, cn_length (n + 1)]; omega
theorem cn_mem : ∀ n, ∀ c ∈ cn n, 2 ≤ c ∧ c ≤ n
  | 0, c, h => by simp [cn] at h
  | 1, c, h => by simp [cn] at h
  | n + 2, c, h => by
    rw [cn, List.mem_cons] at h
    rcases h with rfl | h
    · omega
    · have := cn_mem (n + 1) c h; omega
theorem cn_ok (n : Nat) (h : n ≤ 7) : Ok (cn n) := ⟨fun c hc => (cn_mem n c hc).1, fun c hc => by have := (cn_mem n c hc).2; omega, by rw [cn_length]; omega⟩
theorem cn_prod : ∀ n, prod (cn n) = fac n
  | 0 => rfl
  | 1 => rfl
  | n + 2 => by rw [cn, prod, cn_prod (n + 1)]; rfl
theorem bs_cn (j : Nat) (h : 1 ≤ j) : bs (cn j) ++ [(j : Int) + 1] = bs (cn (j + 1)) := by
  obtain ⟨m, rfl⟩ : ∃ m, j = m + 1 := ⟨j - 1, by omega⟩
  have e : cn (m + 1 + 1) = (m + 2) :: cn (m + 1) := rfl
  rw [e]
  unfold bs
  rw [List.map_cons, List.reverse_cons]
  congr 2
def pos : List Int → Int → Int
  | [], _ => 0
  | y :: t, x => if y = x then 0 else pos t x + 1
def IsI (it wh : List Int) : Prop := wh.length = it.length ∧ ∀ q : Nat, q < it.length → 0 ≤ rd it q ∧ rd it q < it.length ∧ rd wh (rd it q) = q
def invL (it : List Int) : List Int := (upTo it.length).map (pos it)
theorem pos_range : ∀ (l : List Int) (x : Int), x ∈ l → 0 ≤ pos l x ∧ pos l x < l.length ∧ rd l (pos l x) = x
  | [], x, h => by simp at h
  | y :: t, x, h => by
    by_cases e : y = x
    · rw [pos, if_pos e]
      exact ⟨by omega, by rw [List.length_cons]; omega, by simpa [rd] using e⟩
    · rw [pos, if_neg e]
      rcases List.mem_cons.1 h with rfl | h
      · exact absurd rfl e
      obtain ⟨h0, h1, h2⟩ := pos_range t x h
      refine ⟨by omega, by rw [List.length_cons]; omega, ?_⟩
      unfold rd at h2 ⊢
      rw [show (pos t x + 1).toNat = (pos t x).toNat + 1 from by omega]
      simpa using h2
theorem rd_inj {l : List Int} (h : l.Nodup) {i j : Nat} (hi : i < l.length) (hj : j < l.length) (e : rd l i = rd l j) : i = j := by
  rw [rd_get l i (by omega), rd_get l j (by omega)] at e
  simp only [Int.toNat_natCast] at e
  have hp := List.pairwise_iff_getElem.1 h
  rcases Nat.lt_trichotomy i j with c | c | c
  · exact absurd e (hp i j hi hj c)
  · exact c
  · exact absurd e.symm (hp j i hj hi c)
theorem nodup_upTo (n : Nat) : (upTo n).Nodup := by
  unfold upTo
  refine List.Pairwise.map _ (fun a b hab e => hab (by exact_mod_cast e)) (List.nodup_range)
theorem rd_upTo (n i : Nat) (h : i < n) : rd (upTo n) i = i := by
  rw [rd_get _ _ (by rw [upTo_length]; omega)]
  simp [upTo]
theorem rd_map (f : Int → Int) (l : List Int) (i : Int) (h : i.toNat < l.length) : rd (l.map f) i = f (rd l i) := by
  rw [rd_get _ _ (by simpa using h), rd_get _ _ h, List.getElem_map]
theorem invL_is {l : List Int} (h : l.Perm (upTo l.length)) : IsI l (invL l) := by
  have hn : l.Nodup := h.nodup_iff.2 (nodup_upTo _)
  refine ⟨by simp [invL, upTo_length], fun q hq => ?_⟩
  have hm : rd l q ∈ l := by
    rw [rd_get l q (by omega)]
    exact List.getElem_mem _
  have hr := mem_upTo.1 (h.mem_iff.1 hm)
  refine ⟨hr.1, hr.2, ?_⟩
  obtain ⟨h0, h1, h2⟩ := pos_range l _ hm
  unfold invL
  rw [rd_map _ _ _ (by rw [upTo_length]; omega)]
  have e : rd (upTo l.length) (rd l q) = rd l q := by
    have := rd_upTo l.length (rd l q).toNat (by omega)
    rw [show (((rd l q).toNat : Nat) : Int) = rd l q from by omega] at this
    exact this
  rw [e]
  have := rd_inj hn (i := (pos l (rd l q)).toNat) (j := q) (by omega) hq (by rw [show (((pos l (rd l q)).toNat : Nat) : Int) = pos l (rd l q) from by omega]; exact h2)
  omega
theorem isI_uniq {l a b : List Int} (h : l.Perm (upTo l.length)) (ha : IsI l a) (hb : IsI l b) : a = b := by
  refine List.ext_getElem (by rw [ha.1, hb.1]) (fun i h1 h2 => ?_)
  have hl : i < l.length := by rw [← ha.1]; exact h1
  have hm : (i : Int) ∈ l := h.mem_iff.2 (mem_upTo.2 ⟨by omega, by omega⟩)
  obtain ⟨q0, q1, q2⟩ := pos_range l i hm
  have e : (((pos l i).toNat : Nat) : Int) = pos l i := by omega
  have ea := (ha.2 (pos l i).toNat (by omega)).2.2
  have eb := (hb.2 (pos l i).toNat (by omega)).2.2
  rw [e, q2] at ea eb
  rw [rd_get a _ (by omega)] at ea
  rw [rd_get b _ (by omega)] at eb
  simp only [Int.toNat_natCast] at ea eb
  rw [ea, eb]
theorem isI_invL {l a : List Int} (h : l.Perm (upTo l.length)) (ha : IsI l a) : a = invL l := isI_uniq h ha (invL_is h)
theorem rd_set_eq (l : List Int) (i v : Int) (h : i.toNat < l.length) : rd (l.set i.toNat v) i = v := by
  unfold rd
  rw [List.getD_eq_getElem?_getD, List.getElem?_set_self h]; rfl
theorem rd_set_ne (l : List Int) (i j v : Int) (h : i.toNat ≠ j.toNat) : rd (l.set i.toNat v) j = rd l j := by
  unfold rd
  rw [List.getD_eq_getElem?_getD, List.getElem?_set_ne h, ← List.getD_eq_getElem?_getD]
def swp (l : List Int) (a : Int) : List Int := (l.set a.toNat (rd l (a + 1))).set (a + 1).toNat (rd l a)
def swi (l wh : List Int) (a : Int) : List Int := (wh.set (rd l (a + 1)).toNat a).set (rd l a).toNat (a + 1)
theorem swp_length (l : List Int) (a : Int) : (swp l a).length = l.length := by simp [swp]
theorem swi_length (l wh : List Int) (a : Int) : (swi l wh a).length = wh.length := by simp [swi]
theorem swp_a (l : List Int) (a : Int) (h0 : 0 ≤ a) (h1 : a + 1 < l.length) : rd (swp l a) a = rd l (a + 1) := by
  unfold swp
  rw [rd_set_ne _ _ _ _ (by omega), rd_set_eq _ _ _ (by omega)]
theorem swp_b (l : List Int) (a : Int) (h0 : 0 ≤ a) (h1 : a + 1 < l.length) : rd (swp l a) (a + 1) = rd l a := by
  unfold swp
  rw [rd_set_eq _ _ _ (by rw [List.length_set]; omega)]
theorem swp_ne (l : List Int) (a : Int) (q : Nat) (h0 : 0 ≤ a) (e1 : (q : Int) ≠ a) (e2 : (q : Int) ≠ a + 1) : rd (swp l a) q = rd l q := by
  unfold swp
  rw [rd_set_ne _ _ _ _ (by omega), rd_set_ne _ _ _ _ (by omega)]
theorem swi_is {l wh : List Int} {a : Int} (hn : l.Nodup) (h : IsI l wh) (h0 : 0 ≤ a) (h1 : a + 1 < l.length) : IsI (swp l a) (swi l wh a) := by
  have ra := h.2 a.toNat (by omega)
  have rb := h.2 (a + 1).toNat (by omega)
  rw [show ((a.toNat : Nat) : Int) = a from by omega] at ra
  rw [show (((a + 1).toNat : Nat) : Int) = a + 1 from by omega] at rb
  have hne : rd l a ≠ rd l (a + 1) := fun e => by
    have := rd_inj hn (i := a.toNat) (j := (a + 1).toNat) (by omega) (by omega) (by rw [show ((a.toNat : Nat) : Int) = a from by omega, show (((a + 1).toNat : Nat) : Int) = a + 1 from by omega]; exact e)
    omega
  refine ⟨by rw [swp_length, swi_length]; exact h.1, fun q hq => ?_⟩
  rw [swp_length] at hq ⊢
  have rq := h.2 q hq
  unfold swi
  by_cases e1 : (q : Int) = a
  · rw [e1, swp_a l a h0 h1]
    refine ⟨rb.1, rb.2.1, ?_⟩
    rw [rd_set_ne _ _ _ _ (by omega), rd_set_eq _ _ _ (by rw [h.1]; omega)]
  · by_cases e2 : (q : Int) = a + 1
    · rw [e2, swp_b l a h0 h1]
      refine ⟨ra.1, ra.2.1, ?_⟩
      rw [rd_set_eq _ _ _ (by rw [List.length_set, h.1]; omega)]
    · rw [swp_ne l a q h0 e1 e2]
      refine ⟨rq.1, rq.2.1, ?_⟩
      have n1 : rd l q ≠ rd l a := fun e => by
        have := rd_inj hn (i := q) (j := a.toNat) hq (by omega) (by rw [show ((a.toNat : Nat) : Int) = a from by omega]; exact e)
        omega
      have n2 : rd l q ≠ rd l (a + 1) := fun e => by
        have := rd_inj hn (i := q) (j := (a + 1).toNat) hq (by omega) (by rw [show (((a + 1).toNat : Nat) : Int) = a + 1 from by omega]; exact e)
        omega
      rw [rd_set_ne _ _ _ _ (by omega), rd_set_ne _ _ _ _ (by omega)]
      exact rq.2.2
def atS (n r : Nat) : Int := pos (trot n r) ((n : Int) - 1 - (fa (cn n) r : Int)) - (if (gu (cn n) r).getD (fa (cn n) r) false then 1 else 0)
def okS (n r : Nat) : Bool := decide (0 ≤ atS n r ∧ atS n r + 1 < (n : Int)) && decide (swp (trot n r) (atS n r) = trot n ((r + 1 : Nat) : Int))
def chk (n : Nat) : Nat → Nat → Bool
  | 0, _ => true
  | k + 1, r => okS n r && chk n k (r + 1)
theorem chk_all (n : Nat) : ∀ (k r i : Nat), chk n k r = true → r ≤ i → i < r + k → okS n i = true
  | 0, r, i, _, h1, h2 => by omega
  | k + 1, r, i, h, h1, h2 => by
    rw [chk, Bool.and_eq_true] at h
    by_cases e : i = r
    · rw [e]; exact h.1
    · exact chk_all n k (r + 1) i h.2 (by omega) (by omega)
set_option maxRecDepth 1000000 in
theorem chk_tab : (chk 1 0 0 && chk 2 1 0 && chk 3 5 0 && chk 4 23 0 && chk 5 119 0 && chk 6 719 0 && chk 7 5039 0) = true := by decide +kernel
theorem okS_n (n m r : Nat) (e : fac n = m + 1) (t : chk n m 0 = true) (hr : r + 1 < fac n) : okS n r = true := chk_all n m 0 r t (Nat.zero_le r) (by omega)
theorem okS_all (n r : Nat) (h : n ≤ 7) (hr : r + 1 < fac n) : okS n r = true := by
  have ht := chk_tab
  simp only [Bool.and_eq_true] at ht
  obtain ⟨⟨⟨⟨⟨⟨t1, t2⟩, t3⟩, t4⟩, t5⟩, t6⟩, t7⟩ := ht
  match n, h, hr with
  | 0, _, hr => exact absurd hr (by have e : fac 0 = 1 := rfl
                                    omega)
  | 1, _, hr => exact okS_n 1 0 r (by decide +kernel) t1 hr
  | 2, _, hr => exact okS_n 2 1 r (by decide +kernel) t2 hr
  | 3, _, hr => exact okS_n 3 5 r (by decide +kernel) t3 hr
  | 4, _, hr => exact okS_n 4 23 r (by decide +kernel) t4 hr
  | 5, _, hr => exact okS_n 5 119 r (by decide +kernel) t5 hr
  | 6, _, hr => exact okS_n 6 719 r (by decide +kernel) t6 hr
  | 7, _, hr => exact okS_n 7 5039 r (by decide +kernel) t7 hr
  | n + 8, h, _ => omega
end Go.Proofs.YtapbbmicfkbafaaGreat.Swp
