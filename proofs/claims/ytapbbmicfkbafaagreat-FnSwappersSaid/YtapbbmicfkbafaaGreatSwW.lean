import Derived.Test.YtapbbmicfkbafaaGreatFoW
namespace Go.Proofs.YtapbbmicfkbafaaGreat.SwW
open Go Go.RowKit Go.Proofs.YtapbbmicfkbafaaGreatW.PrintWords Go.Proofs.YtapbbmicfkbafaaGreat.FoW
set_option linter.unusedVariables false
set_option linter.unusedSimpArgs false
structure SwR (w : World) (base : Nat) (g0 c0 g1 c1 g2 c2 g3 c3 g4 c4 g5 c5 : Nat) (b d : List Int) (u : List Bool) (p it wh : List Int) : Prop where mk ::
  f : FoR w base g0 c0 g1 c1 g2 c2 g3 c3 b d u p
  r4 : (Kd.int .i64).R 3 w base (fun _ => True) (.slice (some ⟨g4, 0, none⟩) it.length c4) it
  r5 : (Kd.int .i64).R 3 w base (fun _ => True) (.slice (some ⟨g5, 0, none⟩) wh.length c5) wh
  n4 : g4 ≠ g0 ∧ g4 ≠ g1 ∧ g4 ≠ g3
  n5 : g5 ≠ g0 ∧ g5 ≠ g1 ∧ g5 ≠ g3
  n45 : g4 ≠ g5
variable {w w1 : World} {base g0 c0 g1 c1 g2 c2 g3 c3 g4 c4 g5 c5 g : Nat} {b d : List Int} {u : List Bool} {p it wh : List Int} {cs : Array Value} {t : Nat}
theorem SwR.m2 (h : SwR w base g0 c0 g1 c1 g2 c2 g3 c3 g4 c4 g5 c5 b d u p it wh) : g4 ≠ g2 ∧ g5 ≠ g2 := by
  obtain ⟨_, h2⟩ := typed h.f.r2
  obtain ⟨_, h4⟩ := typed h.r4
  obtain ⟨_, h5⟩ := typed h.r5
  exact ⟨ne_of_types h4 h2 (by decide), ne_of_types h5 h2 (by decide)⟩
theorem SwR.map (h : SwR w base g0 c0 g1 c1 g2 c2 g3 c3 g4 c4 g5 c5 b d u p it wh) (h0 : w1.heap[g0]? = w.heap[g0]?) (h1 : w1.heap[g1]? = w.heap[g1]?) (h2 : w1.heap[g2]? = w.heap[g2]?) (h3 : w1.heap[g3]? = w.heap[g3]?) (h4 : w1.heap[g4]? = w.heap[g4]?) (h5 : w1.heap[g5]? = w.heap[g5]?) : SwR w1 base g0 c0 g1 c1 g2 c2 g3 c3 g4 c4 g5 c5 b d u p it wh :=
  ⟨h.f.map h0 h1 h2 h3, R_map rfl h.r4 h4, R_map rfl h.r5 h5, h.n4, h.n5, h.n45⟩
theorem SwR.lt (h : SwR w base g0 c0 g1 c1 g2 c2 g3 c3 g4 c4 g5 c5 b d u p it wh) : g4 < w.heap.size ∧ g5 < w.heap.size := ⟨Kd.R_lt h.r4 g4 rfl, Kd.R_lt h.r5 g5 rfl⟩
theorem SwR.ge (h : SwR w base g0 c0 g1 c1 g2 c2 g3 c3 g4 c4 g5 c5 b d u p it wh) : base ≤ g4 ∧ base ≤ g5 := ⟨Kd.R_base h.r4 g4 rfl, Kd.R_base h.r5 g5 rfl⟩
theorem SwR.below (h : SwR w base g0 c0 g1 c1 g2 c2 g3 c3 g4 c4 g5 c5 b d u p it wh) (hb : Below w.heap.size w w1) : SwR w1 base g0 c0 g1 c1 g2 c2 g3 c3 g4 c4 g5 c5 b d u p it wh :=
  h.map (hb.block _ h.f.lt.1) (hb.block _ h.f.lt.2.1) (hb.block _ h.f.lt.2.2.1) (hb.block _ h.f.lt.2.2.2) (hb.block _ h.lt.1) (hb.block _ h.lt.2)
theorem SwR.drew (h : SwR w base g0 c0 g1 c1 g2 c2 g3 c3 g4 c4 g5 c5 b d u p it wh) : SwR w.drew base g0 c0 g1 c1 g2 c2 g3 c3 g4 c4 g5 c5 b d u p it wh := h.map rfl rfl rfl rfl rfl rfl
theorem SwR.apart (h : SwR w base g0 c0 g1 c1 g2 c2 g3 c3 g4 c4 g5 c5 b d u p it wh) (hb : w.heap[g]? = some (.cells cs t (0, 0))) (h3' : t ≠ 3) : g ≠ g4 ∧ g ≠ g5 := by
  obtain ⟨_, h4⟩ := typed h.r4
  obtain ⟨_, h5⟩ := typed h.r5
  exact ⟨ne_of_types hb h4 h3', ne_of_types hb h5 h3'⟩
theorem SwR.put4 (h : SwR w base g0 c0 g1 c1 g2 c2 g3 c3 g4 c4 g5 c5 b d u p it wh) (i : Int) (x : Int) : SwR (w.setCell ⟨g4, i.toNat, none⟩ (.int .i64 x)) base g0 c0 g1 c1 g2 c2 g3 c3 g4 c4 g5 c5 b d u p (it.set i.toNat x) wh :=
  ⟨h.f.far _ _ (Ne.symm h.n4.1) (Ne.symm h.n4.2.1) (Ne.symm h.m2.1) (Ne.symm h.n4.2.2), by rw [List.length_set]; exact (Kd.R_putg h.r4 i x).1, R_map rfl h.r5 (Below.heap_setCell w _ _ _ (Ne.symm h.n45)), h.n4, h.n5, h.n45⟩
theorem SwR.put5 (h : SwR w base g0 c0 g1 c1 g2 c2 g3 c3 g4 c4 g5 c5 b d u p it wh) (i : Int) (x : Int) : SwR (w.setCell ⟨g5, i.toNat, none⟩ (.int .i64 x)) base g0 c0 g1 c1 g2 c2 g3 c3 g4 c4 g5 c5 b d u p it (wh.set i.toNat x) :=
  ⟨h.f.far _ _ (Ne.symm h.n5.1) (Ne.symm h.n5.2.1) (Ne.symm h.m2.2) (Ne.symm h.n5.2.2), R_map rfl h.r4 (Below.heap_setCell w _ _ _ h.n45), by rw [List.length_set]; exact (Kd.R_putg h.r5 i x).1, h.n4, h.n5, h.n45⟩
theorem SwR.at4 (h : SwR w base g0 c0 g1 c1 g2 c2 g3 c3 g4 c4 g5 c5 b d u p it wh) (i : Int) (h0 : 0 ≤ i) (hi : i < it.length) : w.cell? ⟨g4, i.toNat, none⟩ = some (.int .i64 (rd it i)) ∧ w.frozen? ⟨g4, i.toNat, none⟩ = false := Kd.R_celln 0 h.r4 i h0 (by exact_mod_cast hi)
theorem SwR.at5 (h : SwR w base g0 c0 g1 c1 g2 c2 g3 c3 g4 c4 g5 c5 b d u p it wh) (i : Int) (h0 : 0 ≤ i) (hi : i < wh.length) : w.cell? ⟨g5, i.toNat, none⟩ = some (.int .i64 (rd wh i)) ∧ w.frozen? ⟨g5, i.toNat, none⟩ = false := Kd.R_celln 0 h.r5 i h0 (by exact_mod_cast hi)
theorem SwR.step {d' : List Int} {u' : List Bool} {p' : List Int} (h : SwR w base g0 c0 g1 c1 g2 c2 g3 c3 g4 c4 g5 c5 b d u p it wh) (hF : FoR w1 base g0 c0 g1 c1 g2 c2 g3 c3 b d' u' p') (hk : Kept w w1 (Wr g1 g2 g3)) : SwR w1 base g0 c0 g1 c1 g2 c2 g3 c3 g4 c4 g5 c5 b d' u' p' it wh :=
  ⟨hF, R_map rfl h.r4 (hk.2 g4 h.lt.1 (fun e => by rcases e with e | e | e; exact h.n4.2.1 e; exact h.m2.1 e; exact h.n4.2.2 e)), R_map rfl h.r5 (hk.2 g5 h.lt.2 (fun e => by rcases e with e | e | e; exact h.n5.2.1 e; exact h.m2.2 e; exact h.n5.2.2 e)), h.n4, h.n5, h.n45⟩
def Ws (g1 g2 g3 g4 g5 : Nat) : Nat → Prop := fun k => Wr g1 g2 g3 k ∨ k = g4 ∨ k = g5
def stepS (b d : List Int) (u : List Bool) (p it wh : List Int) : Option (List Int × List Bool × List Int × List Int × List Int × Int) :=
  let j := rd p 0
  let i := (b.length : Int) - 1 - j
  let x := (it.length : Int) - 1 - j
  let a := if rdOf false u i = true then rd wh x - 1 else rd wh x
  if it.length ≤ 1000 ∧ wh.length ≤ 1000 ∧ 0 ≤ x ∧ x < wh.length ∧ -1000 ≤ rd wh x ∧ rd wh x ≤ 1000 ∧ 0 ≤ a ∧ a + 1 < it.length ∧ 0 ≤ rd it a ∧ rd it a < wh.length ∧ 0 ≤ rd it (a + 1) ∧ rd it (a + 1) < wh.length then
    (stepF b d u p).bind fun r => some (r.1, r.2.1, r.2.2.1, (it.set a.toNat (rd it (a + 1))).set (a + 1).toNat (rd it a), (wh.set (rd it (a + 1)).toNat a).set (rd it a).toNat (a + 1), a)
  else none
theorem rd_set_eq (l : List Int) (i v : Int) (h : i.toNat < l.length) : rd (l.set i.toNat v) i = v := by
  unfold rd
  rw [List.getD_eq_getElem?_getD, List.getElem?_set_self h]; rfl
theorem rd_set_ne (l : List Int) (i j v : Int) (h : i.toNat ≠ j.toNat) : rd (l.set i.toNat v) j = rd l j := by
  unfold rd
  rw [List.getD_eq_getElem?_getD, List.getElem?_set_ne h, ← List.getD_eq_getElem?_getD]
theorem stepF_cond {d' : List Int} {u' : List Bool} {p' : List Int} {r : Int} (h : stepF b d u p = some (d', u', p', r)) : 0 ≤ rd p 0 ∧ rd p 0 < b.length ∧ b.length ≤ 1000 ∧ d.length = b.length ∧ u.length = b.length ∧ p.length = b.length + 1 := by
  unfold stepF at h
  simp only at h
  by_cases hc : 0 ≤ rd p 0 ∧ rd p 0 < b.length ∧ b.length ≤ 1000 ∧ d.length = b.length ∧ u.length = b.length ∧ p.length = b.length + 1 ∧ -1000 ≤ rd d ((b.length : Int) - 1 - rd p 0) ∧ rd d ((b.length : Int) - 1 - rd p 0) ≤ 1000 ∧ -1000 ≤ rd b ((b.length : Int) - 1 - rd p 0) ∧ rd b ((b.length : Int) - 1 - rd p 0) ≤ 1000
  · exact ⟨hc.1, hc.2.1, hc.2.2.1, hc.2.2.2.1, hc.2.2.2.2.1, hc.2.2.2.2.2.1⟩
  · rw [if_neg hc] at h; cases h
def set6 (w : World) (g : Nat) (x0 x1 x2 x3 x4 x5 : Value) : World := (((((w.setCell ⟨g, 0, none⟩ x0).setCell ⟨g, 1, none⟩ x1).setCell ⟨g, 2, none⟩ x2).setCell ⟨g, 3, none⟩ x3).setCell ⟨g, 4, none⟩ x4).setCell ⟨g, 5, none⟩ x5
theorem set6_far (w : World) (g : Nat) (x0 x1 x2 x3 x4 x5 : Value) (k : Nat) (h : k ≠ g) : (set6 w g x0 x1 x2 x3 x4 x5).heap[k]? = w.heap[k]? :=
  (Below.heap_setCell _ _ _ k h).trans ((Below.heap_setCell _ _ _ k h).trans ((Below.heap_setCell _ _ _ k h).trans ((Below.heap_setCell _ _ _ k h).trans ((Below.heap_setCell _ _ _ k h).trans (Below.heap_setCell _ _ _ k h)))))
theorem set6_at {y0 y1 y2 y3 y4 y5 : Value} (h : w.heap[g]? = some (.cells #[y0, y1, y2, y3, y4, y5] t (0, 0))) (x0 x1 x2 x3 x4 x5 : Value) : (set6 w g x0 x1 x2 x3 x4 x5).heap[g]? = some (.cells #[x0, x1, x2, x3, x4, x5] t (0, 0)) :=
  blk_set (blk_set (blk_set (blk_set (blk_set (blk_set h 0 x0) 1 x1) 2 x2) 3 x3) 4 x4) 5 x5
theorem set6_below {w0 : World} (h : Below w0.heap.size w0 w) (hg : w0.heap.size ≤ g) (x0 x1 x2 x3 x4 x5 : Value) : Below w0.heap.size w0 (set6 w g x0 x1 x2 x3 x4 x5) := below_set (below_set (below_set (below_set (below_set (below_set h hg) hg) hg) hg) hg) hg
def OwnS (v0 v1 v2 v3 v4 v5 : Value) (k : Nat) : Prop := v0.ownBlock = some k ∨ v1.ownBlock = some k ∨ v2.ownBlock = some k ∨ v3.ownBlock = some k ∨ v4.ownBlock = some k ∨ v5.ownBlock = some k
structure SwV (w : World) (base : Nat) (v0 v1 v2 v3 v4 v5 : Value) (b d : List Int) (u : List Bool) (p it wh : List Int) : Prop where mk ::
  r0 : (Kd.int .i64).R 3 w base (fun k => some k ≠ v1.ownBlock ∧ some k ≠ v3.ownBlock ∧ some k ≠ v4.ownBlock ∧ some k ≠ v5.ownBlock) v0 b
  r1 : (Kd.int .i64).R 3 w base (fun k => some k ≠ v0.ownBlock ∧ some k ≠ v3.ownBlock ∧ some k ≠ v4.ownBlock ∧ some k ≠ v5.ownBlock) v1 d
  r2 : Kd.bool.R 4 w base (fun _ => True) v2 u
  r3 : (Kd.int .i64).R 3 w base (fun k => some k ≠ v0.ownBlock ∧ some k ≠ v1.ownBlock ∧ some k ≠ v4.ownBlock ∧ some k ≠ v5.ownBlock) v3 p
  r4 : (Kd.int .i64).R 3 w base (fun k => some k ≠ v0.ownBlock ∧ some k ≠ v1.ownBlock ∧ some k ≠ v3.ownBlock ∧ some k ≠ v5.ownBlock) v4 it
  r5 : (Kd.int .i64).R 3 w base (fun k => some k ≠ v0.ownBlock ∧ some k ≠ v1.ownBlock ∧ some k ≠ v3.ownBlock ∧ some k ≠ v4.ownBlock) v5 wh
section
variable {v0 v1 v2 v3 v4 v5 : Value}
theorem SwV.map (h : SwV w base v0 v1 v2 v3 v4 v5 b d u p it wh) (hm : ∀ k, OwnS v0 v1 v2 v3 v4 v5 k → w1.heap[k]? = w.heap[k]?) : SwV w1 base v0 v1 v2 v3 v4 v5 b d u p it wh :=
  ⟨Kd.R_mono (Kd.R_move (Kd.R_tight rfl h.r0) (fun k hk => hm k (.inl hk.symm))) (fun k hk => h.r0.1 k hk.symm),
   Kd.R_mono (Kd.R_move (Kd.R_tight rfl h.r1) (fun k hk => hm k (.inr (.inl hk.symm)))) (fun k hk => h.r1.1 k hk.symm),
   Kd.R_mono (Kd.R_move (Kd.R_tight rfl h.r2) (fun k hk => hm k (.inr (.inr (.inl hk.symm))))) (fun k hk => h.r2.1 k hk.symm),
   Kd.R_mono (Kd.R_move (Kd.R_tight rfl h.r3) (fun k hk => hm k (.inr (.inr (.inr (.inl hk.symm)))))) (fun k hk => h.r3.1 k hk.symm),
   Kd.R_mono (Kd.R_move (Kd.R_tight rfl h.r4) (fun k hk => hm k (.inr (.inr (.inr (.inr (.inl hk.symm))))))) (fun k hk => h.r4.1 k hk.symm),
   Kd.R_mono (Kd.R_move (Kd.R_tight rfl h.r5) (fun k hk => hm k (.inr (.inr (.inr (.inr (.inr hk.symm))))))) (fun k hk => h.r5.1 k hk.symm)⟩
theorem SwV.typed (h : SwV w base v0 v1 v2 v3 v4 v5 b d u p it wh) : ∀ k, OwnS v0 v1 v2 v3 v4 v5 k → ∃ cells t, w.heap[k]? = some (.cells cells t (0, 0)) ∧ (t = 3 ∨ t = 4) := by
  intro k hk
  rcases hk with hk | hk | hk | hk | hk | hk
  · obtain ⟨_, ho⟩ := Kd.R_own h.r0
    obtain ⟨c, hc⟩ := own_typed ho k hk
    exact ⟨c, 3, hc, .inl rfl⟩
  · obtain ⟨_, ho⟩ := Kd.R_own h.r1
    obtain ⟨c, hc⟩ := own_typed ho k hk
    exact ⟨c, 3, hc, .inl rfl⟩
  · obtain ⟨_, ho⟩ := Kd.R_own h.r2
    obtain ⟨c, hc⟩ := own_typed ho k hk
    exact ⟨c, 4, hc, .inr rfl⟩
  · obtain ⟨_, ho⟩ := Kd.R_own h.r3
    obtain ⟨c, hc⟩ := own_typed ho k hk
    exact ⟨c, 3, hc, .inl rfl⟩
  · obtain ⟨_, ho⟩ := Kd.R_own h.r4
    obtain ⟨c, hc⟩ := own_typed ho k hk
    exact ⟨c, 3, hc, .inl rfl⟩
  · obtain ⟨_, ho⟩ := Kd.R_own h.r5
    obtain ⟨c, hc⟩ := own_typed ho k hk
    exact ⟨c, 3, hc, .inl rfl⟩
theorem SwV.lt (h : SwV w base v0 v1 v2 v3 v4 v5 b d u p it wh) : ∀ k, OwnS v0 v1 v2 v3 v4 v5 k → k < w.heap.size := by
  intro k hk
  obtain ⟨c, t, hc, _⟩ := h.typed k hk
  exact blk_lt hc
theorem SwV.below (h : SwV w base v0 v1 v2 v3 v4 v5 b d u p it wh) (hb : Below w.heap.size w w1) : SwV w1 base v0 v1 v2 v3 v4 v5 b d u p it wh := h.map (fun k hk => hb.block k (h.lt k hk))
theorem SwV.drew (h : SwV w base v0 v1 v2 v3 v4 v5 b d u p it wh) : SwV w.drew base v0 v1 v2 v3 v4 v5 b d u p it wh := h.map (fun _ _ => rfl)
theorem SwV.drewN (h : SwV w base v0 v1 v2 v3 v4 v5 b d u p it wh) (m : Nat) : SwV (w.drewN m) base v0 v1 v2 v3 v4 v5 b d u p it wh := h.below (pw_below_drewN (Below.refl _ _) m)
theorem SwV.apart (h : SwV w base v0 v1 v2 v3 v4 v5 b d u p it wh) (hb : w.heap[g]? = some (.cells cs t (0, 0))) (h3' : t ≠ 3) (h4 : t ≠ 4) : ∀ k, OwnS v0 v1 v2 v3 v4 v5 k → k ≠ g := by
  rintro k hk rfl
  obtain ⟨c, t', hc, ht⟩ := h.typed k hk
  rw [hb] at hc
  injection hc with hc
  injection hc with _ hc _
  rcases ht with ht | ht
  · exact h3' (hc.trans ht)
  · exact h4 (hc.trans ht)
theorem SwV.set6 (h : SwV w base v0 v1 v2 v3 v4 v5 b d u p it wh) (hb : w.heap[g]? = some (.cells cs t (0, 0))) (h3' : t ≠ 3) (h4 : t ≠ 4) (x0 x1 x2 x3 x4 x5 : Value) : SwV (set6 w g x0 x1 x2 x3 x4 x5) base v0 v1 v2 v3 v4 v5 b d u p it wh :=
  h.map (fun k hk => set6_far _ _ _ _ _ _ _ _ _ (h.apart hb h3' h4 k hk))
theorem SwV.grown (h : SwV w base v0 v1 v2 v3 v4 v5 b d u p it wh) {row : Option Nat} (hg : w.grownBy w1 row) (hne : ∀ k, row = some k → ¬ OwnS v0 v1 v2 v3 v4 v5 k) : SwV w1 base v0 v1 v2 v3 v4 v5 b d u p it wh :=
  h.map (fun k hk => hg.block k (h.lt k hk) (fun e => hne k e.symm hk))
theorem not_ownS {k : Nat} (h0 : some k ≠ v0.ownBlock) (h1 : some k ≠ v1.ownBlock) (h2 : some k ≠ v2.ownBlock) (h3 : some k ≠ v3.ownBlock) (h4 : some k ≠ v4.ownBlock) (h5 : some k ≠ v5.ownBlock) : ¬ OwnS v0 v1 v2 v3 v4 v5 k := by
  rintro (h | h | h | h | h | h)
  · exact h0 h.symm
  · exact h1 h.symm
  · exact h2 h.symm
  · exact h3 h.symm
  · exact h4 h.symm
  · exact h5 h.symm
theorem SwR.of (h : SwV w base v0 v1 v2 v3 v4 v5 b d u p it wh) (hb : 0 < b.length) (hd : 0 < d.length) (hu : 0 < u.length) (hp : 0 < p.length) (hi : 0 < it.length) (hw : 0 < wh.length) : ∃ g0 c0 g1 c1 g2 c2 g3 c3 g4 c4 g5 c5, v0 = .slice (some ⟨g0, 0, none⟩) b.length c0 ∧ v1 = .slice (some ⟨g1, 0, none⟩) d.length c1 ∧ v2 = .slice (some ⟨g2, 0, none⟩) u.length c2 ∧ v3 = .slice (some ⟨g3, 0, none⟩) p.length c3 ∧ v4 = .slice (some ⟨g4, 0, none⟩) it.length c4 ∧ v5 = .slice (some ⟨g5, 0, none⟩) wh.length c5 ∧ SwR w base g0 c0 g1 c1 g2 c2 g3 c3 g4 c4 g5 c5 b d u p it wh := by
  obtain ⟨g0, c0, e0, _⟩ := Kd.R_form h.r0 hb
  obtain ⟨g1, c1, e1, _⟩ := Kd.R_form h.r1 hd
  obtain ⟨g2, c2, e2, _⟩ := Kd.R_form h.r2 hu
  obtain ⟨g3, c3, e3, _⟩ := Kd.R_form h.r3 hp
  obtain ⟨g4, c4, e4, _⟩ := Kd.R_form h.r4 hi
  obtain ⟨g5, c5, e5, _⟩ := Kd.R_form h.r5 hw
  subst e0 e1 e2 e3 e4 e5
  have k0 := h.r0.1 g0 rfl
  have k1 := h.r1.1 g1 rfl
  have k4 := h.r4.1 g4 rfl
  have k5 := h.r5.1 g5 rfl
  exact ⟨g0, c0, g1, c1, g2, c2, g3, c3, g4, c4, g5, c5, rfl, rfl, rfl, rfl, rfl, rfl, ⟨⟨Kd.R_mono h.r0 (fun _ _ => trivial), Kd.R_mono h.r1 (fun _ _ => trivial), Kd.R_mono h.r2 (fun _ _ => trivial), Kd.R_mono h.r3 (fun _ _ => trivial), fun e => k0.1 (by rw [e]; rfl), fun e => k0.2.1 (by rw [e]; rfl), fun e => k1.2.1 (by rw [e]; rfl)⟩, Kd.R_mono h.r4 (fun _ _ => trivial), Kd.R_mono h.r5 (fun _ _ => trivial), ⟨fun e => k4.1 (by rw [e]; rfl), fun e => k4.2.1 (by rw [e]; rfl), fun e => k4.2.2.1 (by rw [e]; rfl)⟩, ⟨fun e => k5.1 (by rw [e]; rfl), fun e => k5.2.1 (by rw [e]; rfl), fun e => k5.2.2.1 (by rw [e]; rfl)⟩, fun e => k4.2.2.2 (by rw [e]; rfl)⟩⟩
end
theorem own_eq {g n c k : Nat} (h : (Value.slice (some ⟨g, 0, none⟩) n c).ownBlock = some k) : k = g := by simpa [Value.ownBlock] using h.symm
theorem own_neq {g g' n c : Nat} (h : g ≠ g') : some g ≠ (Value.slice (some ⟨g', 0, none⟩) n c).ownBlock := fun e => h (own_eq e.symm)
theorem SwR.back (h : SwR w base g0 c0 g1 c1 g2 c2 g3 c3 g4 c4 g5 c5 b d u p it wh) : SwV w base (.slice (some ⟨g0, 0, none⟩) b.length c0) (.slice (some ⟨g1, 0, none⟩) d.length c1) (.slice (some ⟨g2, 0, none⟩) u.length c2) (.slice (some ⟨g3, 0, none⟩) p.length c3) (.slice (some ⟨g4, 0, none⟩) it.length c4) (.slice (some ⟨g5, 0, none⟩) wh.length c5) b d u p it wh := by
  have a01 := h.f.n01
  have a03 := h.f.n03
  have a13 := h.f.n13
  obtain ⟨a40, a41, a43⟩ := h.n4
  obtain ⟨a50, a51, a53⟩ := h.n5
  have a45 := h.n45
  refine ⟨Kd.R_reok rfl h.f.r0 (fun k hk => ?_), Kd.R_reok rfl h.f.r1 (fun k hk => ?_), h.f.r2, Kd.R_reok rfl h.f.r3 (fun k hk => ?_), Kd.R_reok rfl h.r4 (fun k hk => ?_), Kd.R_reok rfl h.r5 (fun k hk => ?_)⟩
  · have := own_eq hk; subst this
    exact ⟨own_neq a01, own_neq a03, own_neq (Ne.symm a40), own_neq (Ne.symm a50)⟩
  · have := own_eq hk; subst this
    exact ⟨own_neq (Ne.symm a01), own_neq a13, own_neq (Ne.symm a41), own_neq (Ne.symm a51)⟩
  · have := own_eq hk; subst this
    exact ⟨own_neq (Ne.symm a03), own_neq (Ne.symm a13), own_neq (Ne.symm a43), own_neq (Ne.symm a53)⟩
  · have := own_eq hk; subst this
    exact ⟨own_neq a40, own_neq a41, own_neq a43, own_neq a45⟩
  · have := own_eq hk; subst this
    exact ⟨own_neq a50, own_neq a51, own_neq a53, own_neq (Ne.symm a45)⟩
theorem stepS_len {d' : List Int} {u' : List Bool} {p' it' wh' : List Int} {r : Int} (h : stepS b d u p it wh = some (d', u', p', it', wh', r)) : (d'.length = d.length ∧ u'.length = u.length ∧ p'.length = p.length ∧ it'.length = it.length ∧ wh'.length = wh.length) ∧ 0 < b.length ∧ 0 < d.length ∧ 0 < u.length ∧ 0 < p.length ∧ 0 < it.length ∧ 0 < wh.length := by
  unfold stepS at h
  simp only at h
  generalize (if rdOf false u ((b.length : Int) - 1 - rd p 0) = true then rd wh ((it.length : Int) - 1 - rd p 0) - 1 else rd wh ((it.length : Int) - 1 - rd p 0)) = a at h
  by_cases hc : it.length ≤ 1000 ∧ wh.length ≤ 1000 ∧ 0 ≤ (it.length : Int) - 1 - rd p 0 ∧ (it.length : Int) - 1 - rd p 0 < wh.length ∧ -1000 ≤ rd wh ((it.length : Int) - 1 - rd p 0) ∧ rd wh ((it.length : Int) - 1 - rd p 0) ≤ 1000 ∧ 0 ≤ a ∧ a + 1 < it.length ∧ 0 ≤ rd it a ∧ rd it a < wh.length ∧ 0 ≤ rd it (a + 1) ∧ rd it (a + 1) < wh.length
  rotate_left
  · rw [if_neg hc] at h; cases h
  rw [if_pos hc] at h
  obtain ⟨⟨D1, U1, P1, R1⟩, hs, h⟩ := Option.bind_eq_some_iff.mp h
  simp only [Option.some.injEq, Prod.mk.injEq] at h
  obtain ⟨rfl, rfl, rfl, rfl, rfl, rfl⟩ := h
  obtain ⟨⟨s1, s2, s3⟩, s4, s5, s6, s7⟩ := stepF_len hs
  exact ⟨⟨s1, s2, s3, by simp, by simp⟩, s4, s5, s6, s7, by omega, by omega⟩
end Go.Proofs.YtapbbmicfkbafaaGreat.SwW
