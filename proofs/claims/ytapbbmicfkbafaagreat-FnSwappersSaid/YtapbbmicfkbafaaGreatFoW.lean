import Derived.Test.YtapbbmicfkbafaaGreatWKept
import Derived.Test.YtapbbmicfkbafaaGreatWMore
namespace Go.Proofs.YtapbbmicfkbafaaGreat.FoW
open Go Go.RowKit Go.Proofs.YtapbbmicfkbafaaGreatW.PrintWords
set_option linter.unusedVariables false
set_option linter.unusedSimpArgs false
structure FoR (w : World) (base : Nat) (g0 c0 g1 c1 g2 c2 g3 c3 : Nat) (b d : List Int) (u : List Bool) (p : List Int) : Prop where mk ::
  r0 : (Kd.int .i64).R 3 w base (fun _ => True) (.slice (some ⟨g0, 0, none⟩) b.length c0) b
  r1 : (Kd.int .i64).R 3 w base (fun _ => True) (.slice (some ⟨g1, 0, none⟩) d.length c1) d
  r2 : Kd.bool.R 4 w base (fun _ => True) (.slice (some ⟨g2, 0, none⟩) u.length c2) u
  r3 : (Kd.int .i64).R 3 w base (fun _ => True) (.slice (some ⟨g3, 0, none⟩) p.length c3) p
  n01 : g0 ≠ g1
  n03 : g0 ≠ g3
  n13 : g1 ≠ g3
variable {w w1 : World} {base g0 c0 g1 c1 g2 c2 g3 c3 g : Nat} {b d : List Int} {u : List Bool} {p : List Int} {cs : Array Value} {t : Nat}
theorem R_map {α : Type} {k : Kd α} {e : Nat} {g n c : Nat} {xs : List α} (hE : k.E = []) (h : k.R e w base (fun _ => True) (.slice (some ⟨g, 0, none⟩) n c) xs) (hb : w1.heap[g]? = w.heap[g]?) : k.R e w1 base (fun _ => True) (.slice (some ⟨g, 0, none⟩) n c) xs :=
  Kd.R_mono (Kd.R_move (Kd.R_tight hE h) (fun k hk => by
    have : k = g := by simpa [Value.ownBlock] using hk
    subst this; exact hb)) (fun _ _ => trivial)
theorem FoR.map (h : FoR w base g0 c0 g1 c1 g2 c2 g3 c3 b d u p) (h0 : w1.heap[g0]? = w.heap[g0]?) (h1 : w1.heap[g1]? = w.heap[g1]?) (h2 : w1.heap[g2]? = w.heap[g2]?) (h3 : w1.heap[g3]? = w.heap[g3]?) : FoR w1 base g0 c0 g1 c1 g2 c2 g3 c3 b d u p :=
  ⟨R_map rfl h.r0 h0, R_map rfl h.r1 h1, R_map rfl h.r2 h2, R_map rfl h.r3 h3, h.n01, h.n03, h.n13⟩
theorem FoR.lt (h : FoR w base g0 c0 g1 c1 g2 c2 g3 c3 b d u p) : g0 < w.heap.size ∧ g1 < w.heap.size ∧ g2 < w.heap.size ∧ g3 < w.heap.size :=
  ⟨Kd.R_lt h.r0 g0 rfl, Kd.R_lt h.r1 g1 rfl, Kd.R_lt h.r2 g2 rfl, Kd.R_lt h.r3 g3 rfl⟩
theorem FoR.ge (h : FoR w base g0 c0 g1 c1 g2 c2 g3 c3 b d u p) : base ≤ g0 ∧ base ≤ g1 ∧ base ≤ g2 ∧ base ≤ g3 :=
  ⟨Kd.R_base h.r0 g0 rfl, Kd.R_base h.r1 g1 rfl, Kd.R_base h.r2 g2 rfl, Kd.R_base h.r3 g3 rfl⟩
theorem FoR.below (h : FoR w base g0 c0 g1 c1 g2 c2 g3 c3 b d u p) (hb : Below w.heap.size w w1) : FoR w1 base g0 c0 g1 c1 g2 c2 g3 c3 b d u p :=
  h.map (hb.block _ h.lt.1) (hb.block _ h.lt.2.1) (hb.block _ h.lt.2.2.1) (hb.block _ h.lt.2.2.2)
theorem FoR.alloc (h : FoR w base g0 c0 g1 c1 g2 c2 g3 c3 b d u p) (o : Obj) : FoR (w.alloc o) base g0 c0 g1 c1 g2 c2 g3 c3 b d u p := h.below (below_alloc (Below.refl _ _) o)
theorem FoR.drew (h : FoR w base g0 c0 g1 c1 g2 c2 g3 c3 b d u p) : FoR w.drew base g0 c0 g1 c1 g2 c2 g3 c3 b d u p := h.map rfl rfl rfl rfl
theorem FoR.drewN (h : FoR w base g0 c0 g1 c1 g2 c2 g3 c3 b d u p) (m : Nat) : FoR (w.drewN m) base g0 c0 g1 c1 g2 c2 g3 c3 b d u p := h.below (pw_below_drewN (Below.refl _ _) m)
theorem typed {α : Type} {k : Kd α} {e : Nat} {g n c : Nat} {xs : List α} (h : k.R e w base (fun _ => True) (.slice (some ⟨g, 0, none⟩) n c) xs) : ∃ cells, w.heap[g]? = some (.cells cells e (0, 0)) := by
  obtain ⟨inner, ho⟩ := Kd.R_own h
  exact own_typed ho g rfl
theorem ne_of_types {e e' : Nat} {cells cells' : Array Value} {g g' : Nat} (h : w.heap[g]? = some (.cells cells e (0, 0))) (h' : w.heap[g']? = some (.cells cells' e' (0, 0))) (ht : e ≠ e') : g ≠ g' := by
  rintro rfl
  rw [h] at h'
  injection h' with h'
  injection h' with _ h' _
  exact ht h'
theorem FoR.n2 (h : FoR w base g0 c0 g1 c1 g2 c2 g3 c3 b d u p) : g2 ≠ g0 ∧ g2 ≠ g1 ∧ g2 ≠ g3 := by
  obtain ⟨_, h0⟩ := typed h.r0
  obtain ⟨_, h1⟩ := typed h.r1
  obtain ⟨_, h2⟩ := typed h.r2
  obtain ⟨_, h3⟩ := typed h.r3
  exact ⟨ne_of_types h2 h0 (by decide), ne_of_types h2 h1 (by decide), ne_of_types h2 h3 (by decide)⟩
theorem FoR.apart (h : FoR w base g0 c0 g1 c1 g2 c2 g3 c3 b d u p) (hb : w.heap[g]? = some (.cells cs t (0, 0))) (h3' : t ≠ 3) (h4 : t ≠ 4) : g ≠ g0 ∧ g ≠ g1 ∧ g ≠ g2 ∧ g ≠ g3 := by
  obtain ⟨_, h0⟩ := typed h.r0
  obtain ⟨_, h1⟩ := typed h.r1
  obtain ⟨_, h2⟩ := typed h.r2
  obtain ⟨_, h3⟩ := typed h.r3
  exact ⟨ne_of_types hb h0 h3', ne_of_types hb h1 h3', ne_of_types hb h2 h4, ne_of_types hb h3 h3'⟩
theorem FoR.far (h : FoR w base g0 c0 g1 c1 g2 c2 g3 c3 b d u p) (a : Addr) (v : Value) (h0 : g0 ≠ a.block) (h1 : g1 ≠ a.block) (h2 : g2 ≠ a.block) (h3 : g3 ≠ a.block) : FoR (w.setCell a v) base g0 c0 g1 c1 g2 c2 g3 c3 b d u p :=
  h.map (Below.heap_setCell w a v _ h0) (Below.heap_setCell w a v _ h1) (Below.heap_setCell w a v _ h2) (Below.heap_setCell w a v _ h3)
theorem FoR.put1 (h : FoR w base g0 c0 g1 c1 g2 c2 g3 c3 b d u p) (i : Int) (x : Int) : FoR (w.setCell ⟨g1, i.toNat, none⟩ (.int .i64 x)) base g0 c0 g1 c1 g2 c2 g3 c3 b (d.set i.toNat x) u p :=
  ⟨R_map rfl h.r0 (Below.heap_setCell w _ _ _ h.n01), by rw [List.length_set]; exact (Kd.R_putg h.r1 i x).1, R_map rfl h.r2 (Below.heap_setCell w _ _ _ h.n2.2.1), R_map rfl h.r3 (Below.heap_setCell w _ _ _ (Ne.symm h.n13)), h.n01, h.n03, h.n13⟩
theorem FoR.put2 (h : FoR w base g0 c0 g1 c1 g2 c2 g3 c3 b d u p) (i : Int) (x : Bool) : FoR (w.setCell ⟨g2, i.toNat, none⟩ (.bool x)) base g0 c0 g1 c1 g2 c2 g3 c3 b d (u.set i.toNat x) p :=
  ⟨R_map rfl h.r0 (Below.heap_setCell w _ _ _ (Ne.symm h.n2.1)), R_map rfl h.r1 (Below.heap_setCell w _ _ _ (Ne.symm h.n2.2.1)), by rw [List.length_set]; exact (Kd.R_putg h.r2 i x).1, R_map rfl h.r3 (Below.heap_setCell w _ _ _ (Ne.symm h.n2.2.2)), h.n01, h.n03, h.n13⟩
theorem FoR.put3 (h : FoR w base g0 c0 g1 c1 g2 c2 g3 c3 b d u p) (i : Int) (x : Int) : FoR (w.setCell ⟨g3, i.toNat, none⟩ (.int .i64 x)) base g0 c0 g1 c1 g2 c2 g3 c3 b d u (p.set i.toNat x) :=
  ⟨R_map rfl h.r0 (Below.heap_setCell w _ _ _ h.n03), R_map rfl h.r1 (Below.heap_setCell w _ _ _ h.n13), R_map rfl h.r2 (Below.heap_setCell w _ _ _ h.n2.2.2), by rw [List.length_set]; exact (Kd.R_putg h.r3 i x).1, h.n01, h.n03, h.n13⟩
theorem FoR.at0 (h : FoR w base g0 c0 g1 c1 g2 c2 g3 c3 b d u p) (i : Int) (h0 : 0 ≤ i) (hi : i < b.length) : w.cell? ⟨g0, i.toNat, none⟩ = some (.int .i64 (rd b i)) ∧ w.frozen? ⟨g0, i.toNat, none⟩ = false := Kd.R_celln 0 h.r0 i h0 (by exact_mod_cast hi)
theorem FoR.at1 (h : FoR w base g0 c0 g1 c1 g2 c2 g3 c3 b d u p) (i : Int) (h0 : 0 ≤ i) (hi : i < d.length) : w.cell? ⟨g1, i.toNat, none⟩ = some (.int .i64 (rd d i)) ∧ w.frozen? ⟨g1, i.toNat, none⟩ = false := Kd.R_celln 0 h.r1 i h0 (by exact_mod_cast hi)
theorem FoR.at2 (h : FoR w base g0 c0 g1 c1 g2 c2 g3 c3 b d u p) (i : Int) (h0 : 0 ≤ i) (hi : i < u.length) : w.cell? ⟨g2, i.toNat, none⟩ = some (.bool (rdOf false u i)) ∧ w.frozen? ⟨g2, i.toNat, none⟩ = false := Kd.R_celln false h.r2 i h0 (by exact_mod_cast hi)
theorem FoR.at3 (h : FoR w base g0 c0 g1 c1 g2 c2 g3 c3 b d u p) (i : Int) (h0 : 0 ≤ i) (hi : i < p.length) : w.cell? ⟨g3, i.toNat, none⟩ = some (.int .i64 (rd p i)) ∧ w.frozen? ⟨g3, i.toNat, none⟩ = false := Kd.R_celln 0 h.r3 i h0 (by exact_mod_cast hi)
def set4 (w : World) (g : Nat) (x0 x1 x2 x3 : Value) : World := (((w.setCell ⟨g, 0, none⟩ x0).setCell ⟨g, 1, none⟩ x1).setCell ⟨g, 2, none⟩ x2).setCell ⟨g, 3, none⟩ x3
theorem set4_far (w : World) (g : Nat) (x0 x1 x2 x3 : Value) (k : Nat) (h : k ≠ g) : (set4 w g x0 x1 x2 x3).heap[k]? = w.heap[k]? :=
  (Below.heap_setCell _ _ _ k h).trans ((Below.heap_setCell _ _ _ k h).trans ((Below.heap_setCell _ _ _ k h).trans (Below.heap_setCell _ _ _ k h)))
theorem set4_at {y0 y1 y2 y3 : Value} (h : w.heap[g]? = some (.cells #[y0, y1, y2, y3] t (0, 0))) (x0 x1 x2 x3 : Value) : (set4 w g x0 x1 x2 x3).heap[g]? = some (.cells #[x0, x1, x2, x3] t (0, 0)) :=
  blk_set (blk_set (blk_set (blk_set h 0 x0) 1 x1) 2 x2) 3 x3
theorem set4_below {w0 : World} (h : Below w0.heap.size w0 w) (hg : w0.heap.size ≤ g) (x0 x1 x2 x3 : Value) : Below w0.heap.size w0 (set4 w g x0 x1 x2 x3) := below_set (below_set (below_set (below_set h hg) hg) hg) hg
theorem FoR.set4 (h : FoR w base g0 c0 g1 c1 g2 c2 g3 c3 b d u p) (hb : w.heap[g]? = some (.cells cs t (0, 0))) (h3' : t ≠ 3) (h4 : t ≠ 4) (x0 x1 x2 x3 : Value) : FoR (set4 w g x0 x1 x2 x3) base g0 c0 g1 c1 g2 c2 g3 c3 b d u p := by
  have n := h.apart hb h3' h4
  exact h.map (set4_far _ _ _ _ _ _ _ (Ne.symm n.1)) (set4_far _ _ _ _ _ _ _ (Ne.symm n.2.1)) (set4_far _ _ _ _ _ _ _ (Ne.symm n.2.2.1)) (set4_far _ _ _ _ _ _ _ (Ne.symm n.2.2.2))
theorem FoR.of {v0 v1 v2 v3 : Value} {ok2 : Nat → Prop} (r0 : (Kd.int .i64).R 3 w base (fun k => some k ≠ v1.ownBlock ∧ some k ≠ v3.ownBlock) v0 b) (r1 : (Kd.int .i64).R 3 w base (fun k => some k ≠ v0.ownBlock ∧ some k ≠ v3.ownBlock) v1 d) (r2 : Kd.bool.R 4 w base ok2 v2 u) (r3 : (Kd.int .i64).R 3 w base (fun k => some k ≠ v0.ownBlock ∧ some k ≠ v1.ownBlock) v3 p)
    (hb : 0 < b.length) (hd : 0 < d.length) (hu : 0 < u.length) (hp : 0 < p.length) : ∃ g0 c0 g1 c1 g2 c2 g3 c3, v0 = .slice (some ⟨g0, 0, none⟩) b.length c0 ∧ v1 = .slice (some ⟨g1, 0, none⟩) d.length c1 ∧ v2 = .slice (some ⟨g2, 0, none⟩) u.length c2 ∧ v3 = .slice (some ⟨g3, 0, none⟩) p.length c3 ∧ FoR w base g0 c0 g1 c1 g2 c2 g3 c3 b d u p := by
  obtain ⟨g0, c0, e0, _⟩ := Kd.R_form r0 hb
  obtain ⟨g1, c1, e1, _⟩ := Kd.R_form r1 hd
  obtain ⟨g2, c2, e2, _⟩ := Kd.R_form r2 hu
  obtain ⟨g3, c3, e3, _⟩ := Kd.R_form r3 hp
  subst e0 e1 e2 e3
  have k0 := r0.1 g0 rfl
  have k1 := r1.1 g1 rfl
  refine ⟨g0, c0, g1, c1, g2, c2, g3, c3, rfl, rfl, rfl, rfl, Kd.R_mono r0 (fun _ _ => trivial), Kd.R_mono r1 (fun _ _ => trivial), Kd.R_mono r2 (fun _ _ => trivial), Kd.R_mono r3 (fun _ _ => trivial), fun e => k0.1 (by rw [e]; rfl), fun e => k0.2 (by rw [e]; rfl), fun e => k1.2 (by rw [e]; rfl)⟩
theorem FoR.back (h : FoR w base g0 c0 g1 c1 g2 c2 g3 c3 b d u p) : (Kd.int .i64).R 3 w base (fun k => some k ≠ (Value.slice (some ⟨g1, 0, none⟩) d.length c1).ownBlock ∧ some k ≠ (Value.slice (some ⟨g3, 0, none⟩) p.length c3).ownBlock) (.slice (some ⟨g0, 0, none⟩) b.length c0) b ∧ (Kd.int .i64).R 3 w base (fun k => some k ≠ (Value.slice (some ⟨g0, 0, none⟩) b.length c0).ownBlock ∧ some k ≠ (Value.slice (some ⟨g3, 0, none⟩) p.length c3).ownBlock) (.slice (some ⟨g1, 0, none⟩) d.length c1) d ∧ Kd.bool.R 4 w base (fun _ => True) (.slice (some ⟨g2, 0, none⟩) u.length c2) u ∧ (Kd.int .i64).R 3 w base (fun k => some k ≠ (Value.slice (some ⟨g0, 0, none⟩) b.length c0).ownBlock ∧ some k ≠ (Value.slice (some ⟨g1, 0, none⟩) d.length c1).ownBlock) (.slice (some ⟨g3, 0, none⟩) p.length c3) p := by
  have e0 : ∀ k, (Value.slice (some ⟨g0, 0, none⟩) b.length c0).ownBlock = some k → k = g0 := fun k hk => by simpa [Value.ownBlock] using hk.symm
  have e1 : ∀ k, (Value.slice (some ⟨g1, 0, none⟩) d.length c1).ownBlock = some k → k = g1 := fun k hk => by simpa [Value.ownBlock] using hk.symm
  have e3 : ∀ k, (Value.slice (some ⟨g3, 0, none⟩) p.length c3).ownBlock = some k → k = g3 := fun k hk => by simpa [Value.ownBlock] using hk.symm
  refine ⟨Kd.R_reok rfl h.r0 (fun k hk => ?_), Kd.R_reok rfl h.r1 (fun k hk => ?_), h.r2, Kd.R_reok rfl h.r3 (fun k hk => ?_)⟩
  · have := e0 k hk; subst this
    exact ⟨fun e => h.n01 (e1 _ e.symm), fun e => h.n03 (e3 _ e.symm)⟩
  · have := e1 k hk; subst this
    exact ⟨fun e => h.n01 (e0 _ e.symm).symm, fun e => h.n13 (e3 _ e.symm)⟩
  · have := e3 k hk; subst this
    exact ⟨fun e => h.n03 (e0 _ e.symm).symm, fun e => h.n13 (e1 _ e.symm).symm⟩
def Wr (g1 g2 g3 : Nat) : Nat → Prop := fun k => k = g1 ∨ k = g2 ∨ k = g3
def stepF (b d : List Int) (u : List Bool) (p : List Int) : Option (List Int × List Bool × List Int × Int) :=
  let j := rd p 0
  let i := (b.length : Int) - 1 - j
  let x := if rdOf false u i = true then rd d i + 1 else rd d i - 1
  if 0 ≤ j ∧ j < b.length ∧ b.length ≤ 1000 ∧ d.length = b.length ∧ u.length = b.length ∧ p.length = b.length + 1 ∧ -1000 ≤ rd d i ∧ rd d i ≤ 1000 ∧ -1000 ≤ rd b i ∧ rd b i ≤ 1000 then
    (if x = 0 ∨ x = rd b i - 1 then some (d.set i.toNat x, u.set i.toNat (!rdOf false u i), ((p.set 0 0).set j.toNat (rd (p.set 0 0) (j + 1))).set (j + 1).toNat (j + 1), j)
     else some (d.set i.toNat x, u, p.set 0 0, j))
  else none
theorem stepF_len {b d : List Int} {u : List Bool} {p d' : List Int} {u' : List Bool} {p' : List Int} {r : Int} (h : stepF b d u p = some (d', u', p', r)) : (d'.length = d.length ∧ u'.length = u.length ∧ p'.length = p.length) ∧ 0 < b.length ∧ 0 < d.length ∧ 0 < u.length ∧ 0 < p.length := by
  unfold stepF at h
  simp only at h
  obtain ⟨X, hX⟩ : ∃ X, (if rdOf false u ((b.length : Int) - 1 - rd p 0) = true then rd d ((b.length : Int) - 1 - rd p 0) + 1 else rd d ((b.length : Int) - 1 - rd p 0) - 1) = X := ⟨_, rfl⟩
  rw [hX] at h
  by_cases hc : 0 ≤ rd p 0 ∧ rd p 0 < b.length ∧ b.length ≤ 1000 ∧ d.length = b.length ∧ u.length = b.length ∧ p.length = b.length + 1 ∧ -1000 ≤ rd d ((b.length : Int) - 1 - rd p 0) ∧ rd d ((b.length : Int) - 1 - rd p 0) ≤ 1000 ∧ -1000 ≤ rd b ((b.length : Int) - 1 - rd p 0) ∧ rd b ((b.length : Int) - 1 - rd p 0) ≤ 1000
  rotate_left
  · rw [if_neg hc] at h; cases h
  rw [if_pos hc] at h
  have q : 0 < b.length ∧ 0 < d.length ∧ 0 < u.length ∧ 0 < p.length := ⟨by omega, by omega, by omega, by omega⟩
  by_cases hz : X = 0 ∨ X = rd b ((b.length : Int) - 1 - rd p 0) - 1
  · rw [if_pos hz] at h
    simp only [Option.some.injEq, Prod.mk.injEq] at h
    obtain ⟨rfl, rfl, rfl, rfl⟩ := h
    exact ⟨by simp, q⟩
  · rw [if_neg hz] at h
    simp only [Option.some.injEq, Prod.mk.injEq] at h
    obtain ⟨rfl, rfl, rfl, rfl⟩ := h
    exact ⟨by simp, q⟩
def OwnB (v0 v1 v2 v3 : Value) (k : Nat) : Prop := v0.ownBlock = some k ∨ v1.ownBlock = some k ∨ v2.ownBlock = some k ∨ v3.ownBlock = some k
structure FoV (w : World) (base : Nat) (v0 v1 v2 v3 : Value) (b d : List Int) (u : List Bool) (p : List Int) : Prop where mk ::
  r0 : (Kd.int .i64).R 3 w base (fun k => some k ≠ v1.ownBlock ∧ some k ≠ v3.ownBlock) v0 b
  r1 : (Kd.int .i64).R 3 w base (fun k => some k ≠ v0.ownBlock ∧ some k ≠ v3.ownBlock) v1 d
  r2 : Kd.bool.R 4 w base (fun _ => True) v2 u
  r3 : (Kd.int .i64).R 3 w base (fun k => some k ≠ v0.ownBlock ∧ some k ≠ v1.ownBlock) v3 p
section
variable {v0 v1 v2 v3 : Value}
theorem FoV.map (h : FoV w base v0 v1 v2 v3 b d u p) (hm : ∀ k, OwnB v0 v1 v2 v3 k → w1.heap[k]? = w.heap[k]?) : FoV w1 base v0 v1 v2 v3 b d u p :=
  ⟨Kd.R_mono (Kd.R_move (Kd.R_tight rfl h.r0) (fun k hk => hm k (.inl hk.symm))) (fun k hk => h.r0.1 k hk.symm),
   Kd.R_mono (Kd.R_move (Kd.R_tight rfl h.r1) (fun k hk => hm k (.inr (.inl hk.symm)))) (fun k hk => h.r1.1 k hk.symm),
   Kd.R_mono (Kd.R_move (Kd.R_tight rfl h.r2) (fun k hk => hm k (.inr (.inr (.inl hk.symm))))) (fun k hk => h.r2.1 k hk.symm),
   Kd.R_mono (Kd.R_move (Kd.R_tight rfl h.r3) (fun k hk => hm k (.inr (.inr (.inr hk.symm))))) (fun k hk => h.r3.1 k hk.symm)⟩
theorem FoV.typed (h : FoV w base v0 v1 v2 v3 b d u p) : ∀ k, OwnB v0 v1 v2 v3 k → ∃ cells t, w.heap[k]? = some (.cells cells t (0, 0)) ∧ (t = 3 ∨ t = 4) := by
  intro k hk
  rcases hk with hk | hk | hk | hk
  · obtain ⟨_, ho⟩ := Kd.R_own h.r0
    obtain ⟨c, hc⟩ := own_typed ho k hk
    exact ⟨c, 3, hc, .inl rfl⟩
  · obtain ⟨_, ho⟩ := Kd.R_own h.r1
    obtain ⟨c, hc⟩ := own_typed ho k hk
    exact ⟨c, 3, hc, .inl rfl⟩
  · obtain ⟨_, ho⟩ := Kd.R_own h.r2
    obtain ⟨c, hc⟩ := own_typed ho k hk
    exact ⟨c, 4, hc, .inr rfl⟩
  · obtain ⟨_, ho⟩ := Kd.R_own h.r3
    obtain ⟨c, hc⟩ := own_typed ho k hk
    exact ⟨c, 3, hc, .inl rfl⟩
theorem FoV.lt (h : FoV w base v0 v1 v2 v3 b d u p) : ∀ k, OwnB v0 v1 v2 v3 k → k < w.heap.size := by
  intro k hk
  obtain ⟨c, t, hc, _⟩ := h.typed k hk
  exact blk_lt hc
theorem FoV.below (h : FoV w base v0 v1 v2 v3 b d u p) (hb : Below w.heap.size w w1) : FoV w1 base v0 v1 v2 v3 b d u p := h.map (fun k hk => hb.block k (h.lt k hk))
theorem FoV.alloc (h : FoV w base v0 v1 v2 v3 b d u p) (o : Obj) : FoV (w.alloc o) base v0 v1 v2 v3 b d u p := h.below (below_alloc (Below.refl _ _) o)
theorem FoV.drew (h : FoV w base v0 v1 v2 v3 b d u p) : FoV w.drew base v0 v1 v2 v3 b d u p := h.map (fun _ _ => rfl)
theorem FoV.drewN (h : FoV w base v0 v1 v2 v3 b d u p) (m : Nat) : FoV (w.drewN m) base v0 v1 v2 v3 b d u p := h.below (pw_below_drewN (Below.refl _ _) m)
theorem FoV.apart (h : FoV w base v0 v1 v2 v3 b d u p) (hb : w.heap[g]? = some (.cells cs t (0, 0))) (h3' : t ≠ 3) (h4 : t ≠ 4) : ∀ k, OwnB v0 v1 v2 v3 k → k ≠ g := by
  rintro k hk rfl
  obtain ⟨c, t', hc, ht⟩ := h.typed k hk
  rw [hb] at hc
  injection hc with hc
  injection hc with _ hc _
  rcases ht with ht | ht
  · exact h3' (hc.trans ht)
  · exact h4 (hc.trans ht)
theorem FoV.set4 (h : FoV w base v0 v1 v2 v3 b d u p) (hb : w.heap[g]? = some (.cells cs t (0, 0))) (h3' : t ≠ 3) (h4 : t ≠ 4) (x0 x1 x2 x3 : Value) : FoV (set4 w g x0 x1 x2 x3) base v0 v1 v2 v3 b d u p :=
  h.map (fun k hk => set4_far _ _ _ _ _ _ _ (h.apart hb h3' h4 k hk))
theorem FoV.grown (h : FoV w base v0 v1 v2 v3 b d u p) {row : Option Nat} (hg : w.grownBy w1 row) (hne : ∀ k, row = some k → ¬ OwnB v0 v1 v2 v3 k) : FoV w1 base v0 v1 v2 v3 b d u p :=
  h.map (fun k hk => hg.block k (h.lt k hk) (fun e => hne k e.symm hk))
end
end Go.Proofs.YtapbbmicfkbafaaGreat.FoW
