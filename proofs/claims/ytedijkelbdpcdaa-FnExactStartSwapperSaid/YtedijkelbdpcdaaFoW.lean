import Derived.Test.YtedijkelbdpcdaaWKept
import Derived.Test.YtedijkelbdpcdaaWMore
namespace Go.Proofs.Ytedijkelbdpcdaa.FoW
open Go Go.RowKit Go.Proofs.YtedijkelbdpcdaaW.PrintWords
set_option linter.unusedVariables false
set_option linter.unusedSimpArgs false
structure FoR (w : World) (base : Nat) (g0 c0 g1 c1 g2 c2 g3 c3 : Nat) (b d : List Int) (u : List Bool) (p : List Int) : Prop where mk ::
  r0 : (Kd.int .i64).R 3 w base (fun _ => True) (.slice (some ⟨g0, 0, none⟩) b.length c0) b
  r1 : (Kd.int .i64).R 3 w base (fun _ => True) (.slice (some ⟨g1, 0, none⟩) d.length c1) d
  r2 : Kd.bool.R 4 w base (fun _ => True) (.slice (some ⟨g2, 0, none⟩) u.length c2) u
  r3 : (Kd.int .i64).R 3 w base (fun _ => True) (.slice (some ⟨g3, 0, none⟩) p.length c3) p
  n01 : g0 ≠ g1
  n03 : g0 ≠ g3
  n13 : g1 ≠ g3
variable {w w1 : World} {base g0 c0 g1 c1 g2 c2 g3 c3 g : Nat} {b d : List Int} {u : List Bool} {p : List Int} {cs : Array Value} {t : Nat}
theorem R_map {α : Type} {k : Kd α} {e : Nat} {g n c : Nat} {xs : List α} (hE : k.E = []) (h : k.R e w base (fun _ => True) (.slice (some ⟨g, 0, none⟩) n c) xs) (hb : w1.heap[g]? = w.heap[g]?) : k.R e w1 base (fun _ => True) (.slice (some ⟨g, 0, none⟩) n c) xs :=
  Kd.R_mono (Kd.R_move (Kd.R_tight hE h) (fun k hk => by
    have : k = g := by simpa [Value.ownBlock] using hk
    subst this; exact hb)) (fun _ _ => trivial)
theorem FoR.map (h : FoR w base g0 c0 g1 c1 g2 c2 g3 c3 b d u p) (h0 : w1.heap[g0]? = w.heap[g0]?) (h1 : w1.heap[g1]? = w.heap[g1]?) (h2 : w1.heap[g2]? = w.heap[g2]?) (h3 : w1.heap[g3]? = w.heap[g3]?) : FoR w1 base g0 c0 g1 c1 g2 c2 g3 c3 b d u p :=
  ⟨R_map rfl h.r0 h0, R_map rfl h.r1 h1, R_map rfl h.r2 h2, R_map rfl h.r3 h3, h.n01, h.n03, h.n13⟩
theorem FoR.lt (h : FoR w base g0 c0 g1 c1 g2 c2 g3 c3 b d u p) : g0 < w.heap.size ∧ g1 < w.heap.size ∧ g2 < w.heap.size ∧ g3 < w.heap.size :=
  ⟨Kd.R_lt h.r0 g0 rfl, Kd.R_lt h.r1 g1 rfl, Kd.R_lt h.r2 g2 rfl, Kd.R_lt h.r3 g3 rfl⟩
theorem FoR.below (h : FoR w base g0 c0 g1 c1 g2 c2 g3 c3 b d u p) (hb : Below w.heap.size w w1) : FoR w1 base g0 c0 g1 c1 g2 c2 g3 c3 b d u p :=
  h.map (hb.block _ h.lt.1) (hb.block _ h.lt.2.1) (hb.block _ h.lt.2.2.1) (hb.block _ h.lt.2.2.2)
theorem FoR.alloc (h : FoR w base g0 c0 g1 c1 g2 c2 g3 c3 b d u p) (o : Obj) : FoR (w.alloc o) base g0 c0 g1 c1 g2 c2 g3 c3 b d u p := h.below (below_alloc (Below.refl _ _) o)
theorem FoR.drew (h : FoR w base g0 c0 g1 c1 g2 c2 g3 c3 b d u p) : FoR w.drew base g0 c0 g1 c1 g2 c2 g3 c3 b d u p := h.map rfl rfl rfl rfl
theorem FoR.drewN (h : FoR w base g0 c0 g1 c1 g2 c2 g3 c3 b d u p) (m : Nat) : FoR (w.drewN m) base g0 c0 g1 c1 g2 c2 g3 c3 b d u p := h.below (pw_below_drewN (Below.refl _ _) m)
theorem typed {α : Type} {k : Kd α} {e : Nat} {g n c : Nat} {xs : List α} (h : k.R e w base (fun _ => True) (.slice (some ⟨g, 0, none⟩) n c) xs) : ∃ cells, w.heap[g]? = some (.cells cells e (0, 0)) := by
  obtain ⟨inner, ho⟩ := Kd.R_own h
  exact own_typed ho g rfl
theorem ne_of_types {e e' : Nat} {cells cells' : Array Value} {g g' : Nat} (h : w.heap[g]? = some (.cells cells e (0, 0))) (h' : w.heap[g']? = some (.cells cells' e' (0, 0))) (ht : e ≠ e') : g ≠ g' := by
  rintro rfl
  rw [h] at h'
  injection h' with h'
  injection h' with _ h' _
  exact ht h'
theorem FoR.apart (h : FoR w base g0 c0 g1 c1 g2 c2 g3 c3 b d u p) (hb : w.heap[g]? = some (.cells cs t (0, 0))) (h3' : t ≠ 3) (h4 : t ≠ 4) : g ≠ g0 ∧ g ≠ g1 ∧ g ≠ g2 ∧ g ≠ g3 := by
  obtain ⟨_, h0⟩ := typed h.r0
  obtain ⟨_, h1⟩ := typed h.r1
  obtain ⟨_, h2⟩ := typed h.r2
  obtain ⟨_, h3⟩ := typed h.r3
  exact ⟨ne_of_types hb h0 h3', ne_of_types hb h1 h3', ne_of_types hb h2 h4, ne_of_types hb h3 h3'⟩
theorem FoR.far (h : FoR w base g0 c0 g1 c1 g2 c2 g3 c3 b d u p) (a : Addr) (v : Value) (h0 : g0 ≠ a.block) (h1 : g1 ≠ a.block) (h2 : g2 ≠ a.block) (h3 : g3 ≠ a.block) : FoR (w.setCell a v) base g0 c0 g1 c1 g2 c2 g3 c3 b d u p :=
  h.map (Below.heap_setCell w a v _ h0) (Below.heap_setCell w a v _ h1) (Below.heap_setCell w a v _ h2) (Below.heap_setCell w a v _ h3)
theorem FoR.of {v0 v1 v2 v3 : Value} {ok2 : Nat → Prop} (r0 : (Kd.int .i64).R 3 w base (fun k => some k ≠ v1.ownBlock ∧ some k ≠ v3.ownBlock) v0 b) (r1 : (Kd.int .i64).R 3 w base (fun k => some k ≠ v0.ownBlock ∧ some k ≠ v3.ownBlock) v1 d) (r2 : Kd.bool.R 4 w base ok2 v2 u) (r3 : (Kd.int .i64).R 3 w base (fun k => some k ≠ v0.ownBlock ∧ some k ≠ v1.ownBlock) v3 p)
    (hb : 0 < b.length) (hd : 0 < d.length) (hu : 0 < u.length) (hp : 0 < p.length) : ∃ g0 c0 g1 c1 g2 c2 g3 c3, v0 = .slice (some ⟨g0, 0, none⟩) b.length c0 ∧ v1 = .slice (some ⟨g1, 0, none⟩) d.length c1 ∧ v2 = .slice (some ⟨g2, 0, none⟩) u.length c2 ∧ v3 = .slice (some ⟨g3, 0, none⟩) p.length c3 ∧ FoR w base g0 c0 g1 c1 g2 c2 g3 c3 b d u p := by
  obtain ⟨g0, c0, e0, _⟩ := Kd.R_form r0 hb
  obtain ⟨g1, c1, e1, _⟩ := Kd.R_form r1 hd
  obtain ⟨g2, c2, e2, _⟩ := Kd.R_form r2 hu
  obtain ⟨g3, c3, e3, _⟩ := Kd.R_form r3 hp
  subst e0 e1 e2 e3
  have k0 := r0.1 g0 rfl
  have k1 := r1.1 g1 rfl
  refine ⟨g0, c0, g1, c1, g2, c2, g3, c3, rfl, rfl, rfl, rfl, Kd.R_mono r0 (fun _ _ => trivial), Kd.R_mono r1 (fun _ _ => trivial), Kd.R_mono r2 (fun _ _ => trivial), Kd.R_mono r3 (fun _ _ => trivial), fun e => k0.1 (by rw [e]; rfl), fun e => k0.2 (by rw [e]; rfl), fun e => k1.2 (by rw [e]; rfl)⟩
theorem FoR.back (h : FoR w base g0 c0 g1 c1 g2 c2 g3 c3 b d u p) : (Kd.int .i64).R 3 w base (fun k => some k ≠ (Value.slice (some ⟨g1, 0, none⟩) d.length c1).ownBlock ∧ some k ≠ (Value.slice (some ⟨g3, 0, none⟩) p.length c3).ownBlock) (.slice (some ⟨g0, 0, none⟩) b.length c0) b ∧ (Kd.int .i64).R 3 w base (fun k => some k ≠ (Value.slice (some ⟨g0, 0, none⟩) b.length c0).ownBlock ∧ some k ≠ (Value.slice (some ⟨g3, 0, none⟩) p.length c3).ownBlock) (.slice (some ⟨g1, 0, none⟩) d.length c1) d ∧ Kd.bool.R 4 w base (fun _ => True) (.slice (some ⟨g2, 0, none⟩) u.length c2) u ∧ (Kd.int .i64).R 3 w base (fun k => some k ≠ (Value.slice (some ⟨g0, 0, none⟩) b.length c0).ownBlock ∧ some k ≠ (Value.slice (some ⟨g1, 0, none⟩) d.length c1).ownBlock) (.slice (some ⟨g3, 0, none⟩) p.length c3) p := by
  have e0 : ∀ k, (Value.slice (some ⟨g0, 0, none⟩) b.length c0).ownBlock = some k → k = g0 := fun k hk => by simpa [Value.ownBlock] using hk.symm
  have e1 : ∀ k, (Value.slice (some ⟨g1, 0, none⟩) d.length c1).ownBlock = some k → k = g1 := fun k hk => by simpa [Value.ownBlock] using hk.symm
  have e3 : ∀ k, (Value.slice (some ⟨g3, 0, none⟩) p.length c3).ownBlock = some k → k = g3 := fun k hk => by simpa [Value.ownBlock] using hk.symm
  refine ⟨Kd.R_reok rfl h.r0 (fun k hk => ?_), Kd.R_reok rfl h.r1 (fun k hk => ?_), h.r2, Kd.R_reok rfl h.r3 (fun k hk => ?_)⟩
  · have := e0 k hk; subst this
    exact ⟨fun e => h.n01 (e1 _ e.symm), fun e => h.n03 (e3 _ e.symm)⟩
  · have := e1 k hk; subst this
    exact ⟨fun e => h.n01 (e0 _ e.symm).symm, fun e => h.n13 (e3 _ e.symm)⟩
  · have := e3 k hk; subst this
    exact ⟨fun e => h.n03 (e0 _ e.symm).symm, fun e => h.n13 (e1 _ e.symm).symm⟩
def OwnB (v0 v1 v2 v3 : Value) (k : Nat) : Prop := v0.ownBlock = some k ∨ v1.ownBlock = some k ∨ v2.ownBlock = some k ∨ v3.ownBlock = some k
structure FoV (w : World) (base : Nat) (v0 v1 v2 v3 : Value) (b d : List Int) (u : List Bool) (p : List Int) : Prop where mk ::
  r0 : (Kd.int .i64).R 3 w base (fun k => some k ≠ v1.ownBlock ∧ some k ≠ v3.ownBlock) v0 b
  r1 : (Kd.int .i64).R 3 w base (fun k => some k ≠ v0.ownBlock ∧ some k ≠ v3.ownBlock) v1 d
  r2 : Kd.bool.R 4 w base (fun _ => True) v2 u
  r3 : (Kd.int .i64).R 3 w base (fun k => some k ≠ v0.ownBlock ∧ some k ≠ v1.ownBlock) v3 p
section
variable {v0 v1 v2 v3 : Value}
theorem FoV.map (h : FoV w base v0 v1 v2 v3 b d u p) (hm : ∀ k, OwnB v0 v1 v2 v3 k → w1.heap[k]? = w.heap[k]?) : FoV w1 base v0 v1 v2 v3 b d u p :=
  ⟨Kd.R_mono (Kd.R_move (Kd.R_tight rfl h.r0) (fun k hk => hm k (.inl hk.symm))) (fun k hk => h.r0.1 k hk.symm),
   Kd.R_mono (Kd.R_move (Kd.R_tight rfl h.r1) (fun k hk => hm k (.inr (.inl hk.symm)))) (fun k hk => h.r1.1 k hk.symm),
   Kd.R_mono (Kd.R_move (Kd.R_tight rfl h.r2) (fun k hk => hm k (.inr (.inr (.inl hk.symm))))) (fun k hk => h.r2.1 k hk.symm),
   Kd.R_mono (Kd.R_move (Kd.R_tight rfl h.r3) (fun k hk => hm k (.inr (.inr (.inr hk.symm))))) (fun k hk => h.r3.1 k hk.symm)⟩
theorem FoV.typed (h : FoV w base v0 v1 v2 v3 b d u p) : ∀ k, OwnB v0 v1 v2 v3 k → ∃ cells t, w.heap[k]? = some (.cells cells t (0, 0)) ∧ (t = 3 ∨ t = 4) := by
  intro k hk
  rcases hk with hk | hk | hk | hk
  · obtain ⟨_, ho⟩ := Kd.R_own h.r0
    obtain ⟨c, hc⟩ := own_typed ho k hk
    exact ⟨c, 3, hc, .inl rfl⟩
  · obtain ⟨_, ho⟩ := Kd.R_own h.r1
    obtain ⟨c, hc⟩ := own_typed ho k hk
    exact ⟨c, 3, hc, .inl rfl⟩
  · obtain ⟨_, ho⟩ := Kd.R_own h.r2
    obtain ⟨c, hc⟩ := own_typed ho k hk
    exact ⟨c, 4, hc, .inr rfl⟩
  · obtain ⟨_, ho⟩ := Kd.R_own h.r3
    obtain ⟨c, hc⟩ := own_typed ho k hk
    exact ⟨c, 3, hc, .inl rfl⟩
theorem FoV.lt (h : FoV w base v0 v1 v2 v3 b d u p) : ∀ k, OwnB v0 v1 v2 v3 k → k < w.heap.size := by
  intro k hk
  obtain ⟨c, t, hc, _⟩ := h.typed k hk
  exact blk_lt hc
theorem FoV.below (h : FoV w base v0 v1 v2 v3 b d u p) (hb : Below w.heap.size w w1) : FoV w1 base v0 v1 v2 v3 b d u p := h.map (fun k hk => hb.block k (h.lt k hk))
theorem FoV.alloc (h : FoV w base v0 v1 v2 v3 b d u p) (o : Obj) : FoV (w.alloc o) base v0 v1 v2 v3 b d u p := h.below (below_alloc (Below.refl _ _) o)
theorem FoV.drew (h : FoV w base v0 v1 v2 v3 b d u p) : FoV w.drew base v0 v1 v2 v3 b d u p := h.map (fun _ _ => rfl)
theorem FoV.drewN (h : FoV w base v0 v1 v2 v3 b d u p) (m : Nat) : FoV (w.drewN m) base v0 v1 v2 v3 b d u p := h.below (pw_below_drewN (Below.refl _ _) m)
theorem FoV.apart (h : FoV w base v0 v1 v2 v3 b d u p) (hb : w.heap[g]? = some (.cells cs t (0, 0))) (h3' : t ≠ 3) (h4 : t ≠ 4) : ∀ k, OwnB v0 v1 v2 v3 k → k ≠ g := by
  rintro k hk rfl
  obtain ⟨c, t', hc, ht⟩ := h.typed k hk
  rw [hb] at hc
  injection hc with hc
  injection hc with _ hc _
  rcases ht with ht | ht
  · exact h3' (hc.trans ht)
  · exact h4 (hc.trans ht)
theorem FoV.grown (h : FoV w base v0 v1 v2 v3 b d u p) {row : Option Nat} (hg : w.grownBy w1 row) (hne : ∀ k, row = some k → ¬ OwnB v0 v1 v2 v3 k) : FoV w1 base v0 v1 v2 v3 b d u p :=
  h.map (fun k hk => hg.block k (h.lt k hk) (fun e => hne k e.symm hk))
end
end Go.Proofs.Ytedijkelbdpcdaa.FoW
