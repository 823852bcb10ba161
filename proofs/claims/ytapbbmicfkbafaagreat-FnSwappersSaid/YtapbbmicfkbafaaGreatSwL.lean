import Derived.Test.YtapbbmicfkbafaaGreatSwW
namespace Go.Proofs.YtapbbmicfkbafaaGreat.SwL
open Go Go.RowKit Go.Proofs.YtapbbmicfkbafaaGreatW.PrintWords Go.Proofs.YtapbbmicfkbafaaGreat.FoW Go.Proofs.YtapbbmicfkbafaaGreat.SwW
set_option linter.unusedVariables false
set_option linter.unusedSimpArgs false
structure SwC (w : World) (base : Nat) (v0 v1 v2 v3 v4 v5 : Value) (b d : List Int) (u : List Bool) (p it wh : List Int) : Prop where mk ::
  r0 : (Kd.int .i64).R 3 w base (fun _ => True) v0 b
  r1 : (Kd.int .i64).R 3 w base (fun _ => True) v1 d
  r2 : Kd.bool.R 4 w base (fun _ => True) v2 u
  r3 : (Kd.int .i64).R 3 w base (fun _ => True) v3 p
  r4 : (Kd.int .i64).R 3 w base (fun _ => True) v4 it
  r5 : (Kd.int .i64).R 3 w base (fun _ => True) v5 wh
variable {w w1 : World} {base base' g : Nat} {v0 v1 v2 v3 v4 v5 : Value} {b d : List Int} {u : List Bool} {p it wh : List Int} {cs : Array Value} {t : Nat}
theorem _root_.Go.Proofs.YtapbbmicfkbafaaGreat.SwW.SwV.weak (h : SwV w base v0 v1 v2 v3 v4 v5 b d u p it wh) : SwC w base v0 v1 v2 v3 v4 v5 b d u p it wh :=
  ⟨Kd.R_mono h.r0 (fun _ _ => trivial), Kd.R_mono h.r1 (fun _ _ => trivial), h.r2, Kd.R_mono h.r3 (fun _ _ => trivial), Kd.R_mono h.r4 (fun _ _ => trivial), Kd.R_mono h.r5 (fun _ _ => trivial)⟩
theorem SwC.map (h : SwC w base v0 v1 v2 v3 v4 v5 b d u p it wh) (hm : ∀ k, OwnS v0 v1 v2 v3 v4 v5 k → w1.heap[k]? = w.heap[k]?) : SwC w1 base v0 v1 v2 v3 v4 v5 b d u p it wh :=
  ⟨Kd.R_mono (Kd.R_move (Kd.R_tight rfl h.r0) (fun k hk => hm k (.inl hk.symm))) (fun _ _ => trivial),
   Kd.R_mono (Kd.R_move (Kd.R_tight rfl h.r1) (fun k hk => hm k (.inr (.inl hk.symm)))) (fun _ _ => trivial),
   Kd.R_mono (Kd.R_move (Kd.R_tight rfl h.r2) (fun k hk => hm k (.inr (.inr (.inl hk.symm))))) (fun _ _ => trivial),
   Kd.R_mono (Kd.R_move (Kd.R_tight rfl h.r3) (fun k hk => hm k (.inr (.inr (.inr (.inl hk.symm)))))) (fun _ _ => trivial),
   Kd.R_mono (Kd.R_move (Kd.R_tight rfl h.r4) (fun k hk => hm k (.inr (.inr (.inr (.inr (.inl hk.symm))))))) (fun _ _ => trivial),
   Kd.R_mono (Kd.R_move (Kd.R_tight rfl h.r5) (fun k hk => hm k (.inr (.inr (.inr (.inr (.inr hk.symm))))))) (fun _ _ => trivial)⟩
theorem SwC.typed (h : SwC w base v0 v1 v2 v3 v4 v5 b d u p it wh) : ∀ k, OwnS v0 v1 v2 v3 v4 v5 k → ∃ cells t, w.heap[k]? = some (.cells cells t (0, 0)) ∧ (t = 3 ∨ t = 4) := by
  intro k hk
  have ho : (∃ x, (w.heap[k]? = some (.cells x 3 (0, 0)))) ∨ (∃ x, (w.heap[k]? = some (.cells x 4 (0, 0)))) := by
    rcases hk with hk | hk | hk | hk | hk | hk
    · obtain ⟨_, ho⟩ := Kd.R_own h.r0; exact .inl (own_typed ho k hk)
    · obtain ⟨_, ho⟩ := Kd.R_own h.r1; exact .inl (own_typed ho k hk)
    · obtain ⟨_, ho⟩ := Kd.R_own h.r2; exact .inr (own_typed ho k hk)
    · obtain ⟨_, ho⟩ := Kd.R_own h.r3; exact .inl (own_typed ho k hk)
    · obtain ⟨_, ho⟩ := Kd.R_own h.r4; exact .inl (own_typed ho k hk)
    · obtain ⟨_, ho⟩ := Kd.R_own h.r5; exact .inl (own_typed ho k hk)
  rcases ho with ⟨c, hc⟩ | ⟨c, hc⟩
  · exact ⟨c, 3, hc, .inl rfl⟩
  · exact ⟨c, 4, hc, .inr rfl⟩
theorem SwC.lt (h : SwC w base v0 v1 v2 v3 v4 v5 b d u p it wh) : ∀ k, OwnS v0 v1 v2 v3 v4 v5 k → k < w.heap.size := by
  intro k hk
  obtain ⟨c, t, hc, _⟩ := h.typed k hk
  exact blk_lt hc
theorem SwC.below (h : SwC w base v0 v1 v2 v3 v4 v5 b d u p it wh) (hb : Below w.heap.size w w1) : SwC w1 base v0 v1 v2 v3 v4 v5 b d u p it wh := h.map (fun k hk => hb.block k (h.lt k hk))
theorem SwC.drew (h : SwC w base v0 v1 v2 v3 v4 v5 b d u p it wh) : SwC w.drew base v0 v1 v2 v3 v4 v5 b d u p it wh := h.map (fun _ _ => rfl)
theorem SwC.drewN (h : SwC w base v0 v1 v2 v3 v4 v5 b d u p it wh) (m : Nat) : SwC (w.drewN m) base v0 v1 v2 v3 v4 v5 b d u p it wh := h.below (pw_below_drewN (Below.refl _ _) m)
theorem SwC.set6 (h : SwC w base v0 v1 v2 v3 v4 v5 b d u p it wh) (hb : w.heap[g]? = some (.cells cs t (0, 0))) (h3' : t ≠ 3) (h4 : t ≠ 4) (x0 x1 x2 x3 x4 x5 : Value) : SwC (set6 w g x0 x1 x2 x3 x4 x5) base v0 v1 v2 v3 v4 v5 b d u p it wh := by
  refine h.map (fun k hk => set6_far _ _ _ _ _ _ _ _ _ ?_)
  rintro rfl
  obtain ⟨c, t', hc, ht⟩ := h.typed k hk
  rw [hb] at hc
  injection hc with hc
  injection hc with _ hc _
  rcases ht with ht | ht
  · exact h3' (hc.trans ht)
  · exact h4 (hc.trans ht)
theorem SwC.ge (h : SwC w base v0 v1 v2 v3 v4 v5 b d u p it wh) : ∀ k, OwnS v0 v1 v2 v3 v4 v5 k → base ≤ k := by
  intro k hk
  rcases hk with hk | hk | hk | hk | hk | hk
  · exact Kd.R_base h.r0 k hk
  · exact Kd.R_base h.r1 k hk
  · exact Kd.R_base h.r2 k hk
  · exact Kd.R_base h.r3 k hk
  · exact Kd.R_base h.r4 k hk
  · exact Kd.R_base h.r5 k hk
theorem SwC.kept {P : Nat → Prop} (h : SwC w base v0 v1 v2 v3 v4 v5 b d u p it wh) (hk : Kept w w1 P) (hP : ∀ k, OwnS v0 v1 v2 v3 v4 v5 k → ¬ P k) : SwC w1 base v0 v1 v2 v3 v4 v5 b d u p it wh := h.map (fun k hk_ => hk.2 k (h.lt k hk_) (hP k hk_))
theorem SwC.slices (h : SwC w base v0 v1 v2 v3 v4 v5 b d u p it wh) : ∃ A0 c0 A1 c1 A2 c2 A3 c3 A4 c4 A5 c5, v0 = .slice A0 b.length c0 ∧ v1 = .slice A1 d.length c1 ∧ v2 = .slice A2 u.length c2 ∧ v3 = .slice A3 p.length c3 ∧ v4 = .slice A4 it.length c4 ∧ v5 = .slice A5 wh.length c5 := by
  obtain ⟨A0, c0, e0⟩ := Kd.R_slice h.r0
  obtain ⟨A1, c1, e1⟩ := Kd.R_slice h.r1
  obtain ⟨A2, c2, e2⟩ := Kd.R_slice h.r2
  obtain ⟨A3, c3, e3⟩ := Kd.R_slice h.r3
  obtain ⟨A4, c4, e4⟩ := Kd.R_slice h.r4
  obtain ⟨A5, c5, e5⟩ := Kd.R_slice h.r5
  exact ⟨A0, c0, A1, c1, A2, c2, A3, c3, A4, c4, A5, c5, e0, e1, e2, e3, e4, e5⟩
end Go.Proofs.YtapbbmicfkbafaaGreat.SwL
