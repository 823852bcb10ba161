import Derived.Test.YtapbbmicfkbafaaGreatSwL
namespace Go.Proofs.YtapbbmicfkbafaaGreat.StpW
open Go Go.RowKit Go.Proofs.YtapbbmicfkbafaaGreatW.PrintWords Go.Proofs.YtapbbmicfkbafaaGreat.FoW Go.Proofs.YtapbbmicfkbafaaGreat.SwW Go.Proofs.YtapbbmicfkbafaaGreat.SwL
set_option linter.unusedVariables false
set_option linter.unusedSimpArgs false
variable {w W w1 : World} {base : Nat} {v0 v1 v2 v3 v4 v5 : Value} {b d : List Int} {u : List Bool} {p l m : List Int}
structure P5 (w : World) (base : Nat) (v0 v1 v2 v3 v4 : Value) (b d : List Int) (u : List Bool) (p l : List Int) : Prop where mk ::
  f : FoV w base v0 v1 v2 v3 b d u p
  r4 : (Kd.int .i64).R 3 w base (fun k => some k ≠ v0.ownBlock ∧ some k ≠ v1.ownBlock ∧ some k ≠ v3.ownBlock) v4 l
theorem P5.below (h : P5 W base v0 v1 v2 v3 v4 b d u p l) (hb : Below W.heap.size W w1) : P5 w1 base v0 v1 v2 v3 v4 b d u p l := ⟨h.f.below hb, Kd.R_below h.r4 hb⟩
theorem P5.drewN (h : P5 W base v0 v1 v2 v3 v4 b d u p l) (n : Nat) : P5 (W.drewN n) base v0 v1 v2 v3 v4 b d u p l := h.below (pw_below_drewN (Below.refl _ _) n)
theorem P5.drew (h : P5 W base v0 v1 v2 v3 v4 b d u p l) : P5 W.drew base v0 v1 v2 v3 v4 b d u p l := ⟨h.f.drew, Kd.R_drew h.r4⟩
theorem P5.of {ok : Nat → Prop} (hf : FoV W base v0 v1 v2 v3 b d u p) (hb : Below W.heap.size W w1) (hs : base ≤ W.heap.size) (ho : (Kd.int .i64).R 3 w1 W.heap.size ok v4 l) : P5 w1 base v0 v1 v2 v3 v4 b d u p l :=
  ⟨hf.below hb, Kd.R_reok rfl (Kd.R_lower ho hs) (fun k hk => by
    have h1 := Kd.R_base ho k hk
    have h2 := fun q => hf.lt k q
    refine ⟨fun e => ?_, fun e => ?_, fun e => ?_⟩
    · have := h2 (.inl e.symm); omega
    · have := h2 (.inr (.inl e.symm)); omega
    · have := h2 (.inr (.inr (.inr e.symm))); omega)⟩
theorem _root_.Go.Proofs.YtapbbmicfkbafaaGreat.SwW.SwV.of5 {ok : Nat → Prop} (h : P5 W base v0 v1 v2 v3 v4 b d u p l) (hb : Below W.heap.size W w1) (hs : base ≤ W.heap.size) (ho : (Kd.int .i64).R 3 w1 W.heap.size ok v5 m) : SwV w1 base v0 v1 v2 v3 v4 v5 b d u p l m := by
  have g := h.below hb
  have n5 : ∀ k, v5.ownBlock = some k → W.heap.size ≤ k := fun k hk => Kd.R_base ho k hk
  have l0 : ∀ k, OwnB v0 v1 v2 v3 k → k < W.heap.size := h.f.lt
  have l4 : ∀ k, v4.ownBlock = some k → k < W.heap.size := Kd.R_lt h.r4
  have x5 : ∀ k, v5.ownBlock = some k → ¬ OwnB v0 v1 v2 v3 k := fun k hk q => by have := n5 k hk; have := l0 k q; omega
  have y5 : ∀ k, v5.ownBlock = some k → v4.ownBlock ≠ some k := fun k hk q => by have := n5 k hk; have := l4 k q; omega
  refine ⟨Kd.R_reok rfl g.f.r0 (fun k hk => ?_), Kd.R_reok rfl g.f.r1 (fun k hk => ?_), g.f.r2, Kd.R_reok rfl g.f.r3 (fun k hk => ?_), Kd.R_reok rfl g.r4 (fun k hk => ?_), Kd.R_reok rfl (Kd.R_lower ho hs) (fun k hk => ?_)⟩
  · have q := g.f.r0.1 k hk
    exact ⟨q.1, q.2, fun e => (g.r4.1 k e.symm).1 hk.symm, fun e => x5 k e.symm (.inl hk)⟩
  · have q := g.f.r1.1 k hk
    exact ⟨q.1, q.2, fun e => (g.r4.1 k e.symm).2.1 hk.symm, fun e => x5 k e.symm (.inr (.inl hk))⟩
  · have q := g.f.r3.1 k hk
    exact ⟨q.1, q.2, fun e => (g.r4.1 k e.symm).2.2 hk.symm, fun e => x5 k e.symm (.inr (.inr (.inr hk)))⟩
  · have q := g.r4.1 k hk
    exact ⟨q.1, q.2.1, q.2.2, fun e => y5 k e.symm hk⟩
  · exact ⟨fun e => x5 k hk (.inl e.symm), fun e => x5 k hk (.inr (.inl e.symm)), fun e => x5 k hk (.inr (.inr (.inr e.symm))), fun e => y5 k hk e.symm⟩
structure SwA (w : World) (A0 A1 A2 A3 A4 A5 : Option Addr) (c0 c1 c2 c3 c4 c5 : Nat) (b d : List Int) (u : List Bool) (p it wh : List Int) : Prop where mk ::
  r0 : (Kd.int .i64).C w A0 b.length b
  r1 : (Kd.int .i64).C w A1 d.length d
  r2 : Kd.bool.C w A2 u.length u
  r3 : (Kd.int .i64).C w A3 p.length p
  r4 : (Kd.int .i64).C w A4 it.length it
  r5 : (Kd.int .i64).C w A5 wh.length wh
  l0 : b.length ≤ c0
  l1 : d.length ≤ c1
  l2 : u.length ≤ c2
  l3 : p.length ≤ c3
  l4 : it.length ≤ c4
  l5 : wh.length ≤ c5
section
variable {A0 A1 A2 A3 A4 A5 : Option Addr} {c0 c1 c2 c3 c4 c5 : Nat} {it wh : List Int} {base' : Nat} {P : Nat → Prop}
theorem SwA.below (h : SwA w A0 A1 A2 A3 A4 A5 c0 c1 c2 c3 c4 c5 b d u p it wh) (hb : Below w.heap.size w w1) : SwA w1 A0 A1 A2 A3 A4 A5 c0 c1 c2 c3 c4 c5 b d u p it wh :=
  ⟨Kd.C_below h.r0 hb, Kd.C_below h.r1 hb, Kd.C_below h.r2 hb, Kd.C_below h.r3 hb, Kd.C_below h.r4 hb, Kd.C_below h.r5 hb, h.l0, h.l1, h.l2, h.l3, h.l4, h.l5⟩
theorem _root_.Go.Proofs.YtapbbmicfkbafaaGreat.SwL.SwC.toA (h : SwC w base (.slice A0 b.length c0) (.slice A1 d.length c1) (.slice A2 u.length c2) (.slice A3 p.length c3) (.slice A4 it.length c4) (.slice A5 wh.length c5) b d u p it wh) : SwA w A0 A1 A2 A3 A4 A5 c0 c1 c2 c3 c4 c5 b d u p it wh :=
  ⟨(Kd.R_reads' h.r0).2.2, (Kd.R_reads' h.r1).2.2, (Kd.R_reads' h.r2).2.2, (Kd.R_reads' h.r3).2.2, (Kd.R_reads' h.r4).2.2, (Kd.R_reads' h.r5).2.2, (Kd.R_reads' h.r0).2.1, (Kd.R_reads' h.r1).2.1, (Kd.R_reads' h.r2).2.1, (Kd.R_reads' h.r3).2.1, (Kd.R_reads' h.r4).2.1, (Kd.R_reads' h.r5).2.1⟩
theorem _root_.Go.Proofs.YtapbbmicfkbafaaGreat.SwW.SwV.lower (h : SwV w base v0 v1 v2 v3 v4 v5 b d u p it wh) (hb : base' ≤ base) : SwV w base' v0 v1 v2 v3 v4 v5 b d u p it wh :=
  ⟨Kd.R_lower h.r0 hb, Kd.R_lower h.r1 hb, Kd.R_lower h.r2 hb, Kd.R_lower h.r3 hb, Kd.R_lower h.r4 hb, Kd.R_lower h.r5 hb⟩
theorem _root_.Go.Proofs.YtapbbmicfkbafaaGreat.SwW.SwV.kept (h : SwV w base v0 v1 v2 v3 v4 v5 b d u p it wh) (hk : Kept w w1 P) (hP : ∀ k, OwnS v0 v1 v2 v3 v4 v5 k → ¬ P k) : SwV w1 base v0 v1 v2 v3 v4 v5 b d u p it wh := h.map (fun k hk_ => hk.2 k (h.lt k hk_) (hP k hk_))
theorem _root_.Go.Proofs.YtapbbmicfkbafaaGreat.SwW.SwV.slices (h : SwV w base v0 v1 v2 v3 v4 v5 b d u p it wh) : ∃ A0 c0 A1 c1 A2 c2 A3 c3 A4 c4 A5 c5, v0 = .slice A0 b.length c0 ∧ v1 = .slice A1 d.length c1 ∧ v2 = .slice A2 u.length c2 ∧ v3 = .slice A3 p.length c3 ∧ v4 = .slice A4 it.length c4 ∧ v5 = .slice A5 wh.length c5 := h.weak.slices
end
end Go.Proofs.YtapbbmicfkbafaaGreat.StpW
