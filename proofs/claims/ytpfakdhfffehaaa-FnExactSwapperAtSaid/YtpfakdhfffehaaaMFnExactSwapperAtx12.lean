/- Functions of the program as Lean functions, each with the proof that its call comes to just that: laid for this claim by this session's own program. -/
import Derived.Test.YtpfakdhfffehaaaMFnExactSwapperAtx0
import Derived.Test.YtpfakdhfffehaaaMFnExactSwapperAtx7
import Derived.Test.YtpfakdhfffehaaaMFnExactSwapperAtx9
import Derived.Test.YtpfakdhfffehaaaMFnExactSwapperAtx11
namespace Go.Proofs.Ytpfakdhfffehaaa.MFnExactSwapperAt
open Go.RowKit Go.Proofs.YtpfakdhfffehaaaW.PrintWords Go.Proofs.YtpfakdhfffehaaaW.PrintLast Go.Proofs.YtpfakdhfffehaaaW.PrintMore
attribute [local go_sem] max2_int min2_int max_two min_two max_three min_three max_four min_four   -- for this text's walks alone
set_option linter.unusedVariables false
set_option linter.unusedSimpArgs false

/-! ### impl_swapperAt: function 50 -/
mutual
def impl_swapperAt.l0 : Nat → Int → Int → List Int → List Int → List Bool → List Int → List Int → List Int → Option (List Int × List Int × List Bool × List Int × List Int × List Int)
 | 0, _, _, _, _, _, _, _, _ => none
 | k + 1, n, i, b, d, u, p, it, wh => if i < n then ((Go.Proofs.Ytpfakdhfffehaaa.SwW.stepS b d u p it wh).bind fun r => (impl_swapperAt.l0 k n (wrap64 (i + 1)) b r.1 r.2.1 r.2.2.1 r.2.2.2.1 r.2.2.2.2.1)) else (some (b, d, u, p, it, wh))
end
def impl_swapperAt.f (k : Nat) (a0 : Int) (a1 : Int) : Option (List Int × List Int × List Bool × List Int × List Int × List Int) := (impl_startSwapper.f k a0).bind fun t => impl_swapperAt.l0 k a1 0 t.1 t.2.1 t.2.2.1 t.2.2.2.1 t.2.2.2.2.1 t.2.2.2.2.2
theorem impl_swapperAt.mono_l : ∀ k, (∀ y0 y1 y2 y3 y4 y5 y6 y7, LeO (impl_swapperAt.l0 k y0 y1 y2 y3 y4 y5 y6 y7) (impl_swapperAt.l0 (k + 1) y0 y1 y2 y3 y4 y5 y6 y7))
 | 0 => fun _ _ _ _ _ _ _ _ r h => by simp [impl_swapperAt.l0] at h
 | k + 1 => by
  have ih0 := impl_swapperAt.mono_l k
  ·intro y0 y1 y2 y3 y4 y5 y6 y7
   unfold impl_swapperAt.l0
   repeat' first
   | (with_reducible exact ih0 _ _ _ _ _ _ _ _)
   | (with_reducible exact impl_startSwapper.mono _ _)
   | (with_reducible exact LeO.refl _)
   | (with_reducible exact LeO.none _)
   | (with_reducible refine LeO.ite ?_ ?_)
   | (with_reducible refine LeO.bind ?_ (fun _ => ?_))
   | exact ih0 _ _ _ _ _ _ _ _
   | exact impl_startSwapper.mono _ _
   | exact LeO.none _
   | refine LeO.ite ?_ ?_
   | refine LeO.bind ?_ (fun _ => ?_)
theorem impl_swapperAt.mono : ∀ a0 a1 k, LeO (impl_swapperAt.f k a0 a1) (impl_swapperAt.f (k + 1) a0 a1) := by
 intro a0 a1 k
 have ih0 := impl_swapperAt.mono_l k
 unfold impl_swapperAt.f
 repeat' first
   | (with_reducible exact ih0 _ _ _ _ _ _ _ _)
   | (with_reducible exact impl_startSwapper.mono _ _)
   | (with_reducible exact LeO.refl _)
   | (with_reducible exact LeO.none _)
   | (with_reducible refine LeO.ite ?_ ?_)
   | (with_reducible refine LeO.bind ?_ (fun _ => ?_))
   | exact ih0 _ _ _ _ _ _ _ _
   | exact impl_startSwapper.mono _ _
   | exact LeO.none _
   | refine LeO.ite ?_ ?_
   | refine LeO.bind ?_ (fun _ => ?_)
open Go.Proofs.Ytpfakdhfffehaaa.FoW Go.Proofs.Ytpfakdhfffehaaa.SwW in
set_option maxHeartbeats 8000000 in
set_option maxRecDepth 100000 in
theorem impl_swapperAt.calls (k : Nat) (a0 : Int) (a1 : Int) (r1 : List Int) (r2 : List Int) (r3 : List Bool) (r4 : List Int) (r5 : List Int) (r6 : List Int) (w : World) (h : impl_swapperAt.f k a0 a1 = some (r1, r2, r3, r4, r5, r6)) :
  Calls Try.prog 50 #[.int .i64 a0, .int .i64 a1] w fun e w' => ∃ v0_ v1_ v2_ v3_ v4_ v5_ : Value, e = .returned (.agg #[v0_, v1_, v2_, v3_, v4_, v5_]) ∧ Kd.R (Kd.int .i64) 3 w' w.heap.size (fun k_ => some k_ ≠ (v1_ : Value).ownBlock ∧ some k_ ≠ (v3_ : Value).ownBlock ∧ some k_ ≠ (v4_ : Value).ownBlock ∧ some k_ ≠ (v5_ : Value).ownBlock) v0_ r1 ∧ Kd.R (Kd.int .i64) 3 w' w.heap.size (fun k_ => some k_ ≠ (v0_ : Value).ownBlock ∧ some k_ ≠ (v3_ : Value).ownBlock ∧ some k_ ≠ (v4_ : Value).ownBlock ∧ some k_ ≠ (v5_ : Value).ownBlock) v1_ r2 ∧ Kd.R Kd.bool 4 w' w.heap.size (fun _ => True) v2_ r3 ∧ Kd.R (Kd.int .i64) 3 w' w.heap.size (fun k_ => some k_ ≠ (v0_ : Value).ownBlock ∧ some k_ ≠ (v1_ : Value).ownBlock ∧ some k_ ≠ (v4_ : Value).ownBlock ∧ some k_ ≠ (v5_ : Value).ownBlock) v3_ r4 ∧ Kd.R (Kd.int .i64) 3 w' w.heap.size (fun k_ => some k_ ≠ (v0_ : Value).ownBlock ∧ some k_ ≠ (v1_ : Value).ownBlock ∧ some k_ ≠ (v3_ : Value).ownBlock ∧ some k_ ≠ (v5_ : Value).ownBlock) v4_ r5 ∧ Kd.R (Kd.int .i64) 3 w' w.heap.size (fun k_ => some k_ ≠ (v0_ : Value).ownBlock ∧ some k_ ≠ (v1_ : Value).ownBlock ∧ some k_ ≠ (v3_ : Value).ownBlock ∧ some k_ ≠ (v4_ : Value).ownBlock) v5_ r6 ∧ Below w.heap.size w w' := by
 have hu := Try.underlying35
 unfold impl_swapperAt.f at h
 obtain ⟨⟨b, D1, U1, P1, I1, W1⟩, h1, h⟩ := Z37.mp h
 have A1_ := Ya h1
 have H' := Ya h
 have HB := Ya (Below.refl w.heap.size w)
 clear h h1
 go_enter Try.func50, Try.ntmps50
 go_upto_region 3 with (first | ((with_reducible refine gate_dst (N := 4) rfl ?_); refine Yx 4 #[.slice none 0 0, .slice none 0 0, .slice none 0 0, .slice none 0 0, .slice none 0 0, .slice none 0 0] 35 ?_; intro gb4 hg w1 hbox hb; have n0_ := Ya (Z8 Q0 hb); have BK4 := Ya hbox; have GE4 := Ya (by rw [hg]; exact Z7 Q0 : w.heap.size ≤ gb4); clear HB; have HB := n0_; clear n0_; clear hb hbox hg) | ((with_reducible refine gate_callee (f := 52) rfl ?_); refine goesL_ (some 7) rfl rfl Try.func52 (by kernel_rfl) rfl #[.int .i64 a0] rfl Q62 ?_; (with_reducible refine (impl_startSwapper.calls k a0 b D1 U1 P1 I1 W1 _ A1_.out).mono ?_); rintro e w2 ⟨v0, v1, v2, v3, v4, v5, rfl, ho0, ho1, ho2, ho3, ho4, ho5, hb⟩; refine ⟨_, rfl, ?_⟩; have HSZ := Z7 Q0; have hSV : SwV w2 w.heap.size v0 v1 v2 v3 v4 v5 b D1 U1 P1 I1 W1 := ⟨Kd.R_lower ho0 HSZ, Kd.R_lower ho1 HSZ, Kd.R_lower ho2 HSZ, Kd.R_lower ho3 HSZ, Kd.R_lower ho4 HSZ, Kd.R_lower ho5 HSZ⟩; obtain ⟨A0, q0, rfl⟩ := Z19 ho0; obtain ⟨A1, q1, rfl⟩ := Z19 ho1; obtain ⟨A2, q2, rfl⟩ := Z19 ho2; obtain ⟨A3, q3, rfl⟩ := Z19 ho3; obtain ⟨A4, q4, rfl⟩ := Z19 ho4; obtain ⟨A5, q5, rfl⟩ := Z19 ho5; have n0_ := Ya (Z8 Q0 hb); have n1_ := Ya (Z29 (by first | exact BK4.out | (exact Z27 BK4.out)) hb); have HV := Ya hSV; clear HB BK4 HSZ ho0 ho1 ho2 ho3 ho4 ho5 hb hSV; have HB := n0_; have BK4 := n1_; clear n0_ n1_) | ((with_reducible refine gate_dst (N := 5) rfl ?_); refine Yx 5 #[.slice none 0 0, .slice none 0 0, .slice none 0 0, .slice none 0 0, .slice none 0 0, .slice none 0 0] 35 ?_; intro gb5 hg w3 hbox hb; have n0_ := Ya (Z8 Q0 hb); have BK := Ya hbox; have GE5 := Ya (by rw [hg]; exact Z7 Q0 : w.heap.size ≤ gb5); have NE := Ya (by rw [hg]; exact Nat.ne_of_lt (blk_lt BK4.out) : gb4 ≠ gb5); have n1_ := Ya (SwV.below (by (with_reducible repeat (first | apply SwV.drewN | apply SwV.drew)); exact HV.out) hb); have n2_ := Ya (Z29 BK4.out hb); clear HV BK4; have HV := n1_; have BK4 := n2_; clear n1_ n2_; clear HB; have HB := n0_; clear n0_; have hd0 := (Z24 BK.out 0).trans rfl; have hd1 := (Z24 BK.out 1).trans rfl; have hd2 := (Z24 BK.out 2).trans rfl; have hd3 := (Z24 BK.out 3).trans rfl; have hd4 := (Z24 BK.out 4).trans rfl; have hd5 := (Z24 BK.out 5).trans rfl; have hf0 := Z25 BK.out 0; have hf1 := Z25 BK.out 1; have hf2 := Z25 BK.out 2; have hf3 := Z25 BK.out 3; have hf4 := Z25 BK.out 4; have hf5 := Z25 BK.out 5; clear hb hbox hg))
 replace HV := Ya (SwV.set6 HV.out BK.out (by decide) (by decide) (.slice A0 b.length q0) (.slice A1 D1.length q1) (.slice A2 U1.length q2) (.slice A3 P1.length q3) (.slice A4 I1.length q4) (.slice A5 W1.length q5))
 replace BK := Ya (set6_at BK.out (.slice A0 b.length q0) (.slice A1 D1.length q1) (.slice A2 U1.length q2) (.slice A3 P1.length q3) (.slice A4 I1.length q4) (.slice A5 W1.length q5))
 replace BK4 := Ya ((set6_far _ gb5 (.slice A0 b.length q0) (.slice A1 D1.length q1) (.slice A2 U1.length q2) (.slice A3 P1.length q3) (.slice A4 I1.length q4) (.slice A5 W1.length q5) gb4 NE.out).trans BK4.out)
 replace HB := Ya (set6_below HB.out GE5.out (.slice A0 b.length q0) (.slice A1 D1.length q1) (.slice A2 U1.length q2) (.slice A3 P1.length q3) (.slice A4 I1.length q4) (.slice A5 W1.length q5))
 clear hd0 hf0 hd1 hf1 hd2 hf2 hd3 hf3 hd4 hf4 hd5 hf5
 unfold set6 at BK HV BK4 HB
 generalize ((((((w3.setCell ⟨gb5, 0, none⟩ (.slice A0 b.length q0)).setCell ⟨gb5, 1, none⟩ (.slice A1 D1.length q1)).setCell ⟨gb5, 2, none⟩ (.slice A2 U1.length q2)).setCell ⟨gb5, 3, none⟩ (.slice A3 P1.length q3)).setCell ⟨gb5, 4, none⟩ (.slice A4 I1.length q4)).setCell ⟨gb5, 5, none⟩ (.slice A5 W1.length q5)) = w4 at BK HV BK4 HB ⊢
 go_loopg [9] k (fun kq v9 w' => ∃ (i : Int) (d : List Int) (u : List Bool) (p it wh : List Int), v9 = .int .i64 i ∧ Aside0 (impl_swapperAt.l0 kq a1 i b d u p it wh = some (r1, r2, r3, r4, r5, r6)) ∧ Aside0 (kq ≤ k) ∧ Aside0 (d.length = D1.length ∧ u.length = U1.length ∧ p.length = P1.length ∧ it.length = I1.length ∧ wh.length = W1.length) ∧ Aside0 (w'.heap[gb5]? = some (.cells #[.slice A0 b.length q0, .slice A1 D1.length q1, .slice A2 U1.length q2, .slice A3 P1.length q3, .slice A4 I1.length q4, .slice A5 W1.length q5] 35 (0, 0))) ∧ Aside0 (w'.heap[gb4]? = some (.cells #[.slice none 0 0, .slice none 0 0, .slice none 0 0, .slice none 0 0, .slice none 0 0, .slice none 0 0] 35 (0, 0))) ∧ Aside0 (SwV w' w.heap.size (.slice A0 b.length q0) (.slice A1 D1.length q1) (.slice A2 U1.length q2) (.slice A3 P1.length q3) (.slice A4 I1.length q4) (.slice A5 W1.length q5) b d u p it wh) ∧ Aside0 (Below w.heap.size w w'))
 case atStart => exact ⟨0, D1, U1, P1, I1, W1, by first | rfl | (simp; done), H', ⟨Nat.le_refl _⟩, ⟨rfl, rfl, rfl, rfl, rfl⟩, BK, BK4, HV, HB⟩
 case round =>
  clear H' BK HV BK4 HB
  obtain ⟨i, d, u, p, it, wh, rfl, HA, HK1, HL, BK, BK4, HV, HB⟩ := hrel
  cases gk with
  | zero => exact absurd HA.out (by simp [impl_swapperAt.l0])
  | succ k1 =>
   have H := HA.out
   clear HA
   simp only [impl_swapperAt.l0] at H
   by_cases c1 : i < a1
   rotate_left
   ·rw [if_neg c1] at H
    have b1 : decide (i < a1) = false := Z38 c1
    clear c1
    simp only [Option.some.injEq, Prod.mk.injEq] at H
    obtain ⟨rfl, rfl, rfl, rfl, rfl, rfl⟩ := H
    have hc0 := (Z24 BK.out 0).trans rfl
    have hf0 := Z25 BK.out 0
    have hd0 := (Z24 BK4.out 0).trans rfl
    have he0 := Z25 BK4.out 0
    have hc1 := (Z24 BK.out 1).trans rfl
    have hf1 := Z25 BK.out 1
    have hd1 := (Z24 BK4.out 1).trans rfl
    have he1 := Z25 BK4.out 1
    have hc2 := (Z24 BK.out 2).trans rfl
    have hf2 := Z25 BK.out 2
    have hd2 := (Z24 BK4.out 2).trans rfl
    have he2 := Z25 BK4.out 2
    have hc3 := (Z24 BK.out 3).trans rfl
    have hf3 := Z25 BK.out 3
    have hd3 := (Z24 BK4.out 3).trans rfl
    have he3 := Z25 BK4.out 3
    have hc4 := (Z24 BK.out 4).trans rfl
    have hf4 := Z25 BK.out 4
    have hd4 := (Z24 BK4.out 4).trans rfl
    have he4 := Z25 BK4.out 4
    have hc5 := (Z24 BK.out 5).trans rfl
    have hf5 := Z25 BK.out 5
    have hd5 := (Z24 BK4.out 5).trans rfl
    have he5 := Z25 BK4.out 5
    have hne := NE.out
    have hne' := NE.out.symm
    go_wp2
    refine bodyPost_ret (results_cell_row rfl _ _ gb4 35 #[.slice A0 b.length q0, .slice A1 D1.length q1, .slice A2 U1.length q2, .slice A3 P1.length q3, .slice A4 I1.length q4, .slice A5 W1.length q5] (0, 0) _ rfl (by have h_ := set6_at BK4.out (.slice A0 b.length q0) (.slice A1 D1.length q1) (.slice A2 U1.length q2) (.slice A3 P1.length q3) (.slice A4 I1.length q4) (.slice A5 W1.length q5); unfold set6 at h_; exact h_) hu rfl (by kernel_rfl)) rfl ?_
    have hv := SwV.set6 HV.out BK4.out (by decide) (by decide) (.slice A0 b.length q0) (.slice A1 D1.length q1) (.slice A2 U1.length q2) (.slice A3 P1.length q3) (.slice A4 I1.length q4) (.slice A5 W1.length q5)
    have hbb := set6_below HB.out GE4.out (.slice A0 b.length q0) (.slice A1 D1.length q1) (.slice A2 U1.length q2) (.slice A3 P1.length q3) (.slice A4 I1.length q4) (.slice A5 W1.length q5)
    unfold set6 at hv hbb
    exact ⟨_, _, _, _, _, _, rfl, hv.r0, hv.r1, hv.r2, hv.r3, hv.r4, hv.r5, hbb⟩
   rw [if_pos c1] at H
   have b1 : decide (i < a1) = true := Z39 c1
   obtain ⟨⟨d', u', p', it', wh', r⟩, hs, H⟩ := Z37.mp H
   obtain ⟨hd, hu', hp, hi', hw'⟩ := HL.out
   have hbk := BK.out
   rw [← hd, ← hu', ← hp, ← hi', ← hw'] at hbk
   have HBK := Ya hbk
   clear hbk c1
   have HV2 : Aside0 (SwV _ w.heap.size (.slice A0 b.length q0) (.slice A1 d.length q1) (.slice A2 u.length q2) (.slice A3 p.length q3) (.slice A4 it.length q4) (.slice A5 wh.length q5) b d u p it wh) := ⟨by have := HV.out; rw [← hd, ← hu', ← hp, ← hi', ← hw'] at this; exact this⟩
   have H' := Ya H
   have HS := Ya hs
   obtain ⟨hl, hl0, hl1, hl2, hl3, hl4, hl5⟩ := stepS_len hs
   have HL2 := Ya hl
   obtain ⟨g0, p0, g1, p1, g2, p2, g3, p3, g4, p4, g5, p5, e0, e1, e2, e3, e4, e5, hF⟩ := SwR.of HV2.out hl0 hl1 hl2 hl3 hl4 hl5
   injection e0 with x0 _ z0
   injection e1 with x1 _ z1
   injection e2 with x2 _ z2
   injection e3 with x3 _ z3
   injection e4 with x4 _ z4
   injection e5 with x5 _ z5
   subst x0 z0 x1 z1 x2 z2 x3 z3 x4 z4 x5 z5
   have HF := Ya hF
   clear H hs hl hl0 hl1 hl2 hl3 hl4 hl5 hF hd hu' hp hi' hw' HV HV2
   go_wp2_with (first | ((with_reducible refine gate_callee (f := 57) rfl ?_); refine goesL_ (some 11) rfl rfl Try.func57 (by kernel_rfl) rfl #[.pointer (some ⟨gb5, 0, none⟩)] rfl Q62 ?_; (with_reducible refine (impl_Swapper_step.calls w gb5 g0 q0 g1 q1 g2 q2 g3 q3 g4 q4 g5 q5 b d u p it wh d' u' p' it' wh' r _ HBK.out HF.out HB.out HS.out).mono ?_); rintro e w7 ⟨rfl, hk1, hk2, hk3, hk4⟩; refine ⟨_, rfl, ?_⟩; have ap_ := FoR.apart HF.out.f BK4.out (by decide) (by decide); have aq_ := SwR.apart HF.out BK4.out (by decide); have n1_ := Ya (blk_kept BK4.out hk3 (fun hs_ => by rcases hs_ with (e | e | e) | e | e; exact ap_.2.1 e; exact ap_.2.2.1 e; exact ap_.2.2.2 e; exact aq_.1 e; exact aq_.2 e)); have n0_ := Ya (hk1.trans BK.out); have hv := SwR.back hk2; rw [HL2.out.1, HL2.out.2.1, HL2.out.2.2.1, HL2.out.2.2.2.1, HL2.out.2.2.2.2, HL.out.1, HL.out.2.1, HL.out.2.2.1, HL.out.2.2.2.1, HL.out.2.2.2.2] at hv; have HV := Ya hv; clear HBK BK HF BK4 HB ap_ aq_; have BK := n0_; have BK4 := n1_; have HB := Ya hk4; clear n0_ n1_ hk1 hk2 hk3 hk4 hv))
   go_roundg k1
   case measure => have := HK1.out; omega
   case rel => exact ⟨_, d', u', p', it', wh', by first | rfl | (simp; done), H', ⟨Q55⟩, ⟨by obtain ⟨a_, b_, c_, d_, e_⟩ := HL2.out; obtain ⟨x_, y_, z_, m_, n_⟩ := HL.out; exact ⟨a_.trans x_, b_.trans y_, c_.trans z_, d_.trans m_, e_.trans n_⟩⟩, BK, BK4, HV, HB⟩

/-! ### impl_SwapperAt: function 16 -/
def impl_SwapperAt.f (k : Nat) (a0 : Int) (a1 : Int) : Option (List Int × List Int × List Bool × List Int × List Int × List Int × Bool) := (impl_isSwapperSize.f a0).bind fun t329 => (if t329 = true then ((impl_factorial.f k a0).bind fun t330 => ((impl_within.f a1 0 (wrap64 (t330 - 1))).bind fun t331 => (if t331 = true then ((impl_swapperAt.f k a0 a1).bind fun bt332 => (some (bt332.1, bt332.2.1, bt332.2.2.1, bt332.2.2.2.1, bt332.2.2.2.2.1, bt332.2.2.2.2.2, true))) else (some (([] : List Int), ([] : List Int), ([] : List Bool), ([] : List Int), ([] : List Int), ([] : List Int), false))))) else (some (([] : List Int), ([] : List Int), ([] : List Bool), ([] : List Int), ([] : List Int), ([] : List Int), false)))
theorem impl_SwapperAt.mono : ∀ a0 a1 k, LeO (impl_SwapperAt.f k a0 a1) (impl_SwapperAt.f (k + 1) a0 a1) := by
 intro a0 a1 k
 unfold impl_SwapperAt.f
 repeat' first
   | (with_reducible exact impl_factorial.mono _ _)
   | (with_reducible exact impl_swapperAt.mono _ _ _)
   | (with_reducible exact LeO.refl _)
   | (with_reducible exact LeO.none _)
   | (with_reducible refine LeO.ite ?_ ?_)
   | (with_reducible refine LeO.bind ?_ (fun _ => ?_))
   | exact impl_factorial.mono _ _
   | exact impl_swapperAt.mono _ _ _
   | exact LeO.none _
   | refine LeO.ite ?_ ?_
   | refine LeO.bind ?_ (fun _ => ?_)
set_option maxHeartbeats 8000000 in
set_option maxRecDepth 100000 in
theorem impl_SwapperAt.calls (k : Nat) (a0 : Int) (a1 : Int) (r1 : List Int) (r2 : List Int) (r3 : List Bool) (r4 : List Int) (r5 : List Int) (r6 : List Int) (r7 : Bool) (w : World) (h : impl_SwapperAt.f k a0 a1 = some (r1, r2, r3, r4, r5, r6, r7)) :
  Calls Try.prog 16 #[.int .i64 a0, .int .i64 a1] w fun e w' => ∃ v0_ v1_ v2_ v3_ v4_ v5_ : Value, e = .returned (.tuple #[.agg #[v0_, v1_, v2_, v3_, v4_, v5_], .bool r7]) ∧ Kd.R (Kd.int .i64) 3 w' w.heap.size (fun k_ => some k_ ≠ (v1_ : Value).ownBlock ∧ some k_ ≠ (v3_ : Value).ownBlock ∧ some k_ ≠ (v4_ : Value).ownBlock ∧ some k_ ≠ (v5_ : Value).ownBlock) v0_ r1 ∧ Kd.R (Kd.int .i64) 3 w' w.heap.size (fun k_ => some k_ ≠ (v0_ : Value).ownBlock ∧ some k_ ≠ (v3_ : Value).ownBlock ∧ some k_ ≠ (v4_ : Value).ownBlock ∧ some k_ ≠ (v5_ : Value).ownBlock) v1_ r2 ∧ Kd.R Kd.bool 4 w' w.heap.size (fun _ => True) v2_ r3 ∧ Kd.R (Kd.int .i64) 3 w' w.heap.size (fun k_ => some k_ ≠ (v0_ : Value).ownBlock ∧ some k_ ≠ (v1_ : Value).ownBlock ∧ some k_ ≠ (v4_ : Value).ownBlock ∧ some k_ ≠ (v5_ : Value).ownBlock) v3_ r4 ∧ Kd.R (Kd.int .i64) 3 w' w.heap.size (fun k_ => some k_ ≠ (v0_ : Value).ownBlock ∧ some k_ ≠ (v1_ : Value).ownBlock ∧ some k_ ≠ (v3_ : Value).ownBlock ∧ some k_ ≠ (v5_ : Value).ownBlock) v4_ r5 ∧ Kd.R (Kd.int .i64) 3 w' w.heap.size (fun k_ => some k_ ≠ (v0_ : Value).ownBlock ∧ some k_ ≠ (v1_ : Value).ownBlock ∧ some k_ ≠ (v3_ : Value).ownBlock ∧ some k_ ≠ (v4_ : Value).ownBlock) v5_ r6 ∧ Below w.heap.size w w' := by
 have hu35 := Try.underlying35
 have HB := Ya (Below.refl w.heap.size w)
 have H : ((impl_isSwapperSize.f a0).bind fun t329 => (if t329 = true then ((impl_factorial.f k a0).bind fun t330 => ((impl_within.f a1 0 (wrap64 (t330 - 1))).bind fun t331 => (if t331 = true then ((impl_swapperAt.f k a0 a1).bind fun bt332 => (some (bt332.1, bt332.2.1, bt332.2.2.1, bt332.2.2.2.1, bt332.2.2.2.2.1, bt332.2.2.2.2.2, true))) else (some (([] : List Int), ([] : List Int), ([] : List Bool), ([] : List Int), ([] : List Int), ([] : List Int), false))))) else (some (([] : List Int), ([] : List Int), ([] : List Bool), ([] : List Int), ([] : List Int), ([] : List Int), false)))) = some (r1, r2, r3, r4, r5, r6, r7) := h
 clear h
 replace H := Z37.mp H
 obtain ⟨t329, A30, H⟩ := H
 replace H : (if t329 = true then ((impl_factorial.f k a0).bind fun t330 => ((impl_within.f a1 0 (wrap64 (t330 - 1))).bind fun t331 => (if t331 = true then ((impl_swapperAt.f k a0 a1).bind fun bt332 => (some (bt332.1, bt332.2.1, bt332.2.2.1, bt332.2.2.2.1, bt332.2.2.2.2.1, bt332.2.2.2.2.2, true))) else (some (([] : List Int), ([] : List Int), ([] : List Bool), ([] : List Int), ([] : List Int), ([] : List Int), false))))) else (some (([] : List Int), ([] : List Int), ([] : List Bool), ([] : List Int), ([] : List Int), ([] : List Int), false))) = some (r1, r2, r3, r4, r5, r6, r7) := H
 have A3 := Ya A30
 clear A30
 by_cases c4 : t329 = true
 ·subst c4
  have H1 : ((impl_factorial.f k a0).bind fun t330 => ((impl_within.f a1 0 (wrap64 (t330 - 1))).bind fun t331 => (if t331 = true then ((impl_swapperAt.f k a0 a1).bind fun bt332 => (some (bt332.1, bt332.2.1, bt332.2.2.1, bt332.2.2.2.1, bt332.2.2.2.2.1, bt332.2.2.2.2.2, true))) else (some (([] : List Int), ([] : List Int), ([] : List Bool), ([] : List Int), ([] : List Int), ([] : List Int), false))))) = some (r1, r2, r3, r4, r5, r6, r7) := by rw [if_pos rfl] at H; exact H
  clear H
  have H := H1
  clear H1
  replace H := Z37.mp H
  obtain ⟨t330, A50, H⟩ := H
  replace H : ((impl_within.f a1 0 (wrap64 (t330 - 1))).bind fun t331 => (if t331 = true then ((impl_swapperAt.f k a0 a1).bind fun bt332 => (some (bt332.1, bt332.2.1, bt332.2.2.1, bt332.2.2.2.1, bt332.2.2.2.2.1, bt332.2.2.2.2.2, true))) else (some (([] : List Int), ([] : List Int), ([] : List Bool), ([] : List Int), ([] : List Int), ([] : List Int), false)))) = some (r1, r2, r3, r4, r5, r6, r7) := H
  have A5 := Ya A50
  clear A50
  replace H := Z37.mp H
  obtain ⟨t331, A60, H⟩ := H
  replace H : (if t331 = true then ((impl_swapperAt.f k a0 a1).bind fun bt332 => (some (bt332.1, bt332.2.1, bt332.2.2.1, bt332.2.2.2.1, bt332.2.2.2.2.1, bt332.2.2.2.2.2, true))) else (some (([] : List Int), ([] : List Int), ([] : List Bool), ([] : List Int), ([] : List Int), ([] : List Int), false))) = some (r1, r2, r3, r4, r5, r6, r7) := H
  have A6 := Ya A60
  clear A60
  by_cases c7 : t331 = true
  ·subst c7
   have H1 : ((impl_swapperAt.f k a0 a1).bind fun bt332 => (some (bt332.1, bt332.2.1, bt332.2.2.1, bt332.2.2.2.1, bt332.2.2.2.2.1, bt332.2.2.2.2.2, true))) = some (r1, r2, r3, r4, r5, r6, r7) := by rw [if_pos rfl] at H; exact H
   clear H
   have H := H1
   clear H1
   replace H := Z37.mp H
   obtain ⟨⟨t332, t335, t338, t341, t344, t347⟩, A80, H⟩ := H
   replace H : (some (t332, t335, t338, t341, t344, t347, true)) = some (r1, r2, r3, r4, r5, r6, r7) := H
   have A8 := Ya A80
   clear A80
   simp only [Option.some.injEq, Prod.mk.injEq] at H
   obtain ⟨rfl, rfl, rfl, rfl, rfl, rfl, rfl⟩ := H
   go_enter Try.func16, Try.ntmps16
   go_wp2_with (first | ((with_reducible refine gate_dst (N := 4) rfl ?_); refine Yx 4 #[.slice none 0 0, .slice none 0 0, .slice none 0 0, .slice none 0 0, .slice none 0 0, .slice none 0 0] 35 ?_; intro gb328 hg w9 hbox hb; have BK328 := Ya hbox; have GW328 := Yg hg Q0; have GE328 := GW328; replace HB := Ya (Z8 Q0 hb); clear hb hbox hg) | ((with_reducible refine gate_callee (f := 47) rfl ?_); refine goesL_ (some 7) rfl rfl Try.func47 (by kernel_rfl) rfl #[.int .i64 a0] rfl Q1 ?_; (with_reducible refine (impl_isSwapperSize.calls a0 true _ A3.out).mono ?_); rintro e w' ⟨rfl, ⟨nd, rfl⟩⟩; refine ⟨_, rfl, ?_⟩; (try (rw [drewN_self w9]; generalize hq_ : World.drewN w9 _ = w9; replace BK328 : Aside0 (w9.heap[gb328]? = some (.cells #[.slice none 0 0, .slice none 0 0, .slice none 0 0, .slice none 0 0, .slice none 0 0, .slice none 0 0] 35 (0, 0))) := ⟨Q73⟩; replace HB : Aside0 (Below w.heap.size w w9) := ⟨by rw [← hq_]; exact Q16⟩; clear hq_))) | (go_at_call 49; (with_reducible refine (impl_factorial.calls k a0 t330 _ A5.out).mono ?_); rintro e w' ⟨rfl, ⟨nd, rfl⟩⟩; (try (rw [drewN_self w9]; generalize hq_ : World.drewN w9 _ = w9; replace BK328 : Aside0 (w9.heap[gb328]? = some (.cells #[.slice none 0 0, .slice none 0 0, .slice none 0 0, .slice none 0 0, .slice none 0 0, .slice none 0 0] 35 (0, 0))) := ⟨Q73⟩; replace HB : Aside0 (Below w.heap.size w w9) := ⟨by rw [← hq_]; exact Q16⟩; clear hq_))) | (go_at_call 48; (with_reducible refine (impl_within.calls a1 0 (wrap64 (t330 - 1)) true _ A6.out).mono ?_); rintro e w' ⟨rfl, ⟨nd, rfl⟩⟩; (try (rw [drewN_self w9]; generalize hq_ : World.drewN w9 _ = w9; replace BK328 : Aside0 (w9.heap[gb328]? = some (.cells #[.slice none 0 0, .slice none 0 0, .slice none 0 0, .slice none 0 0, .slice none 0 0, .slice none 0 0] 35 (0, 0))) := ⟨Q73⟩; replace HB : Aside0 (Below w.heap.size w w9) := ⟨by rw [← hq_]; exact Q16⟩; clear hq_))) | ((with_reducible refine gate_callee (f := 50) rfl ?_); refine goesL_ (some 20) rfl rfl Try.func50 (by kernel_rfl) rfl #[.int .i64 a0, .int .i64 a1] rfl Q1 ?_; (with_reducible refine (impl_swapperAt.calls k a0 a1 t332 t335 t338 t341 t344 t347 _ A8.out).mono ?_); rintro e w10 ⟨v333, v336, v339, v342, v345, v348, rfl, ho0, ho1, ho2, ho3, ho4, ho5, hb⟩; refine ⟨_, rfl, ?_⟩; have HO334 := Ya (Kd.R_lower ho0 (Z7 Q16)); have HO337 := Ya (Kd.R_lower ho1 (Z7 Q16)); have HO340 := Ya (Kd.R_lower ho2 (Z7 Q16)); have HO343 := Ya (Kd.R_lower ho3 (Z7 Q16)); have HO346 := Ya (Kd.R_lower ho4 (Z7 Q16)); have HO349 := Ya (Kd.R_lower ho5 (Z7 Q16)); replace BK328 := Yb BK328 hb; replace HB := Ya (Z8 Q16 hb); (try clear hb); (try clear hb2); (try clear hk); (try clear hi); (try clear ho0); (try clear ho1); (try clear ho2); (try clear ho3); (try clear ho4); (try clear ho5); obtain ⟨Ao11, co11, eo11⟩ := Z19 HO334.out; subst eo11; obtain ⟨hcz12_0, hcz12_1, hcz12_2, hcz12_3, hcz12_4, hcz12_5, hfz12_0, hfz12_1, hfz12_2, hfz12_3, hfz12_4, hfz12_5⟩ := Y6 BK328.out; obtain ⟨Ao13, co13, eo13⟩ := Z19 HO337.out; subst eo13; obtain ⟨Ao14, co14, eo14⟩ := Z19 HO340.out; subst eo14; obtain ⟨Ao15, co15, eo15⟩ := Z19 HO343.out; subst eo15; obtain ⟨Ao16, co16, eo16⟩ := Z19 HO346.out; subst eo16; obtain ⟨Ao17, co17, eo17⟩ := Z19 HO349.out; subst eo17))
   refine bodyPost_ret (results_ct rfl _ _ gb328 35 #[.slice Ao11 t332.length co11, .slice Ao13 t335.length co13, .slice Ao14 t338.length co14, .slice Ao15 t341.length co15, .slice Ao16 t344.length co16, .slice Ao17 t347.length co17] (0, 0) _ rfl (by (with_reducible repeat (first | refine Z26 ?_ _ | refine Z27 ?_ | refine Z28 ?_ _)); refine Z30 (cs := #[.slice Ao11 t332.length co11, .slice Ao13 t335.length co13, .slice Ao14 t338.length co14, .slice Ao15 t341.length co15, .slice Ao16 t344.length co16, .slice none 0 0]) ?_ 5 _ rfl; (with_reducible repeat (first | refine Z26 ?_ _ | refine Z27 ?_ | refine Z28 ?_ _)); refine Z30 (cs := #[.slice Ao11 t332.length co11, .slice Ao13 t335.length co13, .slice Ao14 t338.length co14, .slice Ao15 t341.length co15, .slice none 0 0, .slice none 0 0]) ?_ 4 _ rfl; (with_reducible repeat (first | refine Z26 ?_ _ | refine Z27 ?_ | refine Z28 ?_ _)); refine Z30 (cs := #[.slice Ao11 t332.length co11, .slice Ao13 t335.length co13, .slice Ao14 t338.length co14, .slice none 0 0, .slice none 0 0, .slice none 0 0]) ?_ 3 _ rfl; (with_reducible repeat (first | refine Z26 ?_ _ | refine Z27 ?_ | refine Z28 ?_ _)); refine Z30 (cs := #[.slice Ao11 t332.length co11, .slice Ao13 t335.length co13, .slice none 0 0, .slice none 0 0, .slice none 0 0, .slice none 0 0]) ?_ 2 _ rfl; (with_reducible repeat (first | refine Z26 ?_ _ | refine Z27 ?_ | refine Z28 ?_ _)); refine Z30 (cs := #[.slice Ao11 t332.length co11, .slice none 0 0, .slice none 0 0, .slice none 0 0, .slice none 0 0, .slice none 0 0]) ?_ 1 _ rfl; (with_reducible repeat (first | refine Z26 ?_ _ | refine Z27 ?_ | refine Z28 ?_ _)); refine Z30 (cs := #[.slice none 0 0, .slice none 0 0, .slice none 0 0, .slice none 0 0, .slice none 0 0, .slice none 0 0]) ?_ 0 _ rfl; (with_reducible repeat (first | refine Z26 ?_ _ | refine Z27 ?_ | refine Z28 ?_ _)); exact BK328.out) Try.underlying35 rfl (by kernel_rfl)) rfl ?_
   exact ⟨_, _, _, _, _, _, Q9, by (with_reducible repeat (first | apply Z9 | apply Z10 | apply Z11)); exact Z12 (Z13 (p := ⟨gb328, 5, none⟩) (Z13 (p := ⟨gb328, 4, none⟩) (Z13 (p := ⟨gb328, 3, none⟩) (Z13 (p := ⟨gb328, 2, none⟩) (Z13 (p := ⟨gb328, 1, none⟩) (Z13 (p := ⟨gb328, 0, none⟩) (Z15 HO334.out BK328.out (by decide)) (fun _ hk => hk.2) (.slice Ao11 t332.length co11)) (fun _ hk => hk.2) (.slice Ao13 t335.length co13)) (fun _ hk => hk.2) (.slice Ao14 t338.length co14)) (fun _ hk => hk.2) (.slice Ao15 t341.length co15)) (fun _ hk => hk.2) (.slice Ao16 t344.length co16)) (fun _ hk => hk.2) (.slice Ao17 t347.length co17)) (fun _ hk => ⟨hk.1.1, ⟨hk.1.2.1, ⟨hk.1.2.2.1, hk.1.2.2.2⟩⟩⟩), by (with_reducible repeat (first | apply Z9 | apply Z10 | apply Z11)); exact Z12 (Z13 (p := ⟨gb328, 5, none⟩) (Z13 (p := ⟨gb328, 4, none⟩) (Z13 (p := ⟨gb328, 3, none⟩) (Z13 (p := ⟨gb328, 2, none⟩) (Z13 (p := ⟨gb328, 1, none⟩) (Z13 (p := ⟨gb328, 0, none⟩) (Z15 HO337.out BK328.out (by decide)) (fun _ hk => hk.2) (.slice Ao11 t332.length co11)) (fun _ hk => hk.2) (.slice Ao13 t335.length co13)) (fun _ hk => hk.2) (.slice Ao14 t338.length co14)) (fun _ hk => hk.2) (.slice Ao15 t341.length co15)) (fun _ hk => hk.2) (.slice Ao16 t344.length co16)) (fun _ hk => hk.2) (.slice Ao17 t347.length co17)) (fun _ hk => ⟨hk.1.1, ⟨hk.1.2.1, ⟨hk.1.2.2.1, hk.1.2.2.2⟩⟩⟩), by (with_reducible repeat (first | apply Z9 | apply Z10 | apply Z11)); exact Z12 (Z13 (p := ⟨gb328, 5, none⟩) (Z13 (p := ⟨gb328, 4, none⟩) (Z13 (p := ⟨gb328, 3, none⟩) (Z13 (p := ⟨gb328, 2, none⟩) (Z13 (p := ⟨gb328, 1, none⟩) (Z13 (p := ⟨gb328, 0, none⟩) (Z15 HO340.out BK328.out (by decide)) (fun _ hk => hk.2) (.slice Ao11 t332.length co11)) (fun _ hk => hk.2) (.slice Ao13 t335.length co13)) (fun _ hk => hk.2) (.slice Ao14 t338.length co14)) (fun _ hk => hk.2) (.slice Ao15 t341.length co15)) (fun _ hk => hk.2) (.slice Ao16 t344.length co16)) (fun _ hk => hk.2) (.slice Ao17 t347.length co17)) (fun _ hk => trivial), by (with_reducible repeat (first | apply Z9 | apply Z10 | apply Z11)); exact Z12 (Z13 (p := ⟨gb328, 5, none⟩) (Z13 (p := ⟨gb328, 4, none⟩) (Z13 (p := ⟨gb328, 3, none⟩) (Z13 (p := ⟨gb328, 2, none⟩) (Z13 (p := ⟨gb328, 1, none⟩) (Z13 (p := ⟨gb328, 0, none⟩) (Z15 HO343.out BK328.out (by decide)) (fun _ hk => hk.2) (.slice Ao11 t332.length co11)) (fun _ hk => hk.2) (.slice Ao13 t335.length co13)) (fun _ hk => hk.2) (.slice Ao14 t338.length co14)) (fun _ hk => hk.2) (.slice Ao15 t341.length co15)) (fun _ hk => hk.2) (.slice Ao16 t344.length co16)) (fun _ hk => hk.2) (.slice Ao17 t347.length co17)) (fun _ hk => ⟨hk.1.1, ⟨hk.1.2.1, ⟨hk.1.2.2.1, hk.1.2.2.2⟩⟩⟩), by (with_reducible repeat (first | apply Z9 | apply Z10 | apply Z11)); exact Z12 (Z13 (p := ⟨gb328, 5, none⟩) (Z13 (p := ⟨gb328, 4, none⟩) (Z13 (p := ⟨gb328, 3, none⟩) (Z13 (p := ⟨gb328, 2, none⟩) (Z13 (p := ⟨gb328, 1, none⟩) (Z13 (p := ⟨gb328, 0, none⟩) (Z15 HO346.out BK328.out (by decide)) (fun _ hk => hk.2) (.slice Ao11 t332.length co11)) (fun _ hk => hk.2) (.slice Ao13 t335.length co13)) (fun _ hk => hk.2) (.slice Ao14 t338.length co14)) (fun _ hk => hk.2) (.slice Ao15 t341.length co15)) (fun _ hk => hk.2) (.slice Ao16 t344.length co16)) (fun _ hk => hk.2) (.slice Ao17 t347.length co17)) (fun _ hk => ⟨hk.1.1, ⟨hk.1.2.1, ⟨hk.1.2.2.1, hk.1.2.2.2⟩⟩⟩), by (with_reducible repeat (first | apply Z9 | apply Z10 | apply Z11)); exact Z12 (Z13 (p := ⟨gb328, 5, none⟩) (Z13 (p := ⟨gb328, 4, none⟩) (Z13 (p := ⟨gb328, 3, none⟩) (Z13 (p := ⟨gb328, 2, none⟩) (Z13 (p := ⟨gb328, 1, none⟩) (Z13 (p := ⟨gb328, 0, none⟩) (Z15 HO349.out BK328.out (by decide)) (fun _ hk => hk.2) (.slice Ao11 t332.length co11)) (fun _ hk => hk.2) (.slice Ao13 t335.length co13)) (fun _ hk => hk.2) (.slice Ao14 t338.length co14)) (fun _ hk => hk.2) (.slice Ao15 t341.length co15)) (fun _ hk => hk.2) (.slice Ao16 t344.length co16)) (fun _ hk => hk.2) (.slice Ao17 t347.length co17)) (fun _ hk => ⟨hk.1.1, ⟨hk.1.2.1, ⟨hk.1.2.2.1, hk.1.2.2.2⟩⟩⟩), Q64⟩
  ·replace c7 := Bool.eq_false_iff.mpr c7
   subst c7
   have H1 : (some (([] : List Int), ([] : List Int), ([] : List Bool), ([] : List Int), ([] : List Int), ([] : List Int), false)) = some (r1, r2, r3, r4, r5, r6, r7) := by rw [if_neg (show ¬ (false = true) by decide)] at H; exact H
   clear H
   have H := H1
   clear H1
   simp only [Option.some.injEq, Prod.mk.injEq] at H
   obtain ⟨rfl, rfl, rfl, rfl, rfl, rfl, rfl⟩ := H
   go_enter Try.func16, Try.ntmps16
   go_wp2_with (first | ((with_reducible refine gate_dst (N := 4) rfl ?_); refine Yx 4 #[.slice none 0 0, .slice none 0 0, .slice none 0 0, .slice none 0 0, .slice none 0 0, .slice none 0 0] 35 ?_; intro gb328 hg w18 hbox hb; have BK328 := Ya hbox; have GW328 := Yg hg Q0; have GE328 := GW328; replace HB := Ya (Z8 Q0 hb); clear hb hbox hg) | ((with_reducible refine gate_callee (f := 47) rfl ?_); refine goesL_ (some 7) rfl rfl Try.func47 (by kernel_rfl) rfl #[.int .i64 a0] rfl Q1 ?_; (with_reducible refine (impl_isSwapperSize.calls a0 true _ A3.out).mono ?_); rintro e w' ⟨rfl, ⟨nd, rfl⟩⟩; refine ⟨_, rfl, ?_⟩; (try (rw [drewN_self w18]; generalize hq_ : World.drewN w18 _ = w18; replace BK328 : Aside0 (w18.heap[gb328]? = some (.cells #[.slice none 0 0, .slice none 0 0, .slice none 0 0, .slice none 0 0, .slice none 0 0, .slice none 0 0] 35 (0, 0))) := ⟨Q73⟩; replace HB : Aside0 (Below w.heap.size w w18) := ⟨by rw [← hq_]; exact Q16⟩; clear hq_))) | (go_at_call 49; (with_reducible refine (impl_factorial.calls k a0 t330 _ A5.out).mono ?_); rintro e w' ⟨rfl, ⟨nd, rfl⟩⟩; (try (rw [drewN_self w18]; generalize hq_ : World.drewN w18 _ = w18; replace BK328 : Aside0 (w18.heap[gb328]? = some (.cells #[.slice none 0 0, .slice none 0 0, .slice none 0 0, .slice none 0 0, .slice none 0 0, .slice none 0 0] 35 (0, 0))) := ⟨Q73⟩; replace HB : Aside0 (Below w.heap.size w w18) := ⟨by rw [← hq_]; exact Q16⟩; clear hq_))) | (go_at_call 48; (with_reducible refine (impl_within.calls a1 0 (wrap64 (t330 - 1)) false _ A6.out).mono ?_); rintro e w' ⟨rfl, ⟨nd, rfl⟩⟩; (try (rw [drewN_self w18]; generalize hq_ : World.drewN w18 _ = w18; replace BK328 : Aside0 (w18.heap[gb328]? = some (.cells #[.slice none 0 0, .slice none 0 0, .slice none 0 0, .slice none 0 0, .slice none 0 0, .slice none 0 0] 35 (0, 0))) := ⟨Q73⟩; replace HB : Aside0 (Below w.heap.size w w18) := ⟨by rw [← hq_]; exact Q16⟩; clear hq_)); obtain ⟨hcz19_0, hcz19_1, hcz19_2, hcz19_3, hcz19_4, hcz19_5, hfz19_0, hfz19_1, hfz19_2, hfz19_3, hfz19_4, hfz19_5⟩ := Y6 BK328.out))
   refine bodyPost_ret (results_ct rfl _ _ gb328 35 #[.slice none 0 0, .slice none 0 0, .slice none 0 0, .slice none 0 0, .slice none 0 0, .slice none 0 0] (0, 0) _ rfl Q23 Try.underlying35 rfl (by kernel_rfl)) rfl ?_
   exact ⟨_, _, _, _, _, _, Q9, Q2, Q2, Q2, Q2, Q2, Q2, Q64⟩
 ·replace c4 := Bool.eq_false_iff.mpr c4
  subst c4
  have H1 : (some (([] : List Int), ([] : List Int), ([] : List Bool), ([] : List Int), ([] : List Int), ([] : List Int), false)) = some (r1, r2, r3, r4, r5, r6, r7) := by rw [if_neg (show ¬ (false = true) by decide)] at H; exact H
  clear H
  have H := H1
  clear H1
  simp only [Option.some.injEq, Prod.mk.injEq] at H
  obtain ⟨rfl, rfl, rfl, rfl, rfl, rfl, rfl⟩ := H
  go_enter Try.func16, Try.ntmps16
  go_wp2_with (first | ((with_reducible refine gate_dst (N := 4) rfl ?_); refine Yx 4 #[.slice none 0 0, .slice none 0 0, .slice none 0 0, .slice none 0 0, .slice none 0 0, .slice none 0 0] 35 ?_; intro gb328 hg w20 hbox hb; have BK328 := Ya hbox; have GW328 := Yg hg Q0; have GE328 := GW328; replace HB := Ya (Z8 Q0 hb); clear hb hbox hg) | ((with_reducible refine gate_callee (f := 47) rfl ?_); refine goesL_ (some 7) rfl rfl Try.func47 (by kernel_rfl) rfl #[.int .i64 a0] rfl Q1 ?_; (with_reducible refine (impl_isSwapperSize.calls a0 false _ A3.out).mono ?_); rintro e w' ⟨rfl, ⟨nd, rfl⟩⟩; refine ⟨_, rfl, ?_⟩; (try (rw [drewN_self w20]; generalize hq_ : World.drewN w20 _ = w20; replace BK328 : Aside0 (w20.heap[gb328]? = some (.cells #[.slice none 0 0, .slice none 0 0, .slice none 0 0, .slice none 0 0, .slice none 0 0, .slice none 0 0] 35 (0, 0))) := ⟨Q73⟩; replace HB : Aside0 (Below w.heap.size w w20) := ⟨by rw [← hq_]; exact Q16⟩; clear hq_)); obtain ⟨hcz21_0, hcz21_1, hcz21_2, hcz21_3, hcz21_4, hcz21_5, hfz21_0, hfz21_1, hfz21_2, hfz21_3, hfz21_4, hfz21_5⟩ := Y6 BK328.out))
  refine bodyPost_ret (results_ct rfl _ _ gb328 35 #[.slice none 0 0, .slice none 0 0, .slice none 0 0, .slice none 0 0, .slice none 0 0, .slice none 0 0] (0, 0) _ rfl Q23 Try.underlying35 rfl (by kernel_rfl)) rfl ?_
  exact ⟨_, _, _, _, _, _, Q9, Q2, Q2, Q2, Q2, Q2, Q2, Q64⟩

/-! ### laws_eqIntS: function 37 -/
def laws_eqIntS.l0 : Nat → List Int → List Int → Int → Option (Bool)
 | 0, _, _, _ => none
 | k + 1, x0, x1, x5 => if x5 < (x0.length : Int) then (if 0 ≤ x5 then (if x5 < (x1.length : Int) then (if (rd x0 x5) = (rd x1 x5) then (laws_eqIntS.l0 k x0 x1 (wrap64 (x5 + 1))) else (some false)) else (none)) else (none)) else (some true)
def laws_eqIntS.f (k : Nat) (l0 : List Int) (l1 : List Int) : Option (Bool) := if (l0.length : Int) = (l1.length : Int) then (laws_eqIntS.l0 k l0 l1 0) else (some false)
theorem laws_eqIntS.mono_l : ∀ k, (∀ y0 y1 y2, LeO (laws_eqIntS.l0 k y0 y1 y2) (laws_eqIntS.l0 (k + 1) y0 y1 y2))
 | 0 => fun _ _ _ r h => by simp [laws_eqIntS.l0] at h
 | k + 1 => by
  have ih0 := laws_eqIntS.mono_l k
  ·intro y0 y1 y2
   unfold laws_eqIntS.l0
   repeat' first
   | (with_reducible exact ih0 _ _ _)
   | (with_reducible exact LeO.refl _)
   | (with_reducible exact LeO.none _)
   | (with_reducible refine LeO.ite ?_ ?_)
   | (with_reducible refine LeO.bind ?_ (fun _ => ?_))
   | exact ih0 _ _ _
   | exact LeO.none _
   | refine LeO.ite ?_ ?_
   | refine LeO.bind ?_ (fun _ => ?_)
theorem laws_eqIntS.mono : ∀ a0 a1 k, LeO (laws_eqIntS.f k a0 a1) (laws_eqIntS.f (k + 1) a0 a1) := by
 intro a0 a1 k
 have ih0 := laws_eqIntS.mono_l k
 unfold laws_eqIntS.f
 repeat' first
   | (with_reducible exact ih0 _ _ _)
   | (with_reducible exact LeO.refl _)
   | (with_reducible exact LeO.none _)
   | (with_reducible refine LeO.ite ?_ ?_)
   | (with_reducible refine LeO.bind ?_ (fun _ => ?_))
   | exact ih0 _ _ _
   | exact LeO.none _
   | refine LeO.ite ?_ ?_
   | refine LeO.bind ?_ (fun _ => ?_)
set_option maxHeartbeats 8000000 in
set_option maxRecDepth 100000 in
theorem laws_eqIntS.calls (k : Nat) (A0 : Option Addr) (c0 : Nat) (l0 : List Int) (A1 : Option Addr) (c1 : Nat) (l1 : List Int) (r : Bool) (w : World) (hr0 : Kd.C (Kd.int .i64) w A0 l0.length l0) (hc0 : l0.length ≤ c0) (hr1 : Kd.C (Kd.int .i64) w A1 l1.length l1) (hc1 : l1.length ≤ c1) (h : laws_eqIntS.f k l0 l1 = some r) :
  Calls Try.prog 37 #[.slice A0 l0.length c0, .slice A1 l1.length c1] w fun e w' => e = .returned (.bool r) ∧ Drawn0 w w' := by
 have HR0 := Ya hr0
 have HC0 := Ya hc0
 clear hr0 hc0
 have HR1 := Ya hr1
 have HC1 := Ya hc1
 clear hr1 hc1
 have H : (if (l0.length : Int) = (l1.length : Int) then (laws_eqIntS.l0 k l0 l1 0) else (some false)) = some r := h
 clear h
 by_cases c3 : (l0.length : Int) = (l1.length : Int)
 ·rw [if_pos c3] at H
  have c3b0 : ((l0.length : Int) == (l1.length : Int)) = true := beq_iff_eq.mpr c3
  have c3b1 : ((l0.length : Int) != (l1.length : Int)) = false := bne_eq_false_iff_eq.mpr c3
  have c3b2 : (l0.length == l1.length) = true := by first | simpa using c3 | (simp at c3 ⊢; omega)
  clear c3
  have H' := Ya H
  clear H
  go_enter Try.func37, Try.ntmps37
  go_wp2
  repeat (go_quiet (fail); try go_wp2)
  go_loopg [5] k (fun kq v5 w' => ∃ (x5_1 : Int), v5 = .int .i64 x5_1 ∧ Aside0 (laws_eqIntS.l0 kq l0 l1 x5_1 = some r) ∧ Aside0 (kq ≤ k) ∧ Drawn0 w w')
  case atStart => exact ⟨(0), Q15, H', ⟨Nat.le_refl _⟩, Q19⟩
  case round =>
   clear H'
   try clear c1
   try clear p2
   try clear c3
   try clear c3b0
   try clear c3b1
   try clear c3b2
   obtain ⟨x5_1, rfl, HA, HK1, ⟨m1, rfl⟩⟩ := hrel
   cases gk with
   | zero => exact absurd HA.out (by simp [laws_eqIntS.l0])
   | succ k1 =>
    have H := HA.out
    clear HA
    simp only [laws_eqIntS.l0] at H
    by_cases c4 : x5_1 < (l0.length : Int)
    ·rw [if_pos c4] at H
     have c4b0 : decide (x5_1 < (l0.length : Int)) = true := Z39 c4
     clear c4
     by_cases c5 : 0 ≤ x5_1
     ·rw [if_pos c5] at H
      have c5b0 : decide (0 ≤ x5_1) = true := Z39 c5
      clear c5
      by_cases c6 : x5_1 < (l1.length : Int)
      ·rw [if_pos c6] at H
       have c6b0 : decide (x5_1 < (l1.length : Int)) = true := Z39 c6
       clear c6
       by_cases c7 : (rd l0 x5_1) = (rd l1 x5_1)
       ·rw [if_pos c7] at H
        have c7b0 : ((rd l0 x5_1) == (rd l1 x5_1)) = true := beq_iff_eq.mpr c7
        have c7b1 : ((rd l0 x5_1) != (rd l1 x5_1)) = false := bne_eq_false_iff_eq.mpr c7
        clear c7
        have H' := Ya H
        clear H
        have p350 : 0 ≤ (x5_1 : Int) := Z31 Q5
        have q350 : x5_1 < (l0.length : Int) := Z31 Q5
        obtain ⟨ad350, e350, hx350_0⟩ := Kd.at_int HR0.out x5_1 p350 q350
        cases e350
        replace p350 := eq_true p350
        replace q350 := eq_true q350
        have p351 : 0 ≤ (x5_1 : Int) := Z31 Q5
        have q351 : x5_1 < (l1.length : Int) := Z31 Q5
        obtain ⟨ad351, e351, hx351_0⟩ := Kd.at_int HR1.out x5_1 p351 q351
        cases e351
        replace p351 := eq_true p351
        replace q351 := eq_true q351
        go_wp2
        repeat (go_quiet (fail); try go_wp2)
        go_roundg k1
        case measure => have := HK1.out; omega
        case rel => exact ⟨(wrap64 (x5_1 + 1)), Q15, H', ⟨Q55⟩, Q19⟩
       ·rw [if_neg c7] at H
        have c7b0 : ((rd l0 x5_1) == (rd l1 x5_1)) = false := beq_eq_false_iff_ne.mpr c7
        have c7b1 : ((rd l0 x5_1) != (rd l1 x5_1)) = true := bne_iff_ne.mpr c7
        obtain rfl := Option.some.inj H
        have p350 : 0 ≤ (x5_1 : Int) := Z31 Q5
        have q350 : x5_1 < (l0.length : Int) := Z31 Q5
        obtain ⟨ad350, e350, hx350_0⟩ := Kd.at_int HR0.out x5_1 p350 q350
        cases e350
        replace p350 := eq_true p350
        replace q350 := eq_true q350
        have p351 : 0 ≤ (x5_1 : Int) := Z31 Q5
        have q351 : x5_1 < (l1.length : Int) := Z31 Q5
        obtain ⟨ad351, e351, hx351_0⟩ := Kd.at_int HR1.out x5_1 p351 q351
        cases e351
        replace p351 := eq_true p351
        replace q351 := eq_true q351
        go_wp2
        repeat (go_quiet (fail); try go_wp2)
        go_ret
        exact ⟨Q34, Q19⟩
      ·rw [if_neg c6] at H
       exact absurd H (by simp)
     ·rw [if_neg c5] at H
      exact absurd H (by simp)
    ·rw [if_neg c4] at H
     have c4b0 : decide (x5_1 < (l0.length : Int)) = false := Z38 c4
     clear c4
     obtain rfl := Option.some.inj H
     go_wp2
     repeat (go_quiet (fail); try go_wp2)
     go_ret
     exact ⟨Q34, Q19⟩
 ·rw [if_neg c3] at H
  have c3b0 : ((l0.length : Int) == (l1.length : Int)) = false := beq_eq_false_iff_ne.mpr c3
  have c3b1 : ((l0.length : Int) != (l1.length : Int)) = true := bne_iff_ne.mpr c3
  have c3b2 : (l0.length == l1.length) = false := by first | simpa using c3 | (simp at c3 ⊢; omega)
  obtain rfl := Option.some.inj H
  go_enter Try.func37, Try.ntmps37
  go_wp2
  repeat (go_quiet (fail); try go_wp2)
  go_ret
  exact ⟨Q34, Q19⟩

/-! ### laws_eqBoolS: function 38 -/
def laws_eqBoolS.l0 : Nat → List Bool → List Bool → Int → Option (Bool)
 | 0, _, _, _ => none
 | k + 1, x0, x1, x5 => if x5 < (x0.length : Int) then (if 0 ≤ x5 then (if x5 < (x1.length : Int) then (if ((rdOf false x0 x5) != (rdOf false x1 x5)) = true then (some false) else (laws_eqBoolS.l0 k x0 x1 (wrap64 (x5 + 1)))) else (none)) else (none)) else (some true)
def laws_eqBoolS.f (k : Nat) (l0 : List Bool) (l1 : List Bool) : Option (Bool) := if (l0.length : Int) = (l1.length : Int) then (laws_eqBoolS.l0 k l0 l1 0) else (some false)
theorem laws_eqBoolS.mono_l : ∀ k, (∀ y0 y1 y2, LeO (laws_eqBoolS.l0 k y0 y1 y2) (laws_eqBoolS.l0 (k + 1) y0 y1 y2))
 | 0 => fun _ _ _ r h => by simp [laws_eqBoolS.l0] at h
 | k + 1 => by
  have ih0 := laws_eqBoolS.mono_l k
  ·intro y0 y1 y2
   unfold laws_eqBoolS.l0
   repeat' first
   | (with_reducible exact ih0 _ _ _)
   | (with_reducible exact LeO.refl _)
   | (with_reducible exact LeO.none _)
   | (with_reducible refine LeO.ite ?_ ?_)
   | (with_reducible refine LeO.bind ?_ (fun _ => ?_))
   | exact ih0 _ _ _
   | exact LeO.none _
   | refine LeO.ite ?_ ?_
   | refine LeO.bind ?_ (fun _ => ?_)
theorem laws_eqBoolS.mono : ∀ a0 a1 k, LeO (laws_eqBoolS.f k a0 a1) (laws_eqBoolS.f (k + 1) a0 a1) := by
 intro a0 a1 k
 have ih0 := laws_eqBoolS.mono_l k
 unfold laws_eqBoolS.f
 repeat' first
   | (with_reducible exact ih0 _ _ _)
   | (with_reducible exact LeO.refl _)
   | (with_reducible exact LeO.none _)
   | (with_reducible refine LeO.ite ?_ ?_)
   | (with_reducible refine LeO.bind ?_ (fun _ => ?_))
   | exact ih0 _ _ _
   | exact LeO.none _
   | refine LeO.ite ?_ ?_
   | refine LeO.bind ?_ (fun _ => ?_)
set_option maxHeartbeats 8000000 in
set_option maxRecDepth 100000 in
theorem laws_eqBoolS.calls (k : Nat) (A0 : Option Addr) (c0 : Nat) (l0 : List Bool) (A1 : Option Addr) (c1 : Nat) (l1 : List Bool) (r : Bool) (w : World) (hr0 : Kd.C Kd.bool w A0 l0.length l0) (hc0 : l0.length ≤ c0) (hr1 : Kd.C Kd.bool w A1 l1.length l1) (hc1 : l1.length ≤ c1) (h : laws_eqBoolS.f k l0 l1 = some r) :
  Calls Try.prog 38 #[.slice A0 l0.length c0, .slice A1 l1.length c1] w fun e w' => e = .returned (.bool r) ∧ Drawn0 w w' := by
 have HR0 := Ya hr0
 have HC0 := Ya hc0
 clear hr0 hc0
 have HR1 := Ya hr1
 have HC1 := Ya hc1
 clear hr1 hc1
 have H : (if (l0.length : Int) = (l1.length : Int) then (laws_eqBoolS.l0 k l0 l1 0) else (some false)) = some r := h
 clear h
 by_cases c3 : (l0.length : Int) = (l1.length : Int)
 ·rw [if_pos c3] at H
  have c3b0 : ((l0.length : Int) == (l1.length : Int)) = true := beq_iff_eq.mpr c3
  have c3b1 : ((l0.length : Int) != (l1.length : Int)) = false := bne_eq_false_iff_eq.mpr c3
  have c3b2 : (l0.length == l1.length) = true := by first | simpa using c3 | (simp at c3 ⊢; omega)
  clear c3
  have H' := Ya H
  clear H
  go_enter Try.func38, Try.ntmps38
  go_wp2
  repeat (go_quiet (fail); try go_wp2)
  go_loopg [5] k (fun kq v5 w' => ∃ (x5_1 : Int), v5 = .int .i64 x5_1 ∧ Aside0 (laws_eqBoolS.l0 kq l0 l1 x5_1 = some r) ∧ Aside0 (kq ≤ k) ∧ Drawn0 w w')
  case atStart => exact ⟨(0), Q15, H', ⟨Nat.le_refl _⟩, Q19⟩
  case round =>
   clear H'
   try clear c1
   try clear p2
   try clear c3
   try clear c3b0
   try clear c3b1
   try clear c3b2
   obtain ⟨x5_1, rfl, HA, HK1, ⟨m1, rfl⟩⟩ := hrel
   cases gk with
   | zero => exact absurd HA.out (by simp [laws_eqBoolS.l0])
   | succ k1 =>
    have H := HA.out
    clear HA
    simp only [laws_eqBoolS.l0] at H
    by_cases c4 : x5_1 < (l0.length : Int)
    ·rw [if_pos c4] at H
     have c4b0 : decide (x5_1 < (l0.length : Int)) = true := Z39 c4
     clear c4
     by_cases c5 : 0 ≤ x5_1
     ·rw [if_pos c5] at H
      have c5b0 : decide (0 ≤ x5_1) = true := Z39 c5
      clear c5
      by_cases c6 : x5_1 < (l1.length : Int)
      ·rw [if_pos c6] at H
       have c6b0 : decide (x5_1 < (l1.length : Int)) = true := Z39 c6
       clear c6
       by_cases c7 : ((rdOf false l0 x5_1) != (rdOf false l1 x5_1)) = true
       ·rw [if_pos c7] at H
        have c7b0 : ((rdOf false l0 x5_1) != (rdOf false l1 x5_1)) = true := c7
        (try (have c7b1 : decide ((rdOf false l0 x5_1) = (rdOf false l1 x5_1)) = false := by simpa using c7))
        (try (have c7b2 : ((rdOf false l0 x5_1) == (rdOf false l1 x5_1)) = false := by simpa using c7))
        (try (have c7b3 : ¬ ((rdOf false l0 x5_1) = (rdOf false l1 x5_1)) := by simpa using c7))
        clear c7
        obtain rfl := Option.some.inj H
        have p352 : 0 ≤ (x5_1 : Int) := Z31 Q5
        have q352 : x5_1 < (l0.length : Int) := Z31 Q5
        obtain ⟨ad352, e352, hx352_0⟩ := Kd.at_bool HR0.out x5_1 p352 q352
        cases e352
        replace p352 := eq_true p352
        replace q352 := eq_true q352
        have p353 : 0 ≤ (x5_1 : Int) := Z31 Q5
        have q353 : x5_1 < (l1.length : Int) := Z31 Q5
        obtain ⟨ad353, e353, hx353_0⟩ := Kd.at_bool HR1.out x5_1 p353 q353
        cases e353
        replace p353 := eq_true p353
        replace q353 := eq_true q353
        go_wp2
        repeat (go_quiet (fail); try go_wp2)
        go_ret
        exact ⟨Q34, Q19⟩
       ·rw [if_neg c7] at H
        have c7b0 : ((rdOf false l0 x5_1) != (rdOf false l1 x5_1)) = false := by simpa using c7
        (try (have c7b1 : decide ((rdOf false l0 x5_1) = (rdOf false l1 x5_1)) = true := by simpa using c7))
        (try (have c7b2 : ((rdOf false l0 x5_1) == (rdOf false l1 x5_1)) = true := by simpa using c7))
        clear c7
        have H' := Ya H
        clear H
        have p352 : 0 ≤ (x5_1 : Int) := Z31 Q5
        have q352 : x5_1 < (l0.length : Int) := Z31 Q5
        obtain ⟨ad352, e352, hx352_0⟩ := Kd.at_bool HR0.out x5_1 p352 q352
        cases e352
        replace p352 := eq_true p352
        replace q352 := eq_true q352
        have p353 : 0 ≤ (x5_1 : Int) := Z31 Q5
        have q353 : x5_1 < (l1.length : Int) := Z31 Q5
        obtain ⟨ad353, e353, hx353_0⟩ := Kd.at_bool HR1.out x5_1 p353 q353
        cases e353
        replace p353 := eq_true p353
        replace q353 := eq_true q353
        go_wp2
        repeat (go_quiet (fail); try go_wp2)
        go_roundg k1
        case measure => have := HK1.out; omega
        case rel => exact ⟨(wrap64 (x5_1 + 1)), Q15, H', ⟨Q55⟩, Q19⟩
      ·rw [if_neg c6] at H
       exact absurd H (by simp)
     ·rw [if_neg c5] at H
      exact absurd H (by simp)
    ·rw [if_neg c4] at H
     have c4b0 : decide (x5_1 < (l0.length : Int)) = false := Z38 c4
     clear c4
     obtain rfl := Option.some.inj H
     go_wp2
     repeat (go_quiet (fail); try go_wp2)
     go_ret
     exact ⟨Q34, Q19⟩
 ·rw [if_neg c3] at H
  have c3b0 : ((l0.length : Int) == (l1.length : Int)) = false := beq_eq_false_iff_ne.mpr c3
  have c3b1 : ((l0.length : Int) != (l1.length : Int)) = true := bne_iff_ne.mpr c3
  have c3b2 : (l0.length == l1.length) = false := by first | simpa using c3 | (simp at c3 ⊢; omega)
  obtain rfl := Option.some.inj H
  go_enter Try.func38, Try.ntmps38
  go_wp2
  repeat (go_quiet (fail); try go_wp2)
  go_ret
  exact ⟨Q34, Q19⟩

/-! ### laws_eqFocus: function 12 -/
def laws_eqFocus.f (k : Nat) (l0_0 : List Int) (l0_1 : List Int) (l0_2 : List Bool) (l0_3 : List Int) (l1_0 : List Int) (l1_1 : List Int) (l1_2 : List Bool) (l1_3 : List Int) : Option (Bool) := (laws_eqIntS.f k l0_0 l1_0).bind fun t356 => (if t356 = true then ((laws_eqIntS.f k l0_1 l1_1).bind fun t357 => (if t357 = true then ((laws_eqBoolS.f k l0_2 l1_2).bind fun t358 => (if t358 = true then ((laws_eqIntS.f k l0_3 l1_3).bind fun t359 => (if t359 = true then (some true) else (some false))) else (some false))) else (some false))) else (some false))
theorem laws_eqFocus.mono : ∀ a0 a1 a2 a3 a4 a5 a6 a7 k, LeO (laws_eqFocus.f k a0 a1 a2 a3 a4 a5 a6 a7) (laws_eqFocus.f (k + 1) a0 a1 a2 a3 a4 a5 a6 a7) := by
 intro a0 a1 a2 a3 a4 a5 a6 a7 k
 unfold laws_eqFocus.f
 repeat' first
   | (with_reducible exact laws_eqBoolS.mono _ _ _)
   | (with_reducible exact laws_eqIntS.mono _ _ _)
   | (with_reducible exact LeO.refl _)
   | (with_reducible exact LeO.none _)
   | (with_reducible refine LeO.ite ?_ ?_)
   | (with_reducible refine LeO.bind ?_ (fun _ => ?_))
   | exact laws_eqBoolS.mono _ _ _
   | exact laws_eqIntS.mono _ _ _
   | exact LeO.none _
   | refine LeO.ite ?_ ?_
   | refine LeO.bind ?_ (fun _ => ?_)
set_option maxHeartbeats 8000000 in
set_option maxRecDepth 100000 in
theorem laws_eqFocus.calls (k : Nat) (A0_0 : Option Addr) (c0_0 : Nat) (l0_0 : List Int) (A0_1 : Option Addr) (c0_1 : Nat) (l0_1 : List Int) (A0_2 : Option Addr) (c0_2 : Nat) (l0_2 : List Bool) (A0_3 : Option Addr) (c0_3 : Nat) (l0_3 : List Int) (A1_0 : Option Addr) (c1_0 : Nat) (l1_0 : List Int) (A1_1 : Option Addr) (c1_1 : Nat) (l1_1 : List Int) (A1_2 : Option Addr) (c1_2 : Nat) (l1_2 : List Bool) (A1_3 : Option Addr) (c1_3 : Nat) (l1_3 : List Int) (r : Bool) (w : World) (hr0_0 : Kd.C (Kd.int .i64) w A0_0 l0_0.length l0_0) (hc0_0 : l0_0.length ≤ c0_0) (hr0_1 : Kd.C (Kd.int .i64) w A0_1 l0_1.length l0_1) (hc0_1 : l0_1.length ≤ c0_1) (hr0_2 : Kd.C Kd.bool w A0_2 l0_2.length l0_2) (hc0_2 : l0_2.length ≤ c0_2) (hr0_3 : Kd.C (Kd.int .i64) w A0_3 l0_3.length l0_3) (hc0_3 : l0_3.length ≤ c0_3) (hr1_0 : Kd.C (Kd.int .i64) w A1_0 l1_0.length l1_0) (hc1_0 : l1_0.length ≤ c1_0) (hr1_1 : Kd.C (Kd.int .i64) w A1_1 l1_1.length l1_1) (hc1_1 : l1_1.length ≤ c1_1) (hr1_2 : Kd.C Kd.bool w A1_2 l1_2.length l1_2) (hc1_2 : l1_2.length ≤ c1_2) (hr1_3 : Kd.C (Kd.int .i64) w A1_3 l1_3.length l1_3) (hc1_3 : l1_3.length ≤ c1_3) (h : laws_eqFocus.f k l0_0 l0_1 l0_2 l0_3 l1_0 l1_1 l1_2 l1_3 = some r) :
  Calls Try.prog 12 #[.agg #[.slice A0_0 l0_0.length c0_0, .slice A0_1 l0_1.length c0_1, .slice A0_2 l0_2.length c0_2, .slice A0_3 l0_3.length c0_3], .agg #[.slice A1_0 l1_0.length c1_0, .slice A1_1 l1_1.length c1_1, .slice A1_2 l1_2.length c1_2, .slice A1_3 l1_3.length c1_3]] w fun e w' => e = .returned (.bool r) ∧ Below w.heap.size w w' := by
 have hu27 := Try.underlying27
 have HR0_0 := Ya hr0_0
 have HC0_0 := Ya hc0_0
 clear hr0_0 hc0_0
 have HR0_1 := Ya hr0_1
 have HC0_1 := Ya hc0_1
 clear hr0_1 hc0_1
 have HR0_2 := Ya hr0_2
 have HC0_2 := Ya hc0_2
 clear hr0_2 hc0_2
 have HR0_3 := Ya hr0_3
 have HC0_3 := Ya hc0_3
 clear hr0_3 hc0_3
 have HR1_0 := Ya hr1_0
 have HC1_0 := Ya hc1_0
 clear hr1_0 hc1_0
 have HR1_1 := Ya hr1_1
 have HC1_1 := Ya hc1_1
 clear hr1_1 hc1_1
 have HR1_2 := Ya hr1_2
 have HC1_2 := Ya hc1_2
 clear hr1_2 hc1_2
 have HR1_3 := Ya hr1_3
 have HC1_3 := Ya hc1_3
 clear hr1_3 hc1_3
 have HB := Ya (Below.refl w.heap.size w)
 have H : ((laws_eqIntS.f k l0_0 l1_0).bind fun t356 => (if t356 = true then ((laws_eqIntS.f k l0_1 l1_1).bind fun t357 => (if t357 = true then ((laws_eqBoolS.f k l0_2 l1_2).bind fun t358 => (if t358 = true then ((laws_eqIntS.f k l0_3 l1_3).bind fun t359 => (if t359 = true then (some true) else (some false))) else (some false))) else (some false))) else (some false))) = some r := h
 clear h
 replace H := Z37.mp H
 obtain ⟨t356, A30, H⟩ := H
 replace H : (if t356 = true then ((laws_eqIntS.f k l0_1 l1_1).bind fun t357 => (if t357 = true then ((laws_eqBoolS.f k l0_2 l1_2).bind fun t358 => (if t358 = true then ((laws_eqIntS.f k l0_3 l1_3).bind fun t359 => (if t359 = true then (some true) else (some false))) else (some false))) else (some false))) else (some false)) = some r := H
 have A3 := Ya A30
 clear A30
 by_cases c4 : t356 = true
 ·subst c4
  have H1 : ((laws_eqIntS.f k l0_1 l1_1).bind fun t357 => (if t357 = true then ((laws_eqBoolS.f k l0_2 l1_2).bind fun t358 => (if t358 = true then ((laws_eqIntS.f k l0_3 l1_3).bind fun t359 => (if t359 = true then (some true) else (some false))) else (some false))) else (some false))) = some r := by rw [if_pos rfl] at H; exact H
  clear H
  have H := H1
  clear H1
  replace H := Z37.mp H
  obtain ⟨t357, A50, H⟩ := H
  replace H : (if t357 = true then ((laws_eqBoolS.f k l0_2 l1_2).bind fun t358 => (if t358 = true then ((laws_eqIntS.f k l0_3 l1_3).bind fun t359 => (if t359 = true then (some true) else (some false))) else (some false))) else (some false)) = some r := H
  have A5 := Ya A50
  clear A50
  by_cases c6 : t357 = true
  ·subst c6
   have H1 : ((laws_eqBoolS.f k l0_2 l1_2).bind fun t358 => (if t358 = true then ((laws_eqIntS.f k l0_3 l1_3).bind fun t359 => (if t359 = true then (some true) else (some false))) else (some false))) = some r := by rw [if_pos rfl] at H; exact H
   clear H
   have H := H1
   clear H1
   replace H := Z37.mp H
   obtain ⟨t358, A70, H⟩ := H
   replace H : (if t358 = true then ((laws_eqIntS.f k l0_3 l1_3).bind fun t359 => (if t359 = true then (some true) else (some false))) else (some false)) = some r := H
   have A7 := Ya A70
   clear A70
   by_cases c8 : t358 = true
   ·subst c8
    have H1 : ((laws_eqIntS.f k l0_3 l1_3).bind fun t359 => (if t359 = true then (some true) else (some false))) = some r := by rw [if_pos rfl] at H; exact H
    clear H
    have H := H1
    clear H1
    replace H := Z37.mp H
    obtain ⟨t359, A90, H⟩ := H
    replace H : (if t359 = true then (some true) else (some false)) = some r := H
    have A9 := Ya A90
    clear A90
    by_cases c10 : t359 = true
    ·subst c10
     have H1 : (some true) = some r := by rw [if_pos rfl] at H; exact H
     clear H
     have H := H1
     clear H1
     obtain rfl := Option.some.inj H
     go_enter Try.func12, Try.ntmps12
     go_wp2_with (first | ((with_reducible refine gate_dst (N := 2) rfl ?_); refine Yx 2 #[.slice A0_0 l0_0.length c0_0, .slice A0_1 l0_1.length c0_1, .slice A0_2 l0_2.length c0_2, .slice A0_3 l0_3.length c0_3] 27 ?_; intro gb354 hg w11 hbox hb; have BK354 := Ya hbox; have GW354 := Yg hg Q0; have GE354 := GW354; replace HB := Ya (Z8 Q0 hb); clear hb hbox hg) | ((with_reducible refine gate_dst (N := 3) rfl ?_); refine Yx 3 #[.slice A1_0 l1_0.length c1_0, .slice A1_1 l1_1.length c1_1, .slice A1_2 l1_2.length c1_2, .slice A1_3 l1_3.length c1_3] 27 ?_; intro gb355 hg w12 hbox hb; have BK355 := Ya hbox; have GW355 := Yg hg Q28; have GE355 := GW355; replace HB := Ya (Z8 Q28 hb); have NB354_355 := Yn BK354 hg; have NB355_354 := Ym BK354 hg; replace BK354 := Yb BK354 hb; clear hb hbox hg; have hnb13 := NB354_355.out; have hnc13 := NB355_354.out; obtain ⟨hcz14_0, hcz14_1, hcz14_2, hcz14_3, hfz14_0, hfz14_1, hfz14_2, hfz14_3⟩ := Y4 BK354.out; obtain ⟨hcz15_0, hcz15_1, hcz15_2, hcz15_3, hfz15_0, hfz15_1, hfz15_2, hfz15_3⟩ := Y4 BK355.out) | ((with_reducible refine gate_callee (f := 37) rfl ?_); refine goesL_ (some 9) rfl rfl Try.func37 (by kernel_rfl) rfl #[.slice A0_0 l0_0.length c0_0, .slice A1_0 l1_0.length c1_0] rfl Q1 ?_; (with_reducible refine (laws_eqIntS.calls k _ _ l0_0 _ _ l1_0 true _ ?side1 ?side2 ?side3 ?side4 A3.out).mono ?_); (case side1 => exact Yc (Z23 HR0_0.out HB.out)); (case side2 => exact HC0_0.out); (case side3 => exact Yc (Z23 HR1_0.out HB.out)); (case side4 => exact HC1_0.out); rintro e w' ⟨rfl, ⟨nd, rfl⟩⟩; refine ⟨_, rfl, ?_⟩) | ((with_reducible refine gate_callee (f := 37) rfl ?_); refine goesL_ (some 15) rfl rfl Try.func37 (by kernel_rfl) rfl #[.slice A0_1 l0_1.length c0_1, .slice A1_1 l1_1.length c1_1] rfl Q1 ?_; (with_reducible refine (laws_eqIntS.calls k _ _ l0_1 _ _ l1_1 true _ ?side1 ?side2 ?side3 ?side4 A5.out).mono ?_); (case side1 => repeat (first | exact (Z23 HR0_1.out Q13) | (with_reducible refine Z20 ?_ _) | (with_reducible refine Z21 ?_ _) | (with_reducible refine Z22 ?_))); (case side2 => exact HC0_1.out); (case side3 => repeat (first | exact (Z23 HR1_1.out Q13) | (with_reducible refine Z20 ?_ _) | (with_reducible refine Z21 ?_ _) | (with_reducible refine Z22 ?_))); (case side4 => exact HC1_1.out); rintro e w' ⟨rfl, ⟨nd, rfl⟩⟩; refine ⟨_, rfl, ?_⟩) | ((with_reducible refine gate_callee (f := 38) rfl ?_); refine goesL_ (some 21) rfl rfl Try.func38 (by kernel_rfl) rfl #[.slice A0_2 l0_2.length c0_2, .slice A1_2 l1_2.length c1_2] rfl Q1 ?_; (with_reducible refine (laws_eqBoolS.calls k _ _ l0_2 _ _ l1_2 true _ ?side1 ?side2 ?side3 ?side4 A7.out).mono ?_); (case side1 => repeat (first | exact (Z23 HR0_2.out Q13) | (with_reducible refine Z20 ?_ _) | (with_reducible refine Z21 ?_ _) | (with_reducible refine Z22 ?_))); (case side2 => exact HC0_2.out); (case side3 => repeat (first | exact (Z23 HR1_2.out Q13) | (with_reducible refine Z20 ?_ _) | (with_reducible refine Z21 ?_ _) | (with_reducible refine Z22 ?_))); (case side4 => exact HC1_2.out); rintro e w' ⟨rfl, ⟨nd, rfl⟩⟩; refine ⟨_, rfl, ?_⟩) | ((with_reducible refine gate_callee (f := 37) rfl ?_); refine goesL_ (some 27) rfl rfl Try.func37 (by kernel_rfl) rfl #[.slice A0_3 l0_3.length c0_3, .slice A1_3 l1_3.length c1_3] rfl Q1 ?_; (with_reducible refine (laws_eqIntS.calls k _ _ l0_3 _ _ l1_3 true _ ?side1 ?side2 ?side3 ?side4 A9.out).mono ?_); (case side1 => repeat (first | exact (Z23 HR0_3.out Q13) | (with_reducible refine Z20 ?_ _) | (with_reducible refine Z21 ?_ _) | (with_reducible refine Z22 ?_))); (case side2 => exact HC0_3.out); (case side3 => repeat (first | exact (Z23 HR1_3.out Q13) | (with_reducible refine Z20 ?_ _) | (with_reducible refine Z21 ?_ _) | (with_reducible refine Z22 ?_))); (case side4 => exact HC1_3.out); rintro e w' ⟨rfl, ⟨nd, rfl⟩⟩; refine ⟨_, rfl, ?_⟩))
     go_ret
     exact ⟨Q9, Q42⟩
    ·replace c10 := Bool.eq_false_iff.mpr c10
     subst c10
     have H1 : (some false) = some r := by rw [if_neg (show ¬ (false = true) by decide)] at H; exact H
     clear H
     have H := H1
     clear H1
     obtain rfl := Option.some.inj H
     go_enter Try.func12, Try.ntmps12
     go_wp2_with (first | ((with_reducible refine gate_dst (N := 2) rfl ?_); refine Yx 2 #[.slice A0_0 l0_0.length c0_0, .slice A0_1 l0_1.length c0_1, .slice A0_2 l0_2.length c0_2, .slice A0_3 l0_3.length c0_3] 27 ?_; intro gb354 hg w16 hbox hb; have BK354 := Ya hbox; have GW354 := Yg hg Q0; have GE354 := GW354; replace HB := Ya (Z8 Q0 hb); clear hb hbox hg) | ((with_reducible refine gate_dst (N := 3) rfl ?_); refine Yx 3 #[.slice A1_0 l1_0.length c1_0, .slice A1_1 l1_1.length c1_1, .slice A1_2 l1_2.length c1_2, .slice A1_3 l1_3.length c1_3] 27 ?_; intro gb355 hg w17 hbox hb; have BK355 := Ya hbox; have GW355 := Yg hg Q28; have GE355 := GW355; replace HB := Ya (Z8 Q28 hb); have NB354_355 := Yn BK354 hg; have NB355_354 := Ym BK354 hg; replace BK354 := Yb BK354 hb; clear hb hbox hg; have hnb18 := NB354_355.out; have hnc18 := NB355_354.out; obtain ⟨hcz19_0, hcz19_1, hcz19_2, hcz19_3, hfz19_0, hfz19_1, hfz19_2, hfz19_3⟩ := Y4 BK354.out; obtain ⟨hcz20_0, hcz20_1, hcz20_2, hcz20_3, hfz20_0, hfz20_1, hfz20_2, hfz20_3⟩ := Y4 BK355.out) | ((with_reducible refine gate_callee (f := 37) rfl ?_); refine goesL_ (some 9) rfl rfl Try.func37 (by kernel_rfl) rfl #[.slice A0_0 l0_0.length c0_0, .slice A1_0 l1_0.length c1_0] rfl Q1 ?_; (with_reducible refine (laws_eqIntS.calls k _ _ l0_0 _ _ l1_0 true _ ?side1 ?side2 ?side3 ?side4 A3.out).mono ?_); (case side1 => exact Yc (Z23 HR0_0.out HB.out)); (case side2 => exact HC0_0.out); (case side3 => exact Yc (Z23 HR1_0.out HB.out)); (case side4 => exact HC1_0.out); rintro e w' ⟨rfl, ⟨nd, rfl⟩⟩; refine ⟨_, rfl, ?_⟩) | ((with_reducible refine gate_callee (f := 37) rfl ?_); refine goesL_ (some 15) rfl rfl Try.func37 (by kernel_rfl) rfl #[.slice A0_1 l0_1.length c0_1, .slice A1_1 l1_1.length c1_1] rfl Q1 ?_; (with_reducible refine (laws_eqIntS.calls k _ _ l0_1 _ _ l1_1 true _ ?side1 ?side2 ?side3 ?side4 A5.out).mono ?_); (case side1 => repeat (first | exact (Z23 HR0_1.out Q13) | (with_reducible refine Z20 ?_ _) | (with_reducible refine Z21 ?_ _) | (with_reducible refine Z22 ?_))); (case side2 => exact HC0_1.out); (case side3 => repeat (first | exact (Z23 HR1_1.out Q13) | (with_reducible refine Z20 ?_ _) | (with_reducible refine Z21 ?_ _) | (with_reducible refine Z22 ?_))); (case side4 => exact HC1_1.out); rintro e w' ⟨rfl, ⟨nd, rfl⟩⟩; refine ⟨_, rfl, ?_⟩) | ((with_reducible refine gate_callee (f := 38) rfl ?_); refine goesL_ (some 21) rfl rfl Try.func38 (by kernel_rfl) rfl #[.slice A0_2 l0_2.length c0_2, .slice A1_2 l1_2.length c1_2] rfl Q1 ?_; (with_reducible refine (laws_eqBoolS.calls k _ _ l0_2 _ _ l1_2 true _ ?side1 ?side2 ?side3 ?side4 A7.out).mono ?_); (case side1 => repeat (first | exact (Z23 HR0_2.out Q13) | (with_reducible refine Z20 ?_ _) | (with_reducible refine Z21 ?_ _) | (with_reducible refine Z22 ?_))); (case side2 => exact HC0_2.out); (case side3 => repeat (first | exact (Z23 HR1_2.out Q13) | (with_reducible refine Z20 ?_ _) | (with_reducible refine Z21 ?_ _) | (with_reducible refine Z22 ?_))); (case side4 => exact HC1_2.out); rintro e w' ⟨rfl, ⟨nd, rfl⟩⟩; refine ⟨_, rfl, ?_⟩) | ((with_reducible refine gate_callee (f := 37) rfl ?_); refine goesL_ (some 27) rfl rfl Try.func37 (by kernel_rfl) rfl #[.slice A0_3 l0_3.length c0_3, .slice A1_3 l1_3.length c1_3] rfl Q1 ?_; (with_reducible refine (laws_eqIntS.calls k _ _ l0_3 _ _ l1_3 false _ ?side1 ?side2 ?side3 ?side4 A9.out).mono ?_); (case side1 => repeat (first | exact (Z23 HR0_3.out Q13) | (with_reducible refine Z20 ?_ _) | (with_reducible refine Z21 ?_ _) | (with_reducible refine Z22 ?_))); (case side2 => exact HC0_3.out); (case side3 => repeat (first | exact (Z23 HR1_3.out Q13) | (with_reducible refine Z20 ?_ _) | (with_reducible refine Z21 ?_ _) | (with_reducible refine Z22 ?_))); (case side4 => exact HC1_3.out); rintro e w' ⟨rfl, ⟨nd, rfl⟩⟩; refine ⟨_, rfl, ?_⟩))
     go_ret
     exact ⟨Q9, Q42⟩
   ·replace c8 := Bool.eq_false_iff.mpr c8
    subst c8
    have H1 : (some false) = some r := by rw [if_neg (show ¬ (false = true) by decide)] at H; exact H
    clear H
    have H := H1
    clear H1
    obtain rfl := Option.some.inj H
    go_enter Try.func12, Try.ntmps12
    go_wp2_with (first | ((with_reducible refine gate_dst (N := 2) rfl ?_); refine Yx 2 #[.slice A0_0 l0_0.length c0_0, .slice A0_1 l0_1.length c0_1, .slice A0_2 l0_2.length c0_2, .slice A0_3 l0_3.length c0_3] 27 ?_; intro gb354 hg w21 hbox hb; have BK354 := Ya hbox; have GW354 := Yg hg Q0; have GE354 := GW354; replace HB := Ya (Z8 Q0 hb); clear hb hbox hg) | ((with_reducible refine gate_dst (N := 3) rfl ?_); refine Yx 3 #[.slice A1_0 l1_0.length c1_0, .slice A1_1 l1_1.length c1_1, .slice A1_2 l1_2.length c1_2, .slice A1_3 l1_3.length c1_3] 27 ?_; intro gb355 hg w22 hbox hb; have BK355 := Ya hbox; have GW355 := Yg hg Q28; have GE355 := GW355; replace HB := Ya (Z8 Q28 hb); have NB354_355 := Yn BK354 hg; have NB355_354 := Ym BK354 hg; replace BK354 := Yb BK354 hb; clear hb hbox hg; have hnb23 := NB354_355.out; have hnc23 := NB355_354.out; obtain ⟨hcz24_0, hcz24_1, hcz24_2, hcz24_3, hfz24_0, hfz24_1, hfz24_2, hfz24_3⟩ := Y4 BK354.out; obtain ⟨hcz25_0, hcz25_1, hcz25_2, hcz25_3, hfz25_0, hfz25_1, hfz25_2, hfz25_3⟩ := Y4 BK355.out) | ((with_reducible refine gate_callee (f := 37) rfl ?_); refine goesL_ (some 9) rfl rfl Try.func37 (by kernel_rfl) rfl #[.slice A0_0 l0_0.length c0_0, .slice A1_0 l1_0.length c1_0] rfl Q1 ?_; (with_reducible refine (laws_eqIntS.calls k _ _ l0_0 _ _ l1_0 true _ ?side1 ?side2 ?side3 ?side4 A3.out).mono ?_); (case side1 => exact Yc (Z23 HR0_0.out HB.out)); (case side2 => exact HC0_0.out); (case side3 => exact Yc (Z23 HR1_0.out HB.out)); (case side4 => exact HC1_0.out); rintro e w' ⟨rfl, ⟨nd, rfl⟩⟩; refine ⟨_, rfl, ?_⟩) | ((with_reducible refine gate_callee (f := 37) rfl ?_); refine goesL_ (some 15) rfl rfl Try.func37 (by kernel_rfl) rfl #[.slice A0_1 l0_1.length c0_1, .slice A1_1 l1_1.length c1_1] rfl Q1 ?_; (with_reducible refine (laws_eqIntS.calls k _ _ l0_1 _ _ l1_1 true _ ?side1 ?side2 ?side3 ?side4 A5.out).mono ?_); (case side1 => repeat (first | exact (Z23 HR0_1.out Q13) | (with_reducible refine Z20 ?_ _) | (with_reducible refine Z21 ?_ _) | (with_reducible refine Z22 ?_))); (case side2 => exact HC0_1.out); (case side3 => repeat (first | exact (Z23 HR1_1.out Q13) | (with_reducible refine Z20 ?_ _) | (with_reducible refine Z21 ?_ _) | (with_reducible refine Z22 ?_))); (case side4 => exact HC1_1.out); rintro e w' ⟨rfl, ⟨nd, rfl⟩⟩; refine ⟨_, rfl, ?_⟩) | ((with_reducible refine gate_callee (f := 38) rfl ?_); refine goesL_ (some 21) rfl rfl Try.func38 (by kernel_rfl) rfl #[.slice A0_2 l0_2.length c0_2, .slice A1_2 l1_2.length c1_2] rfl Q1 ?_; (with_reducible refine (laws_eqBoolS.calls k _ _ l0_2 _ _ l1_2 false _ ?side1 ?side2 ?side3 ?side4 A7.out).mono ?_); (case side1 => repeat (first | exact (Z23 HR0_2.out Q13) | (with_reducible refine Z20 ?_ _) | (with_reducible refine Z21 ?_ _) | (with_reducible refine Z22 ?_))); (case side2 => exact HC0_2.out); (case side3 => repeat (first | exact (Z23 HR1_2.out Q13) | (with_reducible refine Z20 ?_ _) | (with_reducible refine Z21 ?_ _) | (with_reducible refine Z22 ?_))); (case side4 => exact HC1_2.out); rintro e w' ⟨rfl, ⟨nd, rfl⟩⟩; refine ⟨_, rfl, ?_⟩))
    go_ret
    exact ⟨Q9, Q42⟩
  ·replace c6 := Bool.eq_false_iff.mpr c6
   subst c6
   have H1 : (some false) = some r := by rw [if_neg (show ¬ (false = true) by decide)] at H; exact H
   clear H
   have H := H1
   clear H1
   obtain rfl := Option.some.inj H
   go_enter Try.func12, Try.ntmps12
   go_wp2_with (first | ((with_reducible refine gate_dst (N := 2) rfl ?_); refine Yx 2 #[.slice A0_0 l0_0.length c0_0, .slice A0_1 l0_1.length c0_1, .slice A0_2 l0_2.length c0_2, .slice A0_3 l0_3.length c0_3] 27 ?_; intro gb354 hg w26 hbox hb; have BK354 := Ya hbox; have GW354 := Yg hg Q0; have GE354 := GW354; replace HB := Ya (Z8 Q0 hb); clear hb hbox hg) | ((with_reducible refine gate_dst (N := 3) rfl ?_); refine Yx 3 #[.slice A1_0 l1_0.length c1_0, .slice A1_1 l1_1.length c1_1, .slice A1_2 l1_2.length c1_2, .slice A1_3 l1_3.length c1_3] 27 ?_; intro gb355 hg w27 hbox hb; have BK355 := Ya hbox; have GW355 := Yg hg Q28; have GE355 := GW355; replace HB := Ya (Z8 Q28 hb); have NB354_355 := Yn BK354 hg; have NB355_354 := Ym BK354 hg; replace BK354 := Yb BK354 hb; clear hb hbox hg; have hnb28 := NB354_355.out; have hnc28 := NB355_354.out; obtain ⟨hcz29_0, hcz29_1, hcz29_2, hcz29_3, hfz29_0, hfz29_1, hfz29_2, hfz29_3⟩ := Y4 BK354.out; obtain ⟨hcz30_0, hcz30_1, hcz30_2, hcz30_3, hfz30_0, hfz30_1, hfz30_2, hfz30_3⟩ := Y4 BK355.out) | ((with_reducible refine gate_callee (f := 37) rfl ?_); refine goesL_ (some 9) rfl rfl Try.func37 (by kernel_rfl) rfl #[.slice A0_0 l0_0.length c0_0, .slice A1_0 l1_0.length c1_0] rfl Q1 ?_; (with_reducible refine (laws_eqIntS.calls k _ _ l0_0 _ _ l1_0 true _ ?side1 ?side2 ?side3 ?side4 A3.out).mono ?_); (case side1 => exact Yc (Z23 HR0_0.out HB.out)); (case side2 => exact HC0_0.out); (case side3 => exact Yc (Z23 HR1_0.out HB.out)); (case side4 => exact HC1_0.out); rintro e w' ⟨rfl, ⟨nd, rfl⟩⟩; refine ⟨_, rfl, ?_⟩) | ((with_reducible refine gate_callee (f := 37) rfl ?_); refine goesL_ (some 15) rfl rfl Try.func37 (by kernel_rfl) rfl #[.slice A0_1 l0_1.length c0_1, .slice A1_1 l1_1.length c1_1] rfl Q1 ?_; (with_reducible refine (laws_eqIntS.calls k _ _ l0_1 _ _ l1_1 false _ ?side1 ?side2 ?side3 ?side4 A5.out).mono ?_); (case side1 => repeat (first | exact (Z23 HR0_1.out Q13) | (with_reducible refine Z20 ?_ _) | (with_reducible refine Z21 ?_ _) | (with_reducible refine Z22 ?_))); (case side2 => exact HC0_1.out); (case side3 => repeat (first | exact (Z23 HR1_1.out Q13) | (with_reducible refine Z20 ?_ _) | (with_reducible refine Z21 ?_ _) | (with_reducible refine Z22 ?_))); (case side4 => exact HC1_1.out); rintro e w' ⟨rfl, ⟨nd, rfl⟩⟩; refine ⟨_, rfl, ?_⟩))
   go_ret
   exact ⟨Q9, Q42⟩
 ·replace c4 := Bool.eq_false_iff.mpr c4
  subst c4
  have H1 : (some false) = some r := by rw [if_neg (show ¬ (false = true) by decide)] at H; exact H
  clear H
  have H := H1
  clear H1
  obtain rfl := Option.some.inj H
  go_enter Try.func12, Try.ntmps12
  go_wp2_with (first | ((with_reducible refine gate_dst (N := 2) rfl ?_); refine Yx 2 #[.slice A0_0 l0_0.length c0_0, .slice A0_1 l0_1.length c0_1, .slice A0_2 l0_2.length c0_2, .slice A0_3 l0_3.length c0_3] 27 ?_; intro gb354 hg w31 hbox hb; have BK354 := Ya hbox; have GW354 := Yg hg Q0; have GE354 := GW354; replace HB := Ya (Z8 Q0 hb); clear hb hbox hg) | ((with_reducible refine gate_dst (N := 3) rfl ?_); refine Yx 3 #[.slice A1_0 l1_0.length c1_0, .slice A1_1 l1_1.length c1_1, .slice A1_2 l1_2.length c1_2, .slice A1_3 l1_3.length c1_3] 27 ?_; intro gb355 hg w32 hbox hb; have BK355 := Ya hbox; have GW355 := Yg hg Q28; have GE355 := GW355; replace HB := Ya (Z8 Q28 hb); have NB354_355 := Yn BK354 hg; have NB355_354 := Ym BK354 hg; replace BK354 := Yb BK354 hb; clear hb hbox hg; have hnb33 := NB354_355.out; have hnc33 := NB355_354.out; obtain ⟨hcz34_0, hcz34_1, hcz34_2, hcz34_3, hfz34_0, hfz34_1, hfz34_2, hfz34_3⟩ := Y4 BK354.out; obtain ⟨hcz35_0, hcz35_1, hcz35_2, hcz35_3, hfz35_0, hfz35_1, hfz35_2, hfz35_3⟩ := Y4 BK355.out) | ((with_reducible refine gate_callee (f := 37) rfl ?_); refine goesL_ (some 9) rfl rfl Try.func37 (by kernel_rfl) rfl #[.slice A0_0 l0_0.length c0_0, .slice A1_0 l1_0.length c1_0] rfl Q1 ?_; (with_reducible refine (laws_eqIntS.calls k _ _ l0_0 _ _ l1_0 false _ ?side1 ?side2 ?side3 ?side4 A3.out).mono ?_); (case side1 => exact Yc (Z23 HR0_0.out HB.out)); (case side2 => exact HC0_0.out); (case side3 => exact Yc (Z23 HR1_0.out HB.out)); (case side4 => exact HC1_0.out); rintro e w' ⟨rfl, ⟨nd, rfl⟩⟩; refine ⟨_, rfl, ?_⟩))
  go_ret
  exact ⟨Q9, Q42⟩

/-! ### laws_eqSwapper: function 17 -/
def laws_eqSwapper.f (k : Nat) (l0_0 : List Int) (l0_1 : List Int) (l0_2 : List Bool) (l0_3 : List Int) (l0_4 : List Int) (l0_5 : List Int) (l1_0 : List Int) (l1_1 : List Int) (l1_2 : List Bool) (l1_3 : List Int) (l1_4 : List Int) (l1_5 : List Int) : Option (Bool) := (laws_eqFocus.f k l0_0 l0_1 l0_2 l0_3 l1_0 l1_1 l1_2 l1_3).bind fun t362 => (if t362 = true then ((laws_eqIntS.f k l0_4 l1_4).bind fun t363 => (if t363 = true then ((laws_eqIntS.f k l0_5 l1_5).bind fun t364 => (if t364 = true then (some true) else (some false))) else (some false))) else (some false))
theorem laws_eqSwapper.mono : ∀ a0 a1 a2 a3 a4 a5 a6 a7 a8 a9 a10 a11 k, LeO (laws_eqSwapper.f k a0 a1 a2 a3 a4 a5 a6 a7 a8 a9 a10 a11) (laws_eqSwapper.f (k + 1) a0 a1 a2 a3 a4 a5 a6 a7 a8 a9 a10 a11) := by
 intro a0 a1 a2 a3 a4 a5 a6 a7 a8 a9 a10 a11 k
 unfold laws_eqSwapper.f
 repeat' first
   | (with_reducible exact laws_eqFocus.mono _ _ _ _ _ _ _ _ _)
   | (with_reducible exact laws_eqIntS.mono _ _ _)
   | (with_reducible exact LeO.refl _)
   | (with_reducible exact LeO.none _)
   | (with_reducible refine LeO.ite ?_ ?_)
   | (with_reducible refine LeO.bind ?_ (fun _ => ?_))
   | exact laws_eqFocus.mono _ _ _ _ _ _ _ _ _
   | exact laws_eqIntS.mono _ _ _
   | exact LeO.none _
   | refine LeO.ite ?_ ?_
   | refine LeO.bind ?_ (fun _ => ?_)
set_option maxHeartbeats 8000000 in
set_option maxRecDepth 100000 in
theorem laws_eqSwapper.calls (k : Nat) (A0_0 : Option Addr) (c0_0 : Nat) (l0_0 : List Int) (A0_1 : Option Addr) (c0_1 : Nat) (l0_1 : List Int) (A0_2 : Option Addr) (c0_2 : Nat) (l0_2 : List Bool) (A0_3 : Option Addr) (c0_3 : Nat) (l0_3 : List Int) (A0_4 : Option Addr) (c0_4 : Nat) (l0_4 : List Int) (A0_5 : Option Addr) (c0_5 : Nat) (l0_5 : List Int) (A1_0 : Option Addr) (c1_0 : Nat) (l1_0 : List Int) (A1_1 : Option Addr) (c1_1 : Nat) (l1_1 : List Int) (A1_2 : Option Addr) (c1_2 : Nat) (l1_2 : List Bool) (A1_3 : Option Addr) (c1_3 : Nat) (l1_3 : List Int) (A1_4 : Option Addr) (c1_4 : Nat) (l1_4 : List Int) (A1_5 : Option Addr) (c1_5 : Nat) (l1_5 : List Int) (r : Bool) (w : World) (hr0_0 : Kd.C (Kd.int .i64) w A0_0 l0_0.length l0_0) (hc0_0 : l0_0.length ≤ c0_0) (hr0_1 : Kd.C (Kd.int .i64) w A0_1 l0_1.length l0_1) (hc0_1 : l0_1.length ≤ c0_1) (hr0_2 : Kd.C Kd.bool w A0_2 l0_2.length l0_2) (hc0_2 : l0_2.length ≤ c0_2) (hr0_3 : Kd.C (Kd.int .i64) w A0_3 l0_3.length l0_3) (hc0_3 : l0_3.length ≤ c0_3) (hr0_4 : Kd.C (Kd.int .i64) w A0_4 l0_4.length l0_4) (hc0_4 : l0_4.length ≤ c0_4) (hr0_5 : Kd.C (Kd.int .i64) w A0_5 l0_5.length l0_5) (hc0_5 : l0_5.length ≤ c0_5) (hr1_0 : Kd.C (Kd.int .i64) w A1_0 l1_0.length l1_0) (hc1_0 : l1_0.length ≤ c1_0) (hr1_1 : Kd.C (Kd.int .i64) w A1_1 l1_1.length l1_1) (hc1_1 : l1_1.length ≤ c1_1) (hr1_2 : Kd.C Kd.bool w A1_2 l1_2.length l1_2) (hc1_2 : l1_2.length ≤ c1_2) (hr1_3 : Kd.C (Kd.int .i64) w A1_3 l1_3.length l1_3) (hc1_3 : l1_3.length ≤ c1_3) (hr1_4 : Kd.C (Kd.int .i64) w A1_4 l1_4.length l1_4) (hc1_4 : l1_4.length ≤ c1_4) (hr1_5 : Kd.C (Kd.int .i64) w A1_5 l1_5.length l1_5) (hc1_5 : l1_5.length ≤ c1_5) (h : laws_eqSwapper.f k l0_0 l0_1 l0_2 l0_3 l0_4 l0_5 l1_0 l1_1 l1_2 l1_3 l1_4 l1_5 = some r) :
  Calls Try.prog 17 #[.agg #[.slice A0_0 l0_0.length c0_0, .slice A0_1 l0_1.length c0_1, .slice A0_2 l0_2.length c0_2, .slice A0_3 l0_3.length c0_3, .slice A0_4 l0_4.length c0_4, .slice A0_5 l0_5.length c0_5], .agg #[.slice A1_0 l1_0.length c1_0, .slice A1_1 l1_1.length c1_1, .slice A1_2 l1_2.length c1_2, .slice A1_3 l1_3.length c1_3, .slice A1_4 l1_4.length c1_4, .slice A1_5 l1_5.length c1_5]] w fun e w' => e = .returned (.bool r) ∧ Below w.heap.size w w' := by
 have hu35 := Try.underlying35
 have hu27 := Try.underlying27
 have HR0_0 := Ya hr0_0
 have HC0_0 := Ya hc0_0
 clear hr0_0 hc0_0
 have HR0_1 := Ya hr0_1
 have HC0_1 := Ya hc0_1
 clear hr0_1 hc0_1
 have HR0_2 := Ya hr0_2
 have HC0_2 := Ya hc0_2
 clear hr0_2 hc0_2
 have HR0_3 := Ya hr0_3
 have HC0_3 := Ya hc0_3
 clear hr0_3 hc0_3
 have HR0_4 := Ya hr0_4
 have HC0_4 := Ya hc0_4
 clear hr0_4 hc0_4
 have HR0_5 := Ya hr0_5
 have HC0_5 := Ya hc0_5
 clear hr0_5 hc0_5
 have HR1_0 := Ya hr1_0
 have HC1_0 := Ya hc1_0
 clear hr1_0 hc1_0
 have HR1_1 := Ya hr1_1
 have HC1_1 := Ya hc1_1
 clear hr1_1 hc1_1
 have HR1_2 := Ya hr1_2
 have HC1_2 := Ya hc1_2
 clear hr1_2 hc1_2
 have HR1_3 := Ya hr1_3
 have HC1_3 := Ya hc1_3
 clear hr1_3 hc1_3
 have HR1_4 := Ya hr1_4
 have HC1_4 := Ya hc1_4
 clear hr1_4 hc1_4
 have HR1_5 := Ya hr1_5
 have HC1_5 := Ya hc1_5
 clear hr1_5 hc1_5
 have HB := Ya (Below.refl w.heap.size w)
 have H : ((laws_eqFocus.f k l0_0 l0_1 l0_2 l0_3 l1_0 l1_1 l1_2 l1_3).bind fun t362 => (if t362 = true then ((laws_eqIntS.f k l0_4 l1_4).bind fun t363 => (if t363 = true then ((laws_eqIntS.f k l0_5 l1_5).bind fun t364 => (if t364 = true then (some true) else (some false))) else (some false))) else (some false))) = some r := h
 clear h
 replace H := Z37.mp H
 obtain ⟨t362, A30, H⟩ := H
 replace H : (if t362 = true then ((laws_eqIntS.f k l0_4 l1_4).bind fun t363 => (if t363 = true then ((laws_eqIntS.f k l0_5 l1_5).bind fun t364 => (if t364 = true then (some true) else (some false))) else (some false))) else (some false)) = some r := H
 have A3 := Ya A30
 clear A30
 by_cases c4 : t362 = true
 ·subst c4
  have H1 : ((laws_eqIntS.f k l0_4 l1_4).bind fun t363 => (if t363 = true then ((laws_eqIntS.f k l0_5 l1_5).bind fun t364 => (if t364 = true then (some true) else (some false))) else (some false))) = some r := by rw [if_pos rfl] at H; exact H
  clear H
  have H := H1
  clear H1
  replace H := Z37.mp H
  obtain ⟨t363, A50, H⟩ := H
  replace H : (if t363 = true then ((laws_eqIntS.f k l0_5 l1_5).bind fun t364 => (if t364 = true then (some true) else (some false))) else (some false)) = some r := H
  have A5 := Ya A50
  clear A50
  by_cases c6 : t363 = true
  ·subst c6
   have H1 : ((laws_eqIntS.f k l0_5 l1_5).bind fun t364 => (if t364 = true then (some true) else (some false))) = some r := by rw [if_pos rfl] at H; exact H
   clear H
   have H := H1
   clear H1
   replace H := Z37.mp H
   obtain ⟨t364, A70, H⟩ := H
   replace H : (if t364 = true then (some true) else (some false)) = some r := H
   have A7 := Ya A70
   clear A70
   by_cases c8 : t364 = true
   ·subst c8
    have H1 : (some true) = some r := by rw [if_pos rfl] at H; exact H
    clear H
    have H := H1
    clear H1
    obtain rfl := Option.some.inj H
    go_enter Try.func17, Try.ntmps17
    go_wp2_with (first | ((with_reducible refine gate_dst (N := 2) rfl ?_); refine Yx 2 #[.slice A0_0 l0_0.length c0_0, .slice A0_1 l0_1.length c0_1, .slice A0_2 l0_2.length c0_2, .slice A0_3 l0_3.length c0_3, .slice A0_4 l0_4.length c0_4, .slice A0_5 l0_5.length c0_5] 35 ?_; intro gb360 hg w9 hbox hb; have BK360 := Ya hbox; have GW360 := Yg hg Q0; have GE360 := GW360; replace HB := Ya (Z8 Q0 hb); clear hb hbox hg) | ((with_reducible refine gate_dst (N := 3) rfl ?_); refine Yx 3 #[.slice A1_0 l1_0.length c1_0, .slice A1_1 l1_1.length c1_1, .slice A1_2 l1_2.length c1_2, .slice A1_3 l1_3.length c1_3, .slice A1_4 l1_4.length c1_4, .slice A1_5 l1_5.length c1_5] 35 ?_; intro gb361 hg w10 hbox hb; have BK361 := Ya hbox; have GW361 := Yg hg Q32; have GE361 := GW361; replace HB := Ya (Z8 Q32 hb); have NB360_361 := Yn BK360 hg; have NB361_360 := Ym BK360 hg; replace BK360 := Yb BK360 hb; clear hb hbox hg; have hnb11 := NB360_361.out; have hnc11 := NB361_360.out; obtain ⟨hcz12_0, hcz12_1, hcz12_2, hcz12_3, hcz12_4, hcz12_5, hfz12_0, hfz12_1, hfz12_2, hfz12_3, hfz12_4, hfz12_5⟩ := Y6 BK360.out; obtain ⟨hcz13_0, hcz13_1, hcz13_2, hcz13_3, hcz13_4, hcz13_5, hfz13_0, hfz13_1, hfz13_2, hfz13_3, hfz13_4, hfz13_5⟩ := Y6 BK361.out) | ((with_reducible refine gate_callee (f := 12) rfl ?_); refine goesL_ (some 9) rfl rfl Try.func12 (by kernel_rfl) rfl #[.agg #[.slice A0_0 l0_0.length c0_0, .slice A0_1 l0_1.length c0_1, .slice A0_2 l0_2.length c0_2, .slice A0_3 l0_3.length c0_3], .agg #[.slice A1_0 l1_0.length c1_0, .slice A1_1 l1_1.length c1_1, .slice A1_2 l1_2.length c1_2, .slice A1_3 l1_3.length c1_3]] rfl Q1 ?_; (with_reducible refine (laws_eqFocus.calls k _ _ l0_0 _ _ l0_1 _ _ l0_2 _ _ l0_3 _ _ l1_0 _ _ l1_1 _ _ l1_2 _ _ l1_3 true _ ?side1 ?side2 ?side3 ?side4 ?side5 ?side6 ?side7 ?side8 ?side9 ?side10 ?side11 ?side12 ?side13 ?side14 ?side15 ?side16 A3.out).mono ?_); (case side1 => exact Yc (Z23 HR0_0.out HB.out)); (case side2 => exact HC0_0.out); (case side3 => exact Yc (Z23 HR0_1.out HB.out)); (case side4 => exact HC0_1.out); (case side5 => exact Yc (Z23 HR0_2.out HB.out)); (case side6 => exact HC0_2.out); (case side7 => exact Yc (Z23 HR0_3.out HB.out)); (case side8 => exact HC0_3.out); (case side9 => exact Yc (Z23 HR1_0.out HB.out)); (case side10 => exact HC1_0.out); (case side11 => exact Yc (Z23 HR1_1.out HB.out)); (case side12 => exact HC1_1.out); (case side13 => exact Yc (Z23 HR1_2.out HB.out)); (case side14 => exact HC1_2.out); (case side15 => exact Yc (Z23 HR1_3.out HB.out)); (case side16 => exact HC1_3.out); rintro e w14 ⟨rfl, hb⟩; refine ⟨_, rfl, ?_⟩; replace BK360 := Yb BK360 hb; replace BK361 := Yb BK361 hb; replace HB := Ya (Z8 Q29 hb); (try clear hb); (try clear hb2); (try clear hk); (try clear hi); obtain ⟨hcz15_0, hcz15_1, hcz15_2, hcz15_3, hcz15_4, hcz15_5, hfz15_0, hfz15_1, hfz15_2, hfz15_3, hfz15_4, hfz15_5⟩ := Y6 BK360.out; obtain ⟨hcz16_0, hcz16_1, hcz16_2, hcz16_3, hcz16_4, hcz16_5, hfz16_0, hfz16_1, hfz16_2, hfz16_3, hfz16_4, hfz16_5⟩ := Y6 BK361.out) | ((with_reducible refine gate_callee (f := 37) rfl ?_); refine goesL_ (some 15) rfl rfl Try.func37 (by kernel_rfl) rfl #[.slice A0_4 l0_4.length c0_4, .slice A1_4 l1_4.length c1_4] rfl Q1 ?_; (with_reducible refine (laws_eqIntS.calls k _ _ l0_4 _ _ l1_4 true _ ?side1 ?side2 ?side3 ?side4 A5.out).mono ?_); (case side1 => exact Yc (Z23 HR0_4.out HB.out)); (case side2 => exact HC0_4.out); (case side3 => exact Yc (Z23 HR1_4.out HB.out)); (case side4 => exact HC1_4.out); rintro e w' ⟨rfl, ⟨nd, rfl⟩⟩; refine ⟨_, rfl, ?_⟩) | ((with_reducible refine gate_callee (f := 37) rfl ?_); refine goesL_ (some 21) rfl rfl Try.func37 (by kernel_rfl) rfl #[.slice A0_5 l0_5.length c0_5, .slice A1_5 l1_5.length c1_5] rfl Q1 ?_; (with_reducible refine (laws_eqIntS.calls k _ _ l0_5 _ _ l1_5 true _ ?side1 ?side2 ?side3 ?side4 A7.out).mono ?_); (case side1 => repeat (first | exact (Z23 HR0_5.out Q29) | (with_reducible refine Z20 ?_ _) | (with_reducible refine Z21 ?_ _) | (with_reducible refine Z22 ?_))); (case side2 => exact HC0_5.out); (case side3 => repeat (first | exact (Z23 HR1_5.out Q29) | (with_reducible refine Z20 ?_ _) | (with_reducible refine Z21 ?_ _) | (with_reducible refine Z22 ?_))); (case side4 => exact HC1_5.out); rintro e w' ⟨rfl, ⟨nd, rfl⟩⟩; refine ⟨_, rfl, ?_⟩))
    go_ret
    exact ⟨Q9, Q50⟩
   ·replace c8 := Bool.eq_false_iff.mpr c8
    subst c8
    have H1 : (some false) = some r := by rw [if_neg (show ¬ (false = true) by decide)] at H; exact H
    clear H
    have H := H1
    clear H1
    obtain rfl := Option.some.inj H
    go_enter Try.func17, Try.ntmps17
    go_wp2_with (first | ((with_reducible refine gate_dst (N := 2) rfl ?_); refine Yx 2 #[.slice A0_0 l0_0.length c0_0, .slice A0_1 l0_1.length c0_1, .slice A0_2 l0_2.length c0_2, .slice A0_3 l0_3.length c0_3, .slice A0_4 l0_4.length c0_4, .slice A0_5 l0_5.length c0_5] 35 ?_; intro gb360 hg w17 hbox hb; have BK360 := Ya hbox; have GW360 := Yg hg Q0; have GE360 := GW360; replace HB := Ya (Z8 Q0 hb); clear hb hbox hg) | ((with_reducible refine gate_dst (N := 3) rfl ?_); refine Yx 3 #[.slice A1_0 l1_0.length c1_0, .slice A1_1 l1_1.length c1_1, .slice A1_2 l1_2.length c1_2, .slice A1_3 l1_3.length c1_3, .slice A1_4 l1_4.length c1_4, .slice A1_5 l1_5.length c1_5] 35 ?_; intro gb361 hg w18 hbox hb; have BK361 := Ya hbox; have GW361 := Yg hg Q32; have GE361 := GW361; replace HB := Ya (Z8 Q32 hb); have NB360_361 := Yn BK360 hg; have NB361_360 := Ym BK360 hg; replace BK360 := Yb BK360 hb; clear hb hbox hg; have hnb19 := NB360_361.out; have hnc19 := NB361_360.out; obtain ⟨hcz20_0, hcz20_1, hcz20_2, hcz20_3, hcz20_4, hcz20_5, hfz20_0, hfz20_1, hfz20_2, hfz20_3, hfz20_4, hfz20_5⟩ := Y6 BK360.out; obtain ⟨hcz21_0, hcz21_1, hcz21_2, hcz21_3, hcz21_4, hcz21_5, hfz21_0, hfz21_1, hfz21_2, hfz21_3, hfz21_4, hfz21_5⟩ := Y6 BK361.out) | ((with_reducible refine gate_callee (f := 12) rfl ?_); refine goesL_ (some 9) rfl rfl Try.func12 (by kernel_rfl) rfl #[.agg #[.slice A0_0 l0_0.length c0_0, .slice A0_1 l0_1.length c0_1, .slice A0_2 l0_2.length c0_2, .slice A0_3 l0_3.length c0_3], .agg #[.slice A1_0 l1_0.length c1_0, .slice A1_1 l1_1.length c1_1, .slice A1_2 l1_2.length c1_2, .slice A1_3 l1_3.length c1_3]] rfl Q1 ?_; (with_reducible refine (laws_eqFocus.calls k _ _ l0_0 _ _ l0_1 _ _ l0_2 _ _ l0_3 _ _ l1_0 _ _ l1_1 _ _ l1_2 _ _ l1_3 true _ ?side1 ?side2 ?side3 ?side4 ?side5 ?side6 ?side7 ?side8 ?side9 ?side10 ?side11 ?side12 ?side13 ?side14 ?side15 ?side16 A3.out).mono ?_); (case side1 => exact Yc (Z23 HR0_0.out HB.out)); (case side2 => exact HC0_0.out); (case side3 => exact Yc (Z23 HR0_1.out HB.out)); (case side4 => exact HC0_1.out); (case side5 => exact Yc (Z23 HR0_2.out HB.out)); (case side6 => exact HC0_2.out); (case side7 => exact Yc (Z23 HR0_3.out HB.out)); (case side8 => exact HC0_3.out); (case side9 => exact Yc (Z23 HR1_0.out HB.out)); (case side10 => exact HC1_0.out); (case side11 => exact Yc (Z23 HR1_1.out HB.out)); (case side12 => exact HC1_1.out); (case side13 => exact Yc (Z23 HR1_2.out HB.out)); (case side14 => exact HC1_2.out); (case side15 => exact Yc (Z23 HR1_3.out HB.out)); (case side16 => exact HC1_3.out); rintro e w22 ⟨rfl, hb⟩; refine ⟨_, rfl, ?_⟩; replace BK360 := Yb BK360 hb; replace BK361 := Yb BK361 hb; replace HB := Ya (Z8 Q29 hb); (try clear hb); (try clear hb2); (try clear hk); (try clear hi); obtain ⟨hcz23_0, hcz23_1, hcz23_2, hcz23_3, hcz23_4, hcz23_5, hfz23_0, hfz23_1, hfz23_2, hfz23_3, hfz23_4, hfz23_5⟩ := Y6 BK360.out; obtain ⟨hcz24_0, hcz24_1, hcz24_2, hcz24_3, hcz24_4, hcz24_5, hfz24_0, hfz24_1, hfz24_2, hfz24_3, hfz24_4, hfz24_5⟩ := Y6 BK361.out) | ((with_reducible refine gate_callee (f := 37) rfl ?_); refine goesL_ (some 15) rfl rfl Try.func37 (by kernel_rfl) rfl #[.slice A0_4 l0_4.length c0_4, .slice A1_4 l1_4.length c1_4] rfl Q1 ?_; (with_reducible refine (laws_eqIntS.calls k _ _ l0_4 _ _ l1_4 true _ ?side1 ?side2 ?side3 ?side4 A5.out).mono ?_); (case side1 => exact Yc (Z23 HR0_4.out HB.out)); (case side2 => exact HC0_4.out); (case side3 => exact Yc (Z23 HR1_4.out HB.out)); (case side4 => exact HC1_4.out); rintro e w' ⟨rfl, ⟨nd, rfl⟩⟩; refine ⟨_, rfl, ?_⟩) | ((with_reducible refine gate_callee (f := 37) rfl ?_); refine goesL_ (some 21) rfl rfl Try.func37 (by kernel_rfl) rfl #[.slice A0_5 l0_5.length c0_5, .slice A1_5 l1_5.length c1_5] rfl Q1 ?_; (with_reducible refine (laws_eqIntS.calls k _ _ l0_5 _ _ l1_5 false _ ?side1 ?side2 ?side3 ?side4 A7.out).mono ?_); (case side1 => repeat (first | exact (Z23 HR0_5.out Q29) | (with_reducible refine Z20 ?_ _) | (with_reducible refine Z21 ?_ _) | (with_reducible refine Z22 ?_))); (case side2 => exact HC0_5.out); (case side3 => repeat (first | exact (Z23 HR1_5.out Q29) | (with_reducible refine Z20 ?_ _) | (with_reducible refine Z21 ?_ _) | (with_reducible refine Z22 ?_))); (case side4 => exact HC1_5.out); rintro e w' ⟨rfl, ⟨nd, rfl⟩⟩; refine ⟨_, rfl, ?_⟩))
    go_ret
    exact ⟨Q9, Q50⟩
  ·replace c6 := Bool.eq_false_iff.mpr c6
   subst c6
   have H1 : (some false) = some r := by rw [if_neg (show ¬ (false = true) by decide)] at H; exact H
   clear H
   have H := H1
   clear H1
   obtain rfl := Option.some.inj H
   go_enter Try.func17, Try.ntmps17
   go_wp2_with (first | ((with_reducible refine gate_dst (N := 2) rfl ?_); refine Yx 2 #[.slice A0_0 l0_0.length c0_0, .slice A0_1 l0_1.length c0_1, .slice A0_2 l0_2.length c0_2, .slice A0_3 l0_3.length c0_3, .slice A0_4 l0_4.length c0_4, .slice A0_5 l0_5.length c0_5] 35 ?_; intro gb360 hg w25 hbox hb; have BK360 := Ya hbox; have GW360 := Yg hg Q0; have GE360 := GW360; replace HB := Ya (Z8 Q0 hb); clear hb hbox hg) | ((with_reducible refine gate_dst (N := 3) rfl ?_); refine Yx 3 #[.slice A1_0 l1_0.length c1_0, .slice A1_1 l1_1.length c1_1, .slice A1_2 l1_2.length c1_2, .slice A1_3 l1_3.length c1_3, .slice A1_4 l1_4.length c1_4, .slice A1_5 l1_5.length c1_5] 35 ?_; intro gb361 hg w26 hbox hb; have BK361 := Ya hbox; have GW361 := Yg hg Q32; have GE361 := GW361; replace HB := Ya (Z8 Q32 hb); have NB360_361 := Yn BK360 hg; have NB361_360 := Ym BK360 hg; replace BK360 := Yb BK360 hb; clear hb hbox hg; have hnb27 := NB360_361.out; have hnc27 := NB361_360.out; obtain ⟨hcz28_0, hcz28_1, hcz28_2, hcz28_3, hcz28_4, hcz28_5, hfz28_0, hfz28_1, hfz28_2, hfz28_3, hfz28_4, hfz28_5⟩ := Y6 BK360.out; obtain ⟨hcz29_0, hcz29_1, hcz29_2, hcz29_3, hcz29_4, hcz29_5, hfz29_0, hfz29_1, hfz29_2, hfz29_3, hfz29_4, hfz29_5⟩ := Y6 BK361.out) | ((with_reducible refine gate_callee (f := 12) rfl ?_); refine goesL_ (some 9) rfl rfl Try.func12 (by kernel_rfl) rfl #[.agg #[.slice A0_0 l0_0.length c0_0, .slice A0_1 l0_1.length c0_1, .slice A0_2 l0_2.length c0_2, .slice A0_3 l0_3.length c0_3], .agg #[.slice A1_0 l1_0.length c1_0, .slice A1_1 l1_1.length c1_1, .slice A1_2 l1_2.length c1_2, .slice A1_3 l1_3.length c1_3]] rfl Q1 ?_; (with_reducible refine (laws_eqFocus.calls k _ _ l0_0 _ _ l0_1 _ _ l0_2 _ _ l0_3 _ _ l1_0 _ _ l1_1 _ _ l1_2 _ _ l1_3 true _ ?side1 ?side2 ?side3 ?side4 ?side5 ?side6 ?side7 ?side8 ?side9 ?side10 ?side11 ?side12 ?side13 ?side14 ?side15 ?side16 A3.out).mono ?_); (case side1 => exact Yc (Z23 HR0_0.out HB.out)); (case side2 => exact HC0_0.out); (case side3 => exact Yc (Z23 HR0_1.out HB.out)); (case side4 => exact HC0_1.out); (case side5 => exact Yc (Z23 HR0_2.out HB.out)); (case side6 => exact HC0_2.out); (case side7 => exact Yc (Z23 HR0_3.out HB.out)); (case side8 => exact HC0_3.out); (case side9 => exact Yc (Z23 HR1_0.out HB.out)); (case side10 => exact HC1_0.out); (case side11 => exact Yc (Z23 HR1_1.out HB.out)); (case side12 => exact HC1_1.out); (case side13 => exact Yc (Z23 HR1_2.out HB.out)); (case side14 => exact HC1_2.out); (case side15 => exact Yc (Z23 HR1_3.out HB.out)); (case side16 => exact HC1_3.out); rintro e w30 ⟨rfl, hb⟩; refine ⟨_, rfl, ?_⟩; replace BK360 := Yb BK360 hb; replace BK361 := Yb BK361 hb; replace HB := Ya (Z8 Q29 hb); (try clear hb); (try clear hb2); (try clear hk); (try clear hi); obtain ⟨hcz31_0, hcz31_1, hcz31_2, hcz31_3, hcz31_4, hcz31_5, hfz31_0, hfz31_1, hfz31_2, hfz31_3, hfz31_4, hfz31_5⟩ := Y6 BK360.out; obtain ⟨hcz32_0, hcz32_1, hcz32_2, hcz32_3, hcz32_4, hcz32_5, hfz32_0, hfz32_1, hfz32_2, hfz32_3, hfz32_4, hfz32_5⟩ := Y6 BK361.out) | ((with_reducible refine gate_callee (f := 37) rfl ?_); refine goesL_ (some 15) rfl rfl Try.func37 (by kernel_rfl) rfl #[.slice A0_4 l0_4.length c0_4, .slice A1_4 l1_4.length c1_4] rfl Q1 ?_; (with_reducible refine (laws_eqIntS.calls k _ _ l0_4 _ _ l1_4 false _ ?side1 ?side2 ?side3 ?side4 A5.out).mono ?_); (case side1 => exact Yc (Z23 HR0_4.out HB.out)); (case side2 => exact HC0_4.out); (case side3 => exact Yc (Z23 HR1_4.out HB.out)); (case side4 => exact HC1_4.out); rintro e w' ⟨rfl, ⟨nd, rfl⟩⟩; refine ⟨_, rfl, ?_⟩))
   go_ret
   exact ⟨Q9, Q50⟩
 ·replace c4 := Bool.eq_false_iff.mpr c4
  subst c4
  have H1 : (some false) = some r := by rw [if_neg (show ¬ (false = true) by decide)] at H; exact H
  clear H
  have H := H1
  clear H1
  obtain rfl := Option.some.inj H
  go_enter Try.func17, Try.ntmps17
  go_wp2_with (first | ((with_reducible refine gate_dst (N := 2) rfl ?_); refine Yx 2 #[.slice A0_0 l0_0.length c0_0, .slice A0_1 l0_1.length c0_1, .slice A0_2 l0_2.length c0_2, .slice A0_3 l0_3.length c0_3, .slice A0_4 l0_4.length c0_4, .slice A0_5 l0_5.length c0_5] 35 ?_; intro gb360 hg w33 hbox hb; have BK360 := Ya hbox; have GW360 := Yg hg Q0; have GE360 := GW360; replace HB := Ya (Z8 Q0 hb); clear hb hbox hg) | ((with_reducible refine gate_dst (N := 3) rfl ?_); refine Yx 3 #[.slice A1_0 l1_0.length c1_0, .slice A1_1 l1_1.length c1_1, .slice A1_2 l1_2.length c1_2, .slice A1_3 l1_3.length c1_3, .slice A1_4 l1_4.length c1_4, .slice A1_5 l1_5.length c1_5] 35 ?_; intro gb361 hg w34 hbox hb; have BK361 := Ya hbox; have GW361 := Yg hg Q32; have GE361 := GW361; replace HB := Ya (Z8 Q32 hb); have NB360_361 := Yn BK360 hg; have NB361_360 := Ym BK360 hg; replace BK360 := Yb BK360 hb; clear hb hbox hg; have hnb35 := NB360_361.out; have hnc35 := NB361_360.out; obtain ⟨hcz36_0, hcz36_1, hcz36_2, hcz36_3, hcz36_4, hcz36_5, hfz36_0, hfz36_1, hfz36_2, hfz36_3, hfz36_4, hfz36_5⟩ := Y6 BK360.out; obtain ⟨hcz37_0, hcz37_1, hcz37_2, hcz37_3, hcz37_4, hcz37_5, hfz37_0, hfz37_1, hfz37_2, hfz37_3, hfz37_4, hfz37_5⟩ := Y6 BK361.out) | ((with_reducible refine gate_callee (f := 12) rfl ?_); refine goesL_ (some 9) rfl rfl Try.func12 (by kernel_rfl) rfl #[.agg #[.slice A0_0 l0_0.length c0_0, .slice A0_1 l0_1.length c0_1, .slice A0_2 l0_2.length c0_2, .slice A0_3 l0_3.length c0_3], .agg #[.slice A1_0 l1_0.length c1_0, .slice A1_1 l1_1.length c1_1, .slice A1_2 l1_2.length c1_2, .slice A1_3 l1_3.length c1_3]] rfl Q1 ?_; (with_reducible refine (laws_eqFocus.calls k _ _ l0_0 _ _ l0_1 _ _ l0_2 _ _ l0_3 _ _ l1_0 _ _ l1_1 _ _ l1_2 _ _ l1_3 false _ ?side1 ?side2 ?side3 ?side4 ?side5 ?side6 ?side7 ?side8 ?side9 ?side10 ?side11 ?side12 ?side13 ?side14 ?side15 ?side16 A3.out).mono ?_); (case side1 => exact Yc (Z23 HR0_0.out HB.out)); (case side2 => exact HC0_0.out); (case side3 => exact Yc (Z23 HR0_1.out HB.out)); (case side4 => exact HC0_1.out); (case side5 => exact Yc (Z23 HR0_2.out HB.out)); (case side6 => exact HC0_2.out); (case side7 => exact Yc (Z23 HR0_3.out HB.out)); (case side8 => exact HC0_3.out); (case side9 => exact Yc (Z23 HR1_0.out HB.out)); (case side10 => exact HC1_0.out); (case side11 => exact Yc (Z23 HR1_1.out HB.out)); (case side12 => exact HC1_1.out); (case side13 => exact Yc (Z23 HR1_2.out HB.out)); (case side14 => exact HC1_2.out); (case side15 => exact Yc (Z23 HR1_3.out HB.out)); (case side16 => exact HC1_3.out); rintro e w38 ⟨rfl, hb⟩; refine ⟨_, rfl, ?_⟩; replace BK360 := Yb BK360 hb; replace BK361 := Yb BK361 hb; replace HB := Ya (Z8 Q29 hb); (try clear hb); (try clear hb2); (try clear hk); (try clear hi)))
  go_ret
  exact ⟨Q9, Q50⟩

end Go.Proofs.Ytpfakdhfffehaaa.MFnExactSwapperAt
