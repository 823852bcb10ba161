import Derived.Test.YtpfakdhfffehaaaMFnExactStepFocusx0
import Derived.Test.YtpfakdhfffehaaaMFnExactStepFocusx9
import Derived.Test.YtpfakdhfffehaaaMFnExactStepFocusx10
import Derived.Test.YtpfakdhfffehaaaMFnExactStepFocusx12
namespace Go.Proofs.Ytpfakdhfffehaaa.MFnExactStepFocus
open Go.RowKit Go.Proofs.YtpfakdhfffehaaaW.PrintWords Go.Proofs.YtpfakdhfffehaaaW.PrintLast Go.Proofs.YtpfakdhfffehaaaW.PrintMore
attribute [local go_sem] max2_int min2_int max_two min_two max_three min_three max_four min_four   
set_option linter.unusedVariables false
set_option linter.unusedSimpArgs false
mutual
def impl_focusAt.l0 : Nat → Int → Int → List Int → List Int → List Bool → List Int → Option (List Int × List Int × List Bool × List Int)
 | 0, _, _, _, _, _, _ => none
 | k + 1, n, i, b, d, u, p => if i < n then ((Go.Proofs.Ytpfakdhfffehaaa.FoW.stepF b d u p).bind fun r => (impl_focusAt.l0 k n (wrap64 (i + 1)) b r.1 r.2.1 r.2.2.1)) else (some (b, d, u, p))
end
def impl_focusAt.f (k : Nat) (l0 : List Int) (a1 : Int) : Option (List Int × List Int × List Bool × List Int) := (impl_startFocus.f k l0).bind fun t => (impl_focusAt.l0 k a1 0 t.1 t.2.1 t.2.2.1 t.2.2.2)
theorem impl_focusAt.mono_l : ∀ k, (∀ y0 y1 y2 y3 y4 y5, LeO (impl_focusAt.l0 k y0 y1 y2 y3 y4 y5) (impl_focusAt.l0 (k + 1) y0 y1 y2 y3 y4 y5))
 | 0 => fun _ _ _ _ _ _ r h => by simp [impl_focusAt.l0] at h
 | k + 1 => by
  have ih0 := impl_focusAt.mono_l k
  ·intro y0 y1 y2 y3 y4 y5
   unfold impl_focusAt.l0
   repeat' first
   | (with_reducible exact ih0 _ _ _ _ _ _)
   | (with_reducible exact impl_startFocus.mono _ _)
   | (with_reducible exact LeO.refl _)
   | (with_reducible exact LeO.none _)
   | (with_reducible refine LeO.ite ?_ ?_)
   | (with_reducible refine LeO.bind ?_ (fun _ => ?_))
   | exact ih0 _ _ _ _ _ _
   | exact impl_startFocus.mono _ _
   | exact LeO.none _
   | refine LeO.ite ?_ ?_
   | refine LeO.bind ?_ (fun _ => ?_)
theorem impl_focusAt.mono : ∀ a0 a1 k, LeO (impl_focusAt.f k a0 a1) (impl_focusAt.f (k + 1) a0 a1) := by
 intro a0 a1 k
 have ih0 := impl_focusAt.mono_l k
 unfold impl_focusAt.f
 repeat' first
   | (with_reducible exact ih0 _ _ _ _ _ _)
   | (with_reducible exact impl_startFocus.mono _ _)
   | (with_reducible exact LeO.refl _)
   | (with_reducible exact LeO.none _)
   | (with_reducible refine LeO.ite ?_ ?_)
   | (with_reducible refine LeO.bind ?_ (fun _ => ?_))
   | exact ih0 _ _ _ _ _ _
   | exact impl_startFocus.mono _ _
   | exact LeO.none _
   | refine LeO.ite ?_ ?_
   | refine LeO.bind ?_ (fun _ => ?_)
open Go.Proofs.Ytpfakdhfffehaaa.FoW in
set_option maxHeartbeats 8000000 in
set_option maxRecDepth 100000 in
theorem impl_focusAt.calls (k : Nat) (A0_ : Option Addr) (c0_ : Nat) (l0 : List Int) (a1 : Int) (r1 : List Int) (r2 : List Int) (r3 : List Bool) (r4 : List Int) (w : World) (hr0 : Kd.C (Kd.int .i64) w A0_ l0.length l0) (hc0 : l0.length ≤ c0_) (h : impl_focusAt.f k l0 a1 = some (r1, r2, r3, r4)) :
  Calls Try.prog 67 #[.slice A0_ l0.length c0_, .int .i64 a1] w fun e w' => ∃ v0_ v1_ v2_ v3_ : Value, e = .returned (.agg #[v0_, v1_, v2_, v3_]) ∧ Kd.R (Kd.int .i64) 3 w' w.heap.size (fun k_ => some k_ ≠ (v1_ : Value).ownBlock ∧ some k_ ≠ (v3_ : Value).ownBlock) v0_ r1 ∧ Kd.R (Kd.int .i64) 3 w' w.heap.size (fun k_ => some k_ ≠ (v0_ : Value).ownBlock ∧ some k_ ≠ (v3_ : Value).ownBlock) v1_ r2 ∧ Kd.R Kd.bool 4 w' w.heap.size (fun _ => True) v2_ r3 ∧ Kd.R (Kd.int .i64) 3 w' w.heap.size (fun k_ => some k_ ≠ (v0_ : Value).ownBlock ∧ some k_ ≠ (v1_ : Value).ownBlock) v3_ r4 ∧ Below w.heap.size w w' := by
 have hu := Try.underlying27
 unfold impl_focusAt.f at h
 obtain ⟨⟨b, D1, U1, P1⟩, h1, h⟩ := Z36.mp h
 have A1_ := Ya h1
 have H' := Ya h
 have HR0 := Ya hr0
 have HC0 := Ya hc0
 have HB := Ya (Below.refl w.heap.size w)
 clear h h1 hr0 hc0
 go_enter Try.func67, Try.ntmps67
 go_upto_region 3 with (first | ((with_reducible refine gate_dst (N := 4) rfl ?_); refine Yx 4 #[.slice none 0 0, .slice none 0 0, .slice none 0 0, .slice none 0 0] 27 ?_; intro gb4 hg w34 hbox hb; have n0_ := Yh hb; have BK4 := Ya hbox; have GE4 := Ya (by rw [hg]; exact Z7 Q0 : w.heap.size ≤ gb4); clear HB; have HB := n0_; clear n0_; clear hb hbox hg) | ((with_reducible refine gate_callee (f := 71) rfl ?_); refine Yz 7 Try.func71 #[.slice A0_ l0.length c0_] ?_ (hargs := Q107); (with_reducible refine (impl_startFocus.calls k _ _ l0 b D1 U1 P1 _ ?s1 ?s2 A1_.out).mono ?_); (case s1 => exact Q148); (case s2 => exact HC0.out); rintro e w2 ⟨v0, v1, v2, v3, rfl, ho0, ho1, ho2, ho3, hb⟩; refine ⟨_, rfl, ?_⟩; have hFV : FoV w2 w.heap.size v0 v1 v2 v3 b D1 U1 P1 := ⟨Kd.R_lower ho0 (Z7 Q0), Kd.R_lower ho1 (Z7 Q0), Kd.R_lower ho2 (Z7 Q0), Kd.R_lower ho3 (Z7 Q0)⟩; obtain ⟨A0, c0, rfl⟩ := Z18 ho0; obtain ⟨A1, c1', rfl⟩ := Z18 ho1; obtain ⟨A2, c2, rfl⟩ := Z18 ho2; obtain ⟨A3, c3, rfl⟩ := Z18 ho3; have n0_ := Yh hb; have n1_ := Ya (Z28 (by first | exact BK4.out | (exact Z26 BK4.out)) hb); have HV := Ya hFV; clear HB BK4 ho0 ho1 ho2 ho3 hb hFV; have HB := n0_; have BK4 := n1_; clear n0_ n1_) | ((with_reducible refine gate_dst (N := 5) rfl ?_); refine Yx 5 #[.slice none 0 0, .slice none 0 0, .slice none 0 0, .slice none 0 0] 27 ?_; intro gb5 hg w35 hbox hb; have n0_ := Yh hb; have BK := Ya hbox; have GE5 := Ya (by rw [hg]; exact Z7 Q0 : w.heap.size ≤ gb5); have NE := Ya (by rw [hg]; exact Nat.ne_of_lt (blk_lt BK4.out) : gb4 ≠ gb5); have n1_ := Ya (FoV.below (by (with_reducible repeat (first | apply FoV.drewN | apply FoV.drew)); exact HV.out) hb); have n2_ := Ya (Z28 BK4.out hb); clear HV BK4; have HV := n1_; have BK4 := n2_; clear n1_ n2_; clear HB; have HB := n0_; clear n0_; have hd0 := (Z23 BK.out 0).trans rfl; have hd1 := (Z23 BK.out 1).trans rfl; have hd2 := (Z23 BK.out 2).trans rfl; have hd3 := (Z23 BK.out 3).trans rfl; have hf0 := Z24 BK.out 0; have hf1 := Z24 BK.out 1; have hf2 := Z24 BK.out 2; have hf3 := Z24 BK.out 3; clear hb hbox hg))
 replace HV := Ya (FoV.set4 HV.out BK.out (by decide) (by decide) (.slice A0 b.length c0) (.slice A1 D1.length c1') (.slice A2 U1.length c2) (.slice A3 P1.length c3))
 replace BK := Ya (set4_at BK.out (.slice A0 b.length c0) (.slice A1 D1.length c1') (.slice A2 U1.length c2) (.slice A3 P1.length c3))
 replace BK4 := Ya ((set4_far _ gb5 (.slice A0 b.length c0) (.slice A1 D1.length c1') (.slice A2 U1.length c2) (.slice A3 P1.length c3) gb4 NE.out).trans BK4.out)
 replace HB := Ya (set4_below HB.out GE5.out (.slice A0 b.length c0) (.slice A1 D1.length c1') (.slice A2 U1.length c2) (.slice A3 P1.length c3))
 clear hd0 hd1 hd2 hd3 hf0 hf1 hf2 hf3
 unfold set4 at BK HV BK4 HB
 generalize ((((w35.setCell ⟨gb5, 0, none⟩ (.slice A0 b.length c0)).setCell ⟨gb5, 1, none⟩ (.slice A1 D1.length c1')).setCell ⟨gb5, 2, none⟩ (.slice A2 U1.length c2)).setCell ⟨gb5, 3, none⟩ (.slice A3 P1.length c3)) = w4 at BK HV BK4 HB ⊢
 go_loopg [9] k (fun kq v9 w' => ∃ (i : Int) (d : List Int) (u : List Bool) (p : List Int), v9 = .int .i64 i ∧ Aside0 (impl_focusAt.l0 kq a1 i b d u p = some (r1, r2, r3, r4)) ∧ Aside0 (kq ≤ k) ∧ Aside0 (d.length = D1.length ∧ u.length = U1.length ∧ p.length = P1.length) ∧ Aside0 (w'.heap[gb5]? = some (.cells #[.slice A0 b.length c0, .slice A1 D1.length c1', .slice A2 U1.length c2, .slice A3 P1.length c3] 27 (0, 0))) ∧ Aside0 (w'.heap[gb4]? = some (.cells #[.slice none 0 0, .slice none 0 0, .slice none 0 0, .slice none 0 0] 27 (0, 0))) ∧ Aside0 (FoV w' w.heap.size (.slice A0 b.length c0) (.slice A1 D1.length c1') (.slice A2 U1.length c2) (.slice A3 P1.length c3) b d u p) ∧ Aside0 (Below w.heap.size w w'))
 case atStart => exact ⟨0, D1, U1, P1, by first | rfl | (simp; done), H', ⟨Nat.le_refl _⟩, ⟨rfl, rfl, rfl⟩, BK, BK4, HV, HB⟩
 case round =>
  clear H' BK HV BK4 HB
  obtain ⟨i, d, u, p, rfl, HA, HK1, HL, BK, BK4, HV, HB⟩ := hrel
  cases gk with
  | zero => exact absurd HA.out (by simp [impl_focusAt.l0])
  | succ k1 =>
   have H := HA.out
   clear HA
   simp only [impl_focusAt.l0] at H
   by_cases c1 : i < a1
   rotate_left
   ·rw [if_neg c1] at H
    have b1 : decide (i < a1) = false := Z37 c1
    clear c1
    simp only [Option.some.injEq, Prod.mk.injEq] at H
    obtain ⟨rfl, rfl, rfl, rfl⟩ := H
    have hc0 := (Z23 BK.out 0).trans rfl
    have hc1 := (Z23 BK.out 1).trans rfl
    have hc2 := (Z23 BK.out 2).trans rfl
    have hc3 := (Z23 BK.out 3).trans rfl
    have hf0 := Z24 BK.out 0
    have hf1 := Z24 BK.out 1
    have hf2 := Z24 BK.out 2
    have hf3 := Z24 BK.out 3
    have hd0 := (Z23 BK4.out 0).trans rfl
    have hd1 := (Z23 BK4.out 1).trans rfl
    have hd2 := (Z23 BK4.out 2).trans rfl
    have hd3 := (Z23 BK4.out 3).trans rfl
    have he0 := Z24 BK4.out 0
    have he1 := Z24 BK4.out 1
    have he2 := Z24 BK4.out 2
    have he3 := Z24 BK4.out 3
    have hne := NE.out
    have hne' := NE.out.symm
    go_wp2
    refine bodyPost_ret (results_cell_row rfl _ _ gb4 27 #[.slice A0 b.length c0, .slice A1 D1.length c1', .slice A2 U1.length c2, .slice A3 P1.length c3] (0, 0) _ rfl (by have h_ := set4_at BK4.out (.slice A0 b.length c0) (.slice A1 D1.length c1') (.slice A2 U1.length c2) (.slice A3 P1.length c3); unfold set4 at h_; exact h_) hu rfl (by kernel_rfl)) rfl ?_
    have hv := FoV.set4 HV.out BK4.out (by decide) (by decide) (.slice A0 b.length c0) (.slice A1 D1.length c1') (.slice A2 U1.length c2) (.slice A3 P1.length c3)
    have hbb := set4_below HB.out GE4.out (.slice A0 b.length c0) (.slice A1 D1.length c1') (.slice A2 U1.length c2) (.slice A3 P1.length c3)
    unfold set4 at hv hbb
    exact ⟨_, _, _, _, rfl, hv.r0, hv.r1, hv.r2, hv.r3, hbb⟩
   rw [if_pos c1] at H
   have b1 : decide (i < a1) = true := Z38 c1
   obtain ⟨⟨d', u', p', r⟩, hs, H⟩ := Z36.mp H
   obtain ⟨hd, hu', hp⟩ := HL.out
   have hbk := BK.out
   rw [← hd, ← hu', ← hp] at hbk
   have HBK := Ya hbk
   clear hbk c1
   have HV2 : Aside0 (FoV _ w.heap.size (.slice A0 b.length c0) (.slice A1 d.length c1') (.slice A2 u.length c2) (.slice A3 p.length c3) b d u p) := ⟨by have := HV.out; rw [← hd, ← hu', ← hp] at this; exact this⟩
   have H' := Ya H
   have HS := Ya hs
   obtain ⟨hl, hl0, hl1, hl2, hl3⟩ := stepF_len hs
   have HL2 := Ya hl
   obtain ⟨g0, q0, g1, q1, g2, q2, g3, q3, e0, e1, e2, e3, hF⟩ := FoR.of HV2.out.r0 HV2.out.r1 HV2.out.r2 HV2.out.r3 hl0 hl1 hl2 hl3
   injection e0 with x0 _ z0
   injection e1 with x1 _ z1
   injection e2 with x2 _ z2
   injection e3 with x3 _ z3
   subst x0 z0 x1 z1 x2 z2 x3 z3
   have HF := Ya hF
   clear H hs hl hl0 hl1 hl2 hl3 hF hd hu' hp HV HV2
   go_wp2_with (first | ((with_reducible refine gate_callee (f := 36) rfl ?_); refine Yz 11 Try.func36 #[.pointer (some ⟨gb5, 0, none⟩)] ?_ (hargs := Q107); (with_reducible refine (impl_Focus_step.calls w gb5 g0 c0 g1 c1' g2 c2 g3 c3 b d u p d' u' p' r _ HBK.out HF.out HB.out HS.out).mono ?_); rintro e w7 ⟨rfl, hk1, hk2, hk3, hk4⟩; refine ⟨_, rfl, ?_⟩; have ap_ := FoR.apart HF.out BK4.out (by decide) (by decide); have n1_ := Ya (blk_kept BK4.out hk3 (fun hs_ => by rcases hs_ with e | e | e; exact ap_.2.1 e; exact ap_.2.2.1 e; exact ap_.2.2.2 e)); have n0_ := Ya (hk1.trans BK.out); clear HBK BK HF BK4 HB ap_; have BK := n0_; have HF := Ya hk2; have BK4 := n1_; have HB := Ya hk4; clear n0_ n1_ hk1 hk2 hk3 hk4; have hv := FoR.back HF.out; have hV7 : FoV w7 w.heap.size (.slice (some ⟨g0, 0, none⟩) b.length c0) (.slice (some ⟨g1, 0, none⟩) d'.length c1') (.slice (some ⟨g2, 0, none⟩) u'.length c2) (.slice (some ⟨g3, 0, none⟩) p'.length c3) b d' u' p' := ⟨hv.1, hv.2.1, hv.2.2.1, hv.2.2.2⟩; rw [HL2.out.1, HL2.out.2.1, HL2.out.2.2, HL.out.1, HL.out.2.1, HL.out.2.2] at hV7; have HV := Ya hV7; clear hv hV7))
   go_roundg k1
   case measure => have := HK1.out; omega
   case rel => exact ⟨_, d', u', p', by first | rfl | (simp; done), H', ⟨Q80⟩, ⟨by obtain ⟨a_, b_, c_⟩ := HL2.out; obtain ⟨x_, y_, z_⟩ := HL.out; exact ⟨a_.trans x_, b_.trans y_, c_.trans z_⟩⟩, BK, BK4, HV, HB⟩
def impl_IsFocus.f (k : Nat) (l0_0 : List Int) (l0_1 : List Int) (l0_2 : List Bool) (l0_3 : List Int) : Option (Bool) := (impl_areFocusBases.f k l0_0).bind fun t317 => (if t317 = true then ((impl_areDigits.f k l0_0 l0_1).bind fun t318 => (if t318 = true then ((impl_mixedRank.f k l0_0 l0_1).bind fun t319 => ((impl_focusAt.f k l0_0 t319).bind fun bt320 => ((impl_Focus_same.f k l0_0 l0_1 l0_2 l0_3 bt320.1 bt320.2.1 bt320.2.2.1 bt320.2.2.2).bind fun t332 => (some t332)))) else (some false))) else (some false))
theorem impl_IsFocus.mono : ∀ a0 a1 a2 a3 k, LeO (impl_IsFocus.f k a0 a1 a2 a3) (impl_IsFocus.f (k + 1) a0 a1 a2 a3) := by
 intro a0 a1 a2 a3 k
 unfold impl_IsFocus.f
 repeat' first
   | (with_reducible exact impl_Focus_same.mono _ _ _ _ _ _ _ _ _)
   | (with_reducible exact impl_areDigits.mono _ _ _)
   | (with_reducible exact impl_areFocusBases.mono _ _)
   | (with_reducible exact impl_focusAt.mono _ _ _)
   | (with_reducible exact impl_mixedRank.mono _ _ _)
   | (with_reducible exact LeO.refl _)
   | (with_reducible exact LeO.none _)
   | (with_reducible refine LeO.ite ?_ ?_)
   | (with_reducible refine LeO.bind ?_ (fun _ => ?_))
   | exact impl_Focus_same.mono _ _ _ _ _ _ _ _ _
   | exact impl_areDigits.mono _ _ _
   | exact impl_areFocusBases.mono _ _
   | exact impl_focusAt.mono _ _ _
   | exact impl_mixedRank.mono _ _ _
   | exact LeO.none _
   | refine LeO.ite ?_ ?_
   | refine LeO.bind ?_ (fun _ => ?_)
def impl_IsFocus.T1 : Bool × List (List Nat × List Nat) := (true, [([], []), ([0], [0]), ([1], [1]), ([2, 2], [2]), ([3], [3]), ([4, 3], [3, 4]), ([3], [3]), ([6, 3], [3, 6]), ([5, 7, 3, 3], [3, 5, 7]), ([3, 8], [3, 8]), ([9, 8], [9]), ([10], [10]), ([10], [10]), ([12, 10], [10, 12]), ([10], [10]), ([14, 10], [10, 14]), ([10], [10]), ([16, 10], [10, 16]), ([15, 17, 10, 10], [10, 15, 17]), ([13, 18, 18, 10], [10, 13, 18]), ([11, 19, 19, 10], [10, 11, 19]), ([10, 20], [10, 20]), ([21, 20, 0, 1, 2, 3, 4, 5, 6, 7, 8, 9, 10, 11, 12, 13, 14, 15, 16, 17, 18, 19, 20, 21], [21])])
def impl_IsFocus.B1 : List Nat := [0, 1, 3, 7, 15, 31, 15, 79, 255, 511, 1023, 2047, 2047, 6143, 2047, 18431, 2047, 67583, 247807, 522239, 1048575, 2097151, 4194303]
theorem impl_IsFocus.tab1 : rtab .any (opsOf Try.f34 1) = impl_IsFocus.T1 := by kernel_rfl
theorem impl_IsFocus.bits1 : waitsOk impl_IsFocus.T1.2 impl_IsFocus.B1 = true := by kernel_rfl
set_option maxHeartbeats 8000000 in
set_option maxRecDepth 100000 in
theorem impl_IsFocus.calls (k : Nat) (A0_0 : Option Addr) (c0_0 : Nat) (l0_0 : List Int) (A0_1 : Option Addr) (c0_1 : Nat) (l0_1 : List Int) (A0_2 : Option Addr) (c0_2 : Nat) (l0_2 : List Bool) (A0_3 : Option Addr) (c0_3 : Nat) (l0_3 : List Int) (r : Bool) (w : World) (hr0_0 : Kd.C (Kd.int .i64) w A0_0 l0_0.length l0_0) (hc0_0 : l0_0.length ≤ c0_0) (hr0_1 : Kd.C (Kd.int .i64) w A0_1 l0_1.length l0_1) (hc0_1 : l0_1.length ≤ c0_1) (hr0_2 : Kd.C Kd.bool w A0_2 l0_2.length l0_2) (hc0_2 : l0_2.length ≤ c0_2) (hr0_3 : Kd.C (Kd.int .i64) w A0_3 l0_3.length l0_3) (hc0_3 : l0_3.length ≤ c0_3) (h : impl_IsFocus.f k l0_0 l0_1 l0_2 l0_3 = some r) :
  Calls Try.prog 34 #[.agg #[.slice A0_0 l0_0.length c0_0, .slice A0_1 l0_1.length c0_1, .slice A0_2 l0_2.length c0_2, .slice A0_3 l0_3.length c0_3]] w fun e w' => e = .returned (.bool r) ∧ Below w.heap.size w w' := by
 have hu27 := Try.underlying27
 have HR0_0 := Ya hr0_0
 have HC0_0 := Ya hc0_0
 clear hr0_0 hc0_0
 have HR0_1 := Ya hr0_1
 have HC0_1 := Ya hc0_1
 clear hr0_1 hc0_1
 have HR0_2 := Ya hr0_2
 have HC0_2 := Ya hc0_2
 clear hr0_2 hc0_2
 have HR0_3 := Ya hr0_3
 have HC0_3 := Ya hc0_3
 clear hr0_3 hc0_3
 have HB := Ya (Below.refl w.heap.size w)
 have H : ((impl_areFocusBases.f k l0_0).bind fun t317 => (if t317 = true then ((impl_areDigits.f k l0_0 l0_1).bind fun t318 => (if t318 = true then ((impl_mixedRank.f k l0_0 l0_1).bind fun t319 => ((impl_focusAt.f k l0_0 t319).bind fun bt320 => ((impl_Focus_same.f k l0_0 l0_1 l0_2 l0_3 bt320.1 bt320.2.1 bt320.2.2.1 bt320.2.2.2).bind fun t332 => (some t332)))) else (some false))) else (some false))) = some r := h
 clear h
 replace H := Z36.mp H
 obtain ⟨t317, A20, H⟩ := H
 replace H : (if t317 = true then ((impl_areDigits.f k l0_0 l0_1).bind fun t318 => (if t318 = true then ((impl_mixedRank.f k l0_0 l0_1).bind fun t319 => ((impl_focusAt.f k l0_0 t319).bind fun bt320 => ((impl_Focus_same.f k l0_0 l0_1 l0_2 l0_3 bt320.1 bt320.2.1 bt320.2.2.1 bt320.2.2.2).bind fun t332 => (some t332)))) else (some false))) else (some false)) = some r := H
 have A2 := Ya A20
 clear A20
 by_cases c3 : t317 = true
 ·subst c3
  have H1 : ((impl_areDigits.f k l0_0 l0_1).bind fun t318 => (if t318 = true then ((impl_mixedRank.f k l0_0 l0_1).bind fun t319 => ((impl_focusAt.f k l0_0 t319).bind fun bt320 => ((impl_Focus_same.f k l0_0 l0_1 l0_2 l0_3 bt320.1 bt320.2.1 bt320.2.2.1 bt320.2.2.2).bind fun t332 => (some t332)))) else (some false))) = some r := by rw [if_pos rfl] at H; exact H
  clear H
  have H := H1
  clear H1
  replace H := Z36.mp H
  obtain ⟨t318, A40, H⟩ := H
  replace H : (if t318 = true then ((impl_mixedRank.f k l0_0 l0_1).bind fun t319 => ((impl_focusAt.f k l0_0 t319).bind fun bt320 => ((impl_Focus_same.f k l0_0 l0_1 l0_2 l0_3 bt320.1 bt320.2.1 bt320.2.2.1 bt320.2.2.2).bind fun t332 => (some t332)))) else (some false)) = some r := H
  have A4 := Ya A40
  clear A40
  by_cases c5 : t318 = true
  ·subst c5
   have H1 : ((impl_mixedRank.f k l0_0 l0_1).bind fun t319 => ((impl_focusAt.f k l0_0 t319).bind fun bt320 => ((impl_Focus_same.f k l0_0 l0_1 l0_2 l0_3 bt320.1 bt320.2.1 bt320.2.2.1 bt320.2.2.2).bind fun t332 => (some t332)))) = some r := by rw [if_pos rfl] at H; exact H
   clear H
   have H := H1
   clear H1
   replace H := Z36.mp H
   obtain ⟨t319, A60, H⟩ := H
   replace H : ((impl_focusAt.f k l0_0 t319).bind fun bt320 => ((impl_Focus_same.f k l0_0 l0_1 l0_2 l0_3 bt320.1 bt320.2.1 bt320.2.2.1 bt320.2.2.2).bind fun t332 => (some t332))) = some r := H
   have A6 := Ya A60
   clear A60
   replace H := Z36.mp H
   obtain ⟨⟨t320, t323, t326, t329⟩, A70, H⟩ := H
   replace H : ((impl_Focus_same.f k l0_0 l0_1 l0_2 l0_3 t320 t323 t326 t329).bind fun t332 => (some t332)) = some r := H
   have A7 := Ya A70
   clear A70
   replace H := Z36.mp H
   obtain ⟨t332, A80, H⟩ := H
   replace H : (some t332) = some r := H
   have A8 := Ya A80
   clear A80
   obtain rfl := Option.some.inj H
   go_enter Try.func34, Try.ntmps34
   try go_wp2_with (first | ((with_reducible refine gate_dst (N := 1) rfl ?_); refine Yx 1 #[.slice A0_0 l0_0.length c0_0, .slice A0_1 l0_1.length c0_1, .slice A0_2 l0_2.length c0_2, .slice A0_3 l0_3.length c0_3] 27 ?_; intro gb316 hg w9 hbox hb; have BK316 := Ya hbox; have GE316 := Yg hg; replace HB := Yh hb; clear hb hbox hg))
   replace BK316 := Ya (Z26 BK316.out)
   replace HB := Ya (Z4 HB.out)
   refine start_ (n := 23) (S := fun w' => w'.cell? ⟨gb316, 0, none⟩ = some (.slice A0_0 l0_0.length c0_0) ∧ w'.cell? ⟨gb316, 1, none⟩ = some (.slice A0_1 l0_1.length c0_1) ∧ w'.cell? ⟨gb316, 2, none⟩ = some (.slice A0_2 l0_2.length c0_2) ∧ w'.cell? ⟨gb316, 3, none⟩ = some (.slice A0_3 l0_3.length c0_3)) (ds := []) (YA 23 0) (by kernel_rfl) rfl rfl ⟨(Z23 BK316.out 0).trans rfl, (Z23 BK316.out 1).trans rfl, (Z23 BK316.out 2).trans rfl, (Z23 BK316.out 3).trans rfl⟩ (fun hHeld => ?_); refine with_tabW impl_IsFocus.tab1 impl_IsFocus.bits1 (fun HT_ HW_ => ?_)
   generalize w9.drew = w10 at BK316 HB hHeld ⊢
   refine Yp 0 (some 3) (YA 23 1) rfl HT_.out ?_
   refine Yt 1 (some 4) (YA 23 3) rfl HT_.out HW_.out hHeld Q6 ?_
   refine one_ (i := 2) (N := some 5) (YA 23 7) rfl rfl (one_of HT_.out (by kernel_rfl)) (by decide) (fun K hK => ?_)
   refine goes_ Try.func64 (by kernel_rfl) rfl #[.slice A0_0 l0_0.length c0_0] (by rfl) rfl rfl Q4 ?_
   with_reducible refine (impl_areFocusBases.calls k _ _ l0_0 true _ ?side1 ?side2 A2.out).mono ?_
   (case side1 => exact Yc (Z22 HR0_0.out HB.out))
   (case side2 => exact HC0_0.out)
   rintro e w11 ⟨rfl, hb⟩
   refine ⟨_, rfl, ?_⟩
   replace BK316 := Yb BK316 hb
   replace HB := Yh hb
   (try clear hb)
   refine hK.out _ _ ⟨(Z23 BK316.out 0).trans rfl, (Z23 BK316.out 1).trans rfl, (Z23 BK316.out 2).trans rfl, (Z23 BK316.out 3).trans rfl⟩ (fun hHeld => ?_)
   clear hK K
   refine norm_ (a' := ?_) ?_ ?_
   rotate_left
   ·show Act.put _ (some 5) _ = _
    simp only [Act.put, Z0, Z1, Z2, i64_w, i32_w]
    rfl
   refine Yp 3 (some 6) (YA 23 15) rfl HT_.out ?_
   refine Yp 4 (some 7) (YA 23 31) rfl HT_.out ?_
   refine Yp 6 (some 9) (YA 23 95) rfl HT_.out ?_
   refine Yt 5 (some 8) (YA 23 127) rfl HT_.out HW_.out hHeld Q6 ?_
   refine Yt 7 (some 10) (YA 23 255) rfl HT_.out HW_.out hHeld Q6 ?_
   refine one_ (i := 8) (N := some 11) (YA 23 511) rfl rfl (one_of HT_.out (by kernel_rfl)) (by decide) (fun K hK => ?_)
   refine goes_ Try.func65 (by kernel_rfl) rfl #[.slice A0_0 l0_0.length c0_0, .slice A0_1 l0_1.length c0_1] (by rfl) rfl rfl Q4 ?_
   with_reducible refine (impl_areDigits.calls k _ _ l0_0 _ _ l0_1 true _ ?side1 ?side2 ?side3 ?side4 A4.out).mono ?_
   (case side1 => exact Yc (Z22 HR0_0.out HB.out))
   (case side2 => exact HC0_0.out)
   (case side3 => exact Yc (Z22 HR0_1.out HB.out))
   (case side4 => exact HC0_1.out)
   rintro e w' ⟨rfl, ⟨nd, rfl⟩⟩
   refine ⟨_, rfl, ?_⟩
   refine hK.out _ _ ⟨(Z23 BK316.out 0).trans rfl, (Z23 BK316.out 1).trans rfl, (Z23 BK316.out 2).trans rfl, (Z23 BK316.out 3).trans rfl⟩ (fun hHeld => ?_)
   clear hK K
   refine norm_ (a' := ?_) ?_ ?_
   rotate_left
   ·show Act.put _ (some 11) _ = _
    simp only [Act.put, Z0, Z1, Z2, i64_w, i32_w]
    rfl
   refine Yp 9 (some 12) (YA 23 1023) rfl HT_.out ?_
   refine Yp 10 (some 13) (YA 23 2047) rfl HT_.out ?_
   refine Yp 12 (some 15) (YA 23 6143) rfl HT_.out ?_
   refine Yp 14 (some 17) (YA 23 22527) rfl HT_.out ?_
   refine Yp 16 (some 19) (YA 23 88063) rfl HT_.out ?_
   refine Yt 11 (some 14) (YA 23 90111) rfl HT_.out HW_.out hHeld Q6 ?_
   refine Yt 13 (some 16) (YA 23 98303) rfl HT_.out HW_.out hHeld Q6 ?_
   refine Yt 15 (some 18) (YA 23 131071) rfl HT_.out HW_.out hHeld Q6 ?_
   refine Yt 17 (some 20) (YA 23 262143) rfl HT_.out HW_.out hHeld Q6 ?_
   refine one_ (i := 18) (N := some 21) (YA 23 524287) rfl rfl (one_of HT_.out (by kernel_rfl)) (by decide) (fun K hK => ?_)
   refine goes_ Try.func54 (by kernel_rfl) rfl #[.slice A0_0 l0_0.length c0_0, .slice A0_1 l0_1.length c0_1] (by rfl) rfl rfl Q4 ?_
   with_reducible refine (impl_mixedRank.calls k _ _ l0_0 _ _ l0_1 t319 _ ?side1 ?side2 ?side3 ?side4 A6.out).mono ?_
   (case side1 => exact Yc (Z22 HR0_0.out Q0))
   (case side2 => exact HC0_0.out)
   (case side3 => exact Yc (Z22 HR0_1.out Q0))
   (case side4 => exact HC0_1.out)
   rintro e w12 ⟨rfl, hb⟩
   refine ⟨_, rfl, ?_⟩
   replace BK316 := Yb BK316 hb
   replace HB := Yh hb
   (try clear hb)
   refine hK.out _ _ ⟨(Z23 BK316.out 0).trans rfl, (Z23 BK316.out 1).trans rfl, (Z23 BK316.out 2).trans rfl, (Z23 BK316.out 3).trans rfl⟩ (fun hHeld => ?_)
   clear hK K
   refine norm_ (a' := ?_) ?_ ?_
   rotate_left
   ·show Act.put _ (some 21) _ = _
    simp only [Act.put, Z0, Z1, Z2, i64_w, i32_w]
    rfl
   refine one_ (i := 19) (N := some 22) (YA 23 1048575) rfl rfl (one_of HT_.out (by kernel_rfl)) (by decide) (fun K hK => ?_)
   refine goes_ Try.func67 (by kernel_rfl) rfl #[.slice A0_0 l0_0.length c0_0, .int .i64 t319] (by rfl) rfl rfl Q4 ?_
   with_reducible refine (impl_focusAt.calls k _ _ l0_0 t319 t320 t323 t326 t329 _ ?side1 ?side2 A7.out).mono ?_
   (case side1 => exact Yc (Z22 HR0_0.out HB.out))
   (case side2 => exact HC0_0.out)
   rintro e w13 ⟨v321, v324, v327, v330, rfl, ho0, ho1, ho2, ho3, hb⟩
   refine ⟨_, rfl, ?_⟩
   have HO322 := Yl ho0
   have HO325 := Yl ho1
   have HO328 := Yl ho2
   have HO331 := Yl ho3
   replace BK316 := Yb BK316 hb
   replace HB := Yh hb
   (try clear hb ho0 ho1 ho2 ho3)
   obtain ⟨Ao14, co14, eo14⟩ := Z18 HO322.out
   (first | subst eo14 | (injection eo14 with f1_ f2_ f3_; have f4_ := f1_.symm; have f5_ := f3_.symm; clear f1_ f2_ f3_; subst f4_; subst f5_))
   obtain ⟨Ao15, co15, eo15⟩ := Z18 HO325.out
   (first | subst eo15 | (injection eo15 with f1_ f2_ f3_; have f4_ := f1_.symm; have f5_ := f3_.symm; clear f1_ f2_ f3_; subst f4_; subst f5_))
   obtain ⟨Ao16, co16, eo16⟩ := Z18 HO328.out
   (first | subst eo16 | (injection eo16 with f1_ f2_ f3_; have f4_ := f1_.symm; have f5_ := f3_.symm; clear f1_ f2_ f3_; subst f4_; subst f5_))
   obtain ⟨Ao17, co17, eo17⟩ := Z18 HO331.out
   (first | subst eo17 | (injection eo17 with f1_ f2_ f3_; have f4_ := f1_.symm; have f5_ := f3_.symm; clear f1_ f2_ f3_; subst f4_; subst f5_))
   refine hK.out _ _ ⟨(Z23 BK316.out 0).trans rfl, (Z23 BK316.out 1).trans rfl, (Z23 BK316.out 2).trans rfl, (Z23 BK316.out 3).trans rfl⟩ (fun hHeld => ?_)
   clear hK K
   refine norm_ (a' := ?_) ?_ ?_
   rotate_left
   ·show Act.put _ (some 22) _ = _
    simp only [Act.put, Z0, Z1, Z2, i64_w, i32_w]
    rfl
   refine one_ (i := 20) (N := some 23) (YA 23 2097151) rfl rfl (one_of HT_.out (by kernel_rfl)) (by decide) (fun K hK => ?_)
   refine goes_ Try.func66 (by kernel_rfl) rfl #[.agg #[.slice A0_0 l0_0.length c0_0, .slice A0_1 l0_1.length c0_1, .slice A0_2 l0_2.length c0_2, .slice A0_3 l0_3.length c0_3], .agg #[.slice Ao14 t320.length co14, .slice Ao15 t323.length co15, .slice Ao16 t326.length co16, .slice Ao17 t329.length co17]] (by rfl) rfl rfl Q4 ?_
   with_reducible refine (impl_Focus_same.calls k _ _ l0_0 _ _ l0_1 _ _ l0_2 _ _ l0_3 _ _ t320 _ _ t323 _ _ t326 _ _ t329 t332 _ ?side1 ?side2 ?side3 ?side4 ?side5 ?side6 ?side7 ?side8 ?side9 ?side10 ?side11 ?side12 ?side13 ?side14 ?side15 ?side16 A8.out).mono ?_
   (case side1 => exact Yc (Z22 HR0_0.out HB.out))
   (case side2 => exact HC0_0.out)
   (case side3 => exact Yc (Z22 HR0_1.out HB.out))
   (case side4 => exact HC0_1.out)
   (case side5 => exact Yc (Z22 HR0_2.out HB.out))
   (case side6 => exact HC0_2.out)
   (case side7 => exact Yc (Z22 HR0_3.out HB.out))
   (case side8 => exact HC0_3.out)
   (case side9 => exact Yc (Kd.R_reads' HO322.out).2.2)
   (case side10 => exact (Kd.R_reads' HO322.out).2.1)
   (case side11 => exact Yc (Kd.R_reads' HO325.out).2.2)
   (case side12 => exact (Kd.R_reads' HO325.out).2.1)
   (case side13 => exact Yc (Kd.R_reads' HO328.out).2.2)
   (case side14 => exact (Kd.R_reads' HO328.out).2.1)
   (case side15 => exact Yc (Kd.R_reads' HO331.out).2.2)
   (case side16 => exact (Kd.R_reads' HO331.out).2.1)
   rintro e w18 ⟨rfl, hb⟩
   refine ⟨_, rfl, ?_⟩
   replace HO322 := Yw HO322 hb
   replace HO325 := Yw HO325 hb
   replace HO328 := Yw HO328 hb
   replace HO331 := Yw HO331 hb
   replace BK316 := Yb BK316 hb
   replace HB := Yh hb
   (try clear hb)
   refine hK.out _ _ ⟨(Z23 BK316.out 0).trans rfl, (Z23 BK316.out 1).trans rfl, (Z23 BK316.out 2).trans rfl, (Z23 BK316.out 3).trans rfl⟩ (fun hHeld => ?_)
   clear hK K
   refine norm_ (a' := ?_) ?_ ?_
   rotate_left
   ·show Act.put _ (some 23) _ = _
    simp only [Act.put, Z0, Z1, Z2, i64_w, i32_w]
    rfl
   refine Yp 21 (some 24) (YA 23 4194303) rfl HT_.out ?_
   refine Yp 22 (some 2) (YA 23 8388607) rfl HT_.out ?_
   refine done_ (done_of HT_.out (by kernel_rfl)) ?_
   try go_wp2
   go_ret
   exact ⟨Q2, Q12⟩
  ·replace c5 := Bool.eq_false_iff.mpr c5
   subst c5
   have H1 : (some false) = some r := by rw [if_neg (show ¬ (false = true) by decide)] at H; exact H
   clear H
   have H := H1
   clear H1
   obtain rfl := Option.some.inj H
   go_enter Try.func34, Try.ntmps34
   try go_wp2_with (first | ((with_reducible refine gate_dst (N := 1) rfl ?_); refine Yx 1 #[.slice A0_0 l0_0.length c0_0, .slice A0_1 l0_1.length c0_1, .slice A0_2 l0_2.length c0_2, .slice A0_3 l0_3.length c0_3] 27 ?_; intro gb316 hg w19 hbox hb; have BK316 := Ya hbox; have GE316 := Yg hg; replace HB := Yh hb; clear hb hbox hg))
   replace BK316 := Ya (Z26 BK316.out)
   replace HB := Ya (Z4 HB.out)
   refine start_ (n := 23) (S := fun w' => w'.cell? ⟨gb316, 0, none⟩ = some (.slice A0_0 l0_0.length c0_0) ∧ w'.cell? ⟨gb316, 1, none⟩ = some (.slice A0_1 l0_1.length c0_1) ∧ w'.cell? ⟨gb316, 2, none⟩ = some (.slice A0_2 l0_2.length c0_2) ∧ w'.cell? ⟨gb316, 3, none⟩ = some (.slice A0_3 l0_3.length c0_3)) (ds := []) (YA 23 0) (by kernel_rfl) rfl rfl ⟨(Z23 BK316.out 0).trans rfl, (Z23 BK316.out 1).trans rfl, (Z23 BK316.out 2).trans rfl, (Z23 BK316.out 3).trans rfl⟩ (fun hHeld => ?_); refine with_tabW impl_IsFocus.tab1 impl_IsFocus.bits1 (fun HT_ HW_ => ?_)
   generalize w19.drew = w20 at BK316 HB hHeld ⊢
   refine Yp 0 (some 3) (YA 23 1) rfl HT_.out ?_
   refine Yt 1 (some 4) (YA 23 3) rfl HT_.out HW_.out hHeld Q6 ?_
   refine one_ (i := 2) (N := some 5) (YA 23 7) rfl rfl (one_of HT_.out (by kernel_rfl)) (by decide) (fun K hK => ?_)
   refine goes_ Try.func64 (by kernel_rfl) rfl #[.slice A0_0 l0_0.length c0_0] (by rfl) rfl rfl Q4 ?_
   with_reducible refine (impl_areFocusBases.calls k _ _ l0_0 true _ ?side1 ?side2 A2.out).mono ?_
   (case side1 => exact Yc (Z22 HR0_0.out HB.out))
   (case side2 => exact HC0_0.out)
   rintro e w21 ⟨rfl, hb⟩
   refine ⟨_, rfl, ?_⟩
   replace BK316 := Yb BK316 hb
   replace HB := Yh hb
   (try clear hb)
   refine hK.out _ _ ⟨(Z23 BK316.out 0).trans rfl, (Z23 BK316.out 1).trans rfl, (Z23 BK316.out 2).trans rfl, (Z23 BK316.out 3).trans rfl⟩ (fun hHeld => ?_)
   clear hK K
   refine norm_ (a' := ?_) ?_ ?_
   rotate_left
   ·show Act.put _ (some 5) _ = _
    simp only [Act.put, Z0, Z1, Z2, i64_w, i32_w]
    rfl
   refine Yp 3 (some 6) (YA 23 15) rfl HT_.out ?_
   refine Yp 4 (some 7) (YA 23 31) rfl HT_.out ?_
   refine Yp 6 (some 9) (YA 23 95) rfl HT_.out ?_
   refine Yt 5 (some 8) (YA 23 127) rfl HT_.out HW_.out hHeld Q6 ?_
   refine Yt 7 (some 10) (YA 23 255) rfl HT_.out HW_.out hHeld Q6 ?_
   refine one_ (i := 8) (N := some 11) (YA 23 511) rfl rfl (one_of HT_.out (by kernel_rfl)) (by decide) (fun K hK => ?_)
   refine goes_ Try.func65 (by kernel_rfl) rfl #[.slice A0_0 l0_0.length c0_0, .slice A0_1 l0_1.length c0_1] (by rfl) rfl rfl Q4 ?_
   with_reducible refine (impl_areDigits.calls k _ _ l0_0 _ _ l0_1 false _ ?side1 ?side2 ?side3 ?side4 A4.out).mono ?_
   (case side1 => exact Yc (Z22 HR0_0.out HB.out))
   (case side2 => exact HC0_0.out)
   (case side3 => exact Yc (Z22 HR0_1.out HB.out))
   (case side4 => exact HC0_1.out)
   rintro e w' ⟨rfl, ⟨nd, rfl⟩⟩
   refine ⟨_, rfl, ?_⟩
   refine hK.out _ _ ⟨(Z23 BK316.out 0).trans rfl, (Z23 BK316.out 1).trans rfl, (Z23 BK316.out 2).trans rfl, (Z23 BK316.out 3).trans rfl⟩ (fun hHeld => ?_)
   clear hK K
   refine norm_ (a' := ?_) ?_ ?_
   rotate_left
   ·show Act.put _ (some 11) _ = _
    simp only [Act.put, Z0, Z1, Z2, i64_w, i32_w]
    rfl
   refine Yp 9 (some 12) (YA 23 1023) rfl HT_.out ?_
   refine Yp 10 (some 13) (YA 23 2047) rfl HT_.out ?_
   refine pure_ (i := 11) (N := some 14) (v := undef) (a' := ?_) (YA 23 4095) rfl rfl (any_of HT_.out (by kernel_rfl)) (fun _ _ _ h => h) (Or.inr ⟨by rfl, rfl⟩) ?_ ?_
   rotate_left
   ·simp only [Act.put, Z0, Z1, Z2, i64_w, i32_w]
    rfl
   refine pure_ (i := 12) (N := some 15) (v := undef) (a' := ?_) (YA 23 8191) rfl rfl (any_of HT_.out (by kernel_rfl)) (fun _ _ _ h => h) (Or.inr ⟨by rfl, rfl⟩) ?_ ?_
   rotate_left
   ·simp only [Act.put, Z0, Z1, Z2, i64_w, i32_w]
    rfl
   refine pure_ (i := 13) (N := some 16) (v := undef) (a' := ?_) (YA 23 16383) rfl rfl (any_of HT_.out (by kernel_rfl)) (fun _ _ _ h => h) (Or.inr ⟨by rfl, rfl⟩) ?_ ?_
   rotate_left
   ·simp only [Act.put, Z0, Z1, Z2, i64_w, i32_w]
    rfl
   refine pure_ (i := 14) (N := some 17) (v := undef) (a' := ?_) (YA 23 32767) rfl rfl (any_of HT_.out (by kernel_rfl)) (fun _ _ _ h => h) (Or.inr ⟨by rfl, rfl⟩) ?_ ?_
   rotate_left
   ·simp only [Act.put, Z0, Z1, Z2, i64_w, i32_w]
    rfl
   refine pure_ (i := 15) (N := some 18) (v := undef) (a' := ?_) (YA 23 65535) rfl rfl (any_of HT_.out (by kernel_rfl)) (fun _ _ _ h => h) (Or.inr ⟨by rfl, rfl⟩) ?_ ?_
   rotate_left
   ·simp only [Act.put, Z0, Z1, Z2, i64_w, i32_w]
    rfl
   refine pure_ (i := 16) (N := some 19) (v := undef) (a' := ?_) (YA 23 131071) rfl rfl (any_of HT_.out (by kernel_rfl)) (fun _ _ _ h => h) (Or.inr ⟨by rfl, rfl⟩) ?_ ?_
   rotate_left
   ·simp only [Act.put, Z0, Z1, Z2, i64_w, i32_w]
    rfl
   refine pure_ (i := 17) (N := some 20) (v := undef) (a' := ?_) (YA 23 262143) rfl rfl (any_of HT_.out (by kernel_rfl)) (fun _ _ _ h => h) (Or.inr ⟨by rfl, rfl⟩) ?_ ?_
   rotate_left
   ·simp only [Act.put, Z0, Z1, Z2, i64_w, i32_w]
    rfl
   refine pure_ (i := 18) (N := some 21) (v := undef) (a' := ?_) (YA 23 524287) rfl rfl (any_of HT_.out (by kernel_rfl)) (fun _ _ _ h => h) (Or.inr ⟨by rfl, rfl⟩) ?_ ?_
   rotate_left
   ·simp only [Act.put, Z0, Z1, Z2, i64_w, i32_w]
    rfl
   refine pure_ (i := 19) (N := some 22) (v := undef) (a' := ?_) (YA 23 1048575) rfl rfl (any_of HT_.out (by kernel_rfl)) (fun _ _ _ h => h) (Or.inr ⟨by rfl, rfl⟩) ?_ ?_
   rotate_left
   ·simp only [Act.put, Z0, Z1, Z2, i64_w, i32_w]
    rfl
   refine pure_ (i := 20) (N := some 23) (v := undef) (a' := ?_) (YA 23 2097151) rfl rfl (any_of HT_.out (by kernel_rfl)) (fun _ _ _ h => h) (Or.inr ⟨by rfl, rfl⟩) ?_ ?_
   rotate_left
   ·simp only [Act.put, Z0, Z1, Z2, i64_w, i32_w]
    rfl
   refine Yp 21 (some 24) (YA 23 4194303) rfl HT_.out ?_
   refine Yp 22 (some 2) (YA 23 8388607) rfl HT_.out ?_
   refine done_ (done_of HT_.out (by kernel_rfl)) ?_
   try go_wp2
   go_ret
   exact ⟨Q2, Q12⟩
 ·replace c3 := Bool.eq_false_iff.mpr c3
  subst c3
  have H1 : (some false) = some r := by rw [if_neg (show ¬ (false = true) by decide)] at H; exact H
  clear H
  have H := H1
  clear H1
  obtain rfl := Option.some.inj H
  go_enter Try.func34, Try.ntmps34
  try go_wp2_with (first | ((with_reducible refine gate_dst (N := 1) rfl ?_); refine Yx 1 #[.slice A0_0 l0_0.length c0_0, .slice A0_1 l0_1.length c0_1, .slice A0_2 l0_2.length c0_2, .slice A0_3 l0_3.length c0_3] 27 ?_; intro gb316 hg w22 hbox hb; have BK316 := Ya hbox; have GE316 := Yg hg; replace HB := Yh hb; clear hb hbox hg))
  replace BK316 := Ya (Z26 BK316.out)
  replace HB := Ya (Z4 HB.out)
  refine start_ (n := 23) (S := fun w' => w'.cell? ⟨gb316, 0, none⟩ = some (.slice A0_0 l0_0.length c0_0) ∧ w'.cell? ⟨gb316, 1, none⟩ = some (.slice A0_1 l0_1.length c0_1) ∧ w'.cell? ⟨gb316, 2, none⟩ = some (.slice A0_2 l0_2.length c0_2) ∧ w'.cell? ⟨gb316, 3, none⟩ = some (.slice A0_3 l0_3.length c0_3)) (ds := []) (YA 23 0) (by kernel_rfl) rfl rfl ⟨(Z23 BK316.out 0).trans rfl, (Z23 BK316.out 1).trans rfl, (Z23 BK316.out 2).trans rfl, (Z23 BK316.out 3).trans rfl⟩ (fun hHeld => ?_); refine with_tabW impl_IsFocus.tab1 impl_IsFocus.bits1 (fun HT_ HW_ => ?_)
  generalize w22.drew = w23 at BK316 HB hHeld ⊢
  refine Yp 0 (some 3) (YA 23 1) rfl HT_.out ?_
  refine Yt 1 (some 4) (YA 23 3) rfl HT_.out HW_.out hHeld Q6 ?_
  refine one_ (i := 2) (N := some 5) (YA 23 7) rfl rfl (one_of HT_.out (by kernel_rfl)) (by decide) (fun K hK => ?_)
  refine goes_ Try.func64 (by kernel_rfl) rfl #[.slice A0_0 l0_0.length c0_0] (by rfl) rfl rfl Q4 ?_
  with_reducible refine (impl_areFocusBases.calls k _ _ l0_0 false _ ?side1 ?side2 A2.out).mono ?_
  (case side1 => exact Yc (Z22 HR0_0.out HB.out))
  (case side2 => exact HC0_0.out)
  rintro e w24 ⟨rfl, hb⟩
  refine ⟨_, rfl, ?_⟩
  replace BK316 := Yb BK316 hb
  replace HB := Yh hb
  (try clear hb)
  refine hK.out _ _ ⟨(Z23 BK316.out 0).trans rfl, (Z23 BK316.out 1).trans rfl, (Z23 BK316.out 2).trans rfl, (Z23 BK316.out 3).trans rfl⟩ (fun hHeld => ?_)
  clear hK K
  refine norm_ (a' := ?_) ?_ ?_
  rotate_left
  ·show Act.put _ (some 5) _ = _
   simp only [Act.put, Z0, Z1, Z2, i64_w, i32_w]
   rfl
  refine Yp 3 (some 6) (YA 23 15) rfl HT_.out ?_
  refine pure_ (i := 4) (N := some 7) (v := undef) (a' := ?_) (YA 23 31) rfl rfl (any_of HT_.out (by kernel_rfl)) (fun _ _ _ h => h) (Or.inr ⟨by rfl, rfl⟩) ?_ ?_
  rotate_left
  ·simp only [Act.put, Z0, Z1, Z2, i64_w, i32_w]
   rfl
  refine pure_ (i := 5) (N := some 8) (v := undef) (a' := ?_) (YA 23 63) rfl rfl (any_of HT_.out (by kernel_rfl)) (fun _ _ _ h => h) (Or.inr ⟨by rfl, rfl⟩) ?_ ?_
  rotate_left
  ·simp only [Act.put, Z0, Z1, Z2, i64_w, i32_w]
   rfl
  refine pure_ (i := 6) (N := some 9) (v := undef) (a' := ?_) (YA 23 127) rfl rfl (any_of HT_.out (by kernel_rfl)) (fun _ _ _ h => h) (Or.inr ⟨by rfl, rfl⟩) ?_ ?_
  rotate_left
  ·simp only [Act.put, Z0, Z1, Z2, i64_w, i32_w]
   rfl
  refine pure_ (i := 7) (N := some 10) (v := undef) (a' := ?_) (YA 23 255) rfl rfl (any_of HT_.out (by kernel_rfl)) (fun _ _ _ h => h) (Or.inr ⟨by rfl, rfl⟩) ?_ ?_
  rotate_left
  ·simp only [Act.put, Z0, Z1, Z2, i64_w, i32_w]
   rfl
  refine pure_ (i := 8) (N := some 11) (v := undef) (a' := ?_) (YA 23 511) rfl rfl (any_of HT_.out (by kernel_rfl)) (fun _ _ _ h => h) (Or.inr ⟨by rfl, rfl⟩) ?_ ?_
  rotate_left
  ·simp only [Act.put, Z0, Z1, Z2, i64_w, i32_w]
   rfl
  refine Yp 9 (some 12) (YA 23 1023) rfl HT_.out ?_
  refine Yp 10 (some 13) (YA 23 2047) rfl HT_.out ?_
  refine pure_ (i := 11) (N := some 14) (v := undef) (a' := ?_) (YA 23 4095) rfl rfl (any_of HT_.out (by kernel_rfl)) (fun _ _ _ h => h) (Or.inr ⟨by rfl, rfl⟩) ?_ ?_
  rotate_left
  ·simp only [Act.put, Z0, Z1, Z2, i64_w, i32_w]
   rfl
  refine pure_ (i := 12) (N := some 15) (v := undef) (a' := ?_) (YA 23 8191) rfl rfl (any_of HT_.out (by kernel_rfl)) (fun _ _ _ h => h) (Or.inr ⟨by rfl, rfl⟩) ?_ ?_
  rotate_left
  ·simp only [Act.put, Z0, Z1, Z2, i64_w, i32_w]
   rfl
  refine pure_ (i := 13) (N := some 16) (v := undef) (a' := ?_) (YA 23 16383) rfl rfl (any_of HT_.out (by kernel_rfl)) (fun _ _ _ h => h) (Or.inr ⟨by rfl, rfl⟩) ?_ ?_
  rotate_left
  ·simp only [Act.put, Z0, Z1, Z2, i64_w, i32_w]
   rfl
  refine pure_ (i := 14) (N := some 17) (v := undef) (a' := ?_) (YA 23 32767) rfl rfl (any_of HT_.out (by kernel_rfl)) (fun _ _ _ h => h) (Or.inr ⟨by rfl, rfl⟩) ?_ ?_
  rotate_left
  ·simp only [Act.put, Z0, Z1, Z2, i64_w, i32_w]
   rfl
  refine pure_ (i := 15) (N := some 18) (v := undef) (a' := ?_) (YA 23 65535) rfl rfl (any_of HT_.out (by kernel_rfl)) (fun _ _ _ h => h) (Or.inr ⟨by rfl, rfl⟩) ?_ ?_
  rotate_left
  ·simp only [Act.put, Z0, Z1, Z2, i64_w, i32_w]
   rfl
  refine pure_ (i := 16) (N := some 19) (v := undef) (a' := ?_) (YA 23 131071) rfl rfl (any_of HT_.out (by kernel_rfl)) (fun _ _ _ h => h) (Or.inr ⟨by rfl, rfl⟩) ?_ ?_
  rotate_left
  ·simp only [Act.put, Z0, Z1, Z2, i64_w, i32_w]
   rfl
  refine pure_ (i := 17) (N := some 20) (v := undef) (a' := ?_) (YA 23 262143) rfl rfl (any_of HT_.out (by kernel_rfl)) (fun _ _ _ h => h) (Or.inr ⟨by rfl, rfl⟩) ?_ ?_
  rotate_left
  ·simp only [Act.put, Z0, Z1, Z2, i64_w, i32_w]
   rfl
  refine pure_ (i := 18) (N := some 21) (v := undef) (a' := ?_) (YA 23 524287) rfl rfl (any_of HT_.out (by kernel_rfl)) (fun _ _ _ h => h) (Or.inr ⟨by rfl, rfl⟩) ?_ ?_
  rotate_left
  ·simp only [Act.put, Z0, Z1, Z2, i64_w, i32_w]
   rfl
  refine pure_ (i := 19) (N := some 22) (v := undef) (a' := ?_) (YA 23 1048575) rfl rfl (any_of HT_.out (by kernel_rfl)) (fun _ _ _ h => h) (Or.inr ⟨by rfl, rfl⟩) ?_ ?_
  rotate_left
  ·simp only [Act.put, Z0, Z1, Z2, i64_w, i32_w]
   rfl
  refine pure_ (i := 20) (N := some 23) (v := undef) (a' := ?_) (YA 23 2097151) rfl rfl (any_of HT_.out (by kernel_rfl)) (fun _ _ _ h => h) (Or.inr ⟨by rfl, rfl⟩) ?_ ?_
  rotate_left
  ·simp only [Act.put, Z0, Z1, Z2, i64_w, i32_w]
   rfl
  refine Yp 21 (some 24) (YA 23 4194303) rfl HT_.out ?_
  refine Yp 22 (some 2) (YA 23 8388607) rfl HT_.out ?_
  refine done_ (done_of HT_.out (by kernel_rfl)) ?_
  try go_wp2
  go_ret
  exact ⟨Q2, Q12⟩
end Go.Proofs.Ytpfakdhfffehaaa.MFnExactStepFocus
