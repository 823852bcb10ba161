import Derived.Test.YtapbbmicfkbafaaMFnFocusRunsx0
import Derived.Test.YtapbbmicfkbafaaMFnFocusRunsx3
namespace Go.Proofs.Ytapbbmicfkbafaa.MFnFocusRuns
open Go.RowKit Go.Proofs.YtapbbmicfkbafaaW.PrintWords Go.Proofs.YtapbbmicfkbafaaW.PrintLast Go.Proofs.YtapbbmicfkbafaaW.PrintMore
attribute [local go_sem] max2_int min2_int max_two min_two max_three min_three max_four min_four   
set_option linter.unusedVariables false
set_option linter.unusedSimpArgs false
def spec_foStep.f (l0_0 : List Int) (l0_1 : List Int) (l0_2 : List Bool) (l0_3 : List Int) : Option (List Int × List Int × List Bool × List Int × Int) := if 0 < l0_3.length then (if rd l0_3 0 = (l0_0.length : Int) then some (([] : List Int), ([] : List Int), ([] : List Bool), ([] : List Int), (-1)) else ((Go.Proofs.Ytapbbmicfkbafaa.FoW.stepF l0_0 l0_1 l0_2 l0_3).bind fun bt => (some (l0_0, bt.1, bt.2.1, bt.2.2.1, (l0_0.length : Int) - 1 - bt.2.2.2)))) else none
open Go.Proofs.Ytapbbmicfkbafaa.FoW in
set_option maxHeartbeats 8000000 in
set_option maxRecDepth 100000 in
theorem spec_foStep.calls (A0 : Option Addr) (c0 : Nat) (l0 : List Int) (A1 : Option Addr) (c1 : Nat) (l1 : List Int) (A2 : Option Addr) (c2 : Nat) (l2 : List Bool) (A3 : Option Addr) (c3 : Nat) (l3 : List Int) (r1 : List Int) (r2 : List Int) (r3 : List Bool) (r4 : List Int) (r5 : Int) (w : World)
  (hr0 : Kd.C (Kd.int .i64) w A0 l0.length l0) (hc0 : l0.length ≤ c0) (hr1 : Kd.C (Kd.int .i64) w A1 l1.length l1) (hc1 : l1.length ≤ c1) (hr2 : Kd.C Kd.bool w A2 l2.length l2) (hc2 : l2.length ≤ c2) (hr3 : Kd.C (Kd.int .i64) w A3 l3.length l3) (hc3 : l3.length ≤ c3) (h : spec_foStep.f l0 l1 l2 l3 = some (r1, r2, r3, r4, r5)) :
  Calls Try.prog 50 #[.agg #[.slice A0 l0.length c0, .slice A1 l1.length c1, .slice A2 l2.length c2, .slice A3 l3.length c3]] w fun e w' => ∃ v0_ v1_ v2_ v3_ : Value, e = .returned (.tuple #[.agg #[v0_, v1_, v2_, v3_], .int .i64 r5]) ∧ Kd.R (Kd.int .i64) 3 w' w.heap.size (fun k_ => some k_ ≠ (v1_ : Value).ownBlock ∧ some k_ ≠ (v3_ : Value).ownBlock) v0_ r1 ∧ Kd.R (Kd.int .i64) 3 w' w.heap.size (fun k_ => some k_ ≠ (v0_ : Value).ownBlock ∧ some k_ ≠ (v3_ : Value).ownBlock) v1_ r2 ∧ Kd.R Kd.bool 4 w' w.heap.size (fun _ => True) v2_ r3 ∧ Kd.R (Kd.int .i64) 3 w' w.heap.size (fun k_ => some k_ ≠ (v0_ : Value).ownBlock ∧ some k_ ≠ (v1_ : Value).ownBlock) v3_ r4 ∧ Below w.heap.size w w' := by
 have hu := Try.underlying33
 unfold spec_foStep.f at h
 by_cases hp : 0 < l3.length
 rotate_left
 ·rw [if_neg hp] at h; cases h
 rw [if_pos hp] at h
 obtain ⟨ad3, e3, hx3⟩ := Kd.at_int hr3 0 (by decide) (by omega)
 subst e3
 have hx3' : w.cell? ad3 = some (.int .i64 (rd l3 0)) := by
  have e_ : ad3.add (0 : Int).toNat = ad3 := by simp [Addr.add]
  rw [e_] at hx3; exact hx3
 clear hx3
 have HX3 := Ya hx3'
 have HR0 := Ya hr0
 have HR1 := Ya hr1
 have HR2 := Ya hr2
 have HR3 := Ya hr3
 have HC0 := Ya hc0
 have HC1 := Ya hc1
 have HC2 := Ya hc2
 have HC3 := Ya hc3
 have HB := Ya (Below.refl w.heap.size w)
 have b10 : (0 < l3.length) = True := eq_true hp
 have b11 : ((0 : Int) < (l3.length : Int)) = True := eq_true (by omega)
 by_cases hj : rd l3 0 = (l0.length : Int)
 ·rw [if_pos hj] at h
  simp only [Option.some.injEq, Prod.mk.injEq] at h
  obtain ⟨rfl, rfl, rfl, rfl, rfl⟩ := h
  have b1 : (rd l3 0 == (l0.length : Int)) = true := beq_iff_eq.mpr hj
  clear hr0 hr1 hr2 hr3 hc0 hc1 hc2 hc3 hp hj hx3'
  go_enter Try.func50, Try.ntmps50
  go_upto_region 1 with (first | ((with_reducible refine gate_dst (N := 1) rfl ?_); refine Yx 1 #[.slice A0 l0.length c0, .slice A1 l1.length c1, .slice A2 l2.length c2, .slice (some ad3) l3.length c3] 33 ?_; intro gb1 hg w1 hbox hb; have n0_ := Yh hb; have n1_ := Ya hbox; have GE1 := Ya (by rw [hg]; exact Z7 Q0 : w.heap.size ≤ gb1); clear HB; have HB := n0_; have BK1 := n1_; clear n0_ n1_; clear hb hbox hg) | ((with_reducible refine gate_dst (N := 2) rfl ?_); refine Yx 2 YN4 33 ?_; intro gb2 hg w2 hbox hb; have n0_ := Yh hb; have n1_ := Ya hbox; have n2_ := Ya (Z27 BK1.out hb); have GE2 := Ya (by rw [hg]; exact Z7 Q0 : w.heap.size ≤ gb2); have NB12 := Ya (by rw [hg]; exact Nat.ne_of_lt (blk_lt BK1.out) : gb1 ≠ gb2); clear HB BK1; have HB := n0_; have BK2 := n1_; have BK1 := n2_; clear n0_ n1_ n2_; clear hb hbox hg))
  have ha0 := (Z22 BK1.out 0).trans rfl
  have ha1 := (Z22 BK1.out 1).trans rfl
  have ha2 := (Z22 BK1.out 2).trans rfl
  have ha3 := (Z22 BK1.out 3).trans rfl
  have hd0 := (Z22 BK2.out 0).trans rfl
  have hd1 := (Z22 BK2.out 1).trans rfl
  have hd2 := (Z22 BK2.out 2).trans rfl
  have hd3 := (Z22 BK2.out 3).trans rfl
  have hf0 := Z23 BK2.out 0
  have hf1 := Z23 BK2.out 1
  have hf2 := Z23 BK2.out 2
  have hf3 := Z23 BK2.out 3
  have hx := (HB.out.cell (World.block_lt_of_cell? w _ HX3.out)).trans HX3.out
  go_wp2
  refine bodyPost_ret (results_ct rfl _ _ gb2 33 YN4 (0, 0) _ rfl (set4_at BK2.out _ _ _ _) Try.underlying33 rfl (by kernel_rfl)) rfl ?_
  exact ⟨_, _, _, _, rfl, Kd.R_nil _ _ _ _ _, Kd.R_nil _ _ _ _ _, Kd.R_nil _ _ _ _ _, Kd.R_nil _ _ _ _ _, set4_below HB.out GE2.out _ _ _ _⟩
 ·rw [if_neg hj] at h
  obtain ⟨⟨d', u', p', r⟩, hs, h⟩ := Z35.mp h
  simp only [Option.some.injEq, Prod.mk.injEq] at h
  obtain ⟨rfl, rfl, rfl, rfl, rfl⟩ := h
  unfold stepF at hs
  simp only at hs
  by_cases hc : 0 ≤ rd l3 0 ∧ rd l3 0 < l0.length ∧ l0.length ≤ 1000 ∧ l1.length = l0.length ∧ l2.length = l0.length ∧ l3.length = l0.length + 1 ∧ -1000 ≤ rd l1 ((l0.length : Int) - 1 - rd l3 0) ∧ rd l1 ((l0.length : Int) - 1 - rd l3 0) ≤ 1000 ∧ -1000 ≤ rd l0 ((l0.length : Int) - 1 - rd l3 0) ∧ rd l0 ((l0.length : Int) - 1 - rd l3 0) ≤ 1000
  rotate_left
  ·rw [if_neg hc] at hs; cases hs
  rw [if_pos hc] at hs
  obtain ⟨J, hJ⟩ : ∃ J, rd l3 0 = J := ⟨_, rfl⟩
  rw [hJ] at hs hc hx3' hj
  obtain ⟨I, hI⟩ : ∃ I, (l0.length : Int) - 1 - J = I := ⟨_, rfl⟩
  rw [hI] at hs hc
  obtain ⟨j0, j1, m0, e1, e2, e3, x0, x1, y0, y1⟩ := hc
  have HL := Ya (show (0 ≤ I ∧ I < l0.length) ∧ I < l1.length ∧ I < l2.length ∧ J + 1 < l3.length ∧ J < l3.length ∧ 0 < l3.length ∧ 0 ≤ J ∧ l0.length ≤ 1000 from ⟨⟨by omega, by omega⟩, by omega, by omega, by omega, by omega, by omega, by omega, by omega⟩)
  have HX := Ya (show (-1000 ≤ rd l1 I ∧ rd l1 I ≤ 1000) ∧ -1000 ≤ rd l0 I ∧ rd l0 I ≤ 1000 from ⟨⟨x0, x1⟩, y0, y1⟩)
  have A9 : Aside0 (spec_foOwn.f l0 l1 l2 l3 = some (l0, l1, l2, l3)) := ⟨by
   have hl : ∀ l : List Int, l.length ≤ 2000 → spec_l1Own.f l = some l := fun l hl => by
    unfold spec_l1Own.f
    simp only [Option.bind_some, List.nil_append, List.length_nil, Nat.zero_add]
    rw [if_pos (by omega)]
   unfold spec_foOwn.f
   rw [hl l0 (by omega), hl l1 (by omega), hl l3 (by omega)]
   simp only [Option.bind_some, List.nil_append, List.length_nil, Nat.zero_add]
   rw [if_pos (by omega)]⟩
  obtain ⟨ad0, f0, hx0⟩ := Kd.at_int hr0 I (by omega) (by omega)
  obtain ⟨ad2, f2, hx2⟩ := Kd.at_bool hr2 I (by omega) (by omega)
  subst f0 f2
  have HX0 := Ya hx0
  have HX2 := Ya hx2
  have HXJ := Ya hx3'
  have k1 : wrap64 ((l0.length : Int) - 1) = (l0.length : Int) - 1 := by unfold wrap64; omega
  have k2 : wrap64 (J + 1) = J + 1 := by unfold wrap64; omega
  have k1' : IntKind.i64.wrap ((l0.length : Int) - 1) = (l0.length : Int) - 1 := (i64_w _).trans k1
  have k2' : IntKind.i64.wrap (J + 1) = J + 1 := (i64_w _).trans k2
  have k3 : wrap64 ((l0.length : Int) - 1 - J) = I := by rw [← hI]; unfold wrap64; omega
  have k3' : IntKind.i64.wrap ((l0.length : Int) - 1 - J) = I := (i64_w _).trans k3
  have b1 : (J == (l0.length : Int)) = false := beq_eq_false_iff_ne.mpr (by omega)
  have b2 : (0 ≤ I) = True := eq_true (by omega)
  have b3 : (I < (l2.length : Int)) = True := eq_true (by omega)
  have b4 : (I < (l1.length : Int)) = True := eq_true (by omega)
  have b5 : (I < (l0.length : Int)) = True := eq_true (by omega)
  have b6 : (0 ≤ J) = True := eq_true (by omega)
  have b7 : (J < (l3.length : Int)) = True := eq_true (by omega)
  have b8 : (J + 1 < (l3.length : Int)) = True := eq_true (by omega)
  have b9 : (0 ≤ J + 1) = True := eq_true (by omega)
  have HJ := Ya hJ
  obtain ⟨X, hX⟩ : ∃ X, (if rdOf false l2 I = true then rd l1 I + 1 else rd l1 I - 1) = X := ⟨_, rfl⟩
  rw [hX] at hs
  have HH := Ya hs
  have HXX := Ya hX
  have HIE := Ya hI
  clear hr0 hr1 hr2 hr3 hc0 hc1 hc2 hc3 hp hj hx3' hx0 hx2 hs hX hJ hI j0 j1 m0 e1 e2 e3 x0 x1 y0 y1
  go_enter Try.func50, Try.ntmps50
  go_upto_region 1 with (first | ((with_reducible refine gate_dst (N := 1) rfl ?_); refine Yx 1 #[.slice (some ad0) l0.length c0, .slice A1 l1.length c1, .slice (some ad2) l2.length c2, .slice (some ad3) l3.length c3] 33 ?_; intro gb1 hg w1 hbox hb; have n0_ := Yh hb; have n1_ := Ya hbox; have GE1 := Ya (by rw [hg]; exact Z7 Q0 : w.heap.size ≤ gb1); clear HB; have HB := n0_; have BK1 := n1_; clear n0_ n1_; clear hb hbox hg) | ((with_reducible refine gate_dst (N := 2) rfl ?_); refine Yx 2 YN4 33 ?_; intro gb2 hg w2 hbox hb; have n0_ := Yh hb; have n1_ := Ya hbox; have n2_ := Ya (Z27 BK1.out hb); have GE2 := Ya (by rw [hg]; exact Z7 Q0 : w.heap.size ≤ gb2); have NB12 := Ya (by rw [hg]; exact Nat.ne_of_lt (blk_lt BK1.out) : gb1 ≠ gb2); clear HB BK1; have HB := n0_; have BK2 := n1_; have BK1 := n2_; clear n0_ n1_ n2_; clear hb hbox hg))
  have ha0 := (Z22 BK1.out 0).trans rfl
  have ha1 := (Z22 BK1.out 1).trans rfl
  have ha2 := (Z22 BK1.out 2).trans rfl
  have ha3 := (Z22 BK1.out 3).trans rfl
  have hx := (HB.out.cell (World.block_lt_of_cell? w _ HXJ.out)).trans HXJ.out
  go_upto_region 6 with (first | ((with_reducible refine gate_callee (f := 66) rfl ?_); refine Yz 20 Try.func66 #[.agg #[.slice (some ad0) l0.length c0, .slice A1 l1.length c1, .slice (some ad2) l2.length c2, .slice (some ad3) l3.length c3]] ?_ (hargs := Q22); (with_reducible refine (spec_foOwn.calls _ _ l0 _ _ l1 _ _ l2 _ _ l3 l0 l1 l2 l3 _ ?s1 ?s2 ?s3 ?s4 ?s5 ?s6 ?s7 ?s8 A9.out).mono ?_); (case s1 => exact Q27); (case s2 => exact HC0.out); (case s3 => exact (by repeat (first | exact (Z21 HR1.out HB.out) | (with_reducible refine Z18 ?_ _) | (with_reducible refine Z19 ?_ _) | (with_reducible refine Z20 ?_)))); (case s4 => exact HC1.out); (case s5 => exact (by repeat (first | exact (Z21 HR2.out HB.out) | (with_reducible refine Z18 ?_ _) | (with_reducible refine Z19 ?_ _) | (with_reducible refine Z20 ?_)))); (case s6 => exact HC2.out); (case s7 => exact (by repeat (first | exact (Z21 HR3.out HB.out) | (with_reducible refine Z18 ?_ _) | (with_reducible refine Z19 ?_ _) | (with_reducible refine Z20 ?_)))); (case s8 => exact HC3.out); rintro e w5 ⟨v0, v1, v2, v3, rfl, ho0, ho1, ho2, ho3, hb⟩; refine ⟨_, rfl, ?_⟩; obtain ⟨g0, k0, g1, k1, g2, k2, g3, k3, rfl, rfl, rfl, rfl, hF⟩ := FoR.of (Kd.R_lower ho0 (Z7 Q0)) (Kd.R_lower ho1 (Z7 Q0)) (Kd.R_lower ho2 (Z7 Q0)) (Kd.R_lower ho3 (Z7 Q0)) Q18 Q18 Q18 Q18; have HF := Ya hF; replace BK1 := Ya (Z27 (Yk BK1.out) hb); replace BK2 := Ya (Z27 (Yk BK2.out) hb); replace HB := Yh hb; clear ho0 ho1 ho2 ho3 hb hF) | ((with_reducible refine gate_dst (N := 6) rfl ?_); refine Yx 6 YN4 33 ?_; intro gb6 hg w6 hbox hb; have n0_ := Yh hb; have n1_ := Ya hbox; have n2_ := Ya (Z27 (Yk BK1.out) hb); have n3_ := Ya (Z27 (Yk BK2.out) hb); have n4_ := Ya (FoR.below (by (with_reducible repeat (first | apply FoR.drewN | apply FoR.drew)); exact HF.out) hb); have GE6 := Ya (by rw [hg]; exact Z7 Q0 : w.heap.size ≤ gb6); have NB16 := Ya (by rw [hg]; exact Nat.ne_of_lt (blk_lt (Yk BK1.out)) : gb1 ≠ gb6); have NB26 := Ya (by rw [hg]; exact Nat.ne_of_lt (blk_lt (Yk BK2.out)) : gb2 ≠ gb6); clear HB BK1 BK2 HF; have HB := n0_; have BK6 := n1_; have BK1 := n2_; have BK2 := n3_; have HF := n4_; clear n0_ n1_ n2_ n3_ n4_; have hd0 := (Z22 BK6.out 0).trans rfl; have hd1 := (Z22 BK6.out 1).trans rfl; have hd2 := (Z22 BK6.out 2).trans rfl; have hd3 := (Z22 BK6.out 3).trans rfl; have hf0 := Z23 BK6.out 0; have hf1 := Z23 BK6.out 1; have hf2 := Z23 BK6.out 2; have hf3 := Z23 BK6.out 3; clear hb hbox hg))
  replace BK1 := Ya ((set4_far w6 gb6 (.slice (some ⟨g0, 0, none⟩) l0.length k0) (.slice (some ⟨g1, 0, none⟩) l1.length k1) (.slice (some ⟨g2, 0, none⟩) l2.length k2) (.slice (some ⟨g3, 0, none⟩) l3.length k3) gb1 NB16.out).trans BK1.out)
  replace BK2 := Ya ((set4_far w6 gb6 (.slice (some ⟨g0, 0, none⟩) l0.length k0) (.slice (some ⟨g1, 0, none⟩) l1.length k1) (.slice (some ⟨g2, 0, none⟩) l2.length k2) (.slice (some ⟨g3, 0, none⟩) l3.length k3) gb2 NB26.out).trans BK2.out)
  replace HF := Ya (FoR.set4 HF.out BK6.out (by decide) (by decide) (.slice (some ⟨g0, 0, none⟩) l0.length k0) (.slice (some ⟨g1, 0, none⟩) l1.length k1) (.slice (some ⟨g2, 0, none⟩) l2.length k2) (.slice (some ⟨g3, 0, none⟩) l3.length k3))
  replace BK6 := Ya (set4_at BK6.out (.slice (some ⟨g0, 0, none⟩) l0.length k0) (.slice (some ⟨g1, 0, none⟩) l1.length k1) (.slice (some ⟨g2, 0, none⟩) l2.length k2) (.slice (some ⟨g3, 0, none⟩) l3.length k3))
  replace HB := Ya (set4_below HB.out GE6.out (.slice (some ⟨g0, 0, none⟩) l0.length k0) (.slice (some ⟨g1, 0, none⟩) l1.length k1) (.slice (some ⟨g2, 0, none⟩) l2.length k2) (.slice (some ⟨g3, 0, none⟩) l3.length k3))
  clear hd0 hd1 hd2 hd3 hf0 hf1 hf2 hf3
  unfold set4 at BK1 BK2 BK6 HF HB
  generalize ((((w6.setCell ⟨gb6, 0, none⟩ (.slice (some ⟨g0, 0, none⟩) l0.length k0)).setCell ⟨gb6, 1, none⟩ (.slice (some ⟨g1, 0, none⟩) l1.length k1)).setCell ⟨gb6, 2, none⟩ (.slice (some ⟨g2, 0, none⟩) l2.length k2)).setCell ⟨gb6, 3, none⟩ (.slice (some ⟨g3, 0, none⟩) l3.length k3)) = w7 at BK1 BK2 BK6 HF HB ⊢
  clear ha0 ha1 ha2 ha3 hx
  have hc0 := (Z22 BK6.out 0).trans rfl
  have hc1 := (Z22 BK6.out 1).trans rfl
  have hc2 := (Z22 BK6.out 2).trans rfl
  have hc3 := (Z22 BK6.out 3).trans rfl
  have hxp := (FoR.at3 HF.out 0 (by decide) Q18).1
  have hzp : World.frozen? _ ⟨g3, 0, none⟩ = false := (FoR.at3 HF.out 0 (by decide) Q18).2
  rw [show (0 : Int).toNat = 0 from rfl] at hxp
  go_upto_region 8 with fail
  clear hxp hzp hc0 hc1 hc2 hc3
  replace BK1 := Ya (show (World.setCell w7 ⟨g3, 0, none⟩ (.int .i64 0)).heap[gb1]? = _ from blk_far (p := ⟨g3, 0, none⟩) BK1.out (have n := FoR.apart HF.out BK1.out (by decide) (by decide); n.2.2.2) (.int .i64 0))
  replace BK2 := Ya (show (World.setCell w7 ⟨g3, 0, none⟩ (.int .i64 0)).heap[gb2]? = _ from blk_far (p := ⟨g3, 0, none⟩) BK2.out (have n := FoR.apart HF.out BK2.out (by decide) (by decide); n.2.2.2) (.int .i64 0))
  replace BK6 := Ya (show (World.setCell w7 ⟨g3, 0, none⟩ (.int .i64 0)).heap[gb6]? = _ from blk_far (p := ⟨g3, 0, none⟩) BK6.out (have n := FoR.apart HF.out BK6.out (by decide) (by decide); n.2.2.2) (.int .i64 0))
  replace HB := Ya (show Below w.heap.size w (World.setCell w7 ⟨g3, 0, none⟩ (.int .i64 0)) from Z6 HB.out (FoR.ge HF.out).2.2.2)
  replace HF := Ya (show FoR (World.setCell w7 ⟨g3, 0, none⟩ (.int .i64 0)) w.heap.size g0 k0 g1 k1 g2 k2 g3 k3 l0 l1 l2 (l3.set 0 0) from FoR.put3 HF.out 0 0)
  generalize World.setCell w7 ⟨g3, 0, none⟩ (.int .i64 0) = w8 at BK1 BK2 BK6 HF HB ⊢
  have ha0 := (Z22 BK1.out 0).trans rfl
  have ha1 := (Z22 BK1.out 1).trans rfl
  have ha2 := (Z22 BK1.out 2).trans rfl
  have ha3 := (Z22 BK1.out 3).trans rfl
  have hx2 := (HB.out.cell (World.block_lt_of_cell? w _ HX2.out)).trans HX2.out
  go_upto_if 32 with fail
  go_cut [] (fun wc => Aside0 (wc.heap[gb1]? = some (.cells #[.slice (some ad0) l0.length c0, .slice A1 l1.length c1, .slice (some ad2) l2.length c2, .slice (some ad3) l3.length c3] 33 (0, 0))) ∧ Aside0 (wc.heap[gb2]? = some (.cells YN4 33 (0, 0))) ∧ Aside0 (wc.heap[gb6]? = some (.cells #[.slice (some ⟨g0, 0, none⟩) l0.length k0, .slice (some ⟨g1, 0, none⟩) l1.length k1, .slice (some ⟨g2, 0, none⟩) l2.length k2, .slice (some ⟨g3, 0, none⟩) l3.length k3] 33 (0, 0))) ∧ Aside0 (FoR wc w.heap.size g0 k0 g1 k1 g2 k2 g3 k3 l0 (l1.set I.toNat X) l2 (l3.set 0 0)) ∧ Aside0 (Below w.heap.size w wc))
  case first =>
   have hx1 := (FoR.at1 HF.out I Q18 Q18).1
   have hz1 := (FoR.at1 HF.out I Q18 Q18).2
   have hc1 := (Z22 BK6.out 1).trans rfl
   have n0_ := Ya (show (World.setCell w8 ⟨g1, I.toNat, none⟩ (.int .i64 X)).heap[gb1]? = _ from blk_far (p := ⟨g1, I.toNat, none⟩) BK1.out (have n := FoR.apart HF.out BK1.out (by decide) (by decide); n.2.1) (.int .i64 X))
   have n1_ := Ya (show (World.setCell w8 ⟨g1, I.toNat, none⟩ (.int .i64 X)).heap[gb2]? = _ from blk_far (p := ⟨g1, I.toNat, none⟩) BK2.out (have n := FoR.apart HF.out BK2.out (by decide) (by decide); n.2.1) (.int .i64 X))
   have n2_ := Ya (show (World.setCell w8 ⟨g1, I.toNat, none⟩ (.int .i64 X)).heap[gb6]? = _ from blk_far (p := ⟨g1, I.toNat, none⟩) BK6.out (have n := FoR.apart HF.out BK6.out (by decide) (by decide); n.2.1) (.int .i64 X))
   have n3_ := Ya (show FoR (World.setCell w8 ⟨g1, I.toNat, none⟩ (.int .i64 X)) w.heap.size g0 k0 g1 k1 g2 k2 g3 k3 l0 (l1.set I.toNat X) l2 (l3.set 0 0) from FoR.put1 HF.out I X)
   have n4_ := Ya (show Below w.heap.size w (World.setCell w8 ⟨g1, I.toNat, none⟩ (.int .i64 X)) from Z6 HB.out (FoR.ge HF.out).2.1)
   cases hU : rdOf false l2 I
   ·have hv : rd l1 I - 1 = X := by have := HXX.out; rw [hU] at this; simpa using this
    have hw : wrap64 (rd l1 I - 1) = X := by rw [← hv]; have := HX.out; unfold wrap64; omega
    have hw' : IntKind.i64.wrap (rd l1 I - 1) = X := (i64_w _).trans hw
    clear hv
    rw [hU] at hx2
    go_wp2
    go_meet
    case rel => exact ⟨n0_, n1_, n2_, n3_, n4_⟩
   ·have hv : rd l1 I + 1 = X := by have := HXX.out; rw [hU] at this; simpa using this
    have hw : wrap64 (rd l1 I + 1) = X := by rw [← hv]; have := HX.out; unfold wrap64; omega
    have hw' : IntKind.i64.wrap (rd l1 I + 1) = X := (i64_w _).trans hw
    clear hv
    rw [hU] at hx2
    go_wp2
    go_meet
    case rel => exact ⟨n0_, n1_, n2_, n3_, n4_⟩
  case rest =>
   clear hx2 ha0 ha1 ha2 ha3 BK1 BK2 BK6 HF HB
   obtain ⟨BK1, BK2, BK6, HF, HB⟩ := hcut
   have HRD := Ya (show rd (l1.set I.toNat X) I = X from by
    have := HL.out
    unfold rd
    rw [List.getD_eq_getElem?_getD, List.getElem?_set_self (by omega)]; rfl)
   go_upto_region 11 with fail
   go_cut [66] (fun v66 wc => ∃ t : Bool, v66 = .bool t ∧ Aside0 (t = decide (X = 0 ∨ X = rd l0 I - 1)) ∧ Aside0 (wc.heap[gb1]? = some (.cells #[.slice (some ad0) l0.length c0, .slice A1 l1.length c1, .slice (some ad2) l2.length c2, .slice (some ad3) l3.length c3] 33 (0, 0))) ∧ Aside0 (wc.heap[gb2]? = some (.cells YN4 33 (0, 0))) ∧ Aside0 (wc.heap[gb6]? = some (.cells #[.slice (some ⟨g0, 0, none⟩) l0.length k0, .slice (some ⟨g1, 0, none⟩) l1.length k1, .slice (some ⟨g2, 0, none⟩) l2.length k2, .slice (some ⟨g3, 0, none⟩) l3.length k3] 33 (0, 0))) ∧ Aside0 (FoR wc w.heap.size g0 k0 g1 k1 g2 k2 g3 k3 l0 (l1.set I.toNat X) l2 (l3.set 0 0)) ∧ Aside0 (Below w.heap.size w wc))
   case first =>
    have hw : wrap64 (rd l0 I - 1) = rd l0 I - 1 := by have := HX.out; unfold wrap64; omega
    have hw' : IntKind.i64.wrap (rd l0 I - 1) = rd l0 I - 1 := (i64_w _).trans hw
    by_cases z : X = 0
    ·have zb : (X == 0) = true := beq_iff_eq.mpr z
     have HT := Ya (Z37 (p := X = 0 ∨ X = rd l0 I - 1) (Or.inl z))
     clear z
     go_wp2_with fail
     replace BK1 := Ya (Z25 BK1.out)
     replace BK2 := Ya (Z25 BK2.out)
     replace BK6 := Ya (Z25 BK6.out)
     replace HF := Ya (FoR.drew HF.out)
     replace HB := Ya (Z4 HB.out)
     refine start_ (n := 20) (S := fun w' => w'.cell? ⟨gb6, 1, none⟩ = some (.slice (some ⟨g1, 0, none⟩) l1.length k1) ∧ w'.cell? ⟨gb1, 0, none⟩ = some (.slice (some ad0) l0.length c0) ∧ w'.cell? ⟨g1, I.toNat, none⟩ = some (.int .i64 X) ∧ w'.cell? (ad0.add I.toNat) = some (.int .i64 (rd l0 I))) (ds := []) (YA 20 0) (by kernel_rfl) rfl rfl ⟨(Z22 BK6.out 1).trans rfl, (Z22 BK1.out 0).trans rfl, ((FoR.at1 HF.out I Q18 Q24).1.trans (by rw [HRD.out])), ((HB.out.cell (World.block_lt_of_cell? w _ HX0.out)).trans HX0.out)⟩ (fun hHeld => ?_)
     generalize World.drew _ = w9 at BK1 BK2 BK6 HF HB hHeld ⊢
     refine Yq 0 (some 47) (YA 20 1) rfl ?_
     refine Yq 2 (some 49) (YA 20 5) rfl ?_
     refine Ys 1 (some 48) (YA 20 7) rfl hHeld Q9 ?_
     refine Yq 3 (some 50) (YA 20 15) rfl ?_
     refine Ys 4 (some 51) (YA 20 31) rfl hHeld Q9 ?_
     refine Yq 5 (some 52) (YA 20 63) rfl ?_
     refine Yq 6 (some 53) (YA 20 127) rfl ?_
     refine Yu 7 (some 54) (YA 20 255) rfl ?_
     refine Yu 8 (some 55) (YA 20 511) rfl ?_
     refine Yu 9 (some 56) (YA 20 1023) rfl ?_
     refine Yu 10 (some 57) (YA 20 2047) rfl ?_
     refine Yu 11 (some 58) (YA 20 4095) rfl ?_
     refine Yu 12 (some 59) (YA 20 8191) rfl ?_
     refine Yu 13 (some 60) (YA 20 16383) rfl ?_
     refine Yu 14 (some 61) (YA 20 32767) rfl ?_
     refine Yu 15 (some 62) (YA 20 65535) rfl ?_
     refine Yu 16 (some 63) (YA 20 131071) rfl ?_
     refine Yu 17 (some 64) (YA 20 262143) rfl ?_
     refine Yu 18 (some 65) (YA 20 524287) rfl ?_
     refine Yq 19 (some 66) (YA 20 1048575) rfl ?_
     refine done_ (by kernel_rfl) ?_
     go_step
     go_step
     go_meet
     case rel => exact ⟨true, rfl, ⟨HT.out.symm⟩, BK1, BK2, BK6, HF, HB⟩
    ·have zb : (X == 0) = false := beq_eq_false_iff_ne.mpr z
     have HT := Ya (show (X == rd l0 I - 1) = decide (X = 0 ∨ X = rd l0 I - 1) from by rw [Bool.eq_iff_iff]; simp [z])
     clear z
     go_wp2_with fail
     replace BK1 := Ya (Z25 BK1.out)
     replace BK2 := Ya (Z25 BK2.out)
     replace BK6 := Ya (Z25 BK6.out)
     replace HF := Ya (FoR.drew HF.out)
     replace HB := Ya (Z4 HB.out)
     refine start_ (n := 20) (S := fun w' => w'.cell? ⟨gb6, 1, none⟩ = some (.slice (some ⟨g1, 0, none⟩) l1.length k1) ∧ w'.cell? ⟨gb1, 0, none⟩ = some (.slice (some ad0) l0.length c0) ∧ w'.cell? ⟨g1, I.toNat, none⟩ = some (.int .i64 X) ∧ w'.cell? (ad0.add I.toNat) = some (.int .i64 (rd l0 I))) (ds := []) (YA 20 0) (by kernel_rfl) rfl rfl ⟨(Z22 BK6.out 1).trans rfl, (Z22 BK1.out 0).trans rfl, ((FoR.at1 HF.out I Q18 Q24).1.trans (by rw [HRD.out])), ((HB.out.cell (World.block_lt_of_cell? w _ HX0.out)).trans HX0.out)⟩ (fun hHeld => ?_)
     generalize World.drew _ = w9 at BK1 BK2 BK6 HF HB hHeld ⊢
     refine Yq 0 (some 47) (YA 20 1) rfl ?_
     refine Yq 2 (some 49) (YA 20 5) rfl ?_
     refine Ys 1 (some 48) (YA 20 7) rfl hHeld Q9 ?_
     refine Yq 3 (some 50) (YA 20 15) rfl ?_
     refine Ys 4 (some 51) (YA 20 31) rfl hHeld Q9 ?_
     refine Yq 5 (some 52) (YA 20 63) rfl ?_
     refine Yq 6 (some 53) (YA 20 127) rfl ?_
     refine Yq 7 (some 54) (YA 20 255) rfl ?_
     refine Yq 9 (some 56) (YA 20 767) rfl ?_
     refine Yq 12 (some 59) (YA 20 4863) rfl ?_
     refine Yq 14 (some 61) (YA 20 21247) rfl ?_
     refine Ys 8 (some 55) (YA 20 21503) rfl hHeld Q9 ?_
     refine Yq 10 (some 57) (YA 20 22527) rfl ?_
     refine Ys 11 (some 58) (YA 20 24575) rfl hHeld Q9 ?_
     refine Ys 13 (some 60) (YA 20 32767) rfl hHeld Q9 ?_
     refine Yq 15 (some 62) (YA 20 65535) rfl ?_
     refine Ys 16 (some 63) (YA 20 131071) rfl hHeld Q9 ?_
     refine Yq 17 (some 64) (YA 20 262143) rfl ?_
     refine Yq 18 (some 65) (YA 20 524287) rfl ?_
     refine Yq 19 (some 66) (YA 20 1048575) rfl ?_
     refine done_ (by kernel_rfl) ?_
     go_step
     go_step
     go_meet
     case rel => exact ⟨_, rfl, HT, BK1, BK2, BK6, HF, HB⟩
   case rest =>
    clear BK1 BK2 BK6 HF HB
    obtain ⟨t, rfl, HT, BK1, BK2, BK6, HF, HB⟩ := hcut
    cases t
    ·have h := HH.out
     rw [if_neg (fun e => by have h_ := HT.out; rw [Z37 e] at h_; cases h_)] at h
     simp only [Option.some.injEq, Prod.mk.injEq] at h
     obtain ⟨rfl, rfl, rfl, rfl⟩ := h
     have hc0 := (Z22 BK6.out 0).trans rfl
     have hc1 := (Z22 BK6.out 1).trans rfl
     have hc2 := (Z22 BK6.out 2).trans rfl
     have hc3 := (Z22 BK6.out 3).trans rfl
     have hd0 := (Z22 BK2.out 0).trans rfl
     have hf0 := Z23 BK2.out 0
     have hd1 := (Z22 BK2.out 1).trans rfl
     have hf1 := Z23 BK2.out 1
     have hd2 := (Z22 BK2.out 2).trans rfl
     have hf2 := Z23 BK2.out 2
     have hd3 := (Z22 BK2.out 3).trans rfl
     have hf3 := Z23 BK2.out 3
     go_wp2
     refine bodyPost_ret (results_ct rfl _ _ gb2 33 #[.slice (some ⟨g0, 0, none⟩) l0.length k0, .slice (some ⟨g1, 0, none⟩) l1.length k1, .slice (some ⟨g2, 0, none⟩) l2.length k2, .slice (some ⟨g3, 0, none⟩) l3.length k3] (0, 0) _ rfl (set4_at BK2.out _ _ _ _) Try.underlying33 rfl (by kernel_rfl)) rfl ?_
     obtain ⟨q0, q1, q2, q3⟩ := FoR.back (FoR.set4 HF.out BK2.out (by decide) (by decide) (.slice (some ⟨g0, 0, none⟩) l0.length k0) (.slice (some ⟨g1, 0, none⟩) l1.length k1) (.slice (some ⟨g2, 0, none⟩) l2.length k2) (.slice (some ⟨g3, 0, none⟩) l3.length k3))
     simp only [List.length_set] at q0 q1 q2 q3
     exact ⟨.slice (some ⟨g0, 0, none⟩) l0.length k0, .slice (some ⟨g1, 0, none⟩) l1.length k1, .slice (some ⟨g2, 0, none⟩) l2.length k2, .slice (some ⟨g3, 0, none⟩) l3.length k3, by rw [HIE.out]; rfl, q0, q1, q2, q3, set4_below HB.out GE2.out _ _ _ _⟩
    ·have h := HH.out
     rw [if_pos (Z29 HT.out.symm)] at h
     simp only [Option.some.injEq, Prod.mk.injEq] at h
     obtain ⟨rfl, rfl, rfl, rfl⟩ := h
     go_wp2_with fail
     replace BK1 := Ya (Z25 BK1.out)
     replace BK2 := Ya (Z25 BK2.out)
     replace BK6 := Ya (Z25 BK6.out)
     replace HF := Ya (FoR.drew HF.out)
     replace HB := Ya (Z4 HB.out)
     refine start_ (n := 11) (S := fun w' => w'.cell? ⟨gb6, 2, none⟩ = some (.slice (some ⟨g2, 0, none⟩) l2.length k2) ∧ w'.cell? ⟨gb1, 2, none⟩ = some (.slice (some ad2) l2.length c2) ∧ w'.cell? (ad2.add I.toNat) = some (.bool (rdOf false l2 I))) (ds := [10]) (YA 11 0) (by kernel_rfl) rfl rfl ⟨(Z22 BK6.out 2).trans rfl, (Z22 BK1.out 2).trans rfl, ((HB.out.cell (World.block_lt_of_cell? w _ HX2.out)).trans HX2.out)⟩ (fun hHeld => ?_)
     generalize World.drew _ = w9 at BK1 BK2 BK6 HF HB hHeld ⊢
     have hxs := (FoR.at2 HF.out I Q18 Q18).1
     have hzs := (FoR.at2 HF.out I Q18 Q18).2
     refine Yq 0 (some 67) (YA 11 1) rfl ?_
     refine Yq 2 (some 69) (YA 11 5) rfl ?_
     refine Yq 3 (some 70) (YA 11 13) rfl ?_
     refine Yq 5 (some 72) (YA 11 45) rfl ?_
     refine Ys 1 (some 68) (YA 11 47) rfl hHeld Q19 ?_
     refine Ys 4 (some 71) (YA 11 63) rfl hHeld Q19 ?_
     refine Yq 6 (some 73) (YA 11 127) rfl ?_
     refine Ys 7 (some 74) (YA 11 255) rfl hHeld Q19 ?_
     refine Yq 8 (some 75) (YA 11 511) rfl ?_
     refine Yq 9 (some 76) (YA 11 1023) rfl ?_
     refine last_ (i := 10) (N := none) (YA 11 2047) rfl rfl (by kernel_rfl) (by decide) (fun K hK => ?_)
     refine skip_ (w1 := ?_) (by rfl) rfl ?_ ?_
     rotate_left
     ·go_simp
      rfl
     refine hK.out _ _ ?_
     clear hK K
     refine done_ (by kernel_rfl) ?_
     clear hxs hzs
     replace BK1 := Ya (show (World.setCell w9 ⟨g2, I.toNat, none⟩ (.bool (!rdOf false l2 I))).heap[gb1]? = _ from blk_far (p := ⟨g2, I.toNat, none⟩) BK1.out (have n := FoR.apart HF.out BK1.out (by decide) (by decide); n.2.2.1) (.bool (!rdOf false l2 I)))
     replace BK2 := Ya (show (World.setCell w9 ⟨g2, I.toNat, none⟩ (.bool (!rdOf false l2 I))).heap[gb2]? = _ from blk_far (p := ⟨g2, I.toNat, none⟩) BK2.out (have n := FoR.apart HF.out BK2.out (by decide) (by decide); n.2.2.1) (.bool (!rdOf false l2 I)))
     replace BK6 := Ya (show (World.setCell w9 ⟨g2, I.toNat, none⟩ (.bool (!rdOf false l2 I))).heap[gb6]? = _ from blk_far (p := ⟨g2, I.toNat, none⟩) BK6.out (have n := FoR.apart HF.out BK6.out (by decide) (by decide); n.2.2.1) (.bool (!rdOf false l2 I)))
     replace HB := Ya (show Below w.heap.size w (World.setCell w9 ⟨g2, I.toNat, none⟩ (.bool (!rdOf false l2 I))) from Z6 HB.out (FoR.ge HF.out).2.2.1)
     replace HF := Ya (show FoR (World.setCell w9 ⟨g2, I.toNat, none⟩ (.bool (!rdOf false l2 I))) w.heap.size g0 k0 g1 k1 g2 k2 g3 k3 l0 (l1.set I.toNat X) (l2.set I.toNat (!rdOf false l2 I)) (l3.set 0 0) from FoR.put2 HF.out I _)
     generalize World.setCell w9 ⟨g2, I.toNat, none⟩ (.bool (!rdOf false l2 I)) = w10 at BK1 BK2 BK6 HF HB ⊢
     go_wp2_with fail
     replace BK1 := Ya (Z25 BK1.out)
     replace BK2 := Ya (Z25 BK2.out)
     replace BK6 := Ya (Z25 BK6.out)
     replace HF := Ya (FoR.drew HF.out)
     replace HB := Ya (Z4 HB.out)
     refine start_ (n := 11) (S := fun w' => w'.cell? ⟨gb6, 3, none⟩ = some (.slice (some ⟨g3, 0, none⟩) l3.length k3) ∧ w'.cell? ⟨g3, (J + 1).toNat, none⟩ = some (.int .i64 (rd (l3.set 0 0) (J + 1)))) (ds := [10]) (YA 11 0) (by kernel_rfl) rfl rfl ⟨(Z22 BK6.out 3).trans rfl, (FoR.at3 HF.out (J + 1) Q18 Q24).1⟩ (fun hHeld => ?_)
     generalize World.drew _ = w11 at BK1 BK2 BK6 HF HB hHeld ⊢
     have hxs := (FoR.at3 HF.out J Q18 Q24).1
     have hzs := (FoR.at3 HF.out J Q18 Q24).2
     refine Yq 0 (some 77) (YA 11 1) rfl ?_
     refine Yq 2 (some 79) (YA 11 5) rfl ?_
     refine Yq 3 (some 80) (YA 11 13) rfl ?_
     refine Yq 5 (some 82) (YA 11 45) rfl ?_
     refine Yq 6 (some 83) (YA 11 109) rfl ?_
     refine Ys 1 (some 78) (YA 11 111) rfl hHeld Q20 ?_
     refine Ys 4 (some 81) (YA 11 127) rfl hHeld Q20 ?_
     refine Yq 7 (some 84) (YA 11 255) rfl ?_
     refine Ys 8 (some 85) (YA 11 511) rfl hHeld Q20 ?_
     refine Yq 9 (some 86) (YA 11 1023) rfl ?_
     refine last_ (i := 10) (N := none) (YA 11 2047) rfl rfl (by kernel_rfl) (by decide) (fun K hK => ?_)
     refine skip_ (w1 := ?_) (by rfl) rfl ?_ ?_
     rotate_left
     ·go_simp
      rfl
     refine hK.out _ _ ?_
     clear hK K
     refine done_ (by kernel_rfl) ?_
     clear hxs hzs
     replace BK1 := Ya (show (World.setCell w11 ⟨g3, J.toNat, none⟩ (.int .i64 (rd (l3.set 0 0) (J + 1)))).heap[gb1]? = _ from blk_far (p := ⟨g3, J.toNat, none⟩) BK1.out (have n := FoR.apart HF.out BK1.out (by decide) (by decide); n.2.2.2) (.int .i64 (rd (l3.set 0 0) (J + 1))))
     replace BK2 := Ya (show (World.setCell w11 ⟨g3, J.toNat, none⟩ (.int .i64 (rd (l3.set 0 0) (J + 1)))).heap[gb2]? = _ from blk_far (p := ⟨g3, J.toNat, none⟩) BK2.out (have n := FoR.apart HF.out BK2.out (by decide) (by decide); n.2.2.2) (.int .i64 (rd (l3.set 0 0) (J + 1))))
     replace BK6 := Ya (show (World.setCell w11 ⟨g3, J.toNat, none⟩ (.int .i64 (rd (l3.set 0 0) (J + 1)))).heap[gb6]? = _ from blk_far (p := ⟨g3, J.toNat, none⟩) BK6.out (have n := FoR.apart HF.out BK6.out (by decide) (by decide); n.2.2.2) (.int .i64 (rd (l3.set 0 0) (J + 1))))
     replace HB := Ya (show Below w.heap.size w (World.setCell w11 ⟨g3, J.toNat, none⟩ (.int .i64 (rd (l3.set 0 0) (J + 1)))) from Z6 HB.out (FoR.ge HF.out).2.2.2)
     replace HF := Ya (show FoR (World.setCell w11 ⟨g3, J.toNat, none⟩ (.int .i64 (rd (l3.set 0 0) (J + 1)))) w.heap.size g0 k0 g1 k1 g2 k2 g3 k3 l0 (l1.set I.toNat X) (l2.set I.toNat (!rdOf false l2 I)) ((l3.set 0 0).set J.toNat (rd (l3.set 0 0) (J + 1))) from FoR.put3 HF.out J _)
     generalize World.setCell w11 ⟨g3, J.toNat, none⟩ (.int .i64 (rd (l3.set 0 0) (J + 1))) = w12 at BK1 BK2 BK6 HF HB ⊢
     have hc0 := (Z22 BK6.out 0).trans rfl
     have hc1 := (Z22 BK6.out 1).trans rfl
     have hc2 := (Z22 BK6.out 2).trans rfl
     have hc3 := (Z22 BK6.out 3).trans rfl
     have hxs := (FoR.at3 HF.out (J + 1) Q18 Q33).1
     have hzs := (FoR.at3 HF.out (J + 1) Q18 Q33).2
     go_upto_region 15 with fail
     clear hc0 hc1 hc2 hc3 hxs hzs
     replace BK1 := Ya (show (World.setCell w12 ⟨g3, (J + 1).toNat, none⟩ (.int .i64 (J + 1))).heap[gb1]? = _ from blk_far (p := ⟨g3, (J + 1).toNat, none⟩) BK1.out (have n := FoR.apart HF.out BK1.out (by decide) (by decide); n.2.2.2) (.int .i64 (J + 1)))
     replace BK2 := Ya (show (World.setCell w12 ⟨g3, (J + 1).toNat, none⟩ (.int .i64 (J + 1))).heap[gb2]? = _ from blk_far (p := ⟨g3, (J + 1).toNat, none⟩) BK2.out (have n := FoR.apart HF.out BK2.out (by decide) (by decide); n.2.2.2) (.int .i64 (J + 1)))
     replace BK6 := Ya (show (World.setCell w12 ⟨g3, (J + 1).toNat, none⟩ (.int .i64 (J + 1))).heap[gb6]? = _ from blk_far (p := ⟨g3, (J + 1).toNat, none⟩) BK6.out (have n := FoR.apart HF.out BK6.out (by decide) (by decide); n.2.2.2) (.int .i64 (J + 1)))
     replace HB := Ya (show Below w.heap.size w (World.setCell w12 ⟨g3, (J + 1).toNat, none⟩ (.int .i64 (J + 1))) from Z6 HB.out (FoR.ge HF.out).2.2.2)
     replace HF := Ya (show FoR (World.setCell w12 ⟨g3, (J + 1).toNat, none⟩ (.int .i64 (J + 1))) w.heap.size g0 k0 g1 k1 g2 k2 g3 k3 l0 (l1.set I.toNat X) (l2.set I.toNat (!rdOf false l2 I)) (((l3.set 0 0).set J.toNat (rd (l3.set 0 0) (J + 1))).set (J + 1).toNat (J + 1)) from FoR.put3 HF.out (J + 1) _)
     generalize World.setCell w12 ⟨g3, (J + 1).toNat, none⟩ (.int .i64 (J + 1)) = w13 at BK1 BK2 BK6 HF HB ⊢
     have hc0 := (Z22 BK6.out 0).trans rfl
     have hc1 := (Z22 BK6.out 1).trans rfl
     have hc2 := (Z22 BK6.out 2).trans rfl
     have hc3 := (Z22 BK6.out 3).trans rfl
     have hd0 := (Z22 BK2.out 0).trans rfl
     have hf0 := Z23 BK2.out 0
     have hd1 := (Z22 BK2.out 1).trans rfl
     have hf1 := Z23 BK2.out 1
     have hd2 := (Z22 BK2.out 2).trans rfl
     have hf2 := Z23 BK2.out 2
     have hd3 := (Z22 BK2.out 3).trans rfl
     have hf3 := Z23 BK2.out 3
     go_wp2
     refine bodyPost_ret (results_ct rfl _ _ gb2 33 #[.slice (some ⟨g0, 0, none⟩) l0.length k0, .slice (some ⟨g1, 0, none⟩) l1.length k1, .slice (some ⟨g2, 0, none⟩) l2.length k2, .slice (some ⟨g3, 0, none⟩) l3.length k3] (0, 0) _ rfl (set4_at BK2.out _ _ _ _) Try.underlying33 rfl (by kernel_rfl)) rfl ?_
     obtain ⟨q0, q1, q2, q3⟩ := FoR.back (FoR.set4 HF.out BK2.out (by decide) (by decide) (.slice (some ⟨g0, 0, none⟩) l0.length k0) (.slice (some ⟨g1, 0, none⟩) l1.length k1) (.slice (some ⟨g2, 0, none⟩) l2.length k2) (.slice (some ⟨g3, 0, none⟩) l3.length k3))
     simp only [List.length_set] at q0 q1 q2 q3
     exact ⟨.slice (some ⟨g0, 0, none⟩) l0.length k0, .slice (some ⟨g1, 0, none⟩) l1.length k1, .slice (some ⟨g2, 0, none⟩) l2.length k2, .slice (some ⟨g3, 0, none⟩) l3.length k3, by rw [HIE.out]; rfl, q0, q1, q2, q3, set4_below HB.out GE2.out _ _ _ _⟩
def spec_raUpTo.l0 : Nat → Int → List Int → Int → Option (List Int)
 | 0, _, _, _ => none
 | k + 1, x0, x3, x4 => if x4 < x0 then (if x3.length < 17592186044416 then (spec_raUpTo.l0 k x0 (x3 ++ [x4]) (wrap64 (x4 + 1))) else (none)) else (some x3)
def spec_raUpTo.f (k : Nat) (a0 : Int) : Option (List Int) := spec_raUpTo.l0 k a0 ([] : List Int) 0
theorem spec_raUpTo.mono_l : ∀ k, (∀ y0 y1 y2, LeO (spec_raUpTo.l0 k y0 y1 y2) (spec_raUpTo.l0 (k + 1) y0 y1 y2))
 | 0 => fun _ _ _ r h => by simp [spec_raUpTo.l0] at h
 | k + 1 => by
  have ih0 := spec_raUpTo.mono_l k
  ·intro y0 y1 y2
   unfold spec_raUpTo.l0
   repeat' first
   | (with_reducible exact ih0 _ _ _)
   | (with_reducible exact LeO.refl _)
   | (with_reducible exact LeO.none _)
   | (with_reducible refine LeO.ite ?_ ?_)
   | (with_reducible refine LeO.bind ?_ (fun _ => ?_))
   | exact ih0 _ _ _
   | exact LeO.none _
   | refine LeO.ite ?_ ?_
   | refine LeO.bind ?_ (fun _ => ?_)
theorem spec_raUpTo.mono : ∀ a0 k, LeO (spec_raUpTo.f k a0) (spec_raUpTo.f (k + 1) a0) := by
 intro a0 k
 have ih0 := spec_raUpTo.mono_l k
 unfold spec_raUpTo.f
 repeat' first
   | (with_reducible exact ih0 _ _ _)
   | (with_reducible exact LeO.refl _)
   | (with_reducible exact LeO.none _)
   | (with_reducible refine LeO.ite ?_ ?_)
   | (with_reducible refine LeO.bind ?_ (fun _ => ?_))
   | exact ih0 _ _ _
   | exact LeO.none _
   | refine LeO.ite ?_ ?_
   | refine LeO.bind ?_ (fun _ => ?_)
set_option maxHeartbeats 8000000 in
set_option maxRecDepth 100000 in
theorem spec_raUpTo.calls (k : Nat) (a0 : Int) (r : List Int) (w : World) (h : spec_raUpTo.f k a0 = some r) :
  Calls Try.prog 72 #[.int .i64 a0] w fun e w' => ∃ v0_ : Value, e = .returned (v0_) ∧ Kd.R (Kd.int .i64) 3 w' w.heap.size (fun _ => True) v0_ r ∧ Below w.heap.size w w' := by
 have HB := Ya (Below.refl w.heap.size w)
 have H : (spec_raUpTo.l0 k a0 ([] : List Int) 0) = some r := h
 clear h
 have H' := Ya H
 clear H
 go_enter Try.func72, Try.ntmps72
 go_wp2
 go_loopg [3, 4] k (fun kq v3 v4 w' => ∃ (x3_1 : List Int) (x4_1 : Int), v4 = .int .i64 x4_1 ∧ Aside0 (spec_raUpTo.l0 kq a0 x3_1 x4_1 = some r) ∧ Aside0 (kq ≤ k) ∧ Aside0 (Kd.R (Kd.int .i64) 3 w' w.heap.size (fun _ => True) v3 x3_1) ∧ Aside0 (Below w.heap.size w w'))
 case atStart => exact ⟨(([] : List Int)), (0), Q8, H', ⟨Nat.le_refl _⟩, ⟨Q4⟩, ⟨Q12⟩⟩
 case round =>
  clear H'
  obtain ⟨x3_1, x4_1, rfl, HA, HK1, HO_3, HB⟩ := hrel
  cases gk with
  | zero => exact absurd HA.out (by simp [spec_raUpTo.l0])
  | succ k1 =>
   have H := HA.out
   clear HA
   simp only [spec_raUpTo.l0] at H
   by_cases c2 : x4_1 < a0
   ·rw [if_pos c2] at H
    have c2b0 := Z37 c2
    clear c2
    by_cases c3 : x3_1.length < 17592186044416
    ·rw [if_pos c3] at H
     have LMc3 := Ya c3
     clear c3
     obtain ⟨y259, hy259⟩ : ∃ y_ : List Int, y_ = (x3_1 ++ [x4_1]) := ⟨_, rfl⟩
     replace H : (spec_raUpTo.l0 k1 a0 y259 (wrap64 (x4_1 + 1))) = some r := by first | (rw [hy259]; with_reducible exact H) | (have H2_ := (Option.bind_some _ _).symm.trans H; rw [hy259]; with_reducible exact H2_) | (have H2_ := (Option.bind_some _ _).symm.trans H; with_reducible exact H2_) | with_reducible exact H | (rw [hy259]; exact H) | exact H
     have Ny259 := Ya hy259
     clear hy259
     have H' := Ya H
     clear H
     go_wp2_with (first | ((with_reducible refine gate_builtin (b := .append) (xs := #[.tmp 10, .tmp 12]) rfl ?_); at_builtin; refine Kd.R_append (Kd.int .i64) (w0 := w) w.heap.size rfl (.tmp 10) (.tmp 12) 24 3 (.int .i64 0) 8 rfl Try.underlying24 info3 rfl (by decide) (by omega) u3 x3_1 x4_1 [.int .i64 x4_1] (fun _ => True) (fun _ => False) rfl rfl ?aP (fun _ hk => hk.elim) ?aF ?aO ?aB ?aS ?aL ?_; (case aP => exact rfl); (case aB => exact Q0); (case aF => exact (fun _ _ => trivial)); (case aO => exact (Yr HO_3.out)); (case aS => exact (Z7 Q0)); (case aL => have := LMc3.out; omega); intro v260 w4 ho hb hg hat; rw [← Ny259.out] at ho; replace HB := Ya hb; have HO261 := Ya ho; clear HO_3; clear ho hb hg hat))
     go_roundg k1
     case measure => have := HK1.out; omega
     case rel => exact ⟨(y259), (wrap64 (x4_1 + 1)), Q8, H', ⟨Q23⟩, ⟨by (with_reducible repeat (first | apply Z8 | apply Z9 | apply Z10)); exact HO261.out⟩, ⟨Q12⟩⟩
    ·rw [if_neg c3] at H
     exact absurd H (by simp)
   ·rw [if_neg c2] at H
    have c2b0 := Z36 c2
    clear c2
    obtain rfl := Option.some.inj H
    go_wp2
    go_ret
    exact ⟨_, Q1, Q35, Q12⟩
def spec_foStart.l0 : Nat → Int → Int → List Int → List Int → List Bool → List Int → Option (List Int × List Int × List Bool × List Int)
 | 0, _, _, _, _, _, _ => none
 | k + 1, x15, x16, x273000, x273001, x273002, x273003 => if x16 < x15 then (if x273002.length < 140737488355328 then (spec_foStart.l0 k x15 (wrap64 (x16 + 1)) x273000 x273001 (x273002 ++ [true]) x273003) else (none)) else (some (x273000, x273001, x273002, x273003))
def spec_foStart.f (k : Nat) (l0 : List Int) : Option (List Int × List Int × List Bool × List Int) := (spec_l1Own.f l0).bind fun t263 => (if 0 ≤ (l0.length : Int) then (if ((l0.length : Int) : Int).toNat ≤ 35184372088832 then ((spec_raUpTo.f k (wrap64 ((l0.length : Int) + 1))).bind fun t269 => (spec_foStart.l0 k (l0.length : Int) 0 t263 (List.replicate ((l0.length : Int) : Int).toNat 0) ([] : List Bool) t269)) else (none)) else (none))
theorem spec_foStart.mono_l : ∀ k, (∀ y0 y1 y2 y3 y4 y5, LeO (spec_foStart.l0 k y0 y1 y2 y3 y4 y5) (spec_foStart.l0 (k + 1) y0 y1 y2 y3 y4 y5))
 | 0 => fun _ _ _ _ _ _ r h => by simp [spec_foStart.l0] at h
 | k + 1 => by
  have ih0 := spec_foStart.mono_l k
  ·intro y0 y1 y2 y3 y4 y5
   unfold spec_foStart.l0
   repeat' first
   | (with_reducible exact ih0 _ _ _ _ _ _)
   | (with_reducible exact spec_raUpTo.mono _ _)
   | (with_reducible exact LeO.refl _)
   | (with_reducible exact LeO.none _)
   | (with_reducible refine LeO.ite ?_ ?_)
   | (with_reducible refine LeO.bind ?_ (fun _ => ?_))
   | exact ih0 _ _ _ _ _ _
   | exact spec_raUpTo.mono _ _
   | exact LeO.none _
   | refine LeO.ite ?_ ?_
   | refine LeO.bind ?_ (fun _ => ?_)
theorem spec_foStart.mono : ∀ a0 k, LeO (spec_foStart.f k a0) (spec_foStart.f (k + 1) a0) := by
 intro a0 k
 have ih0 := spec_foStart.mono_l k
 unfold spec_foStart.f
 repeat' first
   | (with_reducible exact ih0 _ _ _ _ _ _)
   | (with_reducible exact spec_raUpTo.mono _ _)
   | (with_reducible exact LeO.refl _)
   | (with_reducible exact LeO.none _)
   | (with_reducible refine LeO.ite ?_ ?_)
   | (with_reducible refine LeO.bind ?_ (fun _ => ?_))
   | exact ih0 _ _ _ _ _ _
   | exact spec_raUpTo.mono _ _
   | exact LeO.none _
   | refine LeO.ite ?_ ?_
   | refine LeO.bind ?_ (fun _ => ?_)
def spec_foStart.T1 : Bool × List (List Nat × List Nat) := (true, [([], []), ([0], [0]), ([], []), ([2], [2]), ([3, 3], [3]), ([], []), ([5], [5]), ([6], [6]), ([7, 1], [7]), ([1, 4, 8], [1, 4, 8]), ([], []), ([10, 9, 8, 0, 1, 2, 3, 4, 5, 6, 7, 8, 9, 10], [9, 10])])
def spec_foStart.B1 : List Nat := [0, 1, 0, 4, 12, 0, 32, 96, 227, 511, 0, 2047]
theorem spec_foStart.tab1 : rtab .any (opsOf Try.f58 1) = spec_foStart.T1 := by kernel_rfl
theorem spec_foStart.bits1 : waitsOk spec_foStart.T1.2 spec_foStart.B1 = true := by kernel_rfl
set_option maxHeartbeats 8000000 in
set_option maxRecDepth 100000 in
theorem spec_foStart.calls (k : Nat) (A0 : Option Addr) (c0 : Nat) (l0 : List Int) (r1 : List Int) (r2 : List Int) (r3 : List Bool) (r4 : List Int) (w : World) (hr0 : Kd.C (Kd.int .i64) w A0 l0.length l0) (hc0 : l0.length ≤ c0) (h : spec_foStart.f k l0 = some (r1, r2, r3, r4)) :
  Calls Try.prog 58 #[.slice A0 l0.length c0] w fun e w' => ∃ v0_ v1_ v2_ v3_ : Value, e = .returned (.agg #[v0_, v1_, v2_, v3_]) ∧ Kd.R (Kd.int .i64) 3 w' w.heap.size (fun k_ => some k_ ≠ (v1_ : Value).ownBlock ∧ some k_ ≠ (v3_ : Value).ownBlock) v0_ r1 ∧ Kd.R (Kd.int .i64) 3 w' w.heap.size (fun k_ => some k_ ≠ (v0_ : Value).ownBlock ∧ some k_ ≠ (v3_ : Value).ownBlock) v1_ r2 ∧ Kd.R Kd.bool 4 w' w.heap.size (fun _ => True) v2_ r3 ∧ Kd.R (Kd.int .i64) 3 w' w.heap.size (fun k_ => some k_ ≠ (v0_ : Value).ownBlock ∧ some k_ ≠ (v1_ : Value).ownBlock) v3_ r4 ∧ Below w.heap.size w w' := by
 have hu33 := Try.underlying33
 have HR0 := Ya hr0
 have HC0 := Ya hc0
 clear hr0 hc0
 have HB := Ya (Below.refl w.heap.size w)
 have H : ((spec_l1Own.f l0).bind fun t263 => (if 0 ≤ (l0.length : Int) then (if ((l0.length : Int) : Int).toNat ≤ 35184372088832 then ((spec_raUpTo.f k (wrap64 ((l0.length : Int) + 1))).bind fun t269 => (spec_foStart.l0 k (l0.length : Int) 0 t263 (List.replicate ((l0.length : Int) : Int).toNat 0) ([] : List Bool) t269)) else (none)) else (none))) = some (r1, r2, r3, r4) := h
 clear h
 replace H := Z35.mp H
 obtain ⟨t263, A20, H⟩ := H
 replace H : (if 0 ≤ (l0.length : Int) then (if ((l0.length : Int) : Int).toNat ≤ 35184372088832 then ((spec_raUpTo.f k (wrap64 ((l0.length : Int) + 1))).bind fun t269 => (spec_foStart.l0 k (l0.length : Int) 0 t263 (List.replicate ((l0.length : Int) : Int).toNat 0) ([] : List Bool) t269)) else (none)) else (none)) = some (r1, r2, r3, r4) := H
 have A2 := Ya A20
 clear A20
 by_cases c3 : 0 ≤ (l0.length : Int)
 ·rw [if_pos c3] at H
  have c3b0 := eq_true c3
  have c3b1 := Z37 c3
  have HLEc3 := Ya c3
  clear c3
  by_cases c4 : ((l0.length : Int) : Int).toNat ≤ 35184372088832
  ·rw [if_pos c4] at H
   have c4b0 := eq_true c4
   have c4b1 := Z37 c4
   clear c4
   obtain ⟨y266, hy266⟩ : ∃ y_ : List Int, y_ = (List.replicate ((l0.length : Int) : Int).toNat 0) := ⟨_, rfl⟩
   replace H : ((spec_raUpTo.f k (wrap64 ((l0.length : Int) + 1))).bind fun t269 => (spec_foStart.l0 k (l0.length : Int) 0 t263 y266 ([] : List Bool) t269)) = some (r1, r2, r3, r4) := by first | (rw [hy266]; with_reducible exact H) | (have H2_ := (Option.bind_some _ _).symm.trans H; rw [hy266]; with_reducible exact H2_) | (have H2_ := (Option.bind_some _ _).symm.trans H; with_reducible exact H2_) | with_reducible exact H | (rw [hy266]; exact H) | exact H
   have Ny266 := Ya hy266
   clear hy266
   replace H := Z35.mp H
   obtain ⟨t269, A50, H⟩ := H
   replace H : (spec_foStart.l0 k (l0.length : Int) 0 t263 y266 ([] : List Bool) t269) = some (r1, r2, r3, r4) := H
   have A5 := Ya A50
   clear A50
   have H' := Ya H
   clear H
   go_enter Try.func58, Try.ntmps58
   try go_wp2_with (first | ((with_reducible refine gate_dst (N := 2) rfl ?_); refine Yx 2 YN4 33 ?_; intro gb262 hg w6 hbox hb; have BK262 := Ya hbox; have GW262 := Yg hg; have GE262 := GW262; replace HB := Yh hb; clear hb hbox hg))
   replace BK262 := Ya (Z25 BK262.out)
   replace HB := Ya (Z4 HB.out)
   refine start_ (n := 12) (S := fun w' => True) (ds := []) (YA 12 0) (by kernel_rfl) rfl rfl trivial (fun hHeld => ?_); refine with_tabW spec_foStart.tab1 spec_foStart.bits1 (fun HT_ HW_ => ?_)
   generalize w6.drew = w7 at BK262 HB hHeld ⊢
   refine Yp 0 (some 4) (YA 12 1) rfl HT_.out ?_
   refine Yp 2 (some 6) (YA 12 5) rfl HT_.out ?_
   refine Yp 3 (some 7) (YA 12 13) rfl HT_.out ?_
   refine Yp 5 (some 9) (YA 12 45) rfl HT_.out ?_
   refine Yp 6 (some 10) (YA 12 109) rfl HT_.out ?_
   refine Yp 7 (some 11) (YA 12 237) rfl HT_.out ?_
   refine join_ (σ := Value × Value × Value × Nat) 1 (YA 12 2047) (fun s_ => [(5, s_.1), (8, s_.2.1), (12, s_.2.2.1), (3, .pointer (some ⟨s_.2.2.2, 0, none⟩)), (13, .agg #[s_.1, s_.2.1, .slice none 0 0, s_.2.2.1])]) (fun s_ w' => (Kd.R (Kd.int .i64) 3 w' w.heap.size (fun k_ => some k_ ≠ (s_.2.1 : Value).ownBlock ∧ some k_ ≠ (s_.2.2.1 : Value).ownBlock) s_.1 t263) ∧ (Kd.R (Kd.int .i64) 3 w' w.heap.size (fun k_ => some k_ ≠ (s_.1 : Value).ownBlock ∧ some k_ ≠ (s_.2.2.1 : Value).ownBlock) s_.2.1 y266) ∧ (Kd.R (Kd.int .i64) 3 w' w.heap.size (fun k_ => some k_ ≠ (s_.1 : Value).ownBlock ∧ some k_ ≠ (s_.2.1 : Value).ownBlock) s_.2.2.1 t269) ∧ (w'.heap[gb262]? = some (.cells YN4 33 (0, 0))) ∧ (w'.heap[s_.2.2.2]? = some (.cells YN4 33 (0, 0))) ∧ (w.heap.size ≤ s_.2.2.2) ∧ (w.heap.size ≤ s_.2.2.2) ∧ (gb262 ≠ s_.2.2.2) ∧ (s_.2.2.2 ≠ gb262) ∧ (Below w.heap.size w w')) ?_ ?_
   rotate_left
   ·intro hJ1_4_8_10
    refine join_ (σ := Value × Value × Value) 2 (YA 12 1023) (fun s_ => [(5, s_.1), (8, s_.2.1), (12, s_.2.2), (13, .agg #[s_.1, s_.2.1, .slice none 0 0, s_.2.2])]) (fun s_ w' => (Kd.R (Kd.int .i64) 3 w' w.heap.size (fun k_ => some k_ ≠ (s_.2.1 : Value).ownBlock ∧ some k_ ≠ (s_.2.2 : Value).ownBlock) s_.1 t263) ∧ (Kd.R (Kd.int .i64) 3 w' w.heap.size (fun k_ => some k_ ≠ (s_.1 : Value).ownBlock ∧ some k_ ≠ (s_.2.2 : Value).ownBlock) s_.2.1 y266) ∧ (Kd.R (Kd.int .i64) 3 w' w.heap.size (fun k_ => some k_ ≠ (s_.1 : Value).ownBlock ∧ some k_ ≠ (s_.2.1 : Value).ownBlock) s_.2.2 t269) ∧ (w'.heap[gb262]? = some (.cells YN4 33 (0, 0))) ∧ (Below w.heap.size w w')) ?_ ?_
    rotate_left
    ·intro hJ1_4_8
     refine join_ (σ := Value × Value × Nat) 3 (YA 12 1279) (fun s_ => [(5, s_.1), (8, s_.2.1), (3, .pointer (some ⟨s_.2.2, 0, none⟩))]) (fun s_ w' => (Kd.R (Kd.int .i64) 3 w' w.heap.size (fun k_ => some k_ ≠ (s_.2.1 : Value).ownBlock) s_.1 t263) ∧ (Kd.R (Kd.int .i64) 3 w' w.heap.size (fun k_ => some k_ ≠ (s_.1 : Value).ownBlock) s_.2.1 y266) ∧ (w'.heap[gb262]? = some (.cells YN4 33 (0, 0))) ∧ (w'.heap[s_.2.2]? = some (.cells YN4 33 (0, 0))) ∧ (w.heap.size ≤ s_.2.2) ∧ (w.heap.size ≤ s_.2.2) ∧ (gb262 ≠ s_.2.2) ∧ (s_.2.2 ≠ gb262) ∧ (Below w.heap.size w w')) ?_ ?_
     rotate_left
     ·intro hJ1_4_10
      refine join_ (σ := Value × Value × Nat) 3 (YA 12 1519) (fun s_ => [(5, s_.1), (12, s_.2.1), (3, .pointer (some ⟨s_.2.2, 0, none⟩))]) (fun s_ w' => (Kd.R (Kd.int .i64) 3 w' w.heap.size (fun k_ => some k_ ≠ (s_.2.1 : Value).ownBlock) s_.1 t263) ∧ (Kd.R (Kd.int .i64) 3 w' w.heap.size (fun k_ => some k_ ≠ (s_.1 : Value).ownBlock) s_.2.1 t269) ∧ (w'.heap[gb262]? = some (.cells YN4 33 (0, 0))) ∧ (w'.heap[s_.2.2]? = some (.cells YN4 33 (0, 0))) ∧ (w.heap.size ≤ s_.2.2) ∧ (w.heap.size ≤ s_.2.2) ∧ (gb262 ≠ s_.2.2) ∧ (s_.2.2 ≠ gb262) ∧ (Below w.heap.size w w')) ?_ ?_
      rotate_left
      ·intro hJ1_8_10
       refine join_ (σ := Value × Value) 4 (YA 12 255) (fun s_ => [(5, s_.1), (8, s_.2)]) (fun s_ w' => (Kd.R (Kd.int .i64) 3 w' w.heap.size (fun k_ => some k_ ≠ (s_.2 : Value).ownBlock) s_.1 t263) ∧ (Kd.R (Kd.int .i64) 3 w' w.heap.size (fun k_ => some k_ ≠ (s_.1 : Value).ownBlock) s_.2 y266) ∧ (w'.heap[gb262]? = some (.cells YN4 33 (0, 0))) ∧ (Below w.heap.size w w')) ?_ ?_
       rotate_left
       ·intro hJ1_4
        refine join_ (σ := Value × Value) 4 (YA 12 495) (fun s_ => [(5, s_.1), (12, s_.2)]) (fun s_ w' => (Kd.R (Kd.int .i64) 3 w' w.heap.size (fun k_ => some k_ ≠ (s_.2 : Value).ownBlock) s_.1 t263) ∧ (Kd.R (Kd.int .i64) 3 w' w.heap.size (fun k_ => some k_ ≠ (s_.1 : Value).ownBlock) s_.2 t269) ∧ (w'.heap[gb262]? = some (.cells YN4 33 (0, 0))) ∧ (Below w.heap.size w w')) ?_ ?_
        rotate_left
        ·intro hJ1_8
         refine join_ (σ := Value × Nat) 4 (YA 12 1263) (fun s_ => [(5, s_.1), (3, .pointer (some ⟨s_.2, 0, none⟩))]) (fun s_ w' => (Kd.R (Kd.int .i64) 3 w' w.heap.size (fun _ => True) s_.1 t263) ∧ (w'.heap[gb262]? = some (.cells YN4 33 (0, 0))) ∧ (w'.heap[s_.2]? = some (.cells YN4 33 (0, 0))) ∧ (w.heap.size ≤ s_.2) ∧ (w.heap.size ≤ s_.2) ∧ (gb262 ≠ s_.2) ∧ (s_.2 ≠ gb262) ∧ (Below w.heap.size w w')) ?_ ?_
         rotate_left
         ·intro hJ1_10
          refine join_ (σ := Value × Nat) 4 (YA 12 1277) (fun s_ => [(8, s_.1), (3, .pointer (some ⟨s_.2, 0, none⟩))]) (fun s_ w' => (Kd.R (Kd.int .i64) 3 w' w.heap.size (fun _ => True) s_.1 y266) ∧ (w'.heap[gb262]? = some (.cells YN4 33 (0, 0))) ∧ (w'.heap[s_.2]? = some (.cells YN4 33 (0, 0))) ∧ (w.heap.size ≤ s_.2) ∧ (w.heap.size ≤ s_.2) ∧ (gb262 ≠ s_.2) ∧ (s_.2 ≠ gb262) ∧ (Below w.heap.size w w')) ?_ ?_
          rotate_left
          ·intro hJ4_10
           refine join_ (σ := Value) 5 (YA 12 239) (fun s_ => [(5, s_)]) (fun s_ w' => (Kd.R (Kd.int .i64) 3 w' w.heap.size (fun _ => True) s_ t263) ∧ (w'.heap[gb262]? = some (.cells YN4 33 (0, 0))) ∧ (Below w.heap.size w w')) ?_ ?_
           rotate_left
           ·intro hJ1
            refine join_ (σ := Value) 5 (YA 12 253) (fun s_ => [(8, s_)]) (fun s_ w' => (Kd.R (Kd.int .i64) 3 w' w.heap.size (fun _ => True) s_ y266) ∧ (w'.heap[gb262]? = some (.cells YN4 33 (0, 0))) ∧ (Below w.heap.size w w')) ?_ ?_
            rotate_left
            ·intro hJ4
             refine join_ (σ := Nat) 5 (YA 12 1261) (fun s_ => [(3, .pointer (some ⟨s_, 0, none⟩))]) (fun s_ w' => (w'.heap[gb262]? = some (.cells YN4 33 (0, 0))) ∧ (w'.heap[s_]? = some (.cells YN4 33 (0, 0))) ∧ (w.heap.size ≤ s_) ∧ (w.heap.size ≤ s_) ∧ (gb262 ≠ s_) ∧ (s_ ≠ gb262) ∧ (Below w.heap.size w w')) ?_ ?_
             rotate_left
             ·intro hJ10
              refine three_ (i := 1) (j := 4) (k := 10) (Ni := some 5) (Nj := some 8) (Nk := some 3) (YA 12 239) (YA 12 253) (YA 12 1261) rfl rfl rfl rfl rfl rfl (three_of HT_.out (by kernel_rfl)) (by decide) (by decide) (by decide) (fun K hK => ?_) (fun K hK => ?_) (fun K hK => ?_)
              ·skip
               refine goes_ Try.func71 (by kernel_rfl) rfl #[.slice A0 l0.length c0] (by rfl) rfl rfl Q10 ?_
               with_reducible refine (spec_l1Own.calls _ _ l0 t263 _ ?side1 ?side2 A2.out).mono ?_
               (case side1 => exact Yc (Z21 HR0.out HB.out))
               (case side2 => exact HC0.out)
               rintro e w8 ⟨v264, rfl, ho0, hb⟩
               refine ⟨_, rfl, ?_⟩
               have HO265 := Yl ho0
               replace BK262 := Yb BK262 hb
               replace HB := Yh hb
               (try clear hb ho0)
               refine hK.out _ _ trivial (fun hHeld => ?_)
               clear hK K
               refine norm_ (a' := ?_) ?_ ?_
               rotate_left
               ·show Act.put _ (some 5) _ = _
                simp only [Act.put, Z0, Z1, Z2, i64_w, i32_w]
                rfl
               exact norm_ Q6 (hJ1 (v264) _ ⟨(Yr HO265.out), (Yk BK262.out), Q0⟩)
              ·skip
               refine Kd.R_make_step (Kd.int .i64) _ 3 (by rfl) (N := 8) rfl 24 _ _ rfl (l0.length : Int) rfl rfl Try.underlying24 (.int .i64 0) 8 info3 rfl (by decide) (by omega) 0 (ok := fun _ => True) (okp := fun _ => True) rfl (fun _ hk => hk) trivial (Z29 Q3) (Nat.le_trans (Nat.mul_le_mul_right _ (Z29 Q3 : (l0.length : Int).toNat ≤ 35184372088832)) (by omega)) (Below.refl _ _) (Nat.le_refl _) ?_
               intro v267 w8 ho9 hb hg_ hnew_
               clear hg_ hnew_
               (first | rw [← Ny266.out] at ho9 | (simp only [Int.reduceToNat] at ho9; rw [← Ny266.out] at ho9))
               have HO268 := Yl ho9
               replace BK262 := Yb BK262 hb
               replace HB := Yh hb
               clear hb ho9
               refine hK.out _ _ trivial (fun hHeld => ?_)
               clear hK K
               refine norm_ (a' := ?_) ?_ ?_
               rotate_left
               ·show Act.put _ (some 8) _ = _
                simp only [Act.put, Z0, Z1, Z2, i64_w, i32_w]
                rfl
               exact norm_ Q6 (hJ4 (v267) _ ⟨(Yr HO268.out), (Yk BK262.out), Q0⟩)
              ·skip
               refine Yy 3 YN4 33 ?_
               intro gb272 hg w8 hbox hb
               have BK272 := Ya hbox
               have GW272 := Yg hg
               have GE272 := GW272
               replace HB := Yh hb
               have NB262_272 := Yn BK262 hg
               have NB272_262 := Ym BK262 hg
               replace BK262 := Yb BK262 hb
               clear hb hbox hg
               refine hK.out _ _ trivial (fun hHeld => ?_)
               clear hK K
               refine norm_ (a' := ?_) ?_ ?_
               rotate_left
               ·show Act.put _ (some 3) _ = _
                simp only [Act.put, Z0, Z1, Z2, i64_w, i32_w]
                rfl
               exact norm_ Q6 (hJ10 (gb272) _ ⟨(Yk BK262.out), (Yk BK272.out), GW272.out, GE272.out, NB262_272.out, NB272_262.out, Q0⟩)
             ·skip
              rintro gb272 w9 ⟨h0_, h1_, h2_, h3_, h4_, h5_, h6_⟩
              replace BK262 : Aside0 (w9.heap[gb262]? = some (.cells YN4 33 (0, 0))) := ⟨h0_⟩
              have BK272 : Aside0 (w9.heap[gb272]? = some (.cells YN4 33 (0, 0))) := ⟨h1_⟩
              have GW272 : Aside0 (w.heap.size ≤ gb272) := ⟨h2_⟩
              have GE272 : Aside0 (w.heap.size ≤ gb272) := ⟨h3_⟩
              have NB262_272 : Aside0 (gb262 ≠ gb272) := ⟨h4_⟩
              have NB272_262 : Aside0 (gb272 ≠ gb262) := ⟨h5_⟩
              replace HB : Aside0 (Below w.heap.size w w9) := ⟨h6_⟩
              clear h0_ h1_ h2_ h3_ h4_ h5_ h6_
              have hHeld := trivial
              refine norm_ (a' := ?_) ?_ ?_
              rotate_left
              ·simp only [putAll, Act.put, Z0, Z1, Z2]
               rfl
              refine two_ (i := 1) (j := 4) (Ni := some 5) (Nj := some 8) (YA 12 1263) (YA 12 1277) rfl rfl rfl rfl (two_of HT_.out (by kernel_rfl)) (by decide) (by decide) (fun K hK => ?_) (fun K hK => ?_)
              ·skip
               refine goes_ Try.func71 (by kernel_rfl) rfl #[.slice A0 l0.length c0] (by rfl) rfl rfl Q10 ?_
               with_reducible refine (spec_l1Own.calls _ _ l0 t263 _ ?side1 ?side2 A2.out).mono ?_
               (case side1 => exact Yc (Z21 HR0.out HB.out))
               (case side2 => exact HC0.out)
               rintro e w10 ⟨v264, rfl, ho0, hb⟩
               refine ⟨_, rfl, ?_⟩
               have HO265 := Yl ho0
               replace BK262 := Yb BK262 hb
               replace BK272 := Yb BK272 hb
               replace HB := Yh hb
               (try clear hb ho0)
               refine hK.out _ _ trivial (fun hHeld => ?_)
               clear hK K
               refine norm_ (a' := ?_) ?_ ?_
               rotate_left
               ·show Act.put _ (some 5) _ = _
                simp only [Act.put, Z0, Z1, Z2, i64_w, i32_w]
                rfl
               exact norm_ Q6 (hJ1_10 (v264, gb272) _ ⟨(Yr HO265.out), (Yk BK262.out), (Yk BK272.out), GW272.out, GE272.out, NB262_272.out, NB272_262.out, Q0⟩)
              ·skip
               refine Kd.R_make_step (Kd.int .i64) _ 3 (by rfl) (N := 8) rfl 24 _ _ rfl (l0.length : Int) rfl rfl Try.underlying24 (.int .i64 0) 8 info3 rfl (by decide) (by omega) 0 (ok := fun _ => True) (okp := fun _ => True) rfl (fun _ hk => hk) trivial (Z29 Q3) (Nat.le_trans (Nat.mul_le_mul_right _ (Z29 Q3 : (l0.length : Int).toNat ≤ 35184372088832)) (by omega)) (Below.refl _ _) (Nat.le_refl _) ?_
               intro v267 w10 ho11 hb hg_ hnew_
               clear hg_ hnew_
               (first | rw [← Ny266.out] at ho11 | (simp only [Int.reduceToNat] at ho11; rw [← Ny266.out] at ho11))
               have HO268 := Yl ho11
               replace BK262 := Yb BK262 hb
               replace BK272 := Yb BK272 hb
               replace HB := Yh hb
               clear hb ho11
               refine hK.out _ _ trivial (fun hHeld => ?_)
               clear hK K
               refine norm_ (a' := ?_) ?_ ?_
               rotate_left
               ·show Act.put _ (some 8) _ = _
                simp only [Act.put, Z0, Z1, Z2, i64_w, i32_w]
                rfl
               exact norm_ Q6 (hJ4_10 (v267, gb272) _ ⟨(Yr HO268.out), (Yk BK262.out), (Yk BK272.out), GW272.out, GE272.out, NB262_272.out, NB272_262.out, Q0⟩)
            ·skip
             rintro v267 w10 ⟨h0_, h1_, h2_⟩
             have HO268 : Aside0 (Kd.R (Kd.int .i64) 3 w10 w.heap.size (fun _ => True) v267 y266) := ⟨h0_⟩
             replace BK262 : Aside0 (w10.heap[gb262]? = some (.cells YN4 33 (0, 0))) := ⟨h1_⟩
             replace HB : Aside0 (Below w.heap.size w w10) := ⟨h2_⟩
             clear h0_ h1_ h2_
             have hHeld := trivial
             refine norm_ (a' := ?_) ?_ ?_
             rotate_left
             ·simp only [putAll, Act.put, Z0, Z1, Z2]
              rfl
             refine two_ (i := 1) (j := 10) (Ni := some 5) (Nj := some 3) (YA 12 255) (YA 12 1277) rfl rfl rfl rfl (two_of HT_.out (by kernel_rfl)) (by decide) (by decide) (fun K hK => ?_) (fun K hK => ?_)
             ·skip
              refine goes_ Try.func71 (by kernel_rfl) rfl #[.slice A0 l0.length c0] (by rfl) rfl rfl Q10 ?_
              with_reducible refine (spec_l1Own.calls _ _ l0 t263 _ ?side1 ?side2 A2.out).mono ?_
              (case side1 => exact Yc (Z21 HR0.out HB.out))
              (case side2 => exact HC0.out)
              rintro e w11 ⟨v264, rfl, ho0, hb⟩
              refine ⟨_, rfl, ?_⟩
              have HO265 := Yl (Kd.R_new' ho0 (Z16 (Yr HO268.out)))
              replace HO268 := Ya (Kd.R_elder' (Yr HO268.out) (Kd.R_base ho0) hb)
              replace BK262 := Yb BK262 hb
              replace HB := Yh hb
              (try clear hb ho0)
              refine hK.out _ _ trivial (fun hHeld => ?_)
              clear hK K
              refine norm_ (a' := ?_) ?_ ?_
              rotate_left
              ·show Act.put _ (some 5) _ = _
               simp only [Act.put, Z0, Z1, Z2, i64_w, i32_w]
               rfl
              exact norm_ Q6 (hJ1_4 (v264, v267) _ ⟨(Yj HO265.out (fun _ hk => hk.2)), (Yj HO268.out (fun _ hk => hk.2)), (Yk BK262.out), Q0⟩)
             ·skip
              refine Yy 3 YN4 33 ?_
              intro gb272 hg w11 hbox hb
              replace HO268 := Yw HO268 hb
              have BK272 := Ya hbox
              have GW272 := Yg hg
              have GE272 := GW272
              replace HB := Yh hb
              have NB262_272 := Yn BK262 hg
              have NB272_262 := Ym BK262 hg
              replace BK262 := Yb BK262 hb
              clear hb hbox hg
              refine hK.out _ _ trivial (fun hHeld => ?_)
              clear hK K
              refine norm_ (a' := ?_) ?_ ?_
              rotate_left
              ·show Act.put _ (some 3) _ = _
               simp only [Act.put, Z0, Z1, Z2, i64_w, i32_w]
               rfl
              exact norm_ Q6 (hJ4_10 (v267, gb272) _ ⟨(Yr HO268.out), (Yk BK262.out), (Yk BK272.out), GW272.out, GE272.out, NB262_272.out, NB272_262.out, Q0⟩)
           ·skip
            rintro v264 w9 ⟨h0_, h1_, h2_⟩
            have HO265 : Aside0 (Kd.R (Kd.int .i64) 3 w9 w.heap.size (fun _ => True) v264 t263) := ⟨h0_⟩
            replace BK262 : Aside0 (w9.heap[gb262]? = some (.cells YN4 33 (0, 0))) := ⟨h1_⟩
            replace HB : Aside0 (Below w.heap.size w w9) := ⟨h2_⟩
            clear h0_ h1_ h2_
            have hHeld := trivial
            refine norm_ (a' := ?_) ?_ ?_
            rotate_left
            ·simp only [putAll, Act.put, Z0, Z1, Z2]
             rfl
            refine three_ (i := 4) (j := 8) (k := 10) (Ni := some 8) (Nj := some 12) (Nk := some 3) (YA 12 255) (YA 12 495) (YA 12 1263) rfl rfl rfl rfl rfl rfl (three_of HT_.out (by kernel_rfl)) (by decide) (by decide) (by decide) (fun K hK => ?_) (fun K hK => ?_) (fun K hK => ?_)
            ·skip
             refine Kd.R_make_step (Kd.int .i64) _ 3 (by rfl) (N := 8) rfl 24 _ _ rfl (l0.length : Int) rfl rfl Try.underlying24 (.int .i64 0) 8 info3 rfl (by decide) (by omega) 0 (ok := fun _ => True) (okp := fun _ => True) rfl (fun _ hk => hk) trivial (Z29 Q3) (Nat.le_trans (Nat.mul_le_mul_right _ (Z29 Q3 : (l0.length : Int).toNat ≤ 35184372088832)) (by omega)) (Below.refl _ _) (Nat.le_refl _) ?_
             intro v267 w10 ho11 hb hg_ hnew_
             clear hg_ hnew_
             (first | rw [← Ny266.out] at ho11 | (simp only [Int.reduceToNat] at ho11; rw [← Ny266.out] at ho11))
             have HO268 := Yl (Kd.R_new' ho11 (Z16 (Yr HO265.out)))
             replace HO265 := Ya (Kd.R_elder' (Yr HO265.out) (Kd.R_base ho11) hb)
             replace BK262 := Yb BK262 hb
             replace HB := Yh hb
             clear hb ho11
             refine hK.out _ _ trivial (fun hHeld => ?_)
             clear hK K
             refine norm_ (a' := ?_) ?_ ?_
             rotate_left
             ·show Act.put _ (some 8) _ = _
              simp only [Act.put, Z0, Z1, Z2, i64_w, i32_w]
              rfl
             exact norm_ Q6 (hJ1_4 (v264, v267) _ ⟨(Yj HO265.out (fun _ hk => hk.2)), (Yj HO268.out (fun _ hk => hk.2)), (Yk BK262.out), Q0⟩)
            ·skip
             refine goes_ Try.func72 (by kernel_rfl) rfl #[.int .i64 (wrap64 ((l0.length : Int) + 1))] (by rfl) rfl rfl Q10 ?_
             with_reducible refine (spec_raUpTo.calls k (wrap64 ((l0.length : Int) + 1)) t269 _ A5.out).mono ?_
             rintro e w10 ⟨v270, rfl, ho0, hb⟩
             refine ⟨_, rfl, ?_⟩
             have HO271 := Yl (Kd.R_new' ho0 (Z16 (Yr HO265.out)))
             replace HO265 := Ya (Kd.R_elder' (Yr HO265.out) (Kd.R_base ho0) hb)
             replace BK262 := Yb BK262 hb
             replace HB := Yh hb
             (try clear hb ho0)
             refine hK.out _ _ trivial (fun hHeld => ?_)
             clear hK K
             refine norm_ (a' := ?_) ?_ ?_
             rotate_left
             ·show Act.put _ (some 12) _ = _
              simp only [Act.put, Z0, Z1, Z2, i64_w, i32_w]
              rfl
             exact norm_ Q6 (hJ1_8 (v264, v270) _ ⟨(Yj HO265.out (fun _ hk => hk.2)), (Yj HO271.out (fun _ hk => hk.2)), (Yk BK262.out), Q0⟩)
            ·skip
             refine Yy 3 YN4 33 ?_
             intro gb272 hg w10 hbox hb
             replace HO265 := Yw HO265 hb
             have BK272 := Ya hbox
             have GW272 := Yg hg
             have GE272 := GW272
             replace HB := Yh hb
             have NB262_272 := Yn BK262 hg
             have NB272_262 := Ym BK262 hg
             replace BK262 := Yb BK262 hb
             clear hb hbox hg
             refine hK.out _ _ trivial (fun hHeld => ?_)
             clear hK K
             refine norm_ (a' := ?_) ?_ ?_
             rotate_left
             ·show Act.put _ (some 3) _ = _
              simp only [Act.put, Z0, Z1, Z2, i64_w, i32_w]
              rfl
             exact norm_ Q6 (hJ1_10 (v264, gb272) _ ⟨(Yr HO265.out), (Yk BK262.out), (Yk BK272.out), GW272.out, GE272.out, NB262_272.out, NB272_262.out, Q0⟩)
          ·skip
           rintro ⟨v267, gb272⟩ w11 ⟨h0_, h1_, h2_, h3_, h4_, h5_, h6_, h7_⟩
           have HO268 : Aside0 (Kd.R (Kd.int .i64) 3 w11 w.heap.size (fun _ => True) v267 y266) := ⟨h0_⟩
           replace BK262 : Aside0 (w11.heap[gb262]? = some (.cells YN4 33 (0, 0))) := ⟨h1_⟩
           have BK272 : Aside0 (w11.heap[gb272]? = some (.cells YN4 33 (0, 0))) := ⟨h2_⟩
           have GW272 : Aside0 (w.heap.size ≤ gb272) := ⟨h3_⟩
           have GE272 : Aside0 (w.heap.size ≤ gb272) := ⟨h4_⟩
           have NB262_272 : Aside0 (gb262 ≠ gb272) := ⟨h5_⟩
           have NB272_262 : Aside0 (gb272 ≠ gb262) := ⟨h6_⟩
           replace HB : Aside0 (Below w.heap.size w w11) := ⟨h7_⟩
           clear h0_ h1_ h2_ h3_ h4_ h5_ h6_ h7_
           have hHeld := trivial
           refine norm_ (a' := ?_) ?_ ?_
           rotate_left
           ·simp only [putAll, Act.put, Z0, Z1, Z2]
            rfl
           refine one_ (i := 1) (N := some 5) (YA 12 1279) rfl rfl (one_of HT_.out (by kernel_rfl)) (by decide) (fun K hK => ?_)
           refine goes_ Try.func71 (by kernel_rfl) rfl #[.slice A0 l0.length c0] (by rfl) rfl rfl Q10 ?_
           with_reducible refine (spec_l1Own.calls _ _ l0 t263 _ ?side1 ?side2 A2.out).mono ?_
           (case side1 => exact Yc (Z21 HR0.out HB.out))
           (case side2 => exact HC0.out)
           rintro e w12 ⟨v264, rfl, ho0, hb⟩
           refine ⟨_, rfl, ?_⟩
           have HO265 := Yl (Kd.R_new' ho0 (Z16 (Yr HO268.out)))
           replace HO268 := Ya (Kd.R_elder' (Yr HO268.out) (Kd.R_base ho0) hb)
           replace BK262 := Yb BK262 hb
           replace BK272 := Yb BK272 hb
           replace HB := Yh hb
           (try clear hb ho0)
           refine hK.out _ _ trivial (fun hHeld => ?_)
           clear hK K
           refine norm_ (a' := ?_) ?_ ?_
           rotate_left
           ·show Act.put _ (some 5) _ = _
            simp only [Act.put, Z0, Z1, Z2, i64_w, i32_w]
            rfl
           exact norm_ Q6 (hJ1_4_10 (v264, v267, gb272) _ ⟨(Yj HO265.out (fun _ hk => hk.2)), (Yj HO268.out (fun _ hk => hk.2)), (Yk BK262.out), (Yk BK272.out), GW272.out, GE272.out, NB262_272.out, NB272_262.out, Q0⟩)
         ·skip
          rintro ⟨v264, gb272⟩ w10 ⟨h0_, h1_, h2_, h3_, h4_, h5_, h6_, h7_⟩
          have HO265 : Aside0 (Kd.R (Kd.int .i64) 3 w10 w.heap.size (fun _ => True) v264 t263) := ⟨h0_⟩
          replace BK262 : Aside0 (w10.heap[gb262]? = some (.cells YN4 33 (0, 0))) := ⟨h1_⟩
          have BK272 : Aside0 (w10.heap[gb272]? = some (.cells YN4 33 (0, 0))) := ⟨h2_⟩
          have GW272 : Aside0 (w.heap.size ≤ gb272) := ⟨h3_⟩
          have GE272 : Aside0 (w.heap.size ≤ gb272) := ⟨h4_⟩
          have NB262_272 : Aside0 (gb262 ≠ gb272) := ⟨h5_⟩
          have NB272_262 : Aside0 (gb272 ≠ gb262) := ⟨h6_⟩
          replace HB : Aside0 (Below w.heap.size w w10) := ⟨h7_⟩
          clear h0_ h1_ h2_ h3_ h4_ h5_ h6_ h7_
          have hHeld := trivial
          refine norm_ (a' := ?_) ?_ ?_
          rotate_left
          ·simp only [putAll, Act.put, Z0, Z1, Z2]
           rfl
          refine two_ (i := 4) (j := 8) (Ni := some 8) (Nj := some 12) (YA 12 1279) (YA 12 1519) rfl rfl rfl rfl (two_of HT_.out (by kernel_rfl)) (by decide) (by decide) (fun K hK => ?_) (fun K hK => ?_)
          ·skip
           refine Kd.R_make_step (Kd.int .i64) _ 3 (by rfl) (N := 8) rfl 24 _ _ rfl (l0.length : Int) rfl rfl Try.underlying24 (.int .i64 0) 8 info3 rfl (by decide) (by omega) 0 (ok := fun _ => True) (okp := fun _ => True) rfl (fun _ hk => hk) trivial (Z29 Q3) (Nat.le_trans (Nat.mul_le_mul_right _ (Z29 Q3 : (l0.length : Int).toNat ≤ 35184372088832)) (by omega)) (Below.refl _ _) (Nat.le_refl _) ?_
           intro v267 w11 ho12 hb hg_ hnew_
           clear hg_ hnew_
           (first | rw [← Ny266.out] at ho12 | (simp only [Int.reduceToNat] at ho12; rw [← Ny266.out] at ho12))
           have HO268 := Yl (Kd.R_new' ho12 (Z16 (Yr HO265.out)))
           replace HO265 := Ya (Kd.R_elder' (Yr HO265.out) (Kd.R_base ho12) hb)
           replace BK262 := Yb BK262 hb
           replace BK272 := Yb BK272 hb
           replace HB := Yh hb
           clear hb ho12
           refine hK.out _ _ trivial (fun hHeld => ?_)
           clear hK K
           refine norm_ (a' := ?_) ?_ ?_
           rotate_left
           ·show Act.put _ (some 8) _ = _
            simp only [Act.put, Z0, Z1, Z2, i64_w, i32_w]
            rfl
           exact norm_ Q6 (hJ1_4_10 (v264, v267, gb272) _ ⟨(Yj HO265.out (fun _ hk => hk.2)), (Yj HO268.out (fun _ hk => hk.2)), (Yk BK262.out), (Yk BK272.out), GW272.out, GE272.out, NB262_272.out, NB272_262.out, Q0⟩)
          ·skip
           refine goes_ Try.func72 (by kernel_rfl) rfl #[.int .i64 (wrap64 ((l0.length : Int) + 1))] (by rfl) rfl rfl Q10 ?_
           with_reducible refine (spec_raUpTo.calls k (wrap64 ((l0.length : Int) + 1)) t269 _ A5.out).mono ?_
           rintro e w11 ⟨v270, rfl, ho0, hb⟩
           refine ⟨_, rfl, ?_⟩
           have HO271 := Yl (Kd.R_new' ho0 (Z16 (Yr HO265.out)))
           replace HO265 := Ya (Kd.R_elder' (Yr HO265.out) (Kd.R_base ho0) hb)
           replace BK262 := Yb BK262 hb
           replace BK272 := Yb BK272 hb
           replace HB := Yh hb
           (try clear hb ho0)
           refine hK.out _ _ trivial (fun hHeld => ?_)
           clear hK K
           refine norm_ (a' := ?_) ?_ ?_
           rotate_left
           ·show Act.put _ (some 12) _ = _
            simp only [Act.put, Z0, Z1, Z2, i64_w, i32_w]
            rfl
           exact norm_ Q6 (hJ1_8_10 (v264, v270, gb272) _ ⟨(Yj HO265.out (fun _ hk => hk.2)), (Yj HO271.out (fun _ hk => hk.2)), (Yk BK262.out), (Yk BK272.out), GW272.out, GE272.out, NB262_272.out, NB272_262.out, Q0⟩)
        ·skip
         rintro ⟨v264, v270⟩ w10 ⟨h0_, h1_, h2_, h3_⟩
         have HO265 : Aside0 (Kd.R (Kd.int .i64) 3 w10 w.heap.size (fun k_ => some k_ ≠ (v270 : Value).ownBlock) v264 t263) := ⟨h0_⟩
         have HO271 : Aside0 (Kd.R (Kd.int .i64) 3 w10 w.heap.size (fun k_ => some k_ ≠ (v264 : Value).ownBlock) v270 t269) := ⟨h1_⟩
         replace BK262 : Aside0 (w10.heap[gb262]? = some (.cells YN4 33 (0, 0))) := ⟨h2_⟩
         replace HB : Aside0 (Below w.heap.size w w10) := ⟨h3_⟩
         clear h0_ h1_ h2_ h3_
         have hHeld := trivial
         refine norm_ (a' := ?_) ?_ ?_
         rotate_left
         ·simp only [putAll, Act.put, Z0, Z1, Z2]
          rfl
         refine two_ (i := 4) (j := 10) (Ni := some 8) (Nj := some 3) (YA 12 511) (YA 12 1519) rfl rfl rfl rfl (two_of HT_.out (by kernel_rfl)) (by decide) (by decide) (fun K hK => ?_) (fun K hK => ?_)
         ·skip
          refine Kd.R_make_step (Kd.int .i64) _ 3 (by rfl) (N := 8) rfl 24 _ _ rfl (l0.length : Int) rfl rfl Try.underlying24 (.int .i64 0) 8 info3 rfl (by decide) (by omega) 0 (ok := fun _ => True) (okp := fun _ => True) rfl (fun _ hk => hk) trivial (Z29 Q3) (Nat.le_trans (Nat.mul_le_mul_right _ (Z29 Q3 : (l0.length : Int).toNat ≤ 35184372088832)) (by omega)) (Below.refl _ _) (Nat.le_refl _) ?_
          intro v267 w11 ho12 hb hg_ hnew_
          clear hg_ hnew_
          (first | rw [← Ny266.out] at ho12 | (simp only [Int.reduceToNat] at ho12; rw [← Ny266.out] at ho12))
          have HO268 := Yl (Kd.R_new' (Kd.R_new' ho12 (Z16 (Yr HO265.out))) (Z16 (Yr HO271.out)))
          replace HO265 := Ya (Kd.R_elder' (Yr HO265.out) (Kd.R_base ho12) hb)
          replace HO271 := Ya (Kd.R_elder' (Yr HO271.out) (Kd.R_base ho12) hb)
          replace BK262 := Yb BK262 hb
          replace HB := Yh hb
          clear hb ho12
          obtain ⟨Ao13, co13, eo13⟩ := Z17 HO271.out
          (first | subst eo13 | (injection eo13 with f1_ f2_ f3_; have f4_ := f1_.symm; have f5_ := f3_.symm; clear f1_ f2_ f3_; subst f4_; subst f5_))
          obtain ⟨Ao14, co14, eo14⟩ := Z17 HO268.out
          (first | subst eo14 | (injection eo14 with f1_ f2_ f3_; have f4_ := f1_.symm; have f5_ := f3_.symm; clear f1_ f2_ f3_; subst f4_; subst f5_))
          obtain ⟨Ao15, co15, eo15⟩ := Z17 HO265.out
          (first | subst eo15 | (injection eo15 with f1_ f2_ f3_; have f4_ := f1_.symm; have f5_ := f3_.symm; clear f1_ f2_ f3_; subst f4_; subst f5_))
          refine hK.out _ _ trivial (fun hHeld => ?_)
          clear hK K
          refine norm_ (a' := ?_) ?_ ?_
          rotate_left
          ·show Act.put _ (some 8) _ = _
           simp only [Act.put, Z0, Z1, Z2, i64_w, i32_w]
           rfl
          refine Yp 9 (some 13) (YA 12 1023) rfl HT_.out ?_
          exact norm_ Q6 (hJ1_4_8 (.slice Ao15 t263.length co15, .slice Ao14 y266.length co14, .slice Ao13 t269.length co13) _ ⟨(Yj HO265.out (fun _ hk => ⟨hk.2, hk.1⟩)), (Yj HO268.out (fun _ hk => ⟨hk.1.2, hk.2⟩)), (Yr HO271.out), (Yk BK262.out), Q0⟩)
         ·skip
          refine Yy 3 YN4 33 ?_
          intro gb272 hg w11 hbox hb
          replace HO265 := Yw HO265 hb
          replace HO271 := Yw HO271 hb
          have BK272 := Ya hbox
          have GW272 := Yg hg
          have GE272 := GW272
          replace HB := Yh hb
          have NB262_272 := Yn BK262 hg
          have NB272_262 := Ym BK262 hg
          replace BK262 := Yb BK262 hb
          clear hb hbox hg
          refine hK.out _ _ trivial (fun hHeld => ?_)
          clear hK K
          refine norm_ (a' := ?_) ?_ ?_
          rotate_left
          ·show Act.put _ (some 3) _ = _
           simp only [Act.put, Z0, Z1, Z2, i64_w, i32_w]
           rfl
          exact norm_ Q6 (hJ1_8_10 (v264, v270, gb272) _ ⟨(Yr HO265.out), (Yr HO271.out), (Yk BK262.out), (Yk BK272.out), GW272.out, GE272.out, NB262_272.out, NB272_262.out, Q0⟩)
       ·skip
        rintro ⟨v264, v267⟩ w11 ⟨h0_, h1_, h2_, h3_⟩
        have HO265 : Aside0 (Kd.R (Kd.int .i64) 3 w11 w.heap.size (fun k_ => some k_ ≠ (v267 : Value).ownBlock) v264 t263) := ⟨h0_⟩
        have HO268 : Aside0 (Kd.R (Kd.int .i64) 3 w11 w.heap.size (fun k_ => some k_ ≠ (v264 : Value).ownBlock) v267 y266) := ⟨h1_⟩
        replace BK262 : Aside0 (w11.heap[gb262]? = some (.cells YN4 33 (0, 0))) := ⟨h2_⟩
        replace HB : Aside0 (Below w.heap.size w w11) := ⟨h3_⟩
        clear h0_ h1_ h2_ h3_
        have hHeld := trivial
        refine norm_ (a' := ?_) ?_ ?_
        rotate_left
        ·simp only [putAll, Act.put, Z0, Z1, Z2]
         rfl
        refine two_ (i := 8) (j := 10) (Ni := some 12) (Nj := some 3) (YA 12 511) (YA 12 1279) rfl rfl rfl rfl (two_of HT_.out (by kernel_rfl)) (by decide) (by decide) (fun K hK => ?_) (fun K hK => ?_)
        ·skip
         refine goes_ Try.func72 (by kernel_rfl) rfl #[.int .i64 (wrap64 ((l0.length : Int) + 1))] (by rfl) rfl rfl Q10 ?_
         with_reducible refine (spec_raUpTo.calls k (wrap64 ((l0.length : Int) + 1)) t269 _ A5.out).mono ?_
         rintro e w12 ⟨v270, rfl, ho0, hb⟩
         refine ⟨_, rfl, ?_⟩
         have HO271 := Yl (Kd.R_new' (Kd.R_new' ho0 (Z16 (Yr HO265.out))) (Z16 (Yr HO268.out)))
         replace HO265 := Ya (Kd.R_elder' (Yr HO265.out) (Kd.R_base ho0) hb)
         replace HO268 := Ya (Kd.R_elder' (Yr HO268.out) (Kd.R_base ho0) hb)
         replace BK262 := Yb BK262 hb
         replace HB := Yh hb
         (try clear hb ho0)
         obtain ⟨Ao13, co13, eo13⟩ := Z17 HO271.out
         (first | subst eo13 | (injection eo13 with f1_ f2_ f3_; have f4_ := f1_.symm; have f5_ := f3_.symm; clear f1_ f2_ f3_; subst f4_; subst f5_))
         obtain ⟨Ao14, co14, eo14⟩ := Z17 HO268.out
         (first | subst eo14 | (injection eo14 with f1_ f2_ f3_; have f4_ := f1_.symm; have f5_ := f3_.symm; clear f1_ f2_ f3_; subst f4_; subst f5_))
         obtain ⟨Ao15, co15, eo15⟩ := Z17 HO265.out
         (first | subst eo15 | (injection eo15 with f1_ f2_ f3_; have f4_ := f1_.symm; have f5_ := f3_.symm; clear f1_ f2_ f3_; subst f4_; subst f5_))
         refine hK.out _ _ trivial (fun hHeld => ?_)
         clear hK K
         refine norm_ (a' := ?_) ?_ ?_
         rotate_left
         ·show Act.put _ (some 12) _ = _
          simp only [Act.put, Z0, Z1, Z2, i64_w, i32_w]
          rfl
         refine Yp 9 (some 13) (YA 12 1023) rfl HT_.out ?_
         exact norm_ Q6 (hJ1_4_8 (.slice Ao15 t263.length co15, .slice Ao14 y266.length co14, .slice Ao13 t269.length co13) _ ⟨(Yr HO265.out), (Yr HO268.out), (Yj HO271.out (fun _ hk => ⟨hk.1.2, hk.2⟩)), (Yk BK262.out), Q0⟩)
        ·skip
         refine Yy 3 YN4 33 ?_
         intro gb272 hg w12 hbox hb
         replace HO265 := Yw HO265 hb
         replace HO268 := Yw HO268 hb
         have BK272 := Ya hbox
         have GW272 := Yg hg
         have GE272 := GW272
         replace HB := Yh hb
         have NB262_272 := Yn BK262 hg
         have NB272_262 := Ym BK262 hg
         replace BK262 := Yb BK262 hb
         clear hb hbox hg
         refine hK.out _ _ trivial (fun hHeld => ?_)
         clear hK K
         refine norm_ (a' := ?_) ?_ ?_
         rotate_left
         ·show Act.put _ (some 3) _ = _
          simp only [Act.put, Z0, Z1, Z2, i64_w, i32_w]
          rfl
         exact norm_ Q6 (hJ1_4_10 (v264, v267, gb272) _ ⟨(Yr HO265.out), (Yr HO268.out), (Yk BK262.out), (Yk BK272.out), GW272.out, GE272.out, NB262_272.out, NB272_262.out, Q0⟩)
      ·skip
       rintro ⟨v264, v270, gb272⟩ w11 ⟨h0_, h1_, h2_, h3_, h4_, h5_, h6_, h7_, h8_⟩
       have HO265 : Aside0 (Kd.R (Kd.int .i64) 3 w11 w.heap.size (fun k_ => some k_ ≠ (v270 : Value).ownBlock) v264 t263) := ⟨h0_⟩
       have HO271 : Aside0 (Kd.R (Kd.int .i64) 3 w11 w.heap.size (fun k_ => some k_ ≠ (v264 : Value).ownBlock) v270 t269) := ⟨h1_⟩
       replace BK262 : Aside0 (w11.heap[gb262]? = some (.cells YN4 33 (0, 0))) := ⟨h2_⟩
       have BK272 : Aside0 (w11.heap[gb272]? = some (.cells YN4 33 (0, 0))) := ⟨h3_⟩
       have GW272 : Aside0 (w.heap.size ≤ gb272) := ⟨h4_⟩
       have GE272 : Aside0 (w.heap.size ≤ gb272) := ⟨h5_⟩
       have NB262_272 : Aside0 (gb262 ≠ gb272) := ⟨h6_⟩
       have NB272_262 : Aside0 (gb272 ≠ gb262) := ⟨h7_⟩
       replace HB : Aside0 (Below w.heap.size w w11) := ⟨h8_⟩
       clear h0_ h1_ h2_ h3_ h4_ h5_ h6_ h7_ h8_
       have hHeld := trivial
       refine norm_ (a' := ?_) ?_ ?_
       rotate_left
       ·simp only [putAll, Act.put, Z0, Z1, Z2]
        rfl
       refine one_ (i := 4) (N := some 8) (YA 12 1535) rfl rfl (one_of HT_.out (by kernel_rfl)) (by decide) (fun K hK => ?_)
       refine Kd.R_make_step (Kd.int .i64) _ 3 (by rfl) (N := 8) rfl 24 _ _ rfl (l0.length : Int) rfl rfl Try.underlying24 (.int .i64 0) 8 info3 rfl (by decide) (by omega) 0 (ok := fun _ => True) (okp := fun _ => True) rfl (fun _ hk => hk) trivial (Z29 Q3) (Nat.le_trans (Nat.mul_le_mul_right _ (Z29 Q3 : (l0.length : Int).toNat ≤ 35184372088832)) (by omega)) (Below.refl _ _) (Nat.le_refl _) ?_
       intro v267 w12 ho13 hb hg_ hnew_
       clear hg_ hnew_
       (first | rw [← Ny266.out] at ho13 | (simp only [Int.reduceToNat] at ho13; rw [← Ny266.out] at ho13))
       have HO268 := Yl (Kd.R_new' (Kd.R_new' ho13 (Z16 (Yr HO265.out))) (Z16 (Yr HO271.out)))
       replace HO265 := Ya (Kd.R_elder' (Yr HO265.out) (Kd.R_base ho13) hb)
       replace HO271 := Ya (Kd.R_elder' (Yr HO271.out) (Kd.R_base ho13) hb)
       replace BK262 := Yb BK262 hb
       replace BK272 := Yb BK272 hb
       replace HB := Yh hb
       clear hb ho13
       obtain ⟨Ao14, co14, eo14⟩ := Z17 HO271.out
       (first | subst eo14 | (injection eo14 with f1_ f2_ f3_; have f4_ := f1_.symm; have f5_ := f3_.symm; clear f1_ f2_ f3_; subst f4_; subst f5_))
       obtain ⟨Ao15, co15, eo15⟩ := Z17 HO268.out
       (first | subst eo15 | (injection eo15 with f1_ f2_ f3_; have f4_ := f1_.symm; have f5_ := f3_.symm; clear f1_ f2_ f3_; subst f4_; subst f5_))
       obtain ⟨Ao16, co16, eo16⟩ := Z17 HO265.out
       (first | subst eo16 | (injection eo16 with f1_ f2_ f3_; have f4_ := f1_.symm; have f5_ := f3_.symm; clear f1_ f2_ f3_; subst f4_; subst f5_))
       refine hK.out _ _ trivial (fun hHeld => ?_)
       clear hK K
       refine norm_ (a' := ?_) ?_ ?_
       rotate_left
       ·show Act.put _ (some 8) _ = _
        simp only [Act.put, Z0, Z1, Z2, i64_w, i32_w]
        rfl
       refine Yp 9 (some 13) (YA 12 2047) rfl HT_.out ?_
       exact norm_ Q6 (hJ1_4_8_10 (.slice Ao16 t263.length co16, .slice Ao15 y266.length co15, .slice Ao14 t269.length co14, gb272) _ ⟨(Yj HO265.out (fun _ hk => ⟨hk.2, hk.1⟩)), (Yj HO268.out (fun _ hk => ⟨hk.1.2, hk.2⟩)), (Yr HO271.out), (Yk BK262.out), (Yk BK272.out), GW272.out, GE272.out, NB262_272.out, NB272_262.out, Q0⟩)
     ·skip
      rintro ⟨v264, v267, gb272⟩ w12 ⟨h0_, h1_, h2_, h3_, h4_, h5_, h6_, h7_, h8_⟩
      have HO265 : Aside0 (Kd.R (Kd.int .i64) 3 w12 w.heap.size (fun k_ => some k_ ≠ (v267 : Value).ownBlock) v264 t263) := ⟨h0_⟩
      have HO268 : Aside0 (Kd.R (Kd.int .i64) 3 w12 w.heap.size (fun k_ => some k_ ≠ (v264 : Value).ownBlock) v267 y266) := ⟨h1_⟩
      replace BK262 : Aside0 (w12.heap[gb262]? = some (.cells YN4 33 (0, 0))) := ⟨h2_⟩
      have BK272 : Aside0 (w12.heap[gb272]? = some (.cells YN4 33 (0, 0))) := ⟨h3_⟩
      have GW272 : Aside0 (w.heap.size ≤ gb272) := ⟨h4_⟩
      have GE272 : Aside0 (w.heap.size ≤ gb272) := ⟨h5_⟩
      have NB262_272 : Aside0 (gb262 ≠ gb272) := ⟨h6_⟩
      have NB272_262 : Aside0 (gb272 ≠ gb262) := ⟨h7_⟩
      replace HB : Aside0 (Below w.heap.size w w12) := ⟨h8_⟩
      clear h0_ h1_ h2_ h3_ h4_ h5_ h6_ h7_ h8_
      have hHeld := trivial
      refine norm_ (a' := ?_) ?_ ?_
      rotate_left
      ·simp only [putAll, Act.put, Z0, Z1, Z2]
       rfl
      refine one_ (i := 8) (N := some 12) (YA 12 1535) rfl rfl (one_of HT_.out (by kernel_rfl)) (by decide) (fun K hK => ?_)
      refine goes_ Try.func72 (by kernel_rfl) rfl #[.int .i64 (wrap64 ((l0.length : Int) + 1))] (by rfl) rfl rfl Q10 ?_
      with_reducible refine (spec_raUpTo.calls k (wrap64 ((l0.length : Int) + 1)) t269 _ A5.out).mono ?_
      rintro e w13 ⟨v270, rfl, ho0, hb⟩
      refine ⟨_, rfl, ?_⟩
      have HO271 := Yl (Kd.R_new' (Kd.R_new' ho0 (Z16 (Yr HO265.out))) (Z16 (Yr HO268.out)))
      replace HO265 := Ya (Kd.R_elder' (Yr HO265.out) (Kd.R_base ho0) hb)
      replace HO268 := Ya (Kd.R_elder' (Yr HO268.out) (Kd.R_base ho0) hb)
      replace BK262 := Yb BK262 hb
      replace BK272 := Yb BK272 hb
      replace HB := Yh hb
      (try clear hb ho0)
      obtain ⟨Ao14, co14, eo14⟩ := Z17 HO271.out
      (first | subst eo14 | (injection eo14 with f1_ f2_ f3_; have f4_ := f1_.symm; have f5_ := f3_.symm; clear f1_ f2_ f3_; subst f4_; subst f5_))
      obtain ⟨Ao15, co15, eo15⟩ := Z17 HO268.out
      (first | subst eo15 | (injection eo15 with f1_ f2_ f3_; have f4_ := f1_.symm; have f5_ := f3_.symm; clear f1_ f2_ f3_; subst f4_; subst f5_))
      obtain ⟨Ao16, co16, eo16⟩ := Z17 HO265.out
      (first | subst eo16 | (injection eo16 with f1_ f2_ f3_; have f4_ := f1_.symm; have f5_ := f3_.symm; clear f1_ f2_ f3_; subst f4_; subst f5_))
      refine hK.out _ _ trivial (fun hHeld => ?_)
      clear hK K
      refine norm_ (a' := ?_) ?_ ?_
      rotate_left
      ·show Act.put _ (some 12) _ = _
       simp only [Act.put, Z0, Z1, Z2, i64_w, i32_w]
       rfl
      refine Yp 9 (some 13) (YA 12 2047) rfl HT_.out ?_
      exact norm_ Q6 (hJ1_4_8_10 (.slice Ao16 t263.length co16, .slice Ao15 y266.length co15, .slice Ao14 t269.length co14, gb272) _ ⟨(Yr HO265.out), (Yr HO268.out), (Yj HO271.out (fun _ hk => ⟨hk.1.2, hk.2⟩)), (Yk BK262.out), (Yk BK272.out), GW272.out, GE272.out, NB262_272.out, NB272_262.out, Q0⟩)
    ·skip
     rintro ⟨v264, v267, v270⟩ w15 ⟨h0_, h1_, h2_, h3_, h4_⟩
     have HO265 : Aside0 (Kd.R (Kd.int .i64) 3 w15 w.heap.size (fun k_ => some k_ ≠ (v267 : Value).ownBlock ∧ some k_ ≠ (v270 : Value).ownBlock) v264 t263) := ⟨h0_⟩
     have HO268 : Aside0 (Kd.R (Kd.int .i64) 3 w15 w.heap.size (fun k_ => some k_ ≠ (v264 : Value).ownBlock ∧ some k_ ≠ (v270 : Value).ownBlock) v267 y266) := ⟨h1_⟩
     have HO271 : Aside0 (Kd.R (Kd.int .i64) 3 w15 w.heap.size (fun k_ => some k_ ≠ (v264 : Value).ownBlock ∧ some k_ ≠ (v267 : Value).ownBlock) v270 t269) := ⟨h2_⟩
     replace BK262 : Aside0 (w15.heap[gb262]? = some (.cells YN4 33 (0, 0))) := ⟨h3_⟩
     replace HB : Aside0 (Below w.heap.size w w15) := ⟨h4_⟩
     clear h0_ h1_ h2_ h3_ h4_
     have hHeld := trivial
     obtain ⟨Ao16, co16, eo16⟩ := Z17 HO271.out
     (first | subst eo16 | (injection eo16 with f1_ f2_ f3_; have f4_ := f1_.symm; have f5_ := f3_.symm; clear f1_ f2_ f3_; subst f4_; subst f5_))
     obtain ⟨Ao17, co17, eo17⟩ := Z17 HO268.out
     (first | subst eo17 | (injection eo17 with f1_ f2_ f3_; have f4_ := f1_.symm; have f5_ := f3_.symm; clear f1_ f2_ f3_; subst f4_; subst f5_))
     obtain ⟨Ao18, co18, eo18⟩ := Z17 HO265.out
     (first | subst eo18 | (injection eo18 with f1_ f2_ f3_; have f4_ := f1_.symm; have f5_ := f3_.symm; clear f1_ f2_ f3_; subst f4_; subst f5_))
     refine norm_ (a' := ?_) ?_ ?_
     rotate_left
     ·simp only [putAll, Act.put, Z0, Z1, Z2]
      rfl
     refine one_ (i := 10) (N := some 3) (YA 12 2047) rfl rfl (one_of HT_.out (by kernel_rfl)) (by decide) (fun K hK => ?_)
     refine Yy 3 YN4 33 ?_
     intro gb272 hg w19 hbox hb
     replace HO265 := Yw HO265 hb
     replace HO268 := Yw HO268 hb
     replace HO271 := Yw HO271 hb
     have BK272 := Ya hbox
     have GW272 := Yg hg
     have GE272 := GW272
     replace HB := Yh hb
     have NB262_272 := Yn BK262 hg
     have NB272_262 := Ym BK262 hg
     replace BK262 := Yb BK262 hb
     clear hb hbox hg
     refine hK.out _ _ trivial (fun hHeld => ?_)
     clear hK K
     refine norm_ (a' := ?_) ?_ ?_
     rotate_left
     ·show Act.put _ (some 3) _ = _
      simp only [Act.put, Z0, Z1, Z2, i64_w, i32_w]
      rfl
     exact norm_ Q6 (hJ1_4_8_10 (.slice Ao18 t263.length co18, .slice Ao17 y266.length co17, .slice Ao16 t269.length co16, gb272) _ ⟨(Yr HO265.out), (Yr HO268.out), (Yr HO271.out), (Yk BK262.out), (Yk BK272.out), GW272.out, GE272.out, NB262_272.out, NB272_262.out, Q0⟩)
   rintro ⟨v264, v267, v270, gb272⟩ w16 ⟨h0_, h1_, h2_, h3_, h4_, h5_, h6_, h7_, h8_, h9_⟩
   have HO265 : Aside0 (Kd.R (Kd.int .i64) 3 w16 w.heap.size (fun k_ => some k_ ≠ (v267 : Value).ownBlock ∧ some k_ ≠ (v270 : Value).ownBlock) v264 t263) := ⟨h0_⟩
   have HO268 : Aside0 (Kd.R (Kd.int .i64) 3 w16 w.heap.size (fun k_ => some k_ ≠ (v264 : Value).ownBlock ∧ some k_ ≠ (v270 : Value).ownBlock) v267 y266) := ⟨h1_⟩
   have HO271 : Aside0 (Kd.R (Kd.int .i64) 3 w16 w.heap.size (fun k_ => some k_ ≠ (v264 : Value).ownBlock ∧ some k_ ≠ (v267 : Value).ownBlock) v270 t269) := ⟨h2_⟩
   replace BK262 : Aside0 (w16.heap[gb262]? = some (.cells YN4 33 (0, 0))) := ⟨h3_⟩
   have BK272 : Aside0 (w16.heap[gb272]? = some (.cells YN4 33 (0, 0))) := ⟨h4_⟩
   have GW272 : Aside0 (w.heap.size ≤ gb272) := ⟨h5_⟩
   have GE272 : Aside0 (w.heap.size ≤ gb272) := ⟨h6_⟩
   have NB262_272 : Aside0 (gb262 ≠ gb272) := ⟨h7_⟩
   have NB272_262 : Aside0 (gb272 ≠ gb262) := ⟨h8_⟩
   replace HB : Aside0 (Below w.heap.size w w16) := ⟨h9_⟩
   clear h0_ h1_ h2_ h3_ h4_ h5_ h6_ h7_ h8_ h9_
   have hHeld := trivial
   obtain ⟨Ao17, co17, eo17⟩ := Z17 HO271.out
   (first | subst eo17 | (injection eo17 with f1_ f2_ f3_; have f4_ := f1_.symm; have f5_ := f3_.symm; clear f1_ f2_ f3_; subst f4_; subst f5_))
   obtain ⟨Ao18, co18, eo18⟩ := Z17 HO268.out
   (first | subst eo18 | (injection eo18 with f1_ f2_ f3_; have f4_ := f1_.symm; have f5_ := f3_.symm; clear f1_ f2_ f3_; subst f4_; subst f5_))
   obtain ⟨Ao19, co19, eo19⟩ := Z17 HO265.out
   (first | subst eo19 | (injection eo19 with f1_ f2_ f3_; have f4_ := f1_.symm; have f5_ := f3_.symm; clear f1_ f2_ f3_; subst f4_; subst f5_))
   refine norm_ (a' := ?_) ?_ ?_
   rotate_left
   ·simp only [putAll, Act.put, Z0, Z1, Z2]
    rfl
   refine one_ (i := 11) (N := none) (YA 12 4095) rfl rfl (one_of HT_.out (by kernel_rfl)) (by decide) (fun K hK => ?_)
   have hs20 : w16.cell? ⟨gb272, 0, none⟩ = some (.slice none 0 0) := (Z22 BK272.out 0).trans rfl
   have hfs20 := Z23 BK272.out 0
   have hns20_0 := NB262_272.out
   have hms20_0 := NB272_262.out
   have hs21 : w16.cell? ⟨gb272, 1, none⟩ = some (.slice none 0 0) := (Z22 BK272.out 1).trans rfl
   have hfs21 := Z23 BK272.out 1
   have hns21_0 := NB262_272.out
   have hms21_0 := NB272_262.out
   have hs22 : w16.cell? ⟨gb272, 2, none⟩ = some (.slice none 0 0) := (Z22 BK272.out 2).trans rfl
   have hfs22 := Z23 BK272.out 2
   have hns22_0 := NB262_272.out
   have hms22_0 := NB272_262.out
   have hs23 : w16.cell? ⟨gb272, 3, none⟩ = some (.slice none 0 0) := (Z22 BK272.out 3).trans rfl
   have hfs23 := Z23 BK272.out 3
   have hns23_0 := NB262_272.out
   have hms23_0 := NB272_262.out
   refine skip_ (w1 := ?_) (by rfl) rfl ?_ ?_
   rotate_left
   ·go_simp
    rfl
   refine hK.out _ _ trivial (fun hHeld => ?_)
   clear hK K
   refine done_ (done_of HT_.out (by kernel_rfl)) ?_
   try go_wp2
   go_loopg [16] k (fun kq v16 w' => ∃ (x16_1 : Int) (x273002_1 : List Bool) (u273002 : Value), v16 = .int .i64 x16_1 ∧ Aside0 (spec_foStart.l0 kq (l0.length : Int) x16_1 t263 y266 x273002_1 t269 = some (r1, r2, r3, r4)) ∧ Aside0 (kq ≤ k) ∧ Aside0 (Kd.R (Kd.int .i64) 3 w' w.heap.size (fun k_ => some k_ ≠ ((.slice Ao18 y266.length co18) : Value).ownBlock ∧ some k_ ≠ ((.slice Ao17 t269.length co17) : Value).ownBlock) (.slice Ao19 t263.length co19) t263) ∧ Aside0 (Kd.R (Kd.int .i64) 3 w' w.heap.size (fun k_ => some k_ ≠ ((.slice Ao19 t263.length co19) : Value).ownBlock ∧ some k_ ≠ ((.slice Ao17 t269.length co17) : Value).ownBlock) (.slice Ao18 y266.length co18) y266) ∧ Aside0 (Kd.R Kd.bool 4 w' w.heap.size (fun _ => True) u273002 x273002_1) ∧ Aside0 (Kd.R (Kd.int .i64) 3 w' w.heap.size (fun k_ => some k_ ≠ ((.slice Ao19 t263.length co19) : Value).ownBlock ∧ some k_ ≠ ((.slice Ao18 y266.length co18) : Value).ownBlock) (.slice Ao17 t269.length co17) t269) ∧ Aside0 (w'.heap[gb262]? = some (.cells #[(.slice none 0 0), (.slice none 0 0), (.slice none 0 0), (.slice none 0 0)] 33 (0, 0))) ∧ Aside0 (w'.heap[gb272]? = some (.cells #[(.slice Ao19 t263.length co19), (.slice Ao18 y266.length co18), u273002, (.slice Ao17 t269.length co17)] 33 (0, 0))) ∧ Aside0 (Below w.heap.size w w'))
   case atStart => exact ⟨(0), (([] : List Bool)), (.slice none 0 0), Q8, H', ⟨Nat.le_refl _⟩, ⟨Yj (Yf4 HO265.out BK272.out) (fun _ hk => ⟨hk.1.1, hk.1.2⟩)⟩, ⟨Yj (Yf4 HO268.out BK272.out) (fun _ hk => ⟨hk.1.1, hk.1.2⟩)⟩, ⟨Q4⟩, ⟨Yj (Yf4 HO271.out BK272.out) (fun _ hk => ⟨hk.1.1, hk.1.2⟩)⟩, ⟨by (with_reducible repeat (first | refine Z24 ?_ _ | refine Z25 ?_ | refine Z26 ?_ _)); refine blk_far ?_ NB262_272.out _; (with_reducible repeat (first | refine Z24 ?_ _ | refine Z25 ?_ | refine Z26 ?_ _)); refine blk_far ?_ NB262_272.out _; (with_reducible repeat (first | refine Z24 ?_ _ | refine Z25 ?_ | refine Z26 ?_ _)); refine blk_far ?_ NB262_272.out _; (with_reducible repeat (first | refine Z24 ?_ _ | refine Z25 ?_ | refine Z26 ?_ _)); refine blk_far ?_ NB262_272.out _; (with_reducible repeat (first | refine Z24 ?_ _ | refine Z25 ?_ | refine Z26 ?_ _)); exact BK262.out⟩, ⟨by (with_reducible repeat (first | refine Z24 ?_ _ | refine Z25 ?_ | refine Z26 ?_ _)); refine Z28 (cs := #[.slice Ao19 t263.length co19, .slice Ao18 y266.length co18, .slice none 0 0, .slice none 0 0]) ?_ 3 _ rfl; (with_reducible repeat (first | refine Z24 ?_ _ | refine Z25 ?_ | refine Z26 ?_ _)); refine Z28 (cs := #[.slice Ao19 t263.length co19, .slice Ao18 y266.length co18, .slice none 0 0, .slice none 0 0]) ?_ 2 _ rfl; (with_reducible repeat (first | refine Z24 ?_ _ | refine Z25 ?_ | refine Z26 ?_ _)); refine Z28 (cs := #[.slice Ao19 t263.length co19, .slice none 0 0, .slice none 0 0, .slice none 0 0]) ?_ 1 _ rfl; (with_reducible repeat (first | refine Z24 ?_ _ | refine Z25 ?_ | refine Z26 ?_ _)); refine Z28 (cs := YN4) ?_ 0 _ rfl; (with_reducible repeat (first | refine Z24 ?_ _ | refine Z25 ?_ | refine Z26 ?_ _)); exact BK272.out⟩, ⟨Q12⟩⟩
   case round =>
    clear H'
    try clear p2
    try clear p6
    try clear c7
    obtain ⟨x16_1, x273002_1, u273002, rfl, HA, HK1, HO_273000, HO_273001, HO_273002, HO_273003, BK262, BK272, HB⟩ := hrel
    cases gk with
    | zero => exact absurd HA.out (by simp [spec_foStart.l0])
    | succ k1 =>
     have H := HA.out
     clear HA
     simp only [spec_foStart.l0] at H
     by_cases c24 : x16_1 < (l0.length : Int)
     ·rw [if_pos c24] at H
      have c24b0 := Z37 c24
      clear c24
      by_cases c25 : x273002_1.length < 140737488355328
      ·rw [if_pos c25] at H
       have LMc25 := Ya c25
       clear c25
       obtain ⟨y273, hy273⟩ : ∃ y_ : List Bool, y_ = (x273002_1 ++ [true]) := ⟨_, rfl⟩
       replace H : (spec_foStart.l0 k1 (l0.length : Int) (wrap64 (x16_1 + 1)) t263 y266 y273 t269) = some (r1, r2, r3, r4) := by first | (rw [hy273]; with_reducible exact H) | (have H2_ := (Option.bind_some _ _).symm.trans H; rw [hy273]; with_reducible exact H2_) | (have H2_ := (Option.bind_some _ _).symm.trans H; with_reducible exact H2_) | with_reducible exact H | (rw [hy273]; exact H) | exact H
       have Ny273 := Ya hy273
       clear hy273
       have H' := Ya H
       clear H
       have hnb26 := NB272_262.out
       have hnc26 := NB262_272.out
       have hz27 := Y4 BK272.out
       go_wp2_with (first | ((with_reducible refine gate_builtin (b := .append) (xs := #[.tmp 19, .tmp 20]) rfl ?_); at_builtin; refine Kd.R_append Kd.bool (w0 := w) w.heap.size rfl (.tmp 19) (.tmp 20) 31 4 (.bool false) 1 rfl Try.underlying31 info4 rfl (by decide) (by omega) u273002 x273002_1 true [.bool true] (fun _ => True) (fun _ => False) rfl rfl ?aP (fun _ hk => hk.elim) ?aF ?aO ?aB ?aS ?aL ?_; (case aP => exact rfl); (case aB => exact Q0); (case aF => exact (fun _ _ => trivial)); (case aO => exact (Yr HO_273002.out)); (case aS => exact (Z7 Q0)); (case aL => have := LMc25.out; omega); intro v274 w28 ho hb hg hat; rw [← Ny273.out] at ho; replace HO_273000 := Ya (Kd.R_over' (Yr HO_273000.out) (Kd.R_typed (Yr HO_273002.out)) (by decide) hg); replace HO_273001 := Ya (Kd.R_over' (Yr HO_273001.out) (Kd.R_typed (Yr HO_273002.out)) (by decide) hg); replace HO_273003 := Ya (Kd.R_over' (Yr HO_273003.out) (Kd.R_typed (Yr HO_273002.out)) (by decide) hg); replace BK262 := Ya (blk_grown (g := gb262) (o := .cells YN4 33 (0, 0)) (Yk BK262.out) hg (Kd.R_ne HO_273002.out BK262.out (by decide))); replace BK272 := Ya (blk_grown (g := gb272) (o := .cells #[.slice Ao19 t263.length co19, .slice Ao18 y266.length co18, u273002, .slice Ao17 t269.length co17] 33 (0, 0)) (Yk BK272.out) hg (Kd.R_ne HO_273002.out BK272.out (by decide))); replace HB := Ya hb; have HO275 := Ya ho; clear HO_273002; clear ho hb hg hat; obtain ⟨Ao29, co29, rfl⟩ := Z17 HO275.out; have hz30 := Y4 BK272.out))
       go_roundg k1
       case measure => have := HK1.out; omega
       case rel => exact ⟨(wrap64 (x16_1 + 1)), (y273), (.slice Ao29 y273.length co29), Q8, H', ⟨Q23⟩, ⟨Yj (Kd.R_far (p := ⟨gb272, 2, none⟩) (Z13 HO_273000.out BK272.out (by decide)) (fun _ hk => hk.2) (.slice Ao29 y273.length co29)) (fun _ hk => ⟨hk.1.1, hk.1.2⟩)⟩, ⟨Yj (Kd.R_far (p := ⟨gb272, 2, none⟩) (Z13 HO_273001.out BK272.out (by decide)) (fun _ hk => hk.2) (.slice Ao29 y273.length co29)) (fun _ hk => ⟨hk.1.1, hk.1.2⟩)⟩, ⟨Yj (Kd.R_far (p := ⟨gb272, 2, none⟩) (Z13 HO275.out BK272.out (by decide)) (fun _ hk => hk.2) (.slice Ao29 y273.length co29)) (fun _ hk => trivial)⟩, ⟨Yj (Kd.R_far (p := ⟨gb272, 2, none⟩) (Z13 HO_273003.out BK272.out (by decide)) (fun _ hk => hk.2) (.slice Ao29 y273.length co29)) (fun _ hk => ⟨hk.1.1, hk.1.2⟩)⟩, ⟨by (with_reducible repeat (first | refine Z24 ?_ _ | refine Z25 ?_ | refine Z26 ?_ _)); refine blk_far ?_ NB262_272.out _; (with_reducible repeat (first | refine Z24 ?_ _ | refine Z25 ?_ | refine Z26 ?_ _)); exact BK262.out⟩, ⟨by (with_reducible repeat (first | refine Z24 ?_ _ | refine Z25 ?_ | refine Z26 ?_ _)); refine Z28 (cs := #[.slice Ao19 t263.length co19, .slice Ao18 y266.length co18, u273002, .slice Ao17 t269.length co17]) ?_ 2 _ rfl; (with_reducible repeat (first | refine Z24 ?_ _ | refine Z25 ?_ | refine Z26 ?_ _)); exact BK272.out⟩, ⟨Q12⟩⟩
      ·rw [if_neg c25] at H
       exact absurd H (by simp)
     ·rw [if_neg c24] at H
      have c24b0 := Z36 c24
      clear c24
      simp only [Option.some.injEq, Prod.mk.injEq] at H
      obtain ⟨rfl, rfl, rfl, rfl⟩ := H
      have hnb31 := NB272_262.out
      have hnc31 := NB262_272.out
      have hz32 := Y4 BK272.out
      have hz33 := Y4 BK262.out
      obtain ⟨Ao34, co34, rfl⟩ := Z17 HO_273002.out
      go_wp2
      refine bodyPost_ret (results_cell_row rfl _ _ gb262 33 #[.slice Ao19 t263.length co19, .slice Ao18 y266.length co18, .slice Ao34 x273002_1.length co34, .slice Ao17 t269.length co17] (0, 0) _ rfl (Yk (Yv4 BK262.out)) Try.underlying33 rfl (by kernel_rfl)) rfl ?_
      exact ⟨_, _, _, _, Q1, Yj (Yf4 HO_273000.out BK262.out) (fun _ hk => ⟨hk.1.1, hk.1.2⟩), Yj (Yf4 HO_273001.out BK262.out) (fun _ hk => ⟨hk.1.1, hk.1.2⟩), Yj (Yf4 HO_273002.out BK262.out) (fun _ hk => trivial), Yj (Yf4 HO_273003.out BK262.out) (fun _ hk => ⟨hk.1.1, hk.1.2⟩), Q12⟩
  ·rw [if_neg c4] at H
   exact absurd H (by simp)
 ·rw [if_neg c3] at H
  exact absurd H (by simp)
end Go.Proofs.Ytapbbmicfkbafaa.MFnFocusRuns
