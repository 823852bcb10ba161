import Derived.Test.YtedijkelbdpcdaaMFnExactRunSwapperx0
import Derived.Test.YtedijkelbdpcdaaMFnExactRunSwapperx1
import Derived.Test.YtedijkelbdpcdaaMFnExactRunSwapperx3
namespace Go.Proofs.Ytedijkelbdpcdaa.MFnExactRunSwapper
open Go.RowKit Go.Proofs.YtedijkelbdpcdaaW.PrintWords Go.Proofs.YtedijkelbdpcdaaW.PrintLast Go.Proofs.YtedijkelbdpcdaaW.PrintMore
attribute [local go_sem] max2_int min2_int max_two min_two max_three min_three max_four min_four   
set_option linter.unusedVariables false
set_option linter.unusedSimpArgs false
def spec_foStep.f (l0_0 : List Int) (l0_1 : List Int) (l0_2 : List Bool) (l0_3 : List Int) : Option (List Int × List Int × List Bool × List Int × Int) := if 0 < l0_3.length then (if rd l0_3 0 = (l0_0.length : Int) then some (([] : List Int), ([] : List Int), ([] : List Bool), ([] : List Int), (-1)) else ((Go.Proofs.Ytedijkelbdpcdaa.FoW.stepF l0_0 l0_1 l0_2 l0_3).bind fun bt => (some (l0_0, bt.1, bt.2.1, bt.2.2.1, (l0_0.length : Int) - 1 - bt.2.2.2)))) else none
open Go.Proofs.Ytedijkelbdpcdaa.FoW in
set_option maxHeartbeats 8000000 in
set_option maxRecDepth 100000 in
theorem spec_foStep.calls (A0 : Option Addr) (c0 : Nat) (l0 : List Int) (A1 : Option Addr) (c1 : Nat) (l1 : List Int) (A2 : Option Addr) (c2 : Nat) (l2 : List Bool) (A3 : Option Addr) (c3 : Nat) (l3 : List Int) (r1 : List Int) (r2 : List Int) (r3 : List Bool) (r4 : List Int) (r5 : Int) (w : World)
  (hr0 : Kd.C (Kd.int .i64) w A0 l0.length l0) (hc0 : l0.length ≤ c0) (hr1 : Kd.C (Kd.int .i64) w A1 l1.length l1) (hc1 : l1.length ≤ c1) (hr2 : Kd.C Kd.bool w A2 l2.length l2) (hc2 : l2.length ≤ c2) (hr3 : Kd.C (Kd.int .i64) w A3 l3.length l3) (hc3 : l3.length ≤ c3) (h : spec_foStep.f l0 l1 l2 l3 = some (r1, r2, r3, r4, r5)) :
  Calls Try.prog 52 #[.agg #[.slice A0 l0.length c0, .slice A1 l1.length c1, .slice A2 l2.length c2, .slice A3 l3.length c3]] w fun e w' => ∃ v0_ v1_ v2_ v3_ : Value, e = .returned (.tuple #[.agg #[v0_, v1_, v2_, v3_], .int .i64 r5]) ∧ Kd.R (Kd.int .i64) 3 w' w.heap.size (fun k_ => some k_ ≠ (v1_ : Value).ownBlock ∧ some k_ ≠ (v3_ : Value).ownBlock) v0_ r1 ∧ Kd.R (Kd.int .i64) 3 w' w.heap.size (fun k_ => some k_ ≠ (v0_ : Value).ownBlock ∧ some k_ ≠ (v3_ : Value).ownBlock) v1_ r2 ∧ Kd.R Kd.bool 4 w' w.heap.size (fun _ => True) v2_ r3 ∧ Kd.R (Kd.int .i64) 3 w' w.heap.size (fun k_ => some k_ ≠ (v0_ : Value).ownBlock ∧ some k_ ≠ (v1_ : Value).ownBlock) v3_ r4 ∧ Below w.heap.size w w' := by
 have hu := Try.underlying29
 unfold spec_foStep.f at h
 by_cases hp : 0 < l3.length
 rotate_left
 ·rw [if_neg hp] at h; cases h
 rw [if_pos hp] at h
 obtain ⟨ad3, e3, hx3⟩ := Kd.at_int hr3 0 (by decide) (by omega)
 subst e3
 have hx3' : w.cell? ad3 = some (.int .i64 (rd l3 0)) := by
  have e_ : ad3.add (0 : Int).toNat = ad3 := by simp [Addr.add]
  rw [e_] at hx3; exact hx3
 clear hx3
 have HX3 := Aside0.mk hx3'
 have HR0 := Aside0.mk hr0
 have HR1 := Aside0.mk hr1
 have HR2 := Aside0.mk hr2
 have HR3 := Aside0.mk hr3
 have HC0 := Aside0.mk hc0
 have HC1 := Aside0.mk hc1
 have HC2 := Aside0.mk hc2
 have HC3 := Aside0.mk hc3
 have HB := Aside0.mk (Below.refl w.heap.size w)
 have b10 : (0 < l3.length) = True := eq_true hp
 have b11 : ((0 : Int) < (l3.length : Int)) = True := eq_true (by omega)
 by_cases hj : rd l3 0 = (l0.length : Int)
 ·rw [if_pos hj] at h
  simp only [Option.some.injEq, Prod.mk.injEq] at h
  obtain ⟨rfl, rfl, rfl, rfl, rfl⟩ := h
  have b1 : (rd l3 0 == (l0.length : Int)) = true := beq_iff_eq.mpr hj
  clear hr0 hr1 hr2 hr3 hc0 hc1 hc2 hc3 hp hj hx3'
  go_enter Try.func52, Try.ntmps52
  go_upto_region 1 with (first | ((with_reducible refine gate_dst (N := 1) rfl ?_); refine box_event ?hg (N := 1) ?hd (cs := #[.slice A0 l0.length c0, .slice A1 l1.length c1, .slice A2 l2.length c2, .slice (some ad3) l3.length c3]) (t := 29) ?hr ?_; (case hd => rfl); (case hg => rfl); (case hr => first | (go_simp; done) | (go_simp; rfl)); intro gb1 hg w1 hbox hb; have n0_ := Aside0.mk (Z8 (by repeat (first | (with_reducible first | exact HB.out | apply Z5 | apply Z3 | apply Z4) | exact HB.out)) hb); have n1_ := Aside0.mk hbox; have GE1 := Aside0.mk (by rw [hg]; exact Z7 (by repeat (first | (with_reducible first | exact HB.out | apply Z5 | apply Z3 | apply Z4) | exact HB.out)) : w.heap.size ≤ gb1); clear HB; have HB := n0_; have BK1 := n1_; clear n0_ n1_; clear hb hbox hg) | ((with_reducible refine gate_dst (N := 2) rfl ?_); refine box_event ?hg (N := 2) ?hd (cs := #[.slice none 0 0, .slice none 0 0, .slice none 0 0, .slice none 0 0]) (t := 29) ?hr ?_; (case hd => rfl); (case hg => rfl); (case hr => first | (go_simp; done) | (go_simp; rfl)); intro gb2 hg w2 hbox hb; have n0_ := Aside0.mk (Z8 (by repeat (first | (with_reducible first | exact HB.out | apply Z5 | apply Z3 | apply Z4) | exact HB.out)) hb); have n1_ := Aside0.mk hbox; have n2_ := Aside0.mk (Z29 BK1.out hb); have GE2 := Aside0.mk (by rw [hg]; exact Z7 (by repeat (first | (with_reducible first | exact HB.out | apply Z5 | apply Z3 | apply Z4) | exact HB.out)) : w.heap.size ≤ gb2); have NB12 := Aside0.mk (by rw [hg]; exact Nat.ne_of_lt (blk_lt BK1.out) : gb1 ≠ gb2); clear HB BK1; have HB := n0_; have BK2 := n1_; have BK1 := n2_; clear n0_ n1_ n2_; clear hb hbox hg))
  have ha0 := (Z24 BK1.out 0).trans rfl
  have ha1 := (Z24 BK1.out 1).trans rfl
  have ha2 := (Z24 BK1.out 2).trans rfl
  have ha3 := (Z24 BK1.out 3).trans rfl
  have hd0 := (Z24 BK2.out 0).trans rfl
  have hd1 := (Z24 BK2.out 1).trans rfl
  have hd2 := (Z24 BK2.out 2).trans rfl
  have hd3 := (Z24 BK2.out 3).trans rfl
  have hf0 := Z25 BK2.out 0
  have hf1 := Z25 BK2.out 1
  have hf2 := Z25 BK2.out 2
  have hf3 := Z25 BK2.out 3
  have hx := (HB.out.cell (World.block_lt_of_cell? w _ HX3.out)).trans HX3.out
  go_wp2
  refine bodyPost_ret (results_ct rfl _ _ gb2 29 #[.slice none 0 0, .slice none 0 0, .slice none 0 0, .slice none 0 0] (0, 0) _ rfl (set4_at BK2.out _ _ _ _) Try.underlying29 rfl (by kernel_rfl)) rfl ?_
  exact ⟨_, _, _, _, rfl, Kd.R_nil _ _ _ _ _, Kd.R_nil _ _ _ _ _, Kd.R_nil _ _ _ _ _, Kd.R_nil _ _ _ _ _, set4_below HB.out GE2.out _ _ _ _⟩
 ·rw [if_neg hj] at h
  obtain ⟨⟨d', u', p', r⟩, hs, h⟩ := Z37.mp h
  simp only [Option.some.injEq, Prod.mk.injEq] at h
  obtain ⟨rfl, rfl, rfl, rfl, rfl⟩ := h
  unfold stepF at hs
  simp only at hs
  by_cases hc : 0 ≤ rd l3 0 ∧ rd l3 0 < l0.length ∧ l0.length ≤ 1000 ∧ l1.length = l0.length ∧ l2.length = l0.length ∧ l3.length = l0.length + 1 ∧ -1000 ≤ rd l1 ((l0.length : Int) - 1 - rd l3 0) ∧ rd l1 ((l0.length : Int) - 1 - rd l3 0) ≤ 1000 ∧ -1000 ≤ rd l0 ((l0.length : Int) - 1 - rd l3 0) ∧ rd l0 ((l0.length : Int) - 1 - rd l3 0) ≤ 1000
  rotate_left
  ·rw [if_neg hc] at hs; cases hs
  rw [if_pos hc] at hs
  obtain ⟨J, hJ⟩ : ∃ J, rd l3 0 = J := ⟨_, rfl⟩
  rw [hJ] at hs hc hx3' hj
  obtain ⟨I, hI⟩ : ∃ I, (l0.length : Int) - 1 - J = I := ⟨_, rfl⟩
  rw [hI] at hs hc
  obtain ⟨j0, j1, m0, e1, e2, e3, x0, x1, y0, y1⟩ := hc
  have HL := Aside0.mk (show (0 ≤ I ∧ I < l0.length) ∧ I < l1.length ∧ I < l2.length ∧ J + 1 < l3.length ∧ J < l3.length ∧ 0 < l3.length ∧ 0 ≤ J ∧ l0.length ≤ 1000 from ⟨⟨by omega, by omega⟩, by omega, by omega, by omega, by omega, by omega, by omega, by omega⟩)
  have HX := Aside0.mk (show (-1000 ≤ rd l1 I ∧ rd l1 I ≤ 1000) ∧ -1000 ≤ rd l0 I ∧ rd l0 I ≤ 1000 from ⟨⟨x0, x1⟩, y0, y1⟩)
  have A9 : Aside0 (spec_foOwn.f l0 l1 l2 l3 = some (l0, l1, l2, l3)) := ⟨by
   have hl : ∀ l : List Int, l.length ≤ 2000 → spec_l1Own.f l = some l := fun l hl => by
    unfold spec_l1Own.f
    simp only [Option.bind_some, List.nil_append, List.length_nil, Nat.zero_add]
    rw [if_pos (by omega)]
   unfold spec_foOwn.f
   rw [hl l0 (by omega), hl l1 (by omega), hl l3 (by omega)]
   simp only [Option.bind_some, List.nil_append, List.length_nil, Nat.zero_add]
   rw [if_pos (by omega)]⟩
  obtain ⟨ad0, f0, hx0⟩ := Kd.at_int hr0 I (by omega) (by omega)
  obtain ⟨ad2, f2, hx2⟩ := Kd.at_bool hr2 I (by omega) (by omega)
  subst f0 f2
  have HX0 := Aside0.mk hx0
  have HX2 := Aside0.mk hx2
  have HXJ := Aside0.mk hx3'
  have k1 : wrap64 ((l0.length : Int) - 1) = (l0.length : Int) - 1 := by unfold wrap64; omega
  have k2 : wrap64 (J + 1) = J + 1 := by unfold wrap64; omega
  have k1' : IntKind.i64.wrap ((l0.length : Int) - 1) = (l0.length : Int) - 1 := (i64_w _).trans k1
  have k2' : IntKind.i64.wrap (J + 1) = J + 1 := (i64_w _).trans k2
  have k3 : wrap64 ((l0.length : Int) - 1 - J) = I := by rw [← hI]; unfold wrap64; omega
  have k3' : IntKind.i64.wrap ((l0.length : Int) - 1 - J) = I := (i64_w _).trans k3
  have b1 : (J == (l0.length : Int)) = false := beq_eq_false_iff_ne.mpr (by omega)
  have b2 : (0 ≤ I) = True := eq_true (by omega)
  have b3 : (I < (l2.length : Int)) = True := eq_true (by omega)
  have b4 : (I < (l1.length : Int)) = True := eq_true (by omega)
  have b5 : (I < (l0.length : Int)) = True := eq_true (by omega)
  have b6 : (0 ≤ J) = True := eq_true (by omega)
  have b7 : (J < (l3.length : Int)) = True := eq_true (by omega)
  have b8 : (J + 1 < (l3.length : Int)) = True := eq_true (by omega)
  have b9 : (0 ≤ J + 1) = True := eq_true (by omega)
  have HJ := Aside0.mk hJ
  obtain ⟨X, hX⟩ : ∃ X, (if rdOf false l2 I = true then rd l1 I + 1 else rd l1 I - 1) = X := ⟨_, rfl⟩
  rw [hX] at hs
  have HH := Aside0.mk hs
  have HXX := Aside0.mk hX
  have HIE := Aside0.mk hI
  clear hr0 hr1 hr2 hr3 hc0 hc1 hc2 hc3 hp hj hx3' hx0 hx2 hs hX hJ hI j0 j1 m0 e1 e2 e3 x0 x1 y0 y1
  go_enter Try.func52, Try.ntmps52
  go_upto_region 1 with (first | ((with_reducible refine gate_dst (N := 1) rfl ?_); refine box_event ?hg (N := 1) ?hd (cs := #[.slice (some ad0) l0.length c0, .slice A1 l1.length c1, .slice (some ad2) l2.length c2, .slice (some ad3) l3.length c3]) (t := 29) ?hr ?_; (case hd => rfl); (case hg => rfl); (case hr => first | (go_simp; done) | (go_simp; rfl)); intro gb1 hg w1 hbox hb; have n0_ := Aside0.mk (Z8 (by repeat (first | (with_reducible first | exact HB.out | apply Z5 | apply Z3 | apply Z4) | exact HB.out)) hb); have n1_ := Aside0.mk hbox; have GE1 := Aside0.mk (by rw [hg]; exact Z7 (by repeat (first | (with_reducible first | exact HB.out | apply Z5 | apply Z3 | apply Z4) | exact HB.out)) : w.heap.size ≤ gb1); clear HB; have HB := n0_; have BK1 := n1_; clear n0_ n1_; clear hb hbox hg) | ((with_reducible refine gate_dst (N := 2) rfl ?_); refine box_event ?hg (N := 2) ?hd (cs := #[.slice none 0 0, .slice none 0 0, .slice none 0 0, .slice none 0 0]) (t := 29) ?hr ?_; (case hd => rfl); (case hg => rfl); (case hr => first | (go_simp; done) | (go_simp; rfl)); intro gb2 hg w2 hbox hb; have n0_ := Aside0.mk (Z8 (by repeat (first | (with_reducible first | exact HB.out | apply Z5 | apply Z3 | apply Z4) | exact HB.out)) hb); have n1_ := Aside0.mk hbox; have n2_ := Aside0.mk (Z29 BK1.out hb); have GE2 := Aside0.mk (by rw [hg]; exact Z7 (by repeat (first | (with_reducible first | exact HB.out | apply Z5 | apply Z3 | apply Z4) | exact HB.out)) : w.heap.size ≤ gb2); have NB12 := Aside0.mk (by rw [hg]; exact Nat.ne_of_lt (blk_lt BK1.out) : gb1 ≠ gb2); clear HB BK1; have HB := n0_; have BK2 := n1_; have BK1 := n2_; clear n0_ n1_ n2_; clear hb hbox hg))
  have ha0 := (Z24 BK1.out 0).trans rfl
  have ha1 := (Z24 BK1.out 1).trans rfl
  have ha2 := (Z24 BK1.out 2).trans rfl
  have ha3 := (Z24 BK1.out 3).trans rfl
  have hx := (HB.out.cell (World.block_lt_of_cell? w _ HXJ.out)).trans HXJ.out
  go_upto_region 6 with (first | ((with_reducible refine gate_callee (f := 83) rfl ?_); refine goesL_ (some 20) rfl rfl Try.func83 (by kernel_rfl) rfl #[.agg #[.slice (some ad0) l0.length c0, .slice A1 l1.length c1, .slice (some ad2) l2.length c2, .slice (some ad3) l3.length c3]] rfl (by (try simp only [Z34, Z35, Z36]); first | done | rfl) ?_; (with_reducible refine (spec_foOwn.calls _ _ l0 _ _ l1 _ _ l2 _ _ l3 l0 l1 l2 l3 _ ?s1 ?s2 ?s3 ?s4 ?s5 ?s6 ?s7 ?s8 A9.out).mono ?_); (case s1 => exact (by repeat (first | exact (Z23 HR0.out HB.out) | (with_reducible refine Z20 ?_ _) | (with_reducible refine Z21 ?_ _) | (with_reducible refine Z22 ?_)))); (case s2 => exact HC0.out); (case s3 => exact (by repeat (first | exact (Z23 HR1.out HB.out) | (with_reducible refine Z20 ?_ _) | (with_reducible refine Z21 ?_ _) | (with_reducible refine Z22 ?_)))); (case s4 => exact HC1.out); (case s5 => exact (by repeat (first | exact (Z23 HR2.out HB.out) | (with_reducible refine Z20 ?_ _) | (with_reducible refine Z21 ?_ _) | (with_reducible refine Z22 ?_)))); (case s6 => exact HC2.out); (case s7 => exact (by repeat (first | exact (Z23 HR3.out HB.out) | (with_reducible refine Z20 ?_ _) | (with_reducible refine Z21 ?_ _) | (with_reducible refine Z22 ?_)))); (case s8 => exact HC3.out); rintro e w5 ⟨v0, v1, v2, v3, rfl, ho0, ho1, ho2, ho3, hb⟩; refine ⟨_, rfl, ?_⟩; obtain ⟨g0, k0, g1, k1, g2, k2, g3, k3, rfl, rfl, rfl, rfl, hF⟩ := FoR.of (Kd.R_lower ho0 (Z7 (by repeat (first | (with_reducible first | exact HB.out | apply Z5 | apply Z3 | apply Z4) | exact HB.out)))) (Kd.R_lower ho1 (Z7 (by repeat (first | (with_reducible first | exact HB.out | apply Z5 | apply Z3 | apply Z4) | exact HB.out)))) (Kd.R_lower ho2 (Z7 (by repeat (first | (with_reducible first | exact HB.out | apply Z5 | apply Z3 | apply Z4) | exact HB.out)))) (Kd.R_lower ho3 (Z7 (by repeat (first | (with_reducible first | exact HB.out | apply Z5 | apply Z3 | apply Z4) | exact HB.out)))) (by have := HL.out; omega) (by have := HL.out; omega) (by have := HL.out; omega) (by have := HL.out; omega); have n0_ := Aside0.mk hF; have n1_ := Aside0.mk (Z29 (by (with_reducible repeat (first | refine Z26 ?_ _ | refine Z27 ?_ | refine Z28 ?_ _)); exact BK1.out) hb); have n2_ := Aside0.mk (Z29 (by (with_reducible repeat (first | refine Z26 ?_ _ | refine Z27 ?_ | refine Z28 ?_ _)); exact BK2.out) hb); have n3_ := Aside0.mk (Z8 (by repeat (first | (with_reducible first | exact HB.out | apply Z5 | apply Z3 | apply Z4) | exact HB.out)) hb); clear BK1 BK2 HB ho0 ho1 ho2 ho3 hb hF; have HF := n0_; have BK1 := n1_; have BK2 := n2_; have HB := n3_; clear n0_ n1_ n2_ n3_) | ((with_reducible refine gate_dst (N := 6) rfl ?_); refine box_event ?hg (N := 6) ?hd (cs := #[.slice none 0 0, .slice none 0 0, .slice none 0 0, .slice none 0 0]) (t := 29) ?hr ?_; (case hd => rfl); (case hg => rfl); (case hr => first | (go_simp; done) | (go_simp; rfl)); intro gb6 hg w6 hbox hb; have n0_ := Aside0.mk (Z8 (by repeat (first | (with_reducible first | exact HB.out | apply Z5 | apply Z3 | apply Z4) | exact HB.out)) hb); have n1_ := Aside0.mk hbox; have n2_ := Aside0.mk (Z29 (by (with_reducible repeat (first | refine Z26 ?_ _ | refine Z27 ?_ | refine Z28 ?_ _)); exact BK1.out) hb); have n3_ := Aside0.mk (Z29 (by (with_reducible repeat (first | refine Z26 ?_ _ | refine Z27 ?_ | refine Z28 ?_ _)); exact BK2.out) hb); have n4_ := Aside0.mk (FoR.below (by (with_reducible repeat (first | apply FoR.drewN | apply FoR.drew)); exact HF.out) hb); have GE6 := Aside0.mk (by rw [hg]; exact Z7 (by repeat (first | (with_reducible first | exact HB.out | apply Z5 | apply Z3 | apply Z4) | exact HB.out)) : w.heap.size ≤ gb6); have NB16 := Aside0.mk (by rw [hg]; exact Nat.ne_of_lt (blk_lt (by (with_reducible repeat (first | refine Z26 ?_ _ | refine Z27 ?_ | refine Z28 ?_ _)); exact BK1.out)) : gb1 ≠ gb6); have NB26 := Aside0.mk (by rw [hg]; exact Nat.ne_of_lt (blk_lt (by (with_reducible repeat (first | refine Z26 ?_ _ | refine Z27 ?_ | refine Z28 ?_ _)); exact BK2.out)) : gb2 ≠ gb6); clear HB BK1 BK2 HF; have HB := n0_; have BK6 := n1_; have BK1 := n2_; have BK2 := n3_; have HF := n4_; clear n0_ n1_ n2_ n3_ n4_; have hd0 := (Z24 BK6.out 0).trans rfl; have hd1 := (Z24 BK6.out 1).trans rfl; have hd2 := (Z24 BK6.out 2).trans rfl; have hd3 := (Z24 BK6.out 3).trans rfl; have hf0 := Z25 BK6.out 0; have hf1 := Z25 BK6.out 1; have hf2 := Z25 BK6.out 2; have hf3 := Z25 BK6.out 3; clear hb hbox hg))
  have n0_ := Aside0.mk ((set4_far w6 gb6 (.slice (some ⟨g0, 0, none⟩) l0.length k0) (.slice (some ⟨g1, 0, none⟩) l1.length k1) (.slice (some ⟨g2, 0, none⟩) l2.length k2) (.slice (some ⟨g3, 0, none⟩) l3.length k3) gb1 NB16.out).trans BK1.out)
  have n1_ := Aside0.mk ((set4_far w6 gb6 (.slice (some ⟨g0, 0, none⟩) l0.length k0) (.slice (some ⟨g1, 0, none⟩) l1.length k1) (.slice (some ⟨g2, 0, none⟩) l2.length k2) (.slice (some ⟨g3, 0, none⟩) l3.length k3) gb2 NB26.out).trans BK2.out)
  have n2_ := Aside0.mk (set4_at BK6.out (.slice (some ⟨g0, 0, none⟩) l0.length k0) (.slice (some ⟨g1, 0, none⟩) l1.length k1) (.slice (some ⟨g2, 0, none⟩) l2.length k2) (.slice (some ⟨g3, 0, none⟩) l3.length k3))
  have n3_ := Aside0.mk (FoR.set4 HF.out BK6.out (by decide) (by decide) (.slice (some ⟨g0, 0, none⟩) l0.length k0) (.slice (some ⟨g1, 0, none⟩) l1.length k1) (.slice (some ⟨g2, 0, none⟩) l2.length k2) (.slice (some ⟨g3, 0, none⟩) l3.length k3))
  have n4_ := Aside0.mk (set4_below HB.out GE6.out (.slice (some ⟨g0, 0, none⟩) l0.length k0) (.slice (some ⟨g1, 0, none⟩) l1.length k1) (.slice (some ⟨g2, 0, none⟩) l2.length k2) (.slice (some ⟨g3, 0, none⟩) l3.length k3))
  clear BK1 BK2 BK6 HF HB hd0 hd1 hd2 hd3 hf0 hf1 hf2 hf3
  have BK1 := n0_
  have BK2 := n1_
  have BK6 := n2_
  have HF := n3_
  have HB := n4_
  clear n0_ n1_ n2_ n3_ n4_
  unfold set4 at BK1 BK2 BK6 HF HB
  generalize ((((w6.setCell ⟨gb6, 0, none⟩ (.slice (some ⟨g0, 0, none⟩) l0.length k0)).setCell ⟨gb6, 1, none⟩ (.slice (some ⟨g1, 0, none⟩) l1.length k1)).setCell ⟨gb6, 2, none⟩ (.slice (some ⟨g2, 0, none⟩) l2.length k2)).setCell ⟨gb6, 3, none⟩ (.slice (some ⟨g3, 0, none⟩) l3.length k3)) = w7 at BK1 BK2 BK6 HF HB ⊢
  clear ha0 ha1 ha2 ha3 hx
  have hc0 := (Z24 BK6.out 0).trans rfl
  have hc1 := (Z24 BK6.out 1).trans rfl
  have hc2 := (Z24 BK6.out 2).trans rfl
  have hc3 := (Z24 BK6.out 3).trans rfl
  have hxp := (FoR.at3 HF.out 0 (by decide) (by have := HL.out; omega)).1
  have hzp : World.frozen? _ ⟨g3, 0, none⟩ = false := (FoR.at3 HF.out 0 (by decide) (by have := HL.out; omega)).2
  rw [show (0 : Int).toNat = 0 from rfl] at hxp
  go_upto_region 8 with fail
  clear hxp hzp hc0 hc1 hc2 hc3
  have n0_ := Aside0.mk (show (World.setCell w7 ⟨g3, 0, none⟩ (.int .i64 0)).heap[gb1]? = _ from blk_far (p := ⟨g3, 0, none⟩) BK1.out (have n := FoR.apart HF.out BK1.out (by decide) (by decide); n.2.2.2) (.int .i64 0))
  have n1_ := Aside0.mk (show (World.setCell w7 ⟨g3, 0, none⟩ (.int .i64 0)).heap[gb2]? = _ from blk_far (p := ⟨g3, 0, none⟩) BK2.out (have n := FoR.apart HF.out BK2.out (by decide) (by decide); n.2.2.2) (.int .i64 0))
  have n2_ := Aside0.mk (show (World.setCell w7 ⟨g3, 0, none⟩ (.int .i64 0)).heap[gb6]? = _ from blk_far (p := ⟨g3, 0, none⟩) BK6.out (have n := FoR.apart HF.out BK6.out (by decide) (by decide); n.2.2.2) (.int .i64 0))
  have n3_ := Aside0.mk (show FoR (World.setCell w7 ⟨g3, 0, none⟩ (.int .i64 0)) w.heap.size g0 k0 g1 k1 g2 k2 g3 k3 l0 l1 l2 (l3.set 0 0) from FoR.put3 HF.out 0 0)
  have n4_ := Aside0.mk (show Below w.heap.size w (World.setCell w7 ⟨g3, 0, none⟩ (.int .i64 0)) from Z6 HB.out (FoR.ge HF.out).2.2.2)
  clear BK1 BK2 BK6 HF HB
  have BK1 := n0_
  have BK2 := n1_
  have BK6 := n2_
  have HF := n3_
  have HB := n4_
  clear n0_ n1_ n2_ n3_ n4_
  generalize World.setCell w7 ⟨g3, 0, none⟩ (.int .i64 0) = w8 at BK1 BK2 BK6 HF HB ⊢
  have ha0 := (Z24 BK1.out 0).trans rfl
  have ha1 := (Z24 BK1.out 1).trans rfl
  have ha2 := (Z24 BK1.out 2).trans rfl
  have ha3 := (Z24 BK1.out 3).trans rfl
  have hx2 := (HB.out.cell (World.block_lt_of_cell? w _ HX2.out)).trans HX2.out
  go_upto_if 32 with fail
  go_cut [] (fun wc => Aside0 (wc.heap[gb1]? = some (.cells #[.slice (some ad0) l0.length c0, .slice A1 l1.length c1, .slice (some ad2) l2.length c2, .slice (some ad3) l3.length c3] 29 (0, 0))) ∧ Aside0 (wc.heap[gb2]? = some (.cells #[.slice none 0 0, .slice none 0 0, .slice none 0 0, .slice none 0 0] 29 (0, 0))) ∧ Aside0 (wc.heap[gb6]? = some (.cells #[.slice (some ⟨g0, 0, none⟩) l0.length k0, .slice (some ⟨g1, 0, none⟩) l1.length k1, .slice (some ⟨g2, 0, none⟩) l2.length k2, .slice (some ⟨g3, 0, none⟩) l3.length k3] 29 (0, 0))) ∧ Aside0 (FoR wc w.heap.size g0 k0 g1 k1 g2 k2 g3 k3 l0 (l1.set I.toNat X) l2 (l3.set 0 0)) ∧ Aside0 (Below w.heap.size w wc))
  case first =>
   have hx1 := (FoR.at1 HF.out I (by have := HL.out; omega) (by have := HL.out; omega)).1
   have hz1 := (FoR.at1 HF.out I (by have := HL.out; omega) (by have := HL.out; omega)).2
   have hc1 := (Z24 BK6.out 1).trans rfl
   have n0_ := Aside0.mk (show (World.setCell w8 ⟨g1, I.toNat, none⟩ (.int .i64 X)).heap[gb1]? = _ from blk_far (p := ⟨g1, I.toNat, none⟩) BK1.out (have n := FoR.apart HF.out BK1.out (by decide) (by decide); n.2.1) (.int .i64 X))
   have n1_ := Aside0.mk (show (World.setCell w8 ⟨g1, I.toNat, none⟩ (.int .i64 X)).heap[gb2]? = _ from blk_far (p := ⟨g1, I.toNat, none⟩) BK2.out (have n := FoR.apart HF.out BK2.out (by decide) (by decide); n.2.1) (.int .i64 X))
   have n2_ := Aside0.mk (show (World.setCell w8 ⟨g1, I.toNat, none⟩ (.int .i64 X)).heap[gb6]? = _ from blk_far (p := ⟨g1, I.toNat, none⟩) BK6.out (have n := FoR.apart HF.out BK6.out (by decide) (by decide); n.2.1) (.int .i64 X))
   have n3_ := Aside0.mk (show FoR (World.setCell w8 ⟨g1, I.toNat, none⟩ (.int .i64 X)) w.heap.size g0 k0 g1 k1 g2 k2 g3 k3 l0 (l1.set I.toNat X) l2 (l3.set 0 0) from FoR.put1 HF.out I X)
   have n4_ := Aside0.mk (show Below w.heap.size w (World.setCell w8 ⟨g1, I.toNat, none⟩ (.int .i64 X)) from Z6 HB.out (FoR.ge HF.out).2.1)
   cases hU : rdOf false l2 I
   ·have hv : rd l1 I - 1 = X := by have := HXX.out; rw [hU] at this; simpa using this
    have hw : wrap64 (rd l1 I - 1) = X := by rw [← hv]; have := HX.out; unfold wrap64; omega
    have hw' : IntKind.i64.wrap (rd l1 I - 1) = X := (i64_w _).trans hw
    clear hv
    rw [hU] at hx2
    go_wp2
    go_meet
    case rel => exact ⟨n0_, n1_, n2_, n3_, n4_⟩
   ·have hv : rd l1 I + 1 = X := by have := HXX.out; rw [hU] at this; simpa using this
    have hw : wrap64 (rd l1 I + 1) = X := by rw [← hv]; have := HX.out; unfold wrap64; omega
    have hw' : IntKind.i64.wrap (rd l1 I + 1) = X := (i64_w _).trans hw
    clear hv
    rw [hU] at hx2
    go_wp2
    go_meet
    case rel => exact ⟨n0_, n1_, n2_, n3_, n4_⟩
  case rest =>
   clear hx2 ha0 ha1 ha2 ha3 BK1 BK2 BK6 HF HB
   obtain ⟨BK1, BK2, BK6, HF, HB⟩ := hcut
   have HRD := Aside0.mk (show rd (l1.set I.toNat X) I = X from by
    have := HL.out
    unfold rd
    rw [List.getD_eq_getElem?_getD, List.getElem?_set_self (by omega)]; rfl)
   go_upto_region 11 with fail
   go_cut [66] (fun v66 wc => ∃ t : Bool, v66 = .bool t ∧ Aside0 (t = decide (X = 0 ∨ X = rd l0 I - 1)) ∧ Aside0 (wc.heap[gb1]? = some (.cells #[.slice (some ad0) l0.length c0, .slice A1 l1.length c1, .slice (some ad2) l2.length c2, .slice (some ad3) l3.length c3] 29 (0, 0))) ∧ Aside0 (wc.heap[gb2]? = some (.cells #[.slice none 0 0, .slice none 0 0, .slice none 0 0, .slice none 0 0] 29 (0, 0))) ∧ Aside0 (wc.heap[gb6]? = some (.cells #[.slice (some ⟨g0, 0, none⟩) l0.length k0, .slice (some ⟨g1, 0, none⟩) l1.length k1, .slice (some ⟨g2, 0, none⟩) l2.length k2, .slice (some ⟨g3, 0, none⟩) l3.length k3] 29 (0, 0))) ∧ Aside0 (FoR wc w.heap.size g0 k0 g1 k1 g2 k2 g3 k3 l0 (l1.set I.toNat X) l2 (l3.set 0 0)) ∧ Aside0 (Below w.heap.size w wc))
   case first =>
    have hw : wrap64 (rd l0 I - 1) = rd l0 I - 1 := by have := HX.out; unfold wrap64; omega
    have hw' : IntKind.i64.wrap (rd l0 I - 1) = rd l0 I - 1 := (i64_w _).trans hw
    by_cases z : X = 0
    ·have zb : (X == 0) = true := beq_iff_eq.mpr z
     have HT := Aside0.mk (Z39 (p := X = 0 ∨ X = rd l0 I - 1) (Or.inl z))
     clear z
     go_wp2_with fail
     have n0_ := Aside0.mk (Z27 BK1.out)
     have n1_ := Aside0.mk (Z27 BK2.out)
     have n2_ := Aside0.mk (Z27 BK6.out)
     have n3_ := Aside0.mk (FoR.drew HF.out)
     have n4_ := Aside0.mk (Z4 HB.out)
     clear BK1 BK2 BK6 HF HB
     have BK1 := n0_
     have BK2 := n1_
     have BK6 := n2_
     have HF := n3_
     have HB := n4_
     clear n0_ n1_ n2_ n3_ n4_
     refine start_ (n := 20) (S := fun w' => w'.cell? ⟨gb6, 1, none⟩ = some (.slice (some ⟨g1, 0, none⟩) l1.length k1) ∧ w'.cell? ⟨gb1, 0, none⟩ = some (.slice (some ad0) l0.length c0) ∧ w'.cell? ⟨g1, I.toNat, none⟩ = some (.int .i64 X) ∧ w'.cell? (ad0.add I.toNat) = some (.int .i64 (rd l0 I))) (ds := []) #[false, false, false, false, false, false, false, false, false, false, false, false, false, false, false, false, false, false, false, false] (by kernel_rfl) rfl rfl ⟨(Z24 BK6.out 1).trans rfl, (Z24 BK1.out 0).trans rfl, ((FoR.at1 HF.out I (by have := HL.out; omega) (by rw [List.length_set]; have := HL.out; omega)).1.trans (by rw [HRD.out])), ((HB.out.cell (World.block_lt_of_cell? w _ HX0.out)).trans HX0.out)⟩ (fun hHeld => ?_)
     generalize World.drew _ = w9 at BK1 BK2 BK6 HF HB hHeld ⊢
     refine pure_ (i := 0) (N := some 47) (v := ?_) (a' := ?_) #[true, false, false, false, false, false, false, false, false, false, false, false, false, false, false, false, false, false, false, false] rfl rfl (by kernel_rfl) (fun _ _ _ h => h) (Or.inl ⟨by rfl, ?_⟩) ?_ ?_
     rotate_left
     ·intro w'
      go_simp
      with_reducible rfl
     rotate_left
     ·simp only [Act.put, Z0, Z1, Z2, i64_w, i32_w]
      rfl
     refine pure_ (i := 2) (N := some 49) (v := ?_) (a' := ?_) #[true, false, true, false, false, false, false, false, false, false, false, false, false, false, false, false, false, false, false, false] rfl rfl (by kernel_rfl) (fun _ _ _ h => h) (Or.inl ⟨by rfl, ?_⟩) ?_ ?_
     rotate_left
     ·intro w'
      go_simp
      with_reducible rfl
     rotate_left
     ·simp only [Act.put, Z0, Z1, Z2, i64_w, i32_w]
      rfl
     refine take_ (i := 1) (N := some 48) (v := ?_) (a' := ?_) #[true, true, true, false, false, false, false, false, false, false, false, false, false, false, false, false, false, false, false, false] rfl rfl (by kernel_rfl) (fun _ _ _ h => h) (Or.inl ⟨by rfl, ?_⟩) hHeld ?_ ?_
     rotate_left
     ·rintro w' ⟨s0, s1, s2, s3⟩
      go_simp
      with_reducible rfl
     rotate_left
     ·simp only [Act.put, Z0, Z1, Z2, i64_w, i32_w]
      rfl
     refine pure_ (i := 3) (N := some 50) (v := ?_) (a' := ?_) #[true, true, true, true, false, false, false, false, false, false, false, false, false, false, false, false, false, false, false, false] rfl rfl (by kernel_rfl) (fun _ _ _ h => h) (Or.inl ⟨by rfl, ?_⟩) ?_ ?_
     rotate_left
     ·intro w'
      go_simp
      with_reducible rfl
     rotate_left
     ·simp only [Act.put, Z0, Z1, Z2, i64_w, i32_w]
      rfl
     refine take_ (i := 4) (N := some 51) (v := ?_) (a' := ?_) #[true, true, true, true, true, false, false, false, false, false, false, false, false, false, false, false, false, false, false, false] rfl rfl (by kernel_rfl) (fun _ _ _ h => h) (Or.inl ⟨by rfl, ?_⟩) hHeld ?_ ?_
     rotate_left
     ·rintro w' ⟨s0, s1, s2, s3⟩
      go_simp
      with_reducible rfl
     rotate_left
     ·simp only [Act.put, Z0, Z1, Z2, i64_w, i32_w]
      rfl
     refine pure_ (i := 5) (N := some 52) (v := ?_) (a' := ?_) #[true, true, true, true, true, true, false, false, false, false, false, false, false, false, false, false, false, false, false, false] rfl rfl (by kernel_rfl) (fun _ _ _ h => h) (Or.inl ⟨by rfl, ?_⟩) ?_ ?_
     rotate_left
     ·intro w'
      go_simp
      with_reducible rfl
     rotate_left
     ·simp only [Act.put, Z0, Z1, Z2, i64_w, i32_w]
      rfl
     refine pure_ (i := 6) (N := some 53) (v := ?_) (a' := ?_) #[true, true, true, true, true, true, true, false, false, false, false, false, false, false, false, false, false, false, false, false] rfl rfl (by kernel_rfl) (fun _ _ _ h => h) (Or.inl ⟨by rfl, ?_⟩) ?_ ?_
     rotate_left
     ·intro w'
      go_simp
      with_reducible rfl
     rotate_left
     ·simp only [Act.put, Z0, Z1, Z2, i64_w, i32_w]
      rfl
     refine pure_ (i := 7) (N := some 54) (v := undef) (a' := ?_) #[true, true, true, true, true, true, true, true, false, false, false, false, false, false, false, false, false, false, false, false] rfl rfl (by kernel_rfl) (fun _ _ _ h => h) (Or.inr ⟨by rfl, rfl⟩) ?_ ?_
     rotate_left
     ·simp only [Act.put, Z0, Z1, Z2, i64_w, i32_w]
      rfl
     refine pure_ (i := 8) (N := some 55) (v := undef) (a' := ?_) #[true, true, true, true, true, true, true, true, true, false, false, false, false, false, false, false, false, false, false, false] rfl rfl (by kernel_rfl) (fun _ _ _ h => h) (Or.inr ⟨by rfl, rfl⟩) ?_ ?_
     rotate_left
     ·simp only [Act.put, Z0, Z1, Z2, i64_w, i32_w]
      rfl
     refine pure_ (i := 9) (N := some 56) (v := undef) (a' := ?_) #[true, true, true, true, true, true, true, true, true, true, false, false, false, false, false, false, false, false, false, false] rfl rfl (by kernel_rfl) (fun _ _ _ h => h) (Or.inr ⟨by rfl, rfl⟩) ?_ ?_
     rotate_left
     ·simp only [Act.put, Z0, Z1, Z2, i64_w, i32_w]
      rfl
     refine pure_ (i := 10) (N := some 57) (v := undef) (a' := ?_) #[true, true, true, true, true, true, true, true, true, true, true, false, false, false, false, false, false, false, false, false] rfl rfl (by kernel_rfl) (fun _ _ _ h => h) (Or.inr ⟨by rfl, rfl⟩) ?_ ?_
     rotate_left
     ·simp only [Act.put, Z0, Z1, Z2, i64_w, i32_w]
      rfl
     refine pure_ (i := 11) (N := some 58) (v := undef) (a' := ?_) #[true, true, true, true, true, true, true, true, true, true, true, true, false, false, false, false, false, false, false, false] rfl rfl (by kernel_rfl) (fun _ _ _ h => h) (Or.inr ⟨by rfl, rfl⟩) ?_ ?_
     rotate_left
     ·simp only [Act.put, Z0, Z1, Z2, i64_w, i32_w]
      rfl
     refine pure_ (i := 12) (N := some 59) (v := undef) (a' := ?_) #[true, true, true, true, true, true, true, true, true, true, true, true, true, false, false, false, false, false, false, false] rfl rfl (by kernel_rfl) (fun _ _ _ h => h) (Or.inr ⟨by rfl, rfl⟩) ?_ ?_
     rotate_left
     ·simp only [Act.put, Z0, Z1, Z2, i64_w, i32_w]
      rfl
     refine pure_ (i := 13) (N := some 60) (v := undef) (a' := ?_) #[true, true, true, true, true, true, true, true, true, true, true, true, true, true, false, false, false, false, false, false] rfl rfl (by kernel_rfl) (fun _ _ _ h => h) (Or.inr ⟨by rfl, rfl⟩) ?_ ?_
     rotate_left
     ·simp only [Act.put, Z0, Z1, Z2, i64_w, i32_w]
      rfl
     refine pure_ (i := 14) (N := some 61) (v := undef) (a' := ?_) #[true, true, true, true, true, true, true, true, true, true, true, true, true, true, true, false, false, false, false, false] rfl rfl (by kernel_rfl) (fun _ _ _ h => h) (Or.inr ⟨by rfl, rfl⟩) ?_ ?_
     rotate_left
     ·simp only [Act.put, Z0, Z1, Z2, i64_w, i32_w]
      rfl
     refine pure_ (i := 15) (N := some 62) (v := undef) (a' := ?_) #[true, true, true, true, true, true, true, true, true, true, true, true, true, true, true, true, false, false, false, false] rfl rfl (by kernel_rfl) (fun _ _ _ h => h) (Or.inr ⟨by rfl, rfl⟩) ?_ ?_
     rotate_left
     ·simp only [Act.put, Z0, Z1, Z2, i64_w, i32_w]
      rfl
     refine pure_ (i := 16) (N := some 63) (v := undef) (a' := ?_) #[true, true, true, true, true, true, true, true, true, true, true, true, true, true, true, true, true, false, false, false] rfl rfl (by kernel_rfl) (fun _ _ _ h => h) (Or.inr ⟨by rfl, rfl⟩) ?_ ?_
     rotate_left
     ·simp only [Act.put, Z0, Z1, Z2, i64_w, i32_w]
      rfl
     refine pure_ (i := 17) (N := some 64) (v := undef) (a' := ?_) #[true, true, true, true, true, true, true, true, true, true, true, true, true, true, true, true, true, true, false, false] rfl rfl (by kernel_rfl) (fun _ _ _ h => h) (Or.inr ⟨by rfl, rfl⟩) ?_ ?_
     rotate_left
     ·simp only [Act.put, Z0, Z1, Z2, i64_w, i32_w]
      rfl
     refine pure_ (i := 18) (N := some 65) (v := undef) (a' := ?_) #[true, true, true, true, true, true, true, true, true, true, true, true, true, true, true, true, true, true, true, false] rfl rfl (by kernel_rfl) (fun _ _ _ h => h) (Or.inr ⟨by rfl, rfl⟩) ?_ ?_
     rotate_left
     ·simp only [Act.put, Z0, Z1, Z2, i64_w, i32_w]
      rfl
     refine pure_ (i := 19) (N := some 66) (v := ?_) (a' := ?_) #[true, true, true, true, true, true, true, true, true, true, true, true, true, true, true, true, true, true, true, true] rfl rfl (by kernel_rfl) (fun _ _ _ h => h) (Or.inl ⟨by rfl, ?_⟩) ?_ ?_
     rotate_left
     ·intro w'
      go_simp
      with_reducible rfl
     rotate_left
     ·simp only [Act.put, Z0, Z1, Z2, i64_w, i32_w]
      rfl
     refine done_ (by kernel_rfl) ?_
     go_step
     go_step
     go_meet
     case rel => exact ⟨true, rfl, ⟨HT.out.symm⟩, BK1, BK2, BK6, HF, HB⟩
    ·have zb : (X == 0) = false := beq_eq_false_iff_ne.mpr z
     have HT := Aside0.mk (show (X == rd l0 I - 1) = decide (X = 0 ∨ X = rd l0 I - 1) from by rw [Bool.eq_iff_iff]; simp [z])
     clear z
     go_wp2_with fail
     have n0_ := Aside0.mk (Z27 BK1.out)
     have n1_ := Aside0.mk (Z27 BK2.out)
     have n2_ := Aside0.mk (Z27 BK6.out)
     have n3_ := Aside0.mk (FoR.drew HF.out)
     have n4_ := Aside0.mk (Z4 HB.out)
     clear BK1 BK2 BK6 HF HB
     have BK1 := n0_
     have BK2 := n1_
     have BK6 := n2_
     have HF := n3_
     have HB := n4_
     clear n0_ n1_ n2_ n3_ n4_
     refine start_ (n := 20) (S := fun w' => w'.cell? ⟨gb6, 1, none⟩ = some (.slice (some ⟨g1, 0, none⟩) l1.length k1) ∧ w'.cell? ⟨gb1, 0, none⟩ = some (.slice (some ad0) l0.length c0) ∧ w'.cell? ⟨g1, I.toNat, none⟩ = some (.int .i64 X) ∧ w'.cell? (ad0.add I.toNat) = some (.int .i64 (rd l0 I))) (ds := []) #[false, false, false, false, false, false, false, false, false, false, false, false, false, false, false, false, false, false, false, false] (by kernel_rfl) rfl rfl ⟨(Z24 BK6.out 1).trans rfl, (Z24 BK1.out 0).trans rfl, ((FoR.at1 HF.out I (by have := HL.out; omega) (by rw [List.length_set]; have := HL.out; omega)).1.trans (by rw [HRD.out])), ((HB.out.cell (World.block_lt_of_cell? w _ HX0.out)).trans HX0.out)⟩ (fun hHeld => ?_)
     generalize World.drew _ = w9 at BK1 BK2 BK6 HF HB hHeld ⊢
     refine pure_ (i := 0) (N := some 47) (v := ?_) (a' := ?_) #[true, false, false, false, false, false, false, false, false, false, false, false, false, false, false, false, false, false, false, false] rfl rfl (by kernel_rfl) (fun _ _ _ h => h) (Or.inl ⟨by rfl, ?_⟩) ?_ ?_
     rotate_left
     ·intro w'
      go_simp
      with_reducible rfl
     rotate_left
     ·simp only [Act.put, Z0, Z1, Z2, i64_w, i32_w]
      rfl
     refine pure_ (i := 2) (N := some 49) (v := ?_) (a' := ?_) #[true, false, true, false, false, false, false, false, false, false, false, false, false, false, false, false, false, false, false, false] rfl rfl (by kernel_rfl) (fun _ _ _ h => h) (Or.inl ⟨by rfl, ?_⟩) ?_ ?_
     rotate_left
     ·intro w'
      go_simp
      with_reducible rfl
     rotate_left
     ·simp only [Act.put, Z0, Z1, Z2, i64_w, i32_w]
      rfl
     refine take_ (i := 1) (N := some 48) (v := ?_) (a' := ?_) #[true, true, true, false, false, false, false, false, false, false, false, false, false, false, false, false, false, false, false, false] rfl rfl (by kernel_rfl) (fun _ _ _ h => h) (Or.inl ⟨by rfl, ?_⟩) hHeld ?_ ?_
     rotate_left
     ·rintro w' ⟨s0, s1, s2, s3⟩
      go_simp
      with_reducible rfl
     rotate_left
     ·simp only [Act.put, Z0, Z1, Z2, i64_w, i32_w]
      rfl
     refine pure_ (i := 3) (N := some 50) (v := ?_) (a' := ?_) #[true, true, true, true, false, false, false, false, false, false, false, false, false, false, false, false, false, false, false, false] rfl rfl (by kernel_rfl) (fun _ _ _ h => h) (Or.inl ⟨by rfl, ?_⟩) ?_ ?_
     rotate_left
     ·intro w'
      go_simp
      with_reducible rfl
     rotate_left
     ·simp only [Act.put, Z0, Z1, Z2, i64_w, i32_w]
      rfl
     refine take_ (i := 4) (N := some 51) (v := ?_) (a' := ?_) #[true, true, true, true, true, false, false, false, false, false, false, false, false, false, false, false, false, false, false, false] rfl rfl (by kernel_rfl) (fun _ _ _ h => h) (Or.inl ⟨by rfl, ?_⟩) hHeld ?_ ?_
     rotate_left
     ·rintro w' ⟨s0, s1, s2, s3⟩
      go_simp
      with_reducible rfl
     rotate_left
     ·simp only [Act.put, Z0, Z1, Z2, i64_w, i32_w]
      rfl
     refine pure_ (i := 5) (N := some 52) (v := ?_) (a' := ?_) #[true, true, true, true, true, true, false, false, false, false, false, false, false, false, false, false, false, false, false, false] rfl rfl (by kernel_rfl) (fun _ _ _ h => h) (Or.inl ⟨by rfl, ?_⟩) ?_ ?_
     rotate_left
     ·intro w'
      go_simp
      with_reducible rfl
     rotate_left
     ·simp only [Act.put, Z0, Z1, Z2, i64_w, i32_w]
      rfl
     refine pure_ (i := 6) (N := some 53) (v := ?_) (a' := ?_) #[true, true, true, true, true, true, true, false, false, false, false, false, false, false, false, false, false, false, false, false] rfl rfl (by kernel_rfl) (fun _ _ _ h => h) (Or.inl ⟨by rfl, ?_⟩) ?_ ?_
     rotate_left
     ·intro w'
      go_simp
      with_reducible rfl
     rotate_left
     ·simp only [Act.put, Z0, Z1, Z2, i64_w, i32_w]
      rfl
     refine pure_ (i := 7) (N := some 54) (v := ?_) (a' := ?_) #[true, true, true, true, true, true, true, true, false, false, false, false, false, false, false, false, false, false, false, false] rfl rfl (by kernel_rfl) (fun _ _ _ h => h) (Or.inl ⟨by rfl, ?_⟩) ?_ ?_
     rotate_left
     ·intro w'
      go_simp
      with_reducible rfl
     rotate_left
     ·simp only [Act.put, Z0, Z1, Z2, i64_w, i32_w]
      rfl
     refine pure_ (i := 9) (N := some 56) (v := ?_) (a' := ?_) #[true, true, true, true, true, true, true, true, false, true, false, false, false, false, false, false, false, false, false, false] rfl rfl (by kernel_rfl) (fun _ _ _ h => h) (Or.inl ⟨by rfl, ?_⟩) ?_ ?_
     rotate_left
     ·intro w'
      go_simp
      with_reducible rfl
     rotate_left
     ·simp only [Act.put, Z0, Z1, Z2, i64_w, i32_w]
      rfl
     refine pure_ (i := 12) (N := some 59) (v := ?_) (a' := ?_) #[true, true, true, true, true, true, true, true, false, true, false, false, true, false, false, false, false, false, false, false] rfl rfl (by kernel_rfl) (fun _ _ _ h => h) (Or.inl ⟨by rfl, ?_⟩) ?_ ?_
     rotate_left
     ·intro w'
      go_simp
      with_reducible rfl
     rotate_left
     ·simp only [Act.put, Z0, Z1, Z2, i64_w, i32_w]
      rfl
     refine pure_ (i := 14) (N := some 61) (v := ?_) (a' := ?_) #[true, true, true, true, true, true, true, true, false, true, false, false, true, false, true, false, false, false, false, false] rfl rfl (by kernel_rfl) (fun _ _ _ h => h) (Or.inl ⟨by rfl, ?_⟩) ?_ ?_
     rotate_left
     ·intro w'
      go_simp
      with_reducible rfl
     rotate_left
     ·simp only [Act.put, Z0, Z1, Z2, i64_w, i32_w]
      rfl
     refine take_ (i := 8) (N := some 55) (v := ?_) (a' := ?_) #[true, true, true, true, true, true, true, true, true, true, false, false, true, false, true, false, false, false, false, false] rfl rfl (by kernel_rfl) (fun _ _ _ h => h) (Or.inl ⟨by rfl, ?_⟩) hHeld ?_ ?_
     rotate_left
     ·rintro w' ⟨s0, s1, s2, s3⟩
      go_simp
      with_reducible rfl
     rotate_left
     ·simp only [Act.put, Z0, Z1, Z2, i64_w, i32_w]
      rfl
     refine pure_ (i := 10) (N := some 57) (v := ?_) (a' := ?_) #[true, true, true, true, true, true, true, true, true, true, true, false, true, false, true, false, false, false, false, false] rfl rfl (by kernel_rfl) (fun _ _ _ h => h) (Or.inl ⟨by rfl, ?_⟩) ?_ ?_
     rotate_left
     ·intro w'
      go_simp
      with_reducible rfl
     rotate_left
     ·simp only [Act.put, Z0, Z1, Z2, i64_w, i32_w]
      rfl
     refine take_ (i := 11) (N := some 58) (v := ?_) (a' := ?_) #[true, true, true, true, true, true, true, true, true, true, true, true, true, false, true, false, false, false, false, false] rfl rfl (by kernel_rfl) (fun _ _ _ h => h) (Or.inl ⟨by rfl, ?_⟩) hHeld ?_ ?_
     rotate_left
     ·rintro w' ⟨s0, s1, s2, s3⟩
      go_simp
      with_reducible rfl
     rotate_left
     ·simp only [Act.put, Z0, Z1, Z2, i64_w, i32_w]
      rfl
     refine take_ (i := 13) (N := some 60) (v := ?_) (a' := ?_) #[true, true, true, true, true, true, true, true, true, true, true, true, true, true, true, false, false, false, false, false] rfl rfl (by kernel_rfl) (fun _ _ _ h => h) (Or.inl ⟨by rfl, ?_⟩) hHeld ?_ ?_
     rotate_left
     ·rintro w' ⟨s0, s1, s2, s3⟩
      go_simp
      with_reducible rfl
     rotate_left
     ·simp only [Act.put, Z0, Z1, Z2, i64_w, i32_w]
      rfl
     refine pure_ (i := 15) (N := some 62) (v := ?_) (a' := ?_) #[true, true, true, true, true, true, true, true, true, true, true, true, true, true, true, true, false, false, false, false] rfl rfl (by kernel_rfl) (fun _ _ _ h => h) (Or.inl ⟨by rfl, ?_⟩) ?_ ?_
     rotate_left
     ·intro w'
      go_simp
      with_reducible rfl
     rotate_left
     ·simp only [Act.put, Z0, Z1, Z2, i64_w, i32_w]
      rfl
     refine take_ (i := 16) (N := some 63) (v := ?_) (a' := ?_) #[true, true, true, true, true, true, true, true, true, true, true, true, true, true, true, true, true, false, false, false] rfl rfl (by kernel_rfl) (fun _ _ _ h => h) (Or.inl ⟨by rfl, ?_⟩) hHeld ?_ ?_
     rotate_left
     ·rintro w' ⟨s0, s1, s2, s3⟩
      go_simp
      with_reducible rfl
     rotate_left
     ·simp only [Act.put, Z0, Z1, Z2, i64_w, i32_w]
      rfl
     refine pure_ (i := 17) (N := some 64) (v := ?_) (a' := ?_) #[true, true, true, true, true, true, true, true, true, true, true, true, true, true, true, true, true, true, false, false] rfl rfl (by kernel_rfl) (fun _ _ _ h => h) (Or.inl ⟨by rfl, ?_⟩) ?_ ?_
     rotate_left
     ·intro w'
      go_simp
      with_reducible rfl
     rotate_left
     ·simp only [Act.put, Z0, Z1, Z2, i64_w, i32_w]
      rfl
     refine pure_ (i := 18) (N := some 65) (v := ?_) (a' := ?_) #[true, true, true, true, true, true, true, true, true, true, true, true, true, true, true, true, true, true, true, false] rfl rfl (by kernel_rfl) (fun _ _ _ h => h) (Or.inl ⟨by rfl, ?_⟩) ?_ ?_
     rotate_left
     ·intro w'
      go_simp
      with_reducible rfl
     rotate_left
     ·simp only [Act.put, Z0, Z1, Z2, i64_w, i32_w]
      rfl
     refine pure_ (i := 19) (N := some 66) (v := ?_) (a' := ?_) #[true, true, true, true, true, true, true, true, true, true, true, true, true, true, true, true, true, true, true, true] rfl rfl (by kernel_rfl) (fun _ _ _ h => h) (Or.inl ⟨by rfl, ?_⟩) ?_ ?_
     rotate_left
     ·intro w'
      go_simp
      with_reducible rfl
     rotate_left
     ·simp only [Act.put, Z0, Z1, Z2, i64_w, i32_w]
      rfl
     refine done_ (by kernel_rfl) ?_
     go_step
     go_step
     go_meet
     case rel => exact ⟨_, rfl, HT, BK1, BK2, BK6, HF, HB⟩
   case rest =>
    clear BK1 BK2 BK6 HF HB
    obtain ⟨t, rfl, HT, BK1, BK2, BK6, HF, HB⟩ := hcut
    cases t
    ·have h := HH.out
     rw [if_neg (fun e => by have h_ := HT.out; rw [Z39 e] at h_; cases h_)] at h
     simp only [Option.some.injEq, Prod.mk.injEq] at h
     obtain ⟨rfl, rfl, rfl, rfl⟩ := h
     have hc0 := (Z24 BK6.out 0).trans rfl
     have hc1 := (Z24 BK6.out 1).trans rfl
     have hc2 := (Z24 BK6.out 2).trans rfl
     have hc3 := (Z24 BK6.out 3).trans rfl
     have hd0 := (Z24 BK2.out 0).trans rfl
     have hf0 := Z25 BK2.out 0
     have hd1 := (Z24 BK2.out 1).trans rfl
     have hf1 := Z25 BK2.out 1
     have hd2 := (Z24 BK2.out 2).trans rfl
     have hf2 := Z25 BK2.out 2
     have hd3 := (Z24 BK2.out 3).trans rfl
     have hf3 := Z25 BK2.out 3
     go_wp2
     refine bodyPost_ret (results_ct rfl _ _ gb2 29 #[.slice (some ⟨g0, 0, none⟩) l0.length k0, .slice (some ⟨g1, 0, none⟩) l1.length k1, .slice (some ⟨g2, 0, none⟩) l2.length k2, .slice (some ⟨g3, 0, none⟩) l3.length k3] (0, 0) _ rfl (set4_at BK2.out _ _ _ _) Try.underlying29 rfl (by kernel_rfl)) rfl ?_
     obtain ⟨q0, q1, q2, q3⟩ := FoR.back (FoR.set4 HF.out BK2.out (by decide) (by decide) (.slice (some ⟨g0, 0, none⟩) l0.length k0) (.slice (some ⟨g1, 0, none⟩) l1.length k1) (.slice (some ⟨g2, 0, none⟩) l2.length k2) (.slice (some ⟨g3, 0, none⟩) l3.length k3))
     simp only [List.length_set] at q0 q1 q2 q3
     exact ⟨.slice (some ⟨g0, 0, none⟩) l0.length k0, .slice (some ⟨g1, 0, none⟩) l1.length k1, .slice (some ⟨g2, 0, none⟩) l2.length k2, .slice (some ⟨g3, 0, none⟩) l3.length k3, by rw [HIE.out]; rfl, q0, q1, q2, q3, set4_below HB.out GE2.out _ _ _ _⟩
    ·have h := HH.out
     rw [if_pos (Z31 HT.out.symm)] at h
     simp only [Option.some.injEq, Prod.mk.injEq] at h
     obtain ⟨rfl, rfl, rfl, rfl⟩ := h
     go_wp2_with fail
     have n0_ := Aside0.mk (Z27 BK1.out)
     have n1_ := Aside0.mk (Z27 BK2.out)
     have n2_ := Aside0.mk (Z27 BK6.out)
     have n3_ := Aside0.mk (FoR.drew HF.out)
     have n4_ := Aside0.mk (Z4 HB.out)
     clear BK1 BK2 BK6 HF HB
     have BK1 := n0_
     have BK2 := n1_
     have BK6 := n2_
     have HF := n3_
     have HB := n4_
     clear n0_ n1_ n2_ n3_ n4_
     refine start_ (n := 11) (S := fun w' => w'.cell? ⟨gb6, 2, none⟩ = some (.slice (some ⟨g2, 0, none⟩) l2.length k2) ∧ w'.cell? ⟨gb1, 2, none⟩ = some (.slice (some ad2) l2.length c2) ∧ w'.cell? (ad2.add I.toNat) = some (.bool (rdOf false l2 I))) (ds := [10]) #[false, false, false, false, false, false, false, false, false, false, false] (by kernel_rfl) rfl rfl ⟨(Z24 BK6.out 2).trans rfl, (Z24 BK1.out 2).trans rfl, ((HB.out.cell (World.block_lt_of_cell? w _ HX2.out)).trans HX2.out)⟩ (fun hHeld => ?_)
     generalize World.drew _ = w9 at BK1 BK2 BK6 HF HB hHeld ⊢
     have hxs := (FoR.at2 HF.out I (by have := HL.out; omega) (by have := HL.out; omega)).1
     have hzs := (FoR.at2 HF.out I (by have := HL.out; omega) (by have := HL.out; omega)).2
     refine pure_ (i := 0) (N := some 67) (v := ?_) (a' := ?_) #[true, false, false, false, false, false, false, false, false, false, false] rfl rfl (by kernel_rfl) (fun _ _ _ h => h) (Or.inl ⟨by rfl, ?_⟩) ?_ ?_
     rotate_left
     ·intro w'
      go_simp
      with_reducible rfl
     rotate_left
     ·simp only [Act.put, Z0, Z1, Z2, i64_w, i32_w]
      rfl
     refine pure_ (i := 2) (N := some 69) (v := ?_) (a' := ?_) #[true, false, true, false, false, false, false, false, false, false, false] rfl rfl (by kernel_rfl) (fun _ _ _ h => h) (Or.inl ⟨by rfl, ?_⟩) ?_ ?_
     rotate_left
     ·intro w'
      go_simp
      with_reducible rfl
     rotate_left
     ·simp only [Act.put, Z0, Z1, Z2, i64_w, i32_w]
      rfl
     refine pure_ (i := 3) (N := some 70) (v := ?_) (a' := ?_) #[true, false, true, true, false, false, false, false, false, false, false] rfl rfl (by kernel_rfl) (fun _ _ _ h => h) (Or.inl ⟨by rfl, ?_⟩) ?_ ?_
     rotate_left
     ·intro w'
      go_simp
      with_reducible rfl
     rotate_left
     ·simp only [Act.put, Z0, Z1, Z2, i64_w, i32_w]
      rfl
     refine pure_ (i := 5) (N := some 72) (v := ?_) (a' := ?_) #[true, false, true, true, false, true, false, false, false, false, false] rfl rfl (by kernel_rfl) (fun _ _ _ h => h) (Or.inl ⟨by rfl, ?_⟩) ?_ ?_
     rotate_left
     ·intro w'
      go_simp
      with_reducible rfl
     rotate_left
     ·simp only [Act.put, Z0, Z1, Z2, i64_w, i32_w]
      rfl
     refine take_ (i := 1) (N := some 68) (v := ?_) (a' := ?_) #[true, true, true, true, false, true, false, false, false, false, false] rfl rfl (by kernel_rfl) (fun _ _ _ h => h) (Or.inl ⟨by rfl, ?_⟩) hHeld ?_ ?_
     rotate_left
     ·rintro w' ⟨s0, s1, s2⟩
      go_simp
      with_reducible rfl
     rotate_left
     ·simp only [Act.put, Z0, Z1, Z2, i64_w, i32_w]
      rfl
     refine take_ (i := 4) (N := some 71) (v := ?_) (a' := ?_) #[true, true, true, true, true, true, false, false, false, false, false] rfl rfl (by kernel_rfl) (fun _ _ _ h => h) (Or.inl ⟨by rfl, ?_⟩) hHeld ?_ ?_
     rotate_left
     ·rintro w' ⟨s0, s1, s2⟩
      go_simp
      with_reducible rfl
     rotate_left
     ·simp only [Act.put, Z0, Z1, Z2, i64_w, i32_w]
      rfl
     refine pure_ (i := 6) (N := some 73) (v := ?_) (a' := ?_) #[true, true, true, true, true, true, true, false, false, false, false] rfl rfl (by kernel_rfl) (fun _ _ _ h => h) (Or.inl ⟨by rfl, ?_⟩) ?_ ?_
     rotate_left
     ·intro w'
      go_simp
      with_reducible rfl
     rotate_left
     ·simp only [Act.put, Z0, Z1, Z2, i64_w, i32_w]
      rfl
     refine take_ (i := 7) (N := some 74) (v := ?_) (a' := ?_) #[true, true, true, true, true, true, true, true, false, false, false] rfl rfl (by kernel_rfl) (fun _ _ _ h => h) (Or.inl ⟨by rfl, ?_⟩) hHeld ?_ ?_
     rotate_left
     ·rintro w' ⟨s0, s1, s2⟩
      go_simp
      with_reducible rfl
     rotate_left
     ·simp only [Act.put, Z0, Z1, Z2, i64_w, i32_w]
      rfl
     refine pure_ (i := 8) (N := some 75) (v := ?_) (a' := ?_) #[true, true, true, true, true, true, true, true, true, false, false] rfl rfl (by kernel_rfl) (fun _ _ _ h => h) (Or.inl ⟨by rfl, ?_⟩) ?_ ?_
     rotate_left
     ·intro w'
      go_simp
      with_reducible rfl
     rotate_left
     ·simp only [Act.put, Z0, Z1, Z2, i64_w, i32_w]
      rfl
     refine pure_ (i := 9) (N := some 76) (v := ?_) (a' := ?_) #[true, true, true, true, true, true, true, true, true, true, false] rfl rfl (by kernel_rfl) (fun _ _ _ h => h) (Or.inl ⟨by rfl, ?_⟩) ?_ ?_
     rotate_left
     ·intro w'
      go_simp
      with_reducible rfl
     rotate_left
     ·simp only [Act.put, Z0, Z1, Z2, i64_w, i32_w]
      rfl
     refine last_ (i := 10) (N := none) #[true, true, true, true, true, true, true, true, true, true, true] rfl rfl (by kernel_rfl) (by decide) (fun K hK => ?_)
     refine skip_ (w1 := ?_) (by rfl) rfl ?_ ?_
     rotate_left
     ·go_simp
      rfl
     refine hK.out _ _ ?_
     clear hK K
     refine done_ (by kernel_rfl) ?_
     clear hxs hzs
     have n0_ := Aside0.mk (show (World.setCell w9 ⟨g2, I.toNat, none⟩ (.bool (!rdOf false l2 I))).heap[gb1]? = _ from blk_far (p := ⟨g2, I.toNat, none⟩) BK1.out (have n := FoR.apart HF.out BK1.out (by decide) (by decide); n.2.2.1) (.bool (!rdOf false l2 I)))
     have n1_ := Aside0.mk (show (World.setCell w9 ⟨g2, I.toNat, none⟩ (.bool (!rdOf false l2 I))).heap[gb2]? = _ from blk_far (p := ⟨g2, I.toNat, none⟩) BK2.out (have n := FoR.apart HF.out BK2.out (by decide) (by decide); n.2.2.1) (.bool (!rdOf false l2 I)))
     have n2_ := Aside0.mk (show (World.setCell w9 ⟨g2, I.toNat, none⟩ (.bool (!rdOf false l2 I))).heap[gb6]? = _ from blk_far (p := ⟨g2, I.toNat, none⟩) BK6.out (have n := FoR.apart HF.out BK6.out (by decide) (by decide); n.2.2.1) (.bool (!rdOf false l2 I)))
     have n3_ := Aside0.mk (show FoR (World.setCell w9 ⟨g2, I.toNat, none⟩ (.bool (!rdOf false l2 I))) w.heap.size g0 k0 g1 k1 g2 k2 g3 k3 l0 (l1.set I.toNat X) (l2.set I.toNat (!rdOf false l2 I)) (l3.set 0 0) from FoR.put2 HF.out I _)
     have n4_ := Aside0.mk (show Below w.heap.size w (World.setCell w9 ⟨g2, I.toNat, none⟩ (.bool (!rdOf false l2 I))) from Z6 HB.out (FoR.ge HF.out).2.2.1)
     clear BK1 BK2 BK6 HF HB
     have BK1 := n0_
     have BK2 := n1_
     have BK6 := n2_
     have HF := n3_
     have HB := n4_
     clear n0_ n1_ n2_ n3_ n4_
     generalize World.setCell w9 ⟨g2, I.toNat, none⟩ (.bool (!rdOf false l2 I)) = w10 at BK1 BK2 BK6 HF HB ⊢
     go_wp2_with fail
     have n0_ := Aside0.mk (Z27 BK1.out)
     have n1_ := Aside0.mk (Z27 BK2.out)
     have n2_ := Aside0.mk (Z27 BK6.out)
     have n3_ := Aside0.mk (FoR.drew HF.out)
     have n4_ := Aside0.mk (Z4 HB.out)
     clear BK1 BK2 BK6 HF HB
     have BK1 := n0_
     have BK2 := n1_
     have BK6 := n2_
     have HF := n3_
     have HB := n4_
     clear n0_ n1_ n2_ n3_ n4_
     refine start_ (n := 11) (S := fun w' => w'.cell? ⟨gb6, 3, none⟩ = some (.slice (some ⟨g3, 0, none⟩) l3.length k3) ∧ w'.cell? ⟨g3, (J + 1).toNat, none⟩ = some (.int .i64 (rd (l3.set 0 0) (J + 1)))) (ds := [10]) #[false, false, false, false, false, false, false, false, false, false, false] (by kernel_rfl) rfl rfl ⟨(Z24 BK6.out 3).trans rfl, (FoR.at3 HF.out (J + 1) (by have := HL.out; omega) (by rw [List.length_set]; have := HL.out; omega)).1⟩ (fun hHeld => ?_)
     generalize World.drew _ = w11 at BK1 BK2 BK6 HF HB hHeld ⊢
     have hxs := (FoR.at3 HF.out J (by have := HL.out; omega) (by rw [List.length_set]; have := HL.out; omega)).1
     have hzs := (FoR.at3 HF.out J (by have := HL.out; omega) (by rw [List.length_set]; have := HL.out; omega)).2
     refine pure_ (i := 0) (N := some 77) (v := ?_) (a' := ?_) #[true, false, false, false, false, false, false, false, false, false, false] rfl rfl (by kernel_rfl) (fun _ _ _ h => h) (Or.inl ⟨by rfl, ?_⟩) ?_ ?_
     rotate_left
     ·intro w'
      go_simp
      with_reducible rfl
     rotate_left
     ·simp only [Act.put, Z0, Z1, Z2, i64_w, i32_w]
      rfl
     refine pure_ (i := 2) (N := some 79) (v := ?_) (a' := ?_) #[true, false, true, false, false, false, false, false, false, false, false] rfl rfl (by kernel_rfl) (fun _ _ _ h => h) (Or.inl ⟨by rfl, ?_⟩) ?_ ?_
     rotate_left
     ·intro w'
      go_simp
      with_reducible rfl
     rotate_left
     ·simp only [Act.put, Z0, Z1, Z2, i64_w, i32_w]
      rfl
     refine pure_ (i := 3) (N := some 80) (v := ?_) (a' := ?_) #[true, false, true, true, false, false, false, false, false, false, false] rfl rfl (by kernel_rfl) (fun _ _ _ h => h) (Or.inl ⟨by rfl, ?_⟩) ?_ ?_
     rotate_left
     ·intro w'
      go_simp
      with_reducible rfl
     rotate_left
     ·simp only [Act.put, Z0, Z1, Z2, i64_w, i32_w]
      rfl
     refine pure_ (i := 5) (N := some 82) (v := ?_) (a' := ?_) #[true, false, true, true, false, true, false, false, false, false, false] rfl rfl (by kernel_rfl) (fun _ _ _ h => h) (Or.inl ⟨by rfl, ?_⟩) ?_ ?_
     rotate_left
     ·intro w'
      go_simp
      with_reducible rfl
     rotate_left
     ·simp only [Act.put, Z0, Z1, Z2, i64_w, i32_w]
      rfl
     refine pure_ (i := 6) (N := some 83) (v := ?_) (a' := ?_) #[true, false, true, true, false, true, true, false, false, false, false] rfl rfl (by kernel_rfl) (fun _ _ _ h => h) (Or.inl ⟨by rfl, ?_⟩) ?_ ?_
     rotate_left
     ·intro w'
      go_simp
      with_reducible rfl
     rotate_left
     ·simp only [Act.put, Z0, Z1, Z2, i64_w, i32_w]
      rfl
     refine take_ (i := 1) (N := some 78) (v := ?_) (a' := ?_) #[true, true, true, true, false, true, true, false, false, false, false] rfl rfl (by kernel_rfl) (fun _ _ _ h => h) (Or.inl ⟨by rfl, ?_⟩) hHeld ?_ ?_
     rotate_left
     ·rintro w' ⟨s0, s1⟩
      go_simp
      with_reducible rfl
     rotate_left
     ·simp only [Act.put, Z0, Z1, Z2, i64_w, i32_w]
      rfl
     refine take_ (i := 4) (N := some 81) (v := ?_) (a' := ?_) #[true, true, true, true, true, true, true, false, false, false, false] rfl rfl (by kernel_rfl) (fun _ _ _ h => h) (Or.inl ⟨by rfl, ?_⟩) hHeld ?_ ?_
     rotate_left
     ·rintro w' ⟨s0, s1⟩
      go_simp
      with_reducible rfl
     rotate_left
     ·simp only [Act.put, Z0, Z1, Z2, i64_w, i32_w]
      rfl
     refine pure_ (i := 7) (N := some 84) (v := ?_) (a' := ?_) #[true, true, true, true, true, true, true, true, false, false, false] rfl rfl (by kernel_rfl) (fun _ _ _ h => h) (Or.inl ⟨by rfl, ?_⟩) ?_ ?_
     rotate_left
     ·intro w'
      go_simp
      with_reducible rfl
     rotate_left
     ·simp only [Act.put, Z0, Z1, Z2, i64_w, i32_w]
      rfl
     refine take_ (i := 8) (N := some 85) (v := ?_) (a' := ?_) #[true, true, true, true, true, true, true, true, true, false, false] rfl rfl (by kernel_rfl) (fun _ _ _ h => h) (Or.inl ⟨by rfl, ?_⟩) hHeld ?_ ?_
     rotate_left
     ·rintro w' ⟨s0, s1⟩
      go_simp
      with_reducible rfl
     rotate_left
     ·simp only [Act.put, Z0, Z1, Z2, i64_w, i32_w]
      rfl
     refine pure_ (i := 9) (N := some 86) (v := ?_) (a' := ?_) #[true, true, true, true, true, true, true, true, true, true, false] rfl rfl (by kernel_rfl) (fun _ _ _ h => h) (Or.inl ⟨by rfl, ?_⟩) ?_ ?_
     rotate_left
     ·intro w'
      go_simp
      with_reducible rfl
     rotate_left
     ·simp only [Act.put, Z0, Z1, Z2, i64_w, i32_w]
      rfl
     refine last_ (i := 10) (N := none) #[true, true, true, true, true, true, true, true, true, true, true] rfl rfl (by kernel_rfl) (by decide) (fun K hK => ?_)
     refine skip_ (w1 := ?_) (by rfl) rfl ?_ ?_
     rotate_left
     ·go_simp
      rfl
     refine hK.out _ _ ?_
     clear hK K
     refine done_ (by kernel_rfl) ?_
     clear hxs hzs
     have n0_ := Aside0.mk (show (World.setCell w11 ⟨g3, J.toNat, none⟩ (.int .i64 (rd (l3.set 0 0) (J + 1)))).heap[gb1]? = _ from blk_far (p := ⟨g3, J.toNat, none⟩) BK1.out (have n := FoR.apart HF.out BK1.out (by decide) (by decide); n.2.2.2) (.int .i64 (rd (l3.set 0 0) (J + 1))))
     have n1_ := Aside0.mk (show (World.setCell w11 ⟨g3, J.toNat, none⟩ (.int .i64 (rd (l3.set 0 0) (J + 1)))).heap[gb2]? = _ from blk_far (p := ⟨g3, J.toNat, none⟩) BK2.out (have n := FoR.apart HF.out BK2.out (by decide) (by decide); n.2.2.2) (.int .i64 (rd (l3.set 0 0) (J + 1))))
     have n2_ := Aside0.mk (show (World.setCell w11 ⟨g3, J.toNat, none⟩ (.int .i64 (rd (l3.set 0 0) (J + 1)))).heap[gb6]? = _ from blk_far (p := ⟨g3, J.toNat, none⟩) BK6.out (have n := FoR.apart HF.out BK6.out (by decide) (by decide); n.2.2.2) (.int .i64 (rd (l3.set 0 0) (J + 1))))
     have n3_ := Aside0.mk (show FoR (World.setCell w11 ⟨g3, J.toNat, none⟩ (.int .i64 (rd (l3.set 0 0) (J + 1)))) w.heap.size g0 k0 g1 k1 g2 k2 g3 k3 l0 (l1.set I.toNat X) (l2.set I.toNat (!rdOf false l2 I)) ((l3.set 0 0).set J.toNat (rd (l3.set 0 0) (J + 1))) from FoR.put3 HF.out J _)
     have n4_ := Aside0.mk (show Below w.heap.size w (World.setCell w11 ⟨g3, J.toNat, none⟩ (.int .i64 (rd (l3.set 0 0) (J + 1)))) from Z6 HB.out (FoR.ge HF.out).2.2.2)
     clear BK1 BK2 BK6 HF HB
     have BK1 := n0_
     have BK2 := n1_
     have BK6 := n2_
     have HF := n3_
     have HB := n4_
     clear n0_ n1_ n2_ n3_ n4_
     generalize World.setCell w11 ⟨g3, J.toNat, none⟩ (.int .i64 (rd (l3.set 0 0) (J + 1))) = w12 at BK1 BK2 BK6 HF HB ⊢
     have hc0 := (Z24 BK6.out 0).trans rfl
     have hc1 := (Z24 BK6.out 1).trans rfl
     have hc2 := (Z24 BK6.out 2).trans rfl
     have hc3 := (Z24 BK6.out 3).trans rfl
     have hxs := (FoR.at3 HF.out (J + 1) (by have := HL.out; omega) (by rw [List.length_set, List.length_set]; have := HL.out; omega)).1
     have hzs := (FoR.at3 HF.out (J + 1) (by have := HL.out; omega) (by rw [List.length_set, List.length_set]; have := HL.out; omega)).2
     go_upto_region 15 with fail
     clear hc0 hc1 hc2 hc3 hxs hzs
     have n0_ := Aside0.mk (show (World.setCell w12 ⟨g3, (J + 1).toNat, none⟩ (.int .i64 (J + 1))).heap[gb1]? = _ from blk_far (p := ⟨g3, (J + 1).toNat, none⟩) BK1.out (have n := FoR.apart HF.out BK1.out (by decide) (by decide); n.2.2.2) (.int .i64 (J + 1)))
     have n1_ := Aside0.mk (show (World.setCell w12 ⟨g3, (J + 1).toNat, none⟩ (.int .i64 (J + 1))).heap[gb2]? = _ from blk_far (p := ⟨g3, (J + 1).toNat, none⟩) BK2.out (have n := FoR.apart HF.out BK2.out (by decide) (by decide); n.2.2.2) (.int .i64 (J + 1)))
     have n2_ := Aside0.mk (show (World.setCell w12 ⟨g3, (J + 1).toNat, none⟩ (.int .i64 (J + 1))).heap[gb6]? = _ from blk_far (p := ⟨g3, (J + 1).toNat, none⟩) BK6.out (have n := FoR.apart HF.out BK6.out (by decide) (by decide); n.2.2.2) (.int .i64 (J + 1)))
     have n3_ := Aside0.mk (show FoR (World.setCell w12 ⟨g3, (J + 1).toNat, none⟩ (.int .i64 (J + 1))) w.heap.size g0 k0 g1 k1 g2 k2 g3 k3 l0 (l1.set I.toNat X) (l2.set I.toNat (!rdOf false l2 I)) (((l3.set 0 0).set J.toNat (rd (l3.set 0 0) (J + 1))).set (J + 1).toNat (J + 1)) from FoR.put3 HF.out (J + 1) _)
     have n4_ := Aside0.mk (show Below w.heap.size w (World.setCell w12 ⟨g3, (J + 1).toNat, none⟩ (.int .i64 (J + 1))) from Z6 HB.out (FoR.ge HF.out).2.2.2)
     clear BK1 BK2 BK6 HF HB
     have BK1 := n0_
     have BK2 := n1_
     have BK6 := n2_
     have HF := n3_
     have HB := n4_
     clear n0_ n1_ n2_ n3_ n4_
     generalize World.setCell w12 ⟨g3, (J + 1).toNat, none⟩ (.int .i64 (J + 1)) = w13 at BK1 BK2 BK6 HF HB ⊢
     have hc0 := (Z24 BK6.out 0).trans rfl
     have hc1 := (Z24 BK6.out 1).trans rfl
     have hc2 := (Z24 BK6.out 2).trans rfl
     have hc3 := (Z24 BK6.out 3).trans rfl
     have hd0 := (Z24 BK2.out 0).trans rfl
     have hf0 := Z25 BK2.out 0
     have hd1 := (Z24 BK2.out 1).trans rfl
     have hf1 := Z25 BK2.out 1
     have hd2 := (Z24 BK2.out 2).trans rfl
     have hf2 := Z25 BK2.out 2
     have hd3 := (Z24 BK2.out 3).trans rfl
     have hf3 := Z25 BK2.out 3
     go_wp2
     refine bodyPost_ret (results_ct rfl _ _ gb2 29 #[.slice (some ⟨g0, 0, none⟩) l0.length k0, .slice (some ⟨g1, 0, none⟩) l1.length k1, .slice (some ⟨g2, 0, none⟩) l2.length k2, .slice (some ⟨g3, 0, none⟩) l3.length k3] (0, 0) _ rfl (set4_at BK2.out _ _ _ _) Try.underlying29 rfl (by kernel_rfl)) rfl ?_
     obtain ⟨q0, q1, q2, q3⟩ := FoR.back (FoR.set4 HF.out BK2.out (by decide) (by decide) (.slice (some ⟨g0, 0, none⟩) l0.length k0) (.slice (some ⟨g1, 0, none⟩) l1.length k1) (.slice (some ⟨g2, 0, none⟩) l2.length k2) (.slice (some ⟨g3, 0, none⟩) l3.length k3))
     simp only [List.length_set] at q0 q1 q2 q3
     exact ⟨.slice (some ⟨g0, 0, none⟩) l0.length k0, .slice (some ⟨g1, 0, none⟩) l1.length k1, .slice (some ⟨g2, 0, none⟩) l2.length k2, .slice (some ⟨g3, 0, none⟩) l3.length k3, by rw [HIE.out]; rfl, q0, q1, q2, q3, set4_below HB.out GE2.out _ _ _ _⟩
end Go.Proofs.Ytedijkelbdpcdaa.MFnExactRunSwapper
