/- Functions of the program as Lean functions, each with the proof that its call comes to just that: laid for this claim by this session's own program. -/
import Derived.Test.YtpfakdhfffehaaaMFnExactSwapperAtx0
import Derived.Test.YtpfakdhfffehaaaMFnExactSwapperAtx2
import Derived.Test.YtpfakdhfffehaaaMFnExactSwapperAtx3
namespace Go.Proofs.Ytpfakdhfffehaaa.MFnExactSwapperAt
open Go.RowKit Go.Proofs.YtpfakdhfffehaaaW.PrintWords Go.Proofs.YtpfakdhfffehaaaW.PrintLast Go.Proofs.YtpfakdhfffehaaaW.PrintMore
attribute [local go_sem] max2_int min2_int max_two min_two max_three min_three max_four min_four   -- for this text's walks alone
set_option linter.unusedVariables false
set_option linter.unusedSimpArgs false

/-! ### spec_foSwap: function 55 -/
def spec_foSwap.f (k : Nat) (l0_0 : List Int) (l0_1 : List Int) (l0_2 : List Bool) (l0_3 : List Int) (l0_4 : List Int) (l0_5 : List Int) : Option (List Int × List Int × List Bool × List Int × List Int × List Int × Int) := (spec_foStep.f l0_0 l0_1 l0_2 l0_3).bind fun bt145 => (if bt145.2.2.2.2 < 0 then (some (([] : List Int), ([] : List Int), ([] : List Bool), ([] : List Int), ([] : List Int), ([] : List Int), (-1))) else (if 0 ≤ (wrap64 (bt145.2.2.2.2 + 1)) then (if (wrap64 (bt145.2.2.2.2 + 1)) < (l0_5.length : Int) then (if 0 ≤ bt145.2.2.2.2 then (if bt145.2.2.2.2 < (bt145.2.1.length : Int) then (if bt145.2.2.2.2 < (l0_1.length : Int) then (if (rd bt145.2.1 bt145.2.2.2.2) > (rd l0_1 bt145.2.2.2.2) then ((spec_moApply.f k l0_4 0 (wrap64 ((rd l0_5 (wrap64 (bt145.2.2.2.2 + 1))) - 1)) (wrap64 ((wrap64 ((rd l0_5 (wrap64 (bt145.2.2.2.2 + 1))) - 1)) + 1))).bind fun t162 => ((spec_raInverse.f k t162).bind fun t165 => (some (bt145.1, bt145.2.1, bt145.2.2.1, bt145.2.2.2.1, t162, t165, wrap64 ((rd l0_5 (wrap64 (bt145.2.2.2.2 + 1))) - 1))))) else ((spec_moApply.f k l0_4 0 (rd l0_5 (wrap64 (bt145.2.2.2.2 + 1))) (wrap64 ((rd l0_5 (wrap64 (bt145.2.2.2.2 + 1))) + 1))).bind fun t168 => ((spec_raInverse.f k t168).bind fun t171 => (some (bt145.1, bt145.2.1, bt145.2.2.1, bt145.2.2.2.1, t168, t171, rd l0_5 (wrap64 (bt145.2.2.2.2 + 1))))))) else (none)) else (none)) else (none)) else (none)) else (none)))
theorem spec_foSwap.mono : ∀ a0 a1 a2 a3 a4 a5 k, LeO (spec_foSwap.f k a0 a1 a2 a3 a4 a5) (spec_foSwap.f (k + 1) a0 a1 a2 a3 a4 a5) := by
 intro a0 a1 a2 a3 a4 a5 k
 unfold spec_foSwap.f
 repeat' first
   | (with_reducible exact spec_moApply.mono _ _ _ _ _)
   | (with_reducible exact spec_raInverse.mono _ _)
   | (with_reducible exact LeO.refl _)
   | (with_reducible exact LeO.none _)
   | (with_reducible refine LeO.ite ?_ ?_)
   | (with_reducible refine LeO.bind ?_ (fun _ => ?_))
   | exact spec_moApply.mono _ _ _ _ _
   | exact spec_raInverse.mono _ _
   | exact LeO.none _
   | refine LeO.ite ?_ ?_
   | refine LeO.bind ?_ (fun _ => ?_)
def spec_foSwap.T5 : Bool × List (List Nat × List Nat) := (true, [([], []), ([0], [0]), ([], []), ([1, 2], [1, 2]), ([3], [3]), ([], []), ([5], [5]), ([6], [6]), ([], []), ([7, 8], [7, 8]), ([9], [9]), ([4, 10], [4, 10])])
def spec_foSwap.B5 : List Nat := [0, 1, 0, 7, 15, 0, 32, 96, 0, 480, 992, 2047]
theorem spec_foSwap.tab5 : rtab .any (opsOf Try.f55 5) = spec_foSwap.T5 := by kernel_rfl
theorem spec_foSwap.bits5 : waitsOk spec_foSwap.T5.2 spec_foSwap.B5 = true := by kernel_rfl
def spec_foSwap.T8 : Bool × List (List Nat × List Nat) := (true, [([], []), ([], []), ([], []), ([2], [2]), ([0, 1, 3], [0, 1, 3]), ([], []), ([4, 3, 0, 1, 2, 3, 4], [4]), ([5, 6, 0, 1, 2, 3, 4, 5, 6], [5])])
def spec_foSwap.B8 : List Nat := [0, 0, 0, 4, 15, 0, 31, 127]
theorem spec_foSwap.tab8 : rtab .any (opsOf Try.f55 8) = spec_foSwap.T8 := by kernel_rfl
theorem spec_foSwap.bits8 : waitsOk spec_foSwap.T8.2 spec_foSwap.B8 = true := by kernel_rfl
set_option maxHeartbeats 8000000 in
set_option maxRecDepth 100000 in
theorem spec_foSwap.calls (k : Nat) (A0_0 : Option Addr) (c0_0 : Nat) (l0_0 : List Int) (A0_1 : Option Addr) (c0_1 : Nat) (l0_1 : List Int) (A0_2 : Option Addr) (c0_2 : Nat) (l0_2 : List Bool) (A0_3 : Option Addr) (c0_3 : Nat) (l0_3 : List Int) (A0_4 : Option Addr) (c0_4 : Nat) (l0_4 : List Int) (A0_5 : Option Addr) (c0_5 : Nat) (l0_5 : List Int) (r1 : List Int) (r2 : List Int) (r3 : List Bool) (r4 : List Int) (r5 : List Int) (r6 : List Int) (r7 : Int) (w : World) (hr0_0 : Kd.C (Kd.int .i64) w A0_0 l0_0.length l0_0) (hc0_0 : l0_0.length ≤ c0_0) (hr0_1 : Kd.C (Kd.int .i64) w A0_1 l0_1.length l0_1) (hc0_1 : l0_1.length ≤ c0_1) (hr0_2 : Kd.C Kd.bool w A0_2 l0_2.length l0_2) (hc0_2 : l0_2.length ≤ c0_2) (hr0_3 : Kd.C (Kd.int .i64) w A0_3 l0_3.length l0_3) (hc0_3 : l0_3.length ≤ c0_3) (hr0_4 : Kd.C (Kd.int .i64) w A0_4 l0_4.length l0_4) (hc0_4 : l0_4.length ≤ c0_4) (hr0_5 : Kd.C (Kd.int .i64) w A0_5 l0_5.length l0_5) (hc0_5 : l0_5.length ≤ c0_5) (h : spec_foSwap.f k l0_0 l0_1 l0_2 l0_3 l0_4 l0_5 = some (r1, r2, r3, r4, r5, r6, r7)) :
  Calls Try.prog 55 #[.agg #[.slice A0_0 l0_0.length c0_0, .slice A0_1 l0_1.length c0_1, .slice A0_2 l0_2.length c0_2, .slice A0_3 l0_3.length c0_3, .slice A0_4 l0_4.length c0_4, .slice A0_5 l0_5.length c0_5]] w fun e w' => ∃ v0_ v1_ v2_ v3_ v4_ v5_ : Value, e = .returned (.tuple #[.agg #[v0_, v1_, v2_, v3_, v4_, v5_], .int .i64 r7]) ∧ Kd.R (Kd.int .i64) 3 w' w.heap.size (fun k_ => some k_ ≠ (v1_ : Value).ownBlock ∧ some k_ ≠ (v3_ : Value).ownBlock ∧ some k_ ≠ (v4_ : Value).ownBlock ∧ some k_ ≠ (v5_ : Value).ownBlock) v0_ r1 ∧ Kd.R (Kd.int .i64) 3 w' w.heap.size (fun k_ => some k_ ≠ (v0_ : Value).ownBlock ∧ some k_ ≠ (v3_ : Value).ownBlock ∧ some k_ ≠ (v4_ : Value).ownBlock ∧ some k_ ≠ (v5_ : Value).ownBlock) v1_ r2 ∧ Kd.R Kd.bool 4 w' w.heap.size (fun _ => True) v2_ r3 ∧ Kd.R (Kd.int .i64) 3 w' w.heap.size (fun k_ => some k_ ≠ (v0_ : Value).ownBlock ∧ some k_ ≠ (v1_ : Value).ownBlock ∧ some k_ ≠ (v4_ : Value).ownBlock ∧ some k_ ≠ (v5_ : Value).ownBlock) v3_ r4 ∧ Kd.R (Kd.int .i64) 3 w' w.heap.size (fun k_ => some k_ ≠ (v0_ : Value).ownBlock ∧ some k_ ≠ (v1_ : Value).ownBlock ∧ some k_ ≠ (v3_ : Value).ownBlock ∧ some k_ ≠ (v5_ : Value).ownBlock) v4_ r5 ∧ Kd.R (Kd.int .i64) 3 w' w.heap.size (fun k_ => some k_ ≠ (v0_ : Value).ownBlock ∧ some k_ ≠ (v1_ : Value).ownBlock ∧ some k_ ≠ (v3_ : Value).ownBlock ∧ some k_ ≠ (v4_ : Value).ownBlock) v5_ r6 ∧ Below w.heap.size w w' := by
 have hu35 := Try.underlying35
 have hu27 := Try.underlying27
 have hu82 := Try.underlying82
 have HR0_0 := Ya hr0_0
 have HC0_0 := Ya hc0_0
 clear hr0_0 hc0_0
 have HR0_1 := Ya hr0_1
 have HC0_1 := Ya hc0_1
 clear hr0_1 hc0_1
 have HR0_2 := Ya hr0_2
 have HC0_2 := Ya hc0_2
 clear hr0_2 hc0_2
 have HR0_3 := Ya hr0_3
 have HC0_3 := Ya hc0_3
 clear hr0_3 hc0_3
 have HR0_4 := Ya hr0_4
 have HC0_4 := Ya hc0_4
 clear hr0_4 hc0_4
 have HR0_5 := Ya hr0_5
 have HC0_5 := Ya hc0_5
 clear hr0_5 hc0_5
 have HB := Ya (Below.refl w.heap.size w)
 have H : ((spec_foStep.f l0_0 l0_1 l0_2 l0_3).bind fun bt145 => (if bt145.2.2.2.2 < 0 then (some (([] : List Int), ([] : List Int), ([] : List Bool), ([] : List Int), ([] : List Int), ([] : List Int), (-1))) else (if 0 ≤ (wrap64 (bt145.2.2.2.2 + 1)) then (if (wrap64 (bt145.2.2.2.2 + 1)) < (l0_5.length : Int) then (if 0 ≤ bt145.2.2.2.2 then (if bt145.2.2.2.2 < (bt145.2.1.length : Int) then (if bt145.2.2.2.2 < (l0_1.length : Int) then (if (rd bt145.2.1 bt145.2.2.2.2) > (rd l0_1 bt145.2.2.2.2) then ((spec_moApply.f k l0_4 0 (wrap64 ((rd l0_5 (wrap64 (bt145.2.2.2.2 + 1))) - 1)) (wrap64 ((wrap64 ((rd l0_5 (wrap64 (bt145.2.2.2.2 + 1))) - 1)) + 1))).bind fun t162 => ((spec_raInverse.f k t162).bind fun t165 => (some (bt145.1, bt145.2.1, bt145.2.2.1, bt145.2.2.2.1, t162, t165, wrap64 ((rd l0_5 (wrap64 (bt145.2.2.2.2 + 1))) - 1))))) else ((spec_moApply.f k l0_4 0 (rd l0_5 (wrap64 (bt145.2.2.2.2 + 1))) (wrap64 ((rd l0_5 (wrap64 (bt145.2.2.2.2 + 1))) + 1))).bind fun t168 => ((spec_raInverse.f k t168).bind fun t171 => (some (bt145.1, bt145.2.1, bt145.2.2.1, bt145.2.2.2.1, t168, t171, rd l0_5 (wrap64 (bt145.2.2.2.2 + 1))))))) else (none)) else (none)) else (none)) else (none)) else (none)))) = some (r1, r2, r3, r4, r5, r6, r7) := h
 clear h
 replace H := Z37.mp H
 obtain ⟨⟨t145, t148, t151, t154, t157⟩, A20, H⟩ := H
 replace H : (if t157 < 0 then (some (([] : List Int), ([] : List Int), ([] : List Bool), ([] : List Int), ([] : List Int), ([] : List Int), (-1))) else (if 0 ≤ (wrap64 (t157 + 1)) then (if (wrap64 (t157 + 1)) < (l0_5.length : Int) then (if 0 ≤ t157 then (if t157 < (t148.length : Int) then (if t157 < (l0_1.length : Int) then (if (rd t148 t157) > (rd l0_1 t157) then ((spec_moApply.f k l0_4 0 (wrap64 ((rd l0_5 (wrap64 (t157 + 1))) - 1)) (wrap64 ((wrap64 ((rd l0_5 (wrap64 (t157 + 1))) - 1)) + 1))).bind fun t162 => ((spec_raInverse.f k t162).bind fun t165 => (some (t145, t148, t151, t154, t162, t165, wrap64 ((rd l0_5 (wrap64 (t157 + 1))) - 1))))) else ((spec_moApply.f k l0_4 0 (rd l0_5 (wrap64 (t157 + 1))) (wrap64 ((rd l0_5 (wrap64 (t157 + 1))) + 1))).bind fun t168 => ((spec_raInverse.f k t168).bind fun t171 => (some (t145, t148, t151, t154, t168, t171, rd l0_5 (wrap64 (t157 + 1))))))) else (none)) else (none)) else (none)) else (none)) else (none))) = some (r1, r2, r3, r4, r5, r6, r7) := H
 have A2 := Ya A20
 clear A20
 by_cases c3 : t157 < 0
 ·rw [if_pos c3] at H
  have c3b0 : decide (t157 < 0) = true := Z39 c3
  clear c3
  simp only [Option.some.injEq, Prod.mk.injEq] at H
  obtain ⟨rfl, rfl, rfl, rfl, rfl, rfl, rfl⟩ := H
  go_enter Try.func55, Try.ntmps55
  go_wp2_with (first | ((with_reducible refine gate_dst (N := 1) rfl ?_); refine Yx 1 #[.slice A0_0 l0_0.length c0_0, .slice A0_1 l0_1.length c0_1, .slice A0_2 l0_2.length c0_2, .slice A0_3 l0_3.length c0_3, .slice A0_4 l0_4.length c0_4, .slice A0_5 l0_5.length c0_5] 35 ?_; intro gb143 hg w4 hbox hb; have BK143 := Ya hbox; have GW143 := Yg hg Q0; have GE143 := GW143; replace HB := Ya (Z8 Q0 hb); clear hb hbox hg) | ((with_reducible refine gate_dst (N := 2) rfl ?_); refine Yx 2 #[.slice none 0 0, .slice none 0 0, .slice none 0 0, .slice none 0 0, .slice none 0 0, .slice none 0 0] 35 ?_; intro gb144 hg w5 hbox hb; have BK144 := Ya hbox; have GW144 := Yg hg Q38; have GE144 := GW144; replace HB := Ya (Z8 Q38 hb); have NB143_144 := Yn BK143 hg; have NB144_143 := Ym BK143 hg; replace BK143 := Yb BK143 hb; clear hb hbox hg; have hnb6 := NB143_144.out; have hnc6 := NB144_143.out; obtain ⟨hcz7_0, hcz7_1, hcz7_2, hcz7_3, hcz7_4, hcz7_5, hfz7_0, hfz7_1, hfz7_2, hfz7_3, hfz7_4, hfz7_5⟩ := Y6 BK143.out) | ((with_reducible refine gate_callee (f := 31) rfl ?_); refine goesL_ (some 11) rfl rfl Try.func31 (by kernel_rfl) rfl #[.agg #[.slice A0_0 l0_0.length c0_0, .slice A0_1 l0_1.length c0_1, .slice A0_2 l0_2.length c0_2, .slice A0_3 l0_3.length c0_3]] rfl Q1 ?_; (with_reducible refine (spec_foStep.calls _ _ l0_0 _ _ l0_1 _ _ l0_2 _ _ l0_3 t145 t148 t151 t154 t157 _ ?side1 ?side2 ?side3 ?side4 ?side5 ?side6 ?side7 ?side8 A2.out).mono ?_); (case side1 => exact Yc (Z23 HR0_0.out HB.out)); (case side2 => exact HC0_0.out); (case side3 => exact Yc (Z23 HR0_1.out HB.out)); (case side4 => exact HC0_1.out); (case side5 => exact Yc (Z23 HR0_2.out HB.out)); (case side6 => exact HC0_2.out); (case side7 => exact Yc (Z23 HR0_3.out HB.out)); (case side8 => exact HC0_3.out); rintro e w8 ⟨v146, v149, v152, v155, rfl, ho0, ho1, ho2, ho3, hb⟩; refine ⟨_, rfl, ?_⟩; have HO147 := Ya (Kd.R_lower ho0 (Z7 Q12)); have HO150 := Ya (Kd.R_lower ho1 (Z7 Q12)); have HO153 := Ya (Kd.R_lower ho2 (Z7 Q12)); have HO156 := Ya (Kd.R_lower ho3 (Z7 Q12)); replace BK143 := Yb BK143 hb; replace BK144 := Yb BK144 hb; replace HB := Ya (Z8 Q12 hb); (try clear hb); (try clear hb2); (try clear hk); (try clear hi); (try clear ho0); (try clear ho1); (try clear ho2); (try clear ho3)) | ((with_reducible refine gate_dst (N := 4) rfl ?_); refine Yx 4 #[.slice none 0 0, .slice none 0 0, .slice none 0 0, .slice none 0 0] 27 ?_; intro gb158 hg w9 hbox hb; replace HO147 := Ya (Z14 (Yr HO147.out) hb); replace HO150 := Ya (Z14 (Yr HO150.out) hb); replace HO153 := Ya (Z14 (Yr HO153.out) hb); replace HO156 := Ya (Z14 (Yr HO156.out) hb); have BK158 := Ya hbox; have GW158 := Yg hg Q12; have GE158 := GW158; replace HB := Ya (Z8 Q12 hb); have NB143_158 := Yn BK143 hg; have NB158_143 := Ym BK143 hg; replace BK143 := Yb BK143 hb; have NB144_158 := Yn BK144 hg; have NB158_144 := Ym BK144 hg; replace BK144 := Yb BK144 hb; clear hb hbox hg; obtain ⟨Ao10, co10, eo10⟩ := Z19 HO147.out; subst eo10; have hnb11 := NB158_143.out; have hnc11 := NB143_158.out; have hnb12 := NB158_144.out; have hnc12 := NB144_158.out; obtain ⟨hcz13_0, hcz13_1, hcz13_2, hcz13_3, hfz13_0, hfz13_1, hfz13_2, hfz13_3⟩ := Y4 BK158.out; obtain ⟨Ao14, co14, eo14⟩ := Z19 HO150.out; subst eo14; obtain ⟨Ao15, co15, eo15⟩ := Z19 HO153.out; subst eo15; obtain ⟨Ao16, co16, eo16⟩ := Z19 HO156.out; subst eo16; obtain ⟨hcz17_0, hcz17_1, hcz17_2, hcz17_3, hcz17_4, hcz17_5, hfz17_0, hfz17_1, hfz17_2, hfz17_3, hfz17_4, hfz17_5⟩ := Y6 BK144.out))
  refine bodyPost_ret (results_ct rfl _ _ gb144 35 #[.slice none 0 0, .slice none 0 0, .slice none 0 0, .slice none 0 0, .slice none 0 0, .slice none 0 0] (0, 0) _ rfl (by (with_reducible repeat (first | refine Z26 ?_ _ | refine Z27 ?_ | refine Z28 ?_ _)); refine Z30 (cs := #[.slice none 0 0, .slice none 0 0, .slice none 0 0, .slice none 0 0, .slice none 0 0, .slice none 0 0]) ?_ 5 _ rfl; (with_reducible repeat (first | refine Z26 ?_ _ | refine Z27 ?_ | refine Z28 ?_ _)); refine Z30 (cs := #[.slice none 0 0, .slice none 0 0, .slice none 0 0, .slice none 0 0, .slice none 0 0, .slice none 0 0]) ?_ 4 _ rfl; (with_reducible repeat (first | refine Z26 ?_ _ | refine Z27 ?_ | refine Z28 ?_ _)); refine Z30 (cs := #[.slice none 0 0, .slice none 0 0, .slice none 0 0, .slice none 0 0, .slice none 0 0, .slice none 0 0]) ?_ 3 _ rfl; (with_reducible repeat (first | refine Z26 ?_ _ | refine Z27 ?_ | refine Z28 ?_ _)); refine Z30 (cs := #[.slice none 0 0, .slice none 0 0, .slice none 0 0, .slice none 0 0, .slice none 0 0, .slice none 0 0]) ?_ 2 _ rfl; (with_reducible repeat (first | refine Z26 ?_ _ | refine Z27 ?_ | refine Z28 ?_ _)); refine Z30 (cs := #[.slice none 0 0, .slice none 0 0, .slice none 0 0, .slice none 0 0, .slice none 0 0, .slice none 0 0]) ?_ 1 _ rfl; (with_reducible repeat (first | refine Z26 ?_ _ | refine Z27 ?_ | refine Z28 ?_ _)); refine Z30 (cs := #[.slice none 0 0, .slice none 0 0, .slice none 0 0, .slice none 0 0, .slice none 0 0, .slice none 0 0]) ?_ 0 _ rfl; (with_reducible repeat (first | refine Z26 ?_ _ | refine Z27 ?_ | refine Z28 ?_ _)); refine blk_far ?_ NB144_158.out _; (with_reducible repeat (first | refine Z26 ?_ _ | refine Z27 ?_ | refine Z28 ?_ _)); refine blk_far ?_ NB144_158.out _; (with_reducible repeat (first | refine Z26 ?_ _ | refine Z27 ?_ | refine Z28 ?_ _)); refine blk_far ?_ NB144_158.out _; (with_reducible repeat (first | refine Z26 ?_ _ | refine Z27 ?_ | refine Z28 ?_ _)); refine blk_far ?_ NB144_158.out _; (with_reducible repeat (first | refine Z26 ?_ _ | refine Z27 ?_ | refine Z28 ?_ _)); exact BK144.out) Try.underlying35 rfl (by kernel_rfl)) rfl ?_
  exact ⟨_, _, _, _, _, _, Q9, Q2, Q2, Q2, Q2, Q2, Q2, Q36⟩
 ·rw [if_neg c3] at H
  have c3b0 : decide (t157 < 0) = false := Z38 c3
  clear c3
  obtain ⟨ji18, hji18⟩ : ∃ j_ : Int, (wrap64 (t157 + 1)) = j_ := ⟨_, rfl⟩
  replace H : (if 0 ≤ (ji18) then (if (ji18) < (l0_5.length : Int) then (if 0 ≤ t157 then (if t157 < (t148.length : Int) then (if t157 < (l0_1.length : Int) then (if (rd t148 t157) > (rd l0_1 t157) then ((spec_moApply.f k l0_4 0 (wrap64 ((rd l0_5 (ji18)) - 1)) (wrap64 ((wrap64 ((rd l0_5 (ji18)) - 1)) + 1))).bind fun t162 => ((spec_raInverse.f k t162).bind fun t165 => (some (t145, t148, t151, t154, t162, t165, wrap64 ((rd l0_5 (ji18)) - 1))))) else ((spec_moApply.f k l0_4 0 (rd l0_5 (ji18)) (wrap64 ((rd l0_5 (ji18)) + 1))).bind fun t168 => ((spec_raInverse.f k t168).bind fun t171 => (some (t145, t148, t151, t154, t168, t171, rd l0_5 (ji18)))))) else (none)) else (none)) else (none)) else (none)) else (none)) = some (r1, r2, r3, r4, r5, r6, r7) := by first | (rw [hji18] at H; exact H) | (simp only [hji18] at H ⊢; exact H)
  (try rw [hji18] at A2)
  have hji18w : (IntKind.i64.wrap (t157 + 1)) = ji18 := (i64_w _).trans hji18
  by_cases c19 : 0 ≤ (ji18)
  ·rw [if_pos c19] at H
   have c19b0 : decide (0 ≤ (ji18)) = true := Z39 c19
   clear c19
   by_cases c20 : (ji18) < (l0_5.length : Int)
   ·rw [if_pos c20] at H
    have c20b0 : decide ((ji18) < (l0_5.length : Int)) = true := Z39 c20
    clear c20
    by_cases c21 : 0 ≤ t157
    ·rw [if_pos c21] at H
     have c21b0 : decide (0 ≤ t157) = true := Z39 c21
     clear c21
     by_cases c22 : t157 < (t148.length : Int)
     ·rw [if_pos c22] at H
      have c22b0 : decide (t157 < (t148.length : Int)) = true := Z39 c22
      clear c22
      by_cases c23 : t157 < (l0_1.length : Int)
      ·rw [if_pos c23] at H
       have c23b0 : decide (t157 < (l0_1.length : Int)) = true := Z39 c23
       clear c23
       by_cases c24 : (rd t148 t157) > (rd l0_1 t157)
       ·rw [if_pos c24] at H
        have c24b0 : decide ((rd l0_1 t157) < (rd t148 t157)) = true := Z39 c24
        clear c24
        replace H := Z37.mp H
        obtain ⟨t162, A250, H⟩ := H
        replace H : ((spec_raInverse.f k t162).bind fun t165 => (some (t145, t148, t151, t154, t162, t165, wrap64 ((rd l0_5 (ji18)) - 1)))) = some (r1, r2, r3, r4, r5, r6, r7) := H
        have A25 := Ya A250
        clear A250
        replace H := Z37.mp H
        obtain ⟨t165, A260, H⟩ := H
        replace H : (some (t145, t148, t151, t154, t162, t165, wrap64 ((rd l0_5 (ji18)) - 1))) = some (r1, r2, r3, r4, r5, r6, r7) := H
        have A26 := Ya A260
        clear A260
        simp only [Option.some.injEq, Prod.mk.injEq] at H
        obtain ⟨rfl, rfl, rfl, rfl, rfl, rfl, rfl⟩ := H
        go_enter Try.func55, Try.ntmps55
        try go_wp2_with (first | ((with_reducible refine gate_dst (N := 1) rfl ?_); refine Yx 1 #[.slice A0_0 l0_0.length c0_0, .slice A0_1 l0_1.length c0_1, .slice A0_2 l0_2.length c0_2, .slice A0_3 l0_3.length c0_3, .slice A0_4 l0_4.length c0_4, .slice A0_5 l0_5.length c0_5] 35 ?_; intro gb143 hg w27 hbox hb; have BK143 := Ya hbox; have GW143 := Yg hg Q0; have GE143 := GW143; replace HB := Ya (Z8 Q0 hb); clear hb hbox hg) | ((with_reducible refine gate_dst (N := 2) rfl ?_); refine Yx 2 #[.slice none 0 0, .slice none 0 0, .slice none 0 0, .slice none 0 0, .slice none 0 0, .slice none 0 0] 35 ?_; intro gb144 hg w28 hbox hb; have BK144 := Ya hbox; have GW144 := Yg hg Q38; have GE144 := GW144; replace HB := Ya (Z8 Q38 hb); have NB143_144 := Yn BK143 hg; have NB144_143 := Ym BK143 hg; replace BK143 := Yb BK143 hb; clear hb hbox hg; have hnb29 := NB143_144.out; have hnc29 := NB144_143.out; obtain ⟨hcz30_0, hcz30_1, hcz30_2, hcz30_3, hcz30_4, hcz30_5, hfz30_0, hfz30_1, hfz30_2, hfz30_3, hfz30_4, hfz30_5⟩ := Y6 BK143.out) | ((with_reducible refine gate_callee (f := 31) rfl ?_); refine goesL_ (some 11) rfl rfl Try.func31 (by kernel_rfl) rfl #[.agg #[.slice A0_0 l0_0.length c0_0, .slice A0_1 l0_1.length c0_1, .slice A0_2 l0_2.length c0_2, .slice A0_3 l0_3.length c0_3]] rfl Q1 ?_; (with_reducible refine (spec_foStep.calls _ _ l0_0 _ _ l0_1 _ _ l0_2 _ _ l0_3 t145 t148 t151 t154 t157 _ ?side1 ?side2 ?side3 ?side4 ?side5 ?side6 ?side7 ?side8 A2.out).mono ?_); (case side1 => exact Yc (Z23 HR0_0.out HB.out)); (case side2 => exact HC0_0.out); (case side3 => exact Yc (Z23 HR0_1.out HB.out)); (case side4 => exact HC0_1.out); (case side5 => exact Yc (Z23 HR0_2.out HB.out)); (case side6 => exact HC0_2.out); (case side7 => exact Yc (Z23 HR0_3.out HB.out)); (case side8 => exact HC0_3.out); rintro e w31 ⟨v146, v149, v152, v155, rfl, ho0, ho1, ho2, ho3, hb⟩; refine ⟨_, rfl, ?_⟩; have HO147 := Ya (Kd.R_lower ho0 (Z7 Q12)); have HO150 := Ya (Kd.R_lower ho1 (Z7 Q12)); have HO153 := Ya (Kd.R_lower ho2 (Z7 Q12)); have HO156 := Ya (Kd.R_lower ho3 (Z7 Q12)); replace BK143 := Yb BK143 hb; replace BK144 := Yb BK144 hb; replace HB := Ya (Z8 Q12 hb); (try clear hb); (try clear hb2); (try clear hk); (try clear hi); (try clear ho0); (try clear ho1); (try clear ho2); (try clear ho3)) | ((with_reducible refine gate_dst (N := 4) rfl ?_); refine Yx 4 #[.slice none 0 0, .slice none 0 0, .slice none 0 0, .slice none 0 0] 27 ?_; intro gb158 hg w32 hbox hb; replace HO147 := Ya (Z14 (Yr HO147.out) hb); replace HO150 := Ya (Z14 (Yr HO150.out) hb); replace HO153 := Ya (Z14 (Yr HO153.out) hb); replace HO156 := Ya (Z14 (Yr HO156.out) hb); have BK158 := Ya hbox; have GW158 := Yg hg Q12; have GE158 := GW158; replace HB := Ya (Z8 Q12 hb); have NB143_158 := Yn BK143 hg; have NB158_143 := Ym BK143 hg; replace BK143 := Yb BK143 hb; have NB144_158 := Yn BK144 hg; have NB158_144 := Ym BK144 hg; replace BK144 := Yb BK144 hb; clear hb hbox hg; obtain ⟨Ao33, co33, eo33⟩ := Z19 HO147.out; subst eo33; have hnb34 := NB158_143.out; have hnc34 := NB143_158.out; have hnb35 := NB158_144.out; have hnc35 := NB144_158.out; obtain ⟨hcz36_0, hcz36_1, hcz36_2, hcz36_3, hfz36_0, hfz36_1, hfz36_2, hfz36_3⟩ := Y4 BK158.out; obtain ⟨Ao37, co37, eo37⟩ := Z19 HO150.out; subst eo37; obtain ⟨Ao38, co38, eo38⟩ := Z19 HO153.out; subst eo38; obtain ⟨Ao39, co39, eo39⟩ := Z19 HO156.out; subst eo39; obtain ⟨hcz40_0, hcz40_1, hcz40_2, hcz40_3, hcz40_4, hcz40_5, hfz40_0, hfz40_1, hfz40_2, hfz40_3, hfz40_4, hfz40_5⟩ := Y6 BK143.out; have p159 : 0 ≤ ((ji18) : Int) := Z31 Q5; have q159 : (ji18) < (l0_5.length : Int) := Z31 Q5; obtain ⟨ad159, e159, hx159_0⟩ := Kd.at_int HR0_5.out (ji18) p159 q159; cases e159; have hn159_0 : ad159.block ≠ gb158 := Nat.ne_of_lt (Nat.lt_of_lt_of_le Q40 GW158.out); have hn159_1 : ad159.block ≠ gb158 := Nat.ne_of_lt (Nat.lt_of_lt_of_le Q40 GW158.out); have hn159_2 : ad159.block ≠ gb158 := Nat.ne_of_lt (Nat.lt_of_lt_of_le Q40 GW158.out); have hn159_3 : ad159.block ≠ gb158 := Nat.ne_of_lt (Nat.lt_of_lt_of_le Q40 GW158.out); try replace hx159_0 := (HB.out.cell (World.block_lt_of_cell? w _ hx159_0)).trans hx159_0; replace hx159_0 := (cell_far (p := ⟨gb158, 0, none⟩) Q85 (.slice Ao33 t145.length co33)).trans hx159_0; replace hx159_0 := (cell_far (p := ⟨gb158, 1, none⟩) Q84 (.slice Ao37 t148.length co37)).trans hx159_0; replace hx159_0 := (cell_far (p := ⟨gb158, 2, none⟩) Q83 (.slice Ao38 t151.length co38)).trans hx159_0; replace hx159_0 := (cell_far (p := ⟨gb158, 3, none⟩) Q82 (.slice Ao39 t154.length co39)).trans hx159_0; clear hn159_0; clear hn159_1; clear hn159_2; clear hn159_3; replace p159 := eq_true p159; replace q159 := eq_true q159))
        replace HO147 : Aside0 (Kd.R (Kd.int .i64) 3 ((((w32.setCell ⟨gb158, 0, none⟩ (.slice Ao33 t145.length co33)).setCell ⟨gb158, 1, none⟩ (.slice Ao37 t148.length co37)).setCell ⟨gb158, 2, none⟩ (.slice Ao38 t151.length co38)).setCell ⟨gb158, 3, none⟩ (.slice Ao39 t154.length co39)) w.heap.size (fun k_ => some k_ ≠ (.slice Ao37 t148.length co37 : Value).ownBlock ∧ some k_ ≠ (.slice Ao39 t154.length co39 : Value).ownBlock) (.slice Ao33 t145.length co33) t145) := ⟨by (with_reducible repeat (first | apply Z9 | apply Z10 | apply Z11)); exact Z12 (Z13 (p := ⟨gb158, 3, none⟩) (Z13 (p := ⟨gb158, 2, none⟩) (Z13 (p := ⟨gb158, 1, none⟩) (Z13 (p := ⟨gb158, 0, none⟩) (Z15 HO147.out BK158.out (by decide)) (fun _ hk => hk.2) (.slice Ao33 t145.length co33)) (fun _ hk => hk.2) (.slice Ao37 t148.length co37)) (fun _ hk => hk.2) (.slice Ao38 t151.length co38)) (fun _ hk => hk.2) (.slice Ao39 t154.length co39)) (fun _ hk => ⟨hk.1.1, hk.1.2⟩)⟩
        replace HO150 : Aside0 (Kd.R (Kd.int .i64) 3 ((((w32.setCell ⟨gb158, 0, none⟩ (.slice Ao33 t145.length co33)).setCell ⟨gb158, 1, none⟩ (.slice Ao37 t148.length co37)).setCell ⟨gb158, 2, none⟩ (.slice Ao38 t151.length co38)).setCell ⟨gb158, 3, none⟩ (.slice Ao39 t154.length co39)) w.heap.size (fun k_ => some k_ ≠ (.slice Ao33 t145.length co33 : Value).ownBlock ∧ some k_ ≠ (.slice Ao39 t154.length co39 : Value).ownBlock) (.slice Ao37 t148.length co37) t148) := ⟨by (with_reducible repeat (first | apply Z9 | apply Z10 | apply Z11)); exact Z12 (Z13 (p := ⟨gb158, 3, none⟩) (Z13 (p := ⟨gb158, 2, none⟩) (Z13 (p := ⟨gb158, 1, none⟩) (Z13 (p := ⟨gb158, 0, none⟩) (Z15 HO150.out BK158.out (by decide)) (fun _ hk => hk.2) (.slice Ao33 t145.length co33)) (fun _ hk => hk.2) (.slice Ao37 t148.length co37)) (fun _ hk => hk.2) (.slice Ao38 t151.length co38)) (fun _ hk => hk.2) (.slice Ao39 t154.length co39)) (fun _ hk => ⟨hk.1.1, hk.1.2⟩)⟩
        replace HO153 : Aside0 (Kd.R Kd.bool 4 ((((w32.setCell ⟨gb158, 0, none⟩ (.slice Ao33 t145.length co33)).setCell ⟨gb158, 1, none⟩ (.slice Ao37 t148.length co37)).setCell ⟨gb158, 2, none⟩ (.slice Ao38 t151.length co38)).setCell ⟨gb158, 3, none⟩ (.slice Ao39 t154.length co39)) w.heap.size (fun _ => True) (.slice Ao38 t151.length co38) t151) := ⟨by (with_reducible repeat (first | apply Z9 | apply Z10 | apply Z11)); exact Z12 (Z13 (p := ⟨gb158, 3, none⟩) (Z13 (p := ⟨gb158, 2, none⟩) (Z13 (p := ⟨gb158, 1, none⟩) (Z13 (p := ⟨gb158, 0, none⟩) (Z15 HO153.out BK158.out (by decide)) (fun _ hk => hk.2) (.slice Ao33 t145.length co33)) (fun _ hk => hk.2) (.slice Ao37 t148.length co37)) (fun _ hk => hk.2) (.slice Ao38 t151.length co38)) (fun _ hk => hk.2) (.slice Ao39 t154.length co39)) (fun _ hk => trivial)⟩
        replace HO156 : Aside0 (Kd.R (Kd.int .i64) 3 ((((w32.setCell ⟨gb158, 0, none⟩ (.slice Ao33 t145.length co33)).setCell ⟨gb158, 1, none⟩ (.slice Ao37 t148.length co37)).setCell ⟨gb158, 2, none⟩ (.slice Ao38 t151.length co38)).setCell ⟨gb158, 3, none⟩ (.slice Ao39 t154.length co39)) w.heap.size (fun k_ => some k_ ≠ (.slice Ao33 t145.length co33 : Value).ownBlock ∧ some k_ ≠ (.slice Ao37 t148.length co37 : Value).ownBlock) (.slice Ao39 t154.length co39) t154) := ⟨by (with_reducible repeat (first | apply Z9 | apply Z10 | apply Z11)); exact Z12 (Z13 (p := ⟨gb158, 3, none⟩) (Z13 (p := ⟨gb158, 2, none⟩) (Z13 (p := ⟨gb158, 1, none⟩) (Z13 (p := ⟨gb158, 0, none⟩) (Z15 HO156.out BK158.out (by decide)) (fun _ hk => hk.2) (.slice Ao33 t145.length co33)) (fun _ hk => hk.2) (.slice Ao37 t148.length co37)) (fun _ hk => hk.2) (.slice Ao38 t151.length co38)) (fun _ hk => hk.2) (.slice Ao39 t154.length co39)) (fun _ hk => ⟨hk.1.1, hk.1.2⟩)⟩
        replace BK143 : Aside0 (((((w32.setCell ⟨gb158, 0, none⟩ (.slice Ao33 t145.length co33)).setCell ⟨gb158, 1, none⟩ (.slice Ao37 t148.length co37)).setCell ⟨gb158, 2, none⟩ (.slice Ao38 t151.length co38)).setCell ⟨gb158, 3, none⟩ (.slice Ao39 t154.length co39)).heap[gb143]? = some (.cells #[.slice A0_0 l0_0.length c0_0, .slice A0_1 l0_1.length c0_1, .slice A0_2 l0_2.length c0_2, .slice A0_3 l0_3.length c0_3, .slice A0_4 l0_4.length c0_4, .slice (some ad159) l0_5.length c0_5] 35 (0, 0))) := ⟨Q44⟩
        replace BK144 : Aside0 (((((w32.setCell ⟨gb158, 0, none⟩ (.slice Ao33 t145.length co33)).setCell ⟨gb158, 1, none⟩ (.slice Ao37 t148.length co37)).setCell ⟨gb158, 2, none⟩ (.slice Ao38 t151.length co38)).setCell ⟨gb158, 3, none⟩ (.slice Ao39 t154.length co39)).heap[gb144]? = some (.cells #[.slice none 0 0, .slice none 0 0, .slice none 0 0, .slice none 0 0, .slice none 0 0, .slice none 0 0] 35 (0, 0))) := ⟨Q43⟩
        replace BK158 : Aside0 (((((w32.setCell ⟨gb158, 0, none⟩ (.slice Ao33 t145.length co33)).setCell ⟨gb158, 1, none⟩ (.slice Ao37 t148.length co37)).setCell ⟨gb158, 2, none⟩ (.slice Ao38 t151.length co38)).setCell ⟨gb158, 3, none⟩ (.slice Ao39 t154.length co39)).heap[gb158]? = some (.cells #[.slice Ao33 t145.length co33, .slice Ao37 t148.length co37, .slice Ao38 t151.length co38, .slice Ao39 t154.length co39] 27 (0, 0))) := ⟨by (with_reducible repeat (first | refine Z26 ?_ _ | refine Z27 ?_ | refine Z28 ?_ _)); refine Z30 (cs := #[.slice Ao33 t145.length co33, .slice Ao37 t148.length co37, .slice Ao38 t151.length co38, .slice none 0 0]) ?_ 3 _ rfl; (with_reducible repeat (first | refine Z26 ?_ _ | refine Z27 ?_ | refine Z28 ?_ _)); refine Z30 (cs := #[.slice Ao33 t145.length co33, .slice Ao37 t148.length co37, .slice none 0 0, .slice none 0 0]) ?_ 2 _ rfl; (with_reducible repeat (first | refine Z26 ?_ _ | refine Z27 ?_ | refine Z28 ?_ _)); refine Z30 (cs := #[.slice Ao33 t145.length co33, .slice none 0 0, .slice none 0 0, .slice none 0 0]) ?_ 1 _ rfl; (with_reducible repeat (first | refine Z26 ?_ _ | refine Z27 ?_ | refine Z28 ?_ _)); refine Z30 (cs := #[.slice none 0 0, .slice none 0 0, .slice none 0 0, .slice none 0 0]) ?_ 0 _ rfl; (with_reducible repeat (first | refine Z26 ?_ _ | refine Z27 ?_ | refine Z28 ?_ _)); exact BK158.out⟩
        replace HB : Aside0 (Below w.heap.size w ((((w32.setCell ⟨gb158, 0, none⟩ (.slice Ao33 t145.length co33)).setCell ⟨gb158, 1, none⟩ (.slice Ao37 t148.length co37)).setCell ⟨gb158, 2, none⟩ (.slice Ao38 t151.length co38)).setCell ⟨gb158, 3, none⟩ (.slice Ao39 t154.length co39))) := ⟨Q36⟩
        generalize ((((w32.setCell ⟨gb158, 0, none⟩ (.slice Ao33 t145.length co33)).setCell ⟨gb158, 1, none⟩ (.slice Ao37 t148.length co37)).setCell ⟨gb158, 2, none⟩ (.slice Ao38 t151.length co38)).setCell ⟨gb158, 3, none⟩ (.slice Ao39 t154.length co39)) = w41 at HO147 HO150 HO153 HO156 BK143 BK144 BK158 HB ⊢
        replace HO147 := Ya (Z11 HO147.out)
        replace HO150 := Ya (Z11 HO150.out)
        replace HO153 := Ya (Z11 HO153.out)
        replace HO156 := Ya (Z11 HO156.out)
        replace BK143 := Ya (Z27 BK143.out)
        replace BK144 := Ya (Z27 BK144.out)
        replace BK158 := Ya (Z27 BK158.out)
        replace HB := Ya (Z4 HB.out)
        have p160 : 0 ≤ (t157 : Int) := Z31 Q5
        have q160 : t157 < (t148.length : Int) := Z31 Q5
        obtain ⟨ad160, e160, hx160_0⟩ := Kd.at_int (Kd.R_reads' HO150.out).2.2 t157 p160 q160
        cases e160
        replace p160 := eq_true p160
        replace q160 := eq_true q160
        have p161 : 0 ≤ (t157 : Int) := Z31 Q5
        have q161 : t157 < (l0_1.length : Int) := Z31 Q5
        obtain ⟨ad161, e161, hx161_0⟩ := Kd.at_int HR0_1.out t157 p161 q161
        have hw161_0 := hx161_0
        cases e161
        try replace hx161_0 := (HB.out.cell (World.block_lt_of_cell? w _ hx161_0)).trans hx161_0
        replace p161 := eq_true p161
        replace q161 := eq_true q161
        refine start_ (n := 12) (S := fun w' => w'.cell? ⟨gb158, 0, none⟩ = some (.slice Ao33 t145.length co33) ∧ w'.cell? ⟨gb158, 1, none⟩ = some (.slice (some ad160) t148.length co37) ∧ w'.cell? ⟨gb158, 2, none⟩ = some (.slice Ao38 t151.length co38) ∧ w'.cell? ⟨gb158, 3, none⟩ = some (.slice Ao39 t154.length co39) ∧ w'.cell? ⟨gb143, 0, none⟩ = some (.slice A0_0 l0_0.length c0_0) ∧ w'.cell? ⟨gb143, 1, none⟩ = some (.slice (some ad161) l0_1.length c0_1) ∧ w'.cell? ⟨gb143, 2, none⟩ = some (.slice A0_2 l0_2.length c0_2) ∧ w'.cell? ⟨gb143, 3, none⟩ = some (.slice A0_3 l0_3.length c0_3) ∧ w'.cell? ⟨gb143, 4, none⟩ = some (.slice A0_4 l0_4.length c0_4) ∧ w'.cell? ⟨gb143, 5, none⟩ = some (.slice (some ad159) l0_5.length c0_5) ∧ w'.cell? (ad160.add (t157).toNat) = some (.int .i64 (rd t148 t157)) ∧ w'.cell? (ad161.add (t157).toNat) = some (.int .i64 (rd l0_1 t157))) (ds := []) (YA 12 0) (by kernel_rfl) rfl rfl ⟨(Z24 BK158.out 0).trans rfl, (Z24 BK158.out 1).trans rfl, (Z24 BK158.out 2).trans rfl, (Z24 BK158.out 3).trans rfl, (Z24 BK143.out 0).trans rfl, (Z24 BK143.out 1).trans rfl, (Z24 BK143.out 2).trans rfl, (Z24 BK143.out 3).trans rfl, (Z24 BK143.out 4).trans rfl, (Z24 BK143.out 5).trans rfl, hx160_0, ((HB.out.cell (World.block_lt_of_cell? w _ hw161_0)).trans hw161_0)⟩ (fun hHeld => ?_); refine with_tabW spec_foSwap.tab5 spec_foSwap.bits5 (fun HT_ HW_ => ?_)
        generalize w41.drew = w42 at HO147 HO150 HO153 HO156 BK143 BK144 BK158 HB hx160_0 hx161_0 hHeld ⊢
        refine Yp 0 (some 23) (YA 12 1) rfl HT_.out ?_
        refine Yp 2 (some 25) (YA 12 5) rfl HT_.out ?_
        refine Yp 5 (some 28) (YA 12 37) rfl HT_.out ?_
        refine Yp 6 (some 29) (YA 12 101) rfl HT_.out ?_
        refine Yp 8 (some 31) (YA 12 357) rfl HT_.out ?_
        refine Yt 1 (some 24) (YA 12 359) rfl HT_.out HW_.out hHeld Q33 ?_
        refine Yp 3 (some 26) (YA 12 367) rfl HT_.out ?_
        refine Yt 4 (some 27) (YA 12 383) rfl HT_.out HW_.out hHeld Q33 ?_
        refine Yt 7 (some 30) (YA 12 511) rfl HT_.out HW_.out hHeld Q33 ?_
        refine Yp 9 (some 32) (YA 12 1023) rfl HT_.out ?_
        refine Yt 10 (some 33) (YA 12 2047) rfl HT_.out HW_.out hHeld Q33 ?_
        refine Yp 11 (some 34) (YA 12 4095) rfl HT_.out ?_
        refine done_ (done_of HT_.out (by kernel_rfl)) ?_
        obtain ⟨hcz43_0, hcz43_1, hcz43_2, hcz43_3, hcz43_4, hcz43_5, hfz43_0, hfz43_1, hfz43_2, hfz43_3, hfz43_4, hfz43_5⟩ := Y6 BK143.out
        try go_wp2_with (first | ((with_reducible refine gate_callee (f := 74) rfl ?_); refine goesL_ (some 43) rfl rfl Try.func74 (by kernel_rfl) rfl #[.slice A0_4 l0_4.length c0_4, .agg #[.int .i64 0, .int .i64 (wrap64 ((rd l0_5 (ji18)) - 1)), .int .i64 (wrap64 ((wrap64 ((rd l0_5 (ji18)) - 1)) + 1))]] rfl (by (try simp only [Z34, Z35, Z36]); first | done | (simp only [hji18]; rfl) | rfl | (simp only [Z32, Z33]; rfl)) ?_; (with_reducible refine (spec_moApply.calls k _ _ l0_4 0 (wrap64 ((rd l0_5 (ji18)) - 1)) (wrap64 ((wrap64 ((rd l0_5 (ji18)) - 1)) + 1)) t162 _ ?side1 ?side2 A25.out).mono ?_); (case side1 => exact Yc (Z23 HR0_4.out HB.out)); (case side2 => exact HC0_4.out); rintro e w44 ⟨v163, rfl, ho0, hb⟩; refine ⟨_, rfl, ?_⟩; replace HO153 := Ya (Z14 (Yr HO153.out) hb); have HO164 := Ya (Kd.R_lower (Kd.R_new' (Kd.R_new' (Kd.R_new' ho0 (Z18 (Yr HO147.out))) (Z18 (Yr HO150.out))) (Z18 (Yr HO156.out))) (Z7 Q27)); replace HO147 := Ya (Kd.R_elder' (Yr HO147.out) (Kd.R_base ho0) hb); replace HO150 := Ya (Kd.R_elder' (Yr HO150.out) (Kd.R_base ho0) hb); replace HO156 := Ya (Kd.R_elder' (Yr HO156.out) (Kd.R_base ho0) hb); replace BK143 := Yb BK143 hb; replace BK144 := Yb BK144 hb; replace BK158 := Yb BK158 hb; replace HB := Ya (Z8 Q27 hb); (try clear hb); (try clear hb2); (try clear hk); (try clear hi); (try clear ho0)))
        replace HO147 := Ya (Z11 HO147.out)
        replace HO150 := Ya (Z11 HO150.out)
        replace HO153 := Ya (Z11 HO153.out)
        replace HO156 := Ya (Z11 HO156.out)
        replace HO164 := Ya (Z11 HO164.out)
        replace BK143 := Ya (Z27 BK143.out)
        replace BK144 := Ya (Z27 BK144.out)
        replace BK158 := Ya (Z27 BK158.out)
        replace HB := Ya (Z4 HB.out)
        obtain ⟨Ao46, co46, eo46⟩ := Z19 HO164.out
        (first | subst eo46 | (injection eo46 with f1_ f2_ f3_; have f4_ := f1_.symm; have f5_ := f3_.symm; clear f1_ f2_ f3_; subst f4_; subst f5_))
        refine start_ (n := 8) (S := fun w' => w'.cell? ⟨gb158, 0, none⟩ = some (.slice Ao33 t145.length co33) ∧ w'.cell? ⟨gb158, 1, none⟩ = some (.slice (some ad160) t148.length co37) ∧ w'.cell? ⟨gb158, 2, none⟩ = some (.slice Ao38 t151.length co38) ∧ w'.cell? ⟨gb158, 3, none⟩ = some (.slice Ao39 t154.length co39)) (ds := []) (YA 8 0) (by kernel_rfl) rfl rfl ⟨(Z24 BK158.out 0).trans rfl, (Z24 BK158.out 1).trans rfl, (Z24 BK158.out 2).trans rfl, (Z24 BK158.out 3).trans rfl⟩ (fun hHeld => ?_); refine with_tabW spec_foSwap.tab8 spec_foSwap.bits8 (fun HT_ HW_ => ?_)
        generalize w44.drew = w45 at HO147 HO150 HO153 HO156 HO164 BK143 BK144 BK158 HB hHeld ⊢
        refine Yp 1 (some 45) (YA 8 2) rfl HT_.out ?_
        refine Yp 2 (some 46) (YA 8 6) rfl HT_.out ?_
        refine Yp 5 (some 49) (YA 8 38) rfl HT_.out ?_
        refine Yt 0 (some 44) (YA 8 39) rfl HT_.out HW_.out hHeld Q10 ?_
        refine one_ (i := 3) (N := some 47) (YA 8 47) rfl rfl (one_of HT_.out (by kernel_rfl)) (by decide) (fun K hK => ?_)
        refine goes_ Try.func75 (by kernel_rfl) rfl #[.slice Ao46 t162.length co46] (by rfl) rfl rfl Q1 ?_
        with_reducible refine (spec_raInverse.calls k _ _ t162 t165 _ ?side1 ?side2 A26.out).mono ?_
        (case side1 => repeat (first | exact (Kd.R_reads' HO164.out).2.2 | (with_reducible refine Z20 ?_ _) | (with_reducible refine Z21 ?_ _) | (with_reducible refine Z22 ?_)))
        (case side2 => exact (Kd.R_reads' HO164.out).2.1)
        rintro e w47 ⟨v166, rfl, ho0, hb⟩
        refine ⟨_, rfl, ?_⟩
        replace HO153 := Ya (Z14 (Yr HO153.out) hb)
        have HO167 := Ya (Kd.R_lower (Kd.R_new' (Kd.R_new' (Kd.R_new' (Kd.R_new' ho0 (Z18 (Yr HO147.out))) (Z18 (Yr HO150.out))) (Z18 (Yr HO156.out))) (Z18 (Yr HO164.out))) (Z7 Q27))
        replace HO147 := Ya (Kd.R_elder' (Yr HO147.out) (Kd.R_base ho0) hb)
        replace HO150 := Ya (Kd.R_elder' (Yr HO150.out) (Kd.R_base ho0) hb)
        replace HO156 := Ya (Kd.R_elder' (Yr HO156.out) (Kd.R_base ho0) hb)
        replace HO164 := Ya (Kd.R_elder' (Yr HO164.out) (Kd.R_base ho0) hb)
        replace BK143 := Yb BK143 hb
        replace BK144 := Yb BK144 hb
        replace BK158 := Yb BK158 hb
        replace HB := Ya (Z8 Q27 hb)
        (try clear hb)
        (try clear hb2)
        (try clear hk)
        (try clear hi)
        (try clear ho0)
        obtain ⟨Ao48, co48, eo48⟩ := Z19 HO167.out
        (first | subst eo48 | (injection eo48 with f1_ f2_ f3_; have f4_ := f1_.symm; have f5_ := f3_.symm; clear f1_ f2_ f3_; subst f4_; subst f5_))
        refine hK.out _ _ ⟨(Z24 BK158.out 0).trans rfl, (Z24 BK158.out 1).trans rfl, (Z24 BK158.out 2).trans rfl, (Z24 BK158.out 3).trans rfl⟩ (fun hHeld => ?_)
        clear hK K
        refine norm_ (a' := ?_) ?_ ?_
        rotate_left
        ·show Act.put _ (some 47) _ = _
         simp only [Act.put, Z0, Z1, Z2, i64_w, i32_w]
         rfl
        refine Yp 4 (some 48) (YA 8 63) rfl HT_.out ?_
        refine one_ (i := 6) (N := none) (YA 8 127) rfl rfl (one_of HT_.out (by kernel_rfl)) (by decide) (fun K hK => ?_)
        have hs49 : w47.cell? ⟨gb144, 0, none⟩ = some (.slice none 0 0) := (Z24 BK144.out 0).trans rfl
        have hfs49 := Z25 BK144.out 0
        have hns49_0 := NB143_144.out
        have hns49_2 := NB158_144.out
        have hms49_0 := NB144_143.out
        have hms49_2 := NB144_158.out
        have hs50 : w47.cell? ⟨gb144, 1, none⟩ = some (.slice none 0 0) := (Z24 BK144.out 1).trans rfl
        have hfs50 := Z25 BK144.out 1
        have hns50_0 := NB143_144.out
        have hns50_2 := NB158_144.out
        have hms50_0 := NB144_143.out
        have hms50_2 := NB144_158.out
        have hs51 : w47.cell? ⟨gb144, 2, none⟩ = some (.slice none 0 0) := (Z24 BK144.out 2).trans rfl
        have hfs51 := Z25 BK144.out 2
        have hns51_0 := NB143_144.out
        have hns51_2 := NB158_144.out
        have hms51_0 := NB144_143.out
        have hms51_2 := NB144_158.out
        have hs52 : w47.cell? ⟨gb144, 3, none⟩ = some (.slice none 0 0) := (Z24 BK144.out 3).trans rfl
        have hfs52 := Z25 BK144.out 3
        have hns52_0 := NB143_144.out
        have hns52_2 := NB158_144.out
        have hms52_0 := NB144_143.out
        have hms52_2 := NB144_158.out
        have hs53 : w47.cell? ⟨gb144, 4, none⟩ = some (.slice none 0 0) := (Z24 BK144.out 4).trans rfl
        have hfs53 := Z25 BK144.out 4
        have hns53_0 := NB143_144.out
        have hns53_2 := NB158_144.out
        have hms53_0 := NB144_143.out
        have hms53_2 := NB144_158.out
        have hs54 : w47.cell? ⟨gb144, 5, none⟩ = some (.slice none 0 0) := (Z24 BK144.out 5).trans rfl
        have hfs54 := Z25 BK144.out 5
        have hns54_0 := NB143_144.out
        have hns54_2 := NB158_144.out
        have hms54_0 := NB144_143.out
        have hms54_2 := NB144_158.out
        refine skip_ (w1 := ?_) (by rfl) rfl ?_ ?_
        rotate_left
        ·go_simp
         rfl
        refine hK.out _ _ ⟨((cell_far (p := ⟨gb144, _, none⟩) NB158_144.out _).trans (((cell_far (p := ⟨gb144, _, none⟩) NB158_144.out _).trans (((cell_far (p := ⟨gb144, _, none⟩) NB158_144.out _).trans (((cell_far (p := ⟨gb144, _, none⟩) NB158_144.out _).trans (((cell_far (p := ⟨gb144, _, none⟩) NB158_144.out _).trans (((cell_far (p := ⟨gb144, _, none⟩) NB158_144.out _).trans (hHeld.1)))))))))))), ((cell_far (p := ⟨gb144, _, none⟩) NB158_144.out _).trans (((cell_far (p := ⟨gb144, _, none⟩) NB158_144.out _).trans (((cell_far (p := ⟨gb144, _, none⟩) NB158_144.out _).trans (((cell_far (p := ⟨gb144, _, none⟩) NB158_144.out _).trans (((cell_far (p := ⟨gb144, _, none⟩) NB158_144.out _).trans (((cell_far (p := ⟨gb144, _, none⟩) NB158_144.out _).trans (hHeld.2.1)))))))))))), ((cell_far (p := ⟨gb144, _, none⟩) NB158_144.out _).trans (((cell_far (p := ⟨gb144, _, none⟩) NB158_144.out _).trans (((cell_far (p := ⟨gb144, _, none⟩) NB158_144.out _).trans (((cell_far (p := ⟨gb144, _, none⟩) NB158_144.out _).trans (((cell_far (p := ⟨gb144, _, none⟩) NB158_144.out _).trans (((cell_far (p := ⟨gb144, _, none⟩) NB158_144.out _).trans (hHeld.2.2.1)))))))))))), ((cell_far (p := ⟨gb144, _, none⟩) NB158_144.out _).trans (((cell_far (p := ⟨gb144, _, none⟩) NB158_144.out _).trans (((cell_far (p := ⟨gb144, _, none⟩) NB158_144.out _).trans (((cell_far (p := ⟨gb144, _, none⟩) NB158_144.out _).trans (((cell_far (p := ⟨gb144, _, none⟩) NB158_144.out _).trans (((cell_far (p := ⟨gb144, _, none⟩) NB158_144.out _).trans (hHeld.2.2.2))))))))))))⟩ (fun hHeld => ?_)
        clear hK K
        refine Yp 7 (some 3) (YA 8 255) rfl HT_.out ?_
        refine done_ (done_of HT_.out (by kernel_rfl)) ?_
        try go_wp2
        refine bodyPost_ret (results_ct rfl _ _ gb144 35 #[.slice Ao33 t145.length co33, .slice (some ad160) t148.length co37, .slice Ao38 t151.length co38, .slice Ao39 t154.length co39, .slice Ao46 t162.length co46, .slice Ao48 t165.length co48] (0, 0) _ rfl (by (with_reducible repeat (first | refine Z26 ?_ _ | refine Z27 ?_ | refine Z28 ?_ _)); refine Z30 (cs := #[.slice Ao33 t145.length co33, .slice (some ad160) t148.length co37, .slice Ao38 t151.length co38, .slice Ao39 t154.length co39, .slice Ao46 t162.length co46, .slice none 0 0]) ?_ 5 _ rfl; (with_reducible repeat (first | refine Z26 ?_ _ | refine Z27 ?_ | refine Z28 ?_ _)); refine Z30 (cs := #[.slice Ao33 t145.length co33, .slice (some ad160) t148.length co37, .slice Ao38 t151.length co38, .slice Ao39 t154.length co39, .slice none 0 0, .slice none 0 0]) ?_ 4 _ rfl; (with_reducible repeat (first | refine Z26 ?_ _ | refine Z27 ?_ | refine Z28 ?_ _)); refine Z30 (cs := #[.slice Ao33 t145.length co33, .slice (some ad160) t148.length co37, .slice Ao38 t151.length co38, .slice none 0 0, .slice none 0 0, .slice none 0 0]) ?_ 3 _ rfl; (with_reducible repeat (first | refine Z26 ?_ _ | refine Z27 ?_ | refine Z28 ?_ _)); refine Z30 (cs := #[.slice Ao33 t145.length co33, .slice (some ad160) t148.length co37, .slice none 0 0, .slice none 0 0, .slice none 0 0, .slice none 0 0]) ?_ 2 _ rfl; (with_reducible repeat (first | refine Z26 ?_ _ | refine Z27 ?_ | refine Z28 ?_ _)); refine Z30 (cs := #[.slice Ao33 t145.length co33, .slice none 0 0, .slice none 0 0, .slice none 0 0, .slice none 0 0, .slice none 0 0]) ?_ 1 _ rfl; (with_reducible repeat (first | refine Z26 ?_ _ | refine Z27 ?_ | refine Z28 ?_ _)); refine Z30 (cs := #[.slice none 0 0, .slice none 0 0, .slice none 0 0, .slice none 0 0, .slice none 0 0, .slice none 0 0]) ?_ 0 _ rfl; (with_reducible repeat (first | refine Z26 ?_ _ | refine Z27 ?_ | refine Z28 ?_ _)); exact BK144.out) Try.underlying35 rfl (by kernel_rfl)) rfl ?_
        exact ⟨_, _, _, _, _, _, Q77, by (with_reducible repeat (first | apply Z9 | apply Z10 | apply Z11)); exact Z12 (Z13 (p := ⟨gb144, 5, none⟩) (Z13 (p := ⟨gb144, 4, none⟩) (Z13 (p := ⟨gb144, 3, none⟩) (Z13 (p := ⟨gb144, 2, none⟩) (Z13 (p := ⟨gb144, 1, none⟩) (Z13 (p := ⟨gb144, 0, none⟩) (Z15 HO147.out BK144.out (by decide)) (fun _ hk => hk.2) (.slice Ao33 t145.length co33)) (fun _ hk => hk.2) (.slice (some ad160) t148.length co37)) (fun _ hk => hk.2) (.slice Ao38 t151.length co38)) (fun _ hk => hk.2) (.slice Ao39 t154.length co39)) (fun _ hk => hk.2) (.slice Ao46 t162.length co46)) (fun _ hk => hk.2) (.slice Ao48 t165.length co48)) (fun _ hk => ⟨hk.1.1.1.1, ⟨hk.1.1.1.2, ⟨hk.1.1.2, hk.1.2⟩⟩⟩), by (with_reducible repeat (first | apply Z9 | apply Z10 | apply Z11)); exact Z12 (Z13 (p := ⟨gb144, 5, none⟩) (Z13 (p := ⟨gb144, 4, none⟩) (Z13 (p := ⟨gb144, 3, none⟩) (Z13 (p := ⟨gb144, 2, none⟩) (Z13 (p := ⟨gb144, 1, none⟩) (Z13 (p := ⟨gb144, 0, none⟩) (Z15 HO150.out BK144.out (by decide)) (fun _ hk => hk.2) (.slice Ao33 t145.length co33)) (fun _ hk => hk.2) (.slice (some ad160) t148.length co37)) (fun _ hk => hk.2) (.slice Ao38 t151.length co38)) (fun _ hk => hk.2) (.slice Ao39 t154.length co39)) (fun _ hk => hk.2) (.slice Ao46 t162.length co46)) (fun _ hk => hk.2) (.slice Ao48 t165.length co48)) (fun _ hk => ⟨hk.1.1.1.1, ⟨hk.1.1.1.2, ⟨hk.1.1.2, hk.1.2⟩⟩⟩), by (with_reducible repeat (first | apply Z9 | apply Z10 | apply Z11)); exact Z12 (Z13 (p := ⟨gb144, 5, none⟩) (Z13 (p := ⟨gb144, 4, none⟩) (Z13 (p := ⟨gb144, 3, none⟩) (Z13 (p := ⟨gb144, 2, none⟩) (Z13 (p := ⟨gb144, 1, none⟩) (Z13 (p := ⟨gb144, 0, none⟩) (Z15 HO153.out BK144.out (by decide)) (fun _ hk => hk.2) (.slice Ao33 t145.length co33)) (fun _ hk => hk.2) (.slice (some ad160) t148.length co37)) (fun _ hk => hk.2) (.slice Ao38 t151.length co38)) (fun _ hk => hk.2) (.slice Ao39 t154.length co39)) (fun _ hk => hk.2) (.slice Ao46 t162.length co46)) (fun _ hk => hk.2) (.slice Ao48 t165.length co48)) (fun _ hk => trivial), by (with_reducible repeat (first | apply Z9 | apply Z10 | apply Z11)); exact Z12 (Z13 (p := ⟨gb144, 5, none⟩) (Z13 (p := ⟨gb144, 4, none⟩) (Z13 (p := ⟨gb144, 3, none⟩) (Z13 (p := ⟨gb144, 2, none⟩) (Z13 (p := ⟨gb144, 1, none⟩) (Z13 (p := ⟨gb144, 0, none⟩) (Z15 HO156.out BK144.out (by decide)) (fun _ hk => hk.2) (.slice Ao33 t145.length co33)) (fun _ hk => hk.2) (.slice (some ad160) t148.length co37)) (fun _ hk => hk.2) (.slice Ao38 t151.length co38)) (fun _ hk => hk.2) (.slice Ao39 t154.length co39)) (fun _ hk => hk.2) (.slice Ao46 t162.length co46)) (fun _ hk => hk.2) (.slice Ao48 t165.length co48)) (fun _ hk => ⟨hk.1.1.1.1, ⟨hk.1.1.1.2, ⟨hk.1.1.2, hk.1.2⟩⟩⟩), by (with_reducible repeat (first | apply Z9 | apply Z10 | apply Z11)); exact Z12 (Z13 (p := ⟨gb144, 5, none⟩) (Z13 (p := ⟨gb144, 4, none⟩) (Z13 (p := ⟨gb144, 3, none⟩) (Z13 (p := ⟨gb144, 2, none⟩) (Z13 (p := ⟨gb144, 1, none⟩) (Z13 (p := ⟨gb144, 0, none⟩) (Z15 HO164.out BK144.out (by decide)) (fun _ hk => hk.2) (.slice Ao33 t145.length co33)) (fun _ hk => hk.2) (.slice (some ad160) t148.length co37)) (fun _ hk => hk.2) (.slice Ao38 t151.length co38)) (fun _ hk => hk.2) (.slice Ao39 t154.length co39)) (fun _ hk => hk.2) (.slice Ao46 t162.length co46)) (fun _ hk => hk.2) (.slice Ao48 t165.length co48)) (fun _ hk => ⟨hk.1.1.1.1.2, ⟨hk.1.1.1.2, ⟨hk.1.1.2, hk.1.2⟩⟩⟩), by (with_reducible repeat (first | apply Z9 | apply Z10 | apply Z11)); exact Z12 (Z13 (p := ⟨gb144, 5, none⟩) (Z13 (p := ⟨gb144, 4, none⟩) (Z13 (p := ⟨gb144, 3, none⟩) (Z13 (p := ⟨gb144, 2, none⟩) (Z13 (p := ⟨gb144, 1, none⟩) (Z13 (p := ⟨gb144, 0, none⟩) (Z15 HO167.out BK144.out (by decide)) (fun _ hk => hk.2) (.slice Ao33 t145.length co33)) (fun _ hk => hk.2) (.slice (some ad160) t148.length co37)) (fun _ hk => hk.2) (.slice Ao38 t151.length co38)) (fun _ hk => hk.2) (.slice Ao39 t154.length co39)) (fun _ hk => hk.2) (.slice Ao46 t162.length co46)) (fun _ hk => hk.2) (.slice Ao48 t165.length co48)) (fun _ hk => ⟨hk.1.1.1.1.2, ⟨hk.1.1.1.2, ⟨hk.1.1.2, hk.1.2⟩⟩⟩), Q36⟩
       ·rw [if_neg c24] at H
        have c24b0 : decide ((rd l0_1 t157) < (rd t148 t157)) = false := Z38 c24
        clear c24
        replace H := Z37.mp H
        obtain ⟨t168, A550, H⟩ := H
        replace H : ((spec_raInverse.f k t168).bind fun t171 => (some (t145, t148, t151, t154, t168, t171, rd l0_5 (ji18)))) = some (r1, r2, r3, r4, r5, r6, r7) := H
        have A55 := Ya A550
        clear A550
        replace H := Z37.mp H
        obtain ⟨t171, A560, H⟩ := H
        replace H : (some (t145, t148, t151, t154, t168, t171, rd l0_5 (ji18))) = some (r1, r2, r3, r4, r5, r6, r7) := H
        have A56 := Ya A560
        clear A560
        simp only [Option.some.injEq, Prod.mk.injEq] at H
        obtain ⟨rfl, rfl, rfl, rfl, rfl, rfl, rfl⟩ := H
        go_enter Try.func55, Try.ntmps55
        try go_wp2_with (first | ((with_reducible refine gate_dst (N := 1) rfl ?_); refine Yx 1 #[.slice A0_0 l0_0.length c0_0, .slice A0_1 l0_1.length c0_1, .slice A0_2 l0_2.length c0_2, .slice A0_3 l0_3.length c0_3, .slice A0_4 l0_4.length c0_4, .slice A0_5 l0_5.length c0_5] 35 ?_; intro gb143 hg w57 hbox hb; have BK143 := Ya hbox; have GW143 := Yg hg Q0; have GE143 := GW143; replace HB := Ya (Z8 Q0 hb); clear hb hbox hg) | ((with_reducible refine gate_dst (N := 2) rfl ?_); refine Yx 2 #[.slice none 0 0, .slice none 0 0, .slice none 0 0, .slice none 0 0, .slice none 0 0, .slice none 0 0] 35 ?_; intro gb144 hg w58 hbox hb; have BK144 := Ya hbox; have GW144 := Yg hg Q38; have GE144 := GW144; replace HB := Ya (Z8 Q38 hb); have NB143_144 := Yn BK143 hg; have NB144_143 := Ym BK143 hg; replace BK143 := Yb BK143 hb; clear hb hbox hg; have hnb59 := NB143_144.out; have hnc59 := NB144_143.out; obtain ⟨hcz60_0, hcz60_1, hcz60_2, hcz60_3, hcz60_4, hcz60_5, hfz60_0, hfz60_1, hfz60_2, hfz60_3, hfz60_4, hfz60_5⟩ := Y6 BK143.out) | ((with_reducible refine gate_callee (f := 31) rfl ?_); refine goesL_ (some 11) rfl rfl Try.func31 (by kernel_rfl) rfl #[.agg #[.slice A0_0 l0_0.length c0_0, .slice A0_1 l0_1.length c0_1, .slice A0_2 l0_2.length c0_2, .slice A0_3 l0_3.length c0_3]] rfl Q1 ?_; (with_reducible refine (spec_foStep.calls _ _ l0_0 _ _ l0_1 _ _ l0_2 _ _ l0_3 t145 t148 t151 t154 t157 _ ?side1 ?side2 ?side3 ?side4 ?side5 ?side6 ?side7 ?side8 A2.out).mono ?_); (case side1 => exact Yc (Z23 HR0_0.out HB.out)); (case side2 => exact HC0_0.out); (case side3 => exact Yc (Z23 HR0_1.out HB.out)); (case side4 => exact HC0_1.out); (case side5 => exact Yc (Z23 HR0_2.out HB.out)); (case side6 => exact HC0_2.out); (case side7 => exact Yc (Z23 HR0_3.out HB.out)); (case side8 => exact HC0_3.out); rintro e w61 ⟨v146, v149, v152, v155, rfl, ho0, ho1, ho2, ho3, hb⟩; refine ⟨_, rfl, ?_⟩; have HO147 := Ya (Kd.R_lower ho0 (Z7 Q12)); have HO150 := Ya (Kd.R_lower ho1 (Z7 Q12)); have HO153 := Ya (Kd.R_lower ho2 (Z7 Q12)); have HO156 := Ya (Kd.R_lower ho3 (Z7 Q12)); replace BK143 := Yb BK143 hb; replace BK144 := Yb BK144 hb; replace HB := Ya (Z8 Q12 hb); (try clear hb); (try clear hb2); (try clear hk); (try clear hi); (try clear ho0); (try clear ho1); (try clear ho2); (try clear ho3)) | ((with_reducible refine gate_dst (N := 4) rfl ?_); refine Yx 4 #[.slice none 0 0, .slice none 0 0, .slice none 0 0, .slice none 0 0] 27 ?_; intro gb158 hg w62 hbox hb; replace HO147 := Ya (Z14 (Yr HO147.out) hb); replace HO150 := Ya (Z14 (Yr HO150.out) hb); replace HO153 := Ya (Z14 (Yr HO153.out) hb); replace HO156 := Ya (Z14 (Yr HO156.out) hb); have BK158 := Ya hbox; have GW158 := Yg hg Q12; have GE158 := GW158; replace HB := Ya (Z8 Q12 hb); have NB143_158 := Yn BK143 hg; have NB158_143 := Ym BK143 hg; replace BK143 := Yb BK143 hb; have NB144_158 := Yn BK144 hg; have NB158_144 := Ym BK144 hg; replace BK144 := Yb BK144 hb; clear hb hbox hg; obtain ⟨Ao63, co63, eo63⟩ := Z19 HO147.out; subst eo63; have hnb64 := NB158_143.out; have hnc64 := NB143_158.out; have hnb65 := NB158_144.out; have hnc65 := NB144_158.out; obtain ⟨hcz66_0, hcz66_1, hcz66_2, hcz66_3, hfz66_0, hfz66_1, hfz66_2, hfz66_3⟩ := Y4 BK158.out; obtain ⟨Ao67, co67, eo67⟩ := Z19 HO150.out; subst eo67; obtain ⟨Ao68, co68, eo68⟩ := Z19 HO153.out; subst eo68; obtain ⟨Ao69, co69, eo69⟩ := Z19 HO156.out; subst eo69; obtain ⟨hcz70_0, hcz70_1, hcz70_2, hcz70_3, hcz70_4, hcz70_5, hfz70_0, hfz70_1, hfz70_2, hfz70_3, hfz70_4, hfz70_5⟩ := Y6 BK143.out; have p159 : 0 ≤ ((ji18) : Int) := Z31 Q5; have q159 : (ji18) < (l0_5.length : Int) := Z31 Q5; obtain ⟨ad159, e159, hx159_0⟩ := Kd.at_int HR0_5.out (ji18) p159 q159; cases e159; have hn159_0 : ad159.block ≠ gb158 := Nat.ne_of_lt (Nat.lt_of_lt_of_le Q40 GW158.out); have hn159_1 : ad159.block ≠ gb158 := Nat.ne_of_lt (Nat.lt_of_lt_of_le Q40 GW158.out); have hn159_2 : ad159.block ≠ gb158 := Nat.ne_of_lt (Nat.lt_of_lt_of_le Q40 GW158.out); have hn159_3 : ad159.block ≠ gb158 := Nat.ne_of_lt (Nat.lt_of_lt_of_le Q40 GW158.out); try replace hx159_0 := (HB.out.cell (World.block_lt_of_cell? w _ hx159_0)).trans hx159_0; replace hx159_0 := (cell_far (p := ⟨gb158, 0, none⟩) Q85 (.slice Ao63 t145.length co63)).trans hx159_0; replace hx159_0 := (cell_far (p := ⟨gb158, 1, none⟩) Q84 (.slice Ao67 t148.length co67)).trans hx159_0; replace hx159_0 := (cell_far (p := ⟨gb158, 2, none⟩) Q83 (.slice Ao68 t151.length co68)).trans hx159_0; replace hx159_0 := (cell_far (p := ⟨gb158, 3, none⟩) Q82 (.slice Ao69 t154.length co69)).trans hx159_0; clear hn159_0; clear hn159_1; clear hn159_2; clear hn159_3; replace p159 := eq_true p159; replace q159 := eq_true q159))
        replace HO147 : Aside0 (Kd.R (Kd.int .i64) 3 ((((w62.setCell ⟨gb158, 0, none⟩ (.slice Ao63 t145.length co63)).setCell ⟨gb158, 1, none⟩ (.slice Ao67 t148.length co67)).setCell ⟨gb158, 2, none⟩ (.slice Ao68 t151.length co68)).setCell ⟨gb158, 3, none⟩ (.slice Ao69 t154.length co69)) w.heap.size (fun k_ => some k_ ≠ (.slice Ao67 t148.length co67 : Value).ownBlock ∧ some k_ ≠ (.slice Ao69 t154.length co69 : Value).ownBlock) (.slice Ao63 t145.length co63) t145) := ⟨by (with_reducible repeat (first | apply Z9 | apply Z10 | apply Z11)); exact Z12 (Z13 (p := ⟨gb158, 3, none⟩) (Z13 (p := ⟨gb158, 2, none⟩) (Z13 (p := ⟨gb158, 1, none⟩) (Z13 (p := ⟨gb158, 0, none⟩) (Z15 HO147.out BK158.out (by decide)) (fun _ hk => hk.2) (.slice Ao63 t145.length co63)) (fun _ hk => hk.2) (.slice Ao67 t148.length co67)) (fun _ hk => hk.2) (.slice Ao68 t151.length co68)) (fun _ hk => hk.2) (.slice Ao69 t154.length co69)) (fun _ hk => ⟨hk.1.1, hk.1.2⟩)⟩
        replace HO150 : Aside0 (Kd.R (Kd.int .i64) 3 ((((w62.setCell ⟨gb158, 0, none⟩ (.slice Ao63 t145.length co63)).setCell ⟨gb158, 1, none⟩ (.slice Ao67 t148.length co67)).setCell ⟨gb158, 2, none⟩ (.slice Ao68 t151.length co68)).setCell ⟨gb158, 3, none⟩ (.slice Ao69 t154.length co69)) w.heap.size (fun k_ => some k_ ≠ (.slice Ao63 t145.length co63 : Value).ownBlock ∧ some k_ ≠ (.slice Ao69 t154.length co69 : Value).ownBlock) (.slice Ao67 t148.length co67) t148) := ⟨by (with_reducible repeat (first | apply Z9 | apply Z10 | apply Z11)); exact Z12 (Z13 (p := ⟨gb158, 3, none⟩) (Z13 (p := ⟨gb158, 2, none⟩) (Z13 (p := ⟨gb158, 1, none⟩) (Z13 (p := ⟨gb158, 0, none⟩) (Z15 HO150.out BK158.out (by decide)) (fun _ hk => hk.2) (.slice Ao63 t145.length co63)) (fun _ hk => hk.2) (.slice Ao67 t148.length co67)) (fun _ hk => hk.2) (.slice Ao68 t151.length co68)) (fun _ hk => hk.2) (.slice Ao69 t154.length co69)) (fun _ hk => ⟨hk.1.1, hk.1.2⟩)⟩
        replace HO153 : Aside0 (Kd.R Kd.bool 4 ((((w62.setCell ⟨gb158, 0, none⟩ (.slice Ao63 t145.length co63)).setCell ⟨gb158, 1, none⟩ (.slice Ao67 t148.length co67)).setCell ⟨gb158, 2, none⟩ (.slice Ao68 t151.length co68)).setCell ⟨gb158, 3, none⟩ (.slice Ao69 t154.length co69)) w.heap.size (fun _ => True) (.slice Ao68 t151.length co68) t151) := ⟨by (with_reducible repeat (first | apply Z9 | apply Z10 | apply Z11)); exact Z12 (Z13 (p := ⟨gb158, 3, none⟩) (Z13 (p := ⟨gb158, 2, none⟩) (Z13 (p := ⟨gb158, 1, none⟩) (Z13 (p := ⟨gb158, 0, none⟩) (Z15 HO153.out BK158.out (by decide)) (fun _ hk => hk.2) (.slice Ao63 t145.length co63)) (fun _ hk => hk.2) (.slice Ao67 t148.length co67)) (fun _ hk => hk.2) (.slice Ao68 t151.length co68)) (fun _ hk => hk.2) (.slice Ao69 t154.length co69)) (fun _ hk => trivial)⟩
        replace HO156 : Aside0 (Kd.R (Kd.int .i64) 3 ((((w62.setCell ⟨gb158, 0, none⟩ (.slice Ao63 t145.length co63)).setCell ⟨gb158, 1, none⟩ (.slice Ao67 t148.length co67)).setCell ⟨gb158, 2, none⟩ (.slice Ao68 t151.length co68)).setCell ⟨gb158, 3, none⟩ (.slice Ao69 t154.length co69)) w.heap.size (fun k_ => some k_ ≠ (.slice Ao63 t145.length co63 : Value).ownBlock ∧ some k_ ≠ (.slice Ao67 t148.length co67 : Value).ownBlock) (.slice Ao69 t154.length co69) t154) := ⟨by (with_reducible repeat (first | apply Z9 | apply Z10 | apply Z11)); exact Z12 (Z13 (p := ⟨gb158, 3, none⟩) (Z13 (p := ⟨gb158, 2, none⟩) (Z13 (p := ⟨gb158, 1, none⟩) (Z13 (p := ⟨gb158, 0, none⟩) (Z15 HO156.out BK158.out (by decide)) (fun _ hk => hk.2) (.slice Ao63 t145.length co63)) (fun _ hk => hk.2) (.slice Ao67 t148.length co67)) (fun _ hk => hk.2) (.slice Ao68 t151.length co68)) (fun _ hk => hk.2) (.slice Ao69 t154.length co69)) (fun _ hk => ⟨hk.1.1, hk.1.2⟩)⟩
        replace BK143 : Aside0 (((((w62.setCell ⟨gb158, 0, none⟩ (.slice Ao63 t145.length co63)).setCell ⟨gb158, 1, none⟩ (.slice Ao67 t148.length co67)).setCell ⟨gb158, 2, none⟩ (.slice Ao68 t151.length co68)).setCell ⟨gb158, 3, none⟩ (.slice Ao69 t154.length co69)).heap[gb143]? = some (.cells #[.slice A0_0 l0_0.length c0_0, .slice A0_1 l0_1.length c0_1, .slice A0_2 l0_2.length c0_2, .slice A0_3 l0_3.length c0_3, .slice A0_4 l0_4.length c0_4, .slice (some ad159) l0_5.length c0_5] 35 (0, 0))) := ⟨Q44⟩
        replace BK144 : Aside0 (((((w62.setCell ⟨gb158, 0, none⟩ (.slice Ao63 t145.length co63)).setCell ⟨gb158, 1, none⟩ (.slice Ao67 t148.length co67)).setCell ⟨gb158, 2, none⟩ (.slice Ao68 t151.length co68)).setCell ⟨gb158, 3, none⟩ (.slice Ao69 t154.length co69)).heap[gb144]? = some (.cells #[.slice none 0 0, .slice none 0 0, .slice none 0 0, .slice none 0 0, .slice none 0 0, .slice none 0 0] 35 (0, 0))) := ⟨Q43⟩
        replace BK158 : Aside0 (((((w62.setCell ⟨gb158, 0, none⟩ (.slice Ao63 t145.length co63)).setCell ⟨gb158, 1, none⟩ (.slice Ao67 t148.length co67)).setCell ⟨gb158, 2, none⟩ (.slice Ao68 t151.length co68)).setCell ⟨gb158, 3, none⟩ (.slice Ao69 t154.length co69)).heap[gb158]? = some (.cells #[.slice Ao63 t145.length co63, .slice Ao67 t148.length co67, .slice Ao68 t151.length co68, .slice Ao69 t154.length co69] 27 (0, 0))) := ⟨by (with_reducible repeat (first | refine Z26 ?_ _ | refine Z27 ?_ | refine Z28 ?_ _)); refine Z30 (cs := #[.slice Ao63 t145.length co63, .slice Ao67 t148.length co67, .slice Ao68 t151.length co68, .slice none 0 0]) ?_ 3 _ rfl; (with_reducible repeat (first | refine Z26 ?_ _ | refine Z27 ?_ | refine Z28 ?_ _)); refine Z30 (cs := #[.slice Ao63 t145.length co63, .slice Ao67 t148.length co67, .slice none 0 0, .slice none 0 0]) ?_ 2 _ rfl; (with_reducible repeat (first | refine Z26 ?_ _ | refine Z27 ?_ | refine Z28 ?_ _)); refine Z30 (cs := #[.slice Ao63 t145.length co63, .slice none 0 0, .slice none 0 0, .slice none 0 0]) ?_ 1 _ rfl; (with_reducible repeat (first | refine Z26 ?_ _ | refine Z27 ?_ | refine Z28 ?_ _)); refine Z30 (cs := #[.slice none 0 0, .slice none 0 0, .slice none 0 0, .slice none 0 0]) ?_ 0 _ rfl; (with_reducible repeat (first | refine Z26 ?_ _ | refine Z27 ?_ | refine Z28 ?_ _)); exact BK158.out⟩
        replace HB : Aside0 (Below w.heap.size w ((((w62.setCell ⟨gb158, 0, none⟩ (.slice Ao63 t145.length co63)).setCell ⟨gb158, 1, none⟩ (.slice Ao67 t148.length co67)).setCell ⟨gb158, 2, none⟩ (.slice Ao68 t151.length co68)).setCell ⟨gb158, 3, none⟩ (.slice Ao69 t154.length co69))) := ⟨Q36⟩
        generalize ((((w62.setCell ⟨gb158, 0, none⟩ (.slice Ao63 t145.length co63)).setCell ⟨gb158, 1, none⟩ (.slice Ao67 t148.length co67)).setCell ⟨gb158, 2, none⟩ (.slice Ao68 t151.length co68)).setCell ⟨gb158, 3, none⟩ (.slice Ao69 t154.length co69)) = w71 at HO147 HO150 HO153 HO156 BK143 BK144 BK158 HB ⊢
        replace HO147 := Ya (Z11 HO147.out)
        replace HO150 := Ya (Z11 HO150.out)
        replace HO153 := Ya (Z11 HO153.out)
        replace HO156 := Ya (Z11 HO156.out)
        replace BK143 := Ya (Z27 BK143.out)
        replace BK144 := Ya (Z27 BK144.out)
        replace BK158 := Ya (Z27 BK158.out)
        replace HB := Ya (Z4 HB.out)
        have p160 : 0 ≤ (t157 : Int) := Z31 Q5
        have q160 : t157 < (t148.length : Int) := Z31 Q5
        obtain ⟨ad160, e160, hx160_0⟩ := Kd.at_int (Kd.R_reads' HO150.out).2.2 t157 p160 q160
        cases e160
        replace p160 := eq_true p160
        replace q160 := eq_true q160
        have p161 : 0 ≤ (t157 : Int) := Z31 Q5
        have q161 : t157 < (l0_1.length : Int) := Z31 Q5
        obtain ⟨ad161, e161, hx161_0⟩ := Kd.at_int HR0_1.out t157 p161 q161
        have hw161_0 := hx161_0
        cases e161
        try replace hx161_0 := (HB.out.cell (World.block_lt_of_cell? w _ hx161_0)).trans hx161_0
        replace p161 := eq_true p161
        replace q161 := eq_true q161
        refine start_ (n := 12) (S := fun w' => w'.cell? ⟨gb158, 0, none⟩ = some (.slice Ao63 t145.length co63) ∧ w'.cell? ⟨gb158, 1, none⟩ = some (.slice (some ad160) t148.length co67) ∧ w'.cell? ⟨gb158, 2, none⟩ = some (.slice Ao68 t151.length co68) ∧ w'.cell? ⟨gb158, 3, none⟩ = some (.slice Ao69 t154.length co69) ∧ w'.cell? ⟨gb143, 0, none⟩ = some (.slice A0_0 l0_0.length c0_0) ∧ w'.cell? ⟨gb143, 1, none⟩ = some (.slice (some ad161) l0_1.length c0_1) ∧ w'.cell? ⟨gb143, 2, none⟩ = some (.slice A0_2 l0_2.length c0_2) ∧ w'.cell? ⟨gb143, 3, none⟩ = some (.slice A0_3 l0_3.length c0_3) ∧ w'.cell? ⟨gb143, 4, none⟩ = some (.slice A0_4 l0_4.length c0_4) ∧ w'.cell? ⟨gb143, 5, none⟩ = some (.slice (some ad159) l0_5.length c0_5) ∧ w'.cell? (ad160.add (t157).toNat) = some (.int .i64 (rd t148 t157)) ∧ w'.cell? (ad161.add (t157).toNat) = some (.int .i64 (rd l0_1 t157))) (ds := []) (YA 12 0) (by kernel_rfl) rfl rfl ⟨(Z24 BK158.out 0).trans rfl, (Z24 BK158.out 1).trans rfl, (Z24 BK158.out 2).trans rfl, (Z24 BK158.out 3).trans rfl, (Z24 BK143.out 0).trans rfl, (Z24 BK143.out 1).trans rfl, (Z24 BK143.out 2).trans rfl, (Z24 BK143.out 3).trans rfl, (Z24 BK143.out 4).trans rfl, (Z24 BK143.out 5).trans rfl, hx160_0, ((HB.out.cell (World.block_lt_of_cell? w _ hw161_0)).trans hw161_0)⟩ (fun hHeld => ?_); refine with_tabW spec_foSwap.tab5 spec_foSwap.bits5 (fun HT_ HW_ => ?_)
        generalize w71.drew = w72 at HO147 HO150 HO153 HO156 BK143 BK144 BK158 HB hx160_0 hx161_0 hHeld ⊢
        refine Yp 0 (some 23) (YA 12 1) rfl HT_.out ?_
        refine Yp 2 (some 25) (YA 12 5) rfl HT_.out ?_
        refine Yp 5 (some 28) (YA 12 37) rfl HT_.out ?_
        refine Yp 6 (some 29) (YA 12 101) rfl HT_.out ?_
        refine Yp 8 (some 31) (YA 12 357) rfl HT_.out ?_
        refine Yt 1 (some 24) (YA 12 359) rfl HT_.out HW_.out hHeld Q33 ?_
        refine Yp 3 (some 26) (YA 12 367) rfl HT_.out ?_
        refine Yt 4 (some 27) (YA 12 383) rfl HT_.out HW_.out hHeld Q33 ?_
        refine Yt 7 (some 30) (YA 12 511) rfl HT_.out HW_.out hHeld Q33 ?_
        refine Yp 9 (some 32) (YA 12 1023) rfl HT_.out ?_
        refine Yt 10 (some 33) (YA 12 2047) rfl HT_.out HW_.out hHeld Q33 ?_
        refine Yp 11 (some 34) (YA 12 4095) rfl HT_.out ?_
        refine done_ (done_of HT_.out (by kernel_rfl)) ?_
        obtain ⟨hcz73_0, hcz73_1, hcz73_2, hcz73_3, hcz73_4, hcz73_5, hfz73_0, hfz73_1, hfz73_2, hfz73_3, hfz73_4, hfz73_5⟩ := Y6 BK143.out
        try go_wp2_with (first | ((with_reducible refine gate_callee (f := 74) rfl ?_); refine goesL_ (some 43) rfl rfl Try.func74 (by kernel_rfl) rfl #[.slice A0_4 l0_4.length c0_4, .agg #[.int .i64 0, .int .i64 (rd l0_5 (ji18)), .int .i64 (wrap64 ((rd l0_5 (ji18)) + 1))]] rfl (by (try simp only [Z34, Z35, Z36]); first | done | (simp only [hji18]; rfl) | rfl | (simp only [Z32, Z33]; rfl)) ?_; (with_reducible refine (spec_moApply.calls k _ _ l0_4 0 (rd l0_5 (ji18)) (wrap64 ((rd l0_5 (ji18)) + 1)) t168 _ ?side1 ?side2 A55.out).mono ?_); (case side1 => exact Yc (Z23 HR0_4.out HB.out)); (case side2 => exact HC0_4.out); rintro e w74 ⟨v169, rfl, ho0, hb⟩; refine ⟨_, rfl, ?_⟩; replace HO153 := Ya (Z14 (Yr HO153.out) hb); have HO170 := Ya (Kd.R_lower (Kd.R_new' (Kd.R_new' (Kd.R_new' ho0 (Z18 (Yr HO147.out))) (Z18 (Yr HO150.out))) (Z18 (Yr HO156.out))) (Z7 Q27)); replace HO147 := Ya (Kd.R_elder' (Yr HO147.out) (Kd.R_base ho0) hb); replace HO150 := Ya (Kd.R_elder' (Yr HO150.out) (Kd.R_base ho0) hb); replace HO156 := Ya (Kd.R_elder' (Yr HO156.out) (Kd.R_base ho0) hb); replace BK143 := Yb BK143 hb; replace BK144 := Yb BK144 hb; replace BK158 := Yb BK158 hb; replace HB := Ya (Z8 Q27 hb); (try clear hb); (try clear hb2); (try clear hk); (try clear hi); (try clear ho0)))
        replace HO147 := Ya (Z11 HO147.out)
        replace HO150 := Ya (Z11 HO150.out)
        replace HO153 := Ya (Z11 HO153.out)
        replace HO156 := Ya (Z11 HO156.out)
        replace HO170 := Ya (Z11 HO170.out)
        replace BK143 := Ya (Z27 BK143.out)
        replace BK144 := Ya (Z27 BK144.out)
        replace BK158 := Ya (Z27 BK158.out)
        replace HB := Ya (Z4 HB.out)
        obtain ⟨Ao76, co76, eo76⟩ := Z19 HO170.out
        (first | subst eo76 | (injection eo76 with f1_ f2_ f3_; have f4_ := f1_.symm; have f5_ := f3_.symm; clear f1_ f2_ f3_; subst f4_; subst f5_))
        refine start_ (n := 8) (S := fun w' => w'.cell? ⟨gb158, 0, none⟩ = some (.slice Ao63 t145.length co63) ∧ w'.cell? ⟨gb158, 1, none⟩ = some (.slice (some ad160) t148.length co67) ∧ w'.cell? ⟨gb158, 2, none⟩ = some (.slice Ao68 t151.length co68) ∧ w'.cell? ⟨gb158, 3, none⟩ = some (.slice Ao69 t154.length co69)) (ds := []) (YA 8 0) (by kernel_rfl) rfl rfl ⟨(Z24 BK158.out 0).trans rfl, (Z24 BK158.out 1).trans rfl, (Z24 BK158.out 2).trans rfl, (Z24 BK158.out 3).trans rfl⟩ (fun hHeld => ?_); refine with_tabW spec_foSwap.tab8 spec_foSwap.bits8 (fun HT_ HW_ => ?_)
        generalize w74.drew = w75 at HO147 HO150 HO153 HO156 HO170 BK143 BK144 BK158 HB hHeld ⊢
        refine Yp 1 (some 45) (YA 8 2) rfl HT_.out ?_
        refine Yp 2 (some 46) (YA 8 6) rfl HT_.out ?_
        refine Yp 5 (some 49) (YA 8 38) rfl HT_.out ?_
        refine Yt 0 (some 44) (YA 8 39) rfl HT_.out HW_.out hHeld Q10 ?_
        refine one_ (i := 3) (N := some 47) (YA 8 47) rfl rfl (one_of HT_.out (by kernel_rfl)) (by decide) (fun K hK => ?_)
        refine goes_ Try.func75 (by kernel_rfl) rfl #[.slice Ao76 t168.length co76] (by rfl) rfl rfl Q1 ?_
        with_reducible refine (spec_raInverse.calls k _ _ t168 t171 _ ?side1 ?side2 A56.out).mono ?_
        (case side1 => repeat (first | exact (Kd.R_reads' HO170.out).2.2 | (with_reducible refine Z20 ?_ _) | (with_reducible refine Z21 ?_ _) | (with_reducible refine Z22 ?_)))
        (case side2 => exact (Kd.R_reads' HO170.out).2.1)
        rintro e w77 ⟨v172, rfl, ho0, hb⟩
        refine ⟨_, rfl, ?_⟩
        replace HO153 := Ya (Z14 (Yr HO153.out) hb)
        have HO173 := Ya (Kd.R_lower (Kd.R_new' (Kd.R_new' (Kd.R_new' (Kd.R_new' ho0 (Z18 (Yr HO147.out))) (Z18 (Yr HO150.out))) (Z18 (Yr HO156.out))) (Z18 (Yr HO170.out))) (Z7 Q27))
        replace HO147 := Ya (Kd.R_elder' (Yr HO147.out) (Kd.R_base ho0) hb)
        replace HO150 := Ya (Kd.R_elder' (Yr HO150.out) (Kd.R_base ho0) hb)
        replace HO156 := Ya (Kd.R_elder' (Yr HO156.out) (Kd.R_base ho0) hb)
        replace HO170 := Ya (Kd.R_elder' (Yr HO170.out) (Kd.R_base ho0) hb)
        replace BK143 := Yb BK143 hb
        replace BK144 := Yb BK144 hb
        replace BK158 := Yb BK158 hb
        replace HB := Ya (Z8 Q27 hb)
        (try clear hb)
        (try clear hb2)
        (try clear hk)
        (try clear hi)
        (try clear ho0)
        obtain ⟨Ao78, co78, eo78⟩ := Z19 HO173.out
        (first | subst eo78 | (injection eo78 with f1_ f2_ f3_; have f4_ := f1_.symm; have f5_ := f3_.symm; clear f1_ f2_ f3_; subst f4_; subst f5_))
        refine hK.out _ _ ⟨(Z24 BK158.out 0).trans rfl, (Z24 BK158.out 1).trans rfl, (Z24 BK158.out 2).trans rfl, (Z24 BK158.out 3).trans rfl⟩ (fun hHeld => ?_)
        clear hK K
        refine norm_ (a' := ?_) ?_ ?_
        rotate_left
        ·show Act.put _ (some 47) _ = _
         simp only [Act.put, Z0, Z1, Z2, i64_w, i32_w]
         rfl
        refine Yp 4 (some 48) (YA 8 63) rfl HT_.out ?_
        refine one_ (i := 6) (N := none) (YA 8 127) rfl rfl (one_of HT_.out (by kernel_rfl)) (by decide) (fun K hK => ?_)
        have hs79 : w77.cell? ⟨gb144, 0, none⟩ = some (.slice none 0 0) := (Z24 BK144.out 0).trans rfl
        have hfs79 := Z25 BK144.out 0
        have hns79_0 := NB143_144.out
        have hns79_2 := NB158_144.out
        have hms79_0 := NB144_143.out
        have hms79_2 := NB144_158.out
        have hs80 : w77.cell? ⟨gb144, 1, none⟩ = some (.slice none 0 0) := (Z24 BK144.out 1).trans rfl
        have hfs80 := Z25 BK144.out 1
        have hns80_0 := NB143_144.out
        have hns80_2 := NB158_144.out
        have hms80_0 := NB144_143.out
        have hms80_2 := NB144_158.out
        have hs81 : w77.cell? ⟨gb144, 2, none⟩ = some (.slice none 0 0) := (Z24 BK144.out 2).trans rfl
        have hfs81 := Z25 BK144.out 2
        have hns81_0 := NB143_144.out
        have hns81_2 := NB158_144.out
        have hms81_0 := NB144_143.out
        have hms81_2 := NB144_158.out
        have hs82 : w77.cell? ⟨gb144, 3, none⟩ = some (.slice none 0 0) := (Z24 BK144.out 3).trans rfl
        have hfs82 := Z25 BK144.out 3
        have hns82_0 := NB143_144.out
        have hns82_2 := NB158_144.out
        have hms82_0 := NB144_143.out
        have hms82_2 := NB144_158.out
        have hs83 : w77.cell? ⟨gb144, 4, none⟩ = some (.slice none 0 0) := (Z24 BK144.out 4).trans rfl
        have hfs83 := Z25 BK144.out 4
        have hns83_0 := NB143_144.out
        have hns83_2 := NB158_144.out
        have hms83_0 := NB144_143.out
        have hms83_2 := NB144_158.out
        have hs84 : w77.cell? ⟨gb144, 5, none⟩ = some (.slice none 0 0) := (Z24 BK144.out 5).trans rfl
        have hfs84 := Z25 BK144.out 5
        have hns84_0 := NB143_144.out
        have hns84_2 := NB158_144.out
        have hms84_0 := NB144_143.out
        have hms84_2 := NB144_158.out
        refine skip_ (w1 := ?_) (by rfl) rfl ?_ ?_
        rotate_left
        ·go_simp
         rfl
        refine hK.out _ _ ⟨((cell_far (p := ⟨gb144, _, none⟩) NB158_144.out _).trans (((cell_far (p := ⟨gb144, _, none⟩) NB158_144.out _).trans (((cell_far (p := ⟨gb144, _, none⟩) NB158_144.out _).trans (((cell_far (p := ⟨gb144, _, none⟩) NB158_144.out _).trans (((cell_far (p := ⟨gb144, _, none⟩) NB158_144.out _).trans (((cell_far (p := ⟨gb144, _, none⟩) NB158_144.out _).trans (hHeld.1)))))))))))), ((cell_far (p := ⟨gb144, _, none⟩) NB158_144.out _).trans (((cell_far (p := ⟨gb144, _, none⟩) NB158_144.out _).trans (((cell_far (p := ⟨gb144, _, none⟩) NB158_144.out _).trans (((cell_far (p := ⟨gb144, _, none⟩) NB158_144.out _).trans (((cell_far (p := ⟨gb144, _, none⟩) NB158_144.out _).trans (((cell_far (p := ⟨gb144, _, none⟩) NB158_144.out _).trans (hHeld.2.1)))))))))))), ((cell_far (p := ⟨gb144, _, none⟩) NB158_144.out _).trans (((cell_far (p := ⟨gb144, _, none⟩) NB158_144.out _).trans (((cell_far (p := ⟨gb144, _, none⟩) NB158_144.out _).trans (((cell_far (p := ⟨gb144, _, none⟩) NB158_144.out _).trans (((cell_far (p := ⟨gb144, _, none⟩) NB158_144.out _).trans (((cell_far (p := ⟨gb144, _, none⟩) NB158_144.out _).trans (hHeld.2.2.1)))))))))))), ((cell_far (p := ⟨gb144, _, none⟩) NB158_144.out _).trans (((cell_far (p := ⟨gb144, _, none⟩) NB158_144.out _).trans (((cell_far (p := ⟨gb144, _, none⟩) NB158_144.out _).trans (((cell_far (p := ⟨gb144, _, none⟩) NB158_144.out _).trans (((cell_far (p := ⟨gb144, _, none⟩) NB158_144.out _).trans (((cell_far (p := ⟨gb144, _, none⟩) NB158_144.out _).trans (hHeld.2.2.2))))))))))))⟩ (fun hHeld => ?_)
        clear hK K
        refine Yp 7 (some 3) (YA 8 255) rfl HT_.out ?_
        refine done_ (done_of HT_.out (by kernel_rfl)) ?_
        try go_wp2
        refine bodyPost_ret (results_ct rfl _ _ gb144 35 #[.slice Ao63 t145.length co63, .slice (some ad160) t148.length co67, .slice Ao68 t151.length co68, .slice Ao69 t154.length co69, .slice Ao76 t168.length co76, .slice Ao78 t171.length co78] (0, 0) _ rfl (by (with_reducible repeat (first | refine Z26 ?_ _ | refine Z27 ?_ | refine Z28 ?_ _)); refine Z30 (cs := #[.slice Ao63 t145.length co63, .slice (some ad160) t148.length co67, .slice Ao68 t151.length co68, .slice Ao69 t154.length co69, .slice Ao76 t168.length co76, .slice none 0 0]) ?_ 5 _ rfl; (with_reducible repeat (first | refine Z26 ?_ _ | refine Z27 ?_ | refine Z28 ?_ _)); refine Z30 (cs := #[.slice Ao63 t145.length co63, .slice (some ad160) t148.length co67, .slice Ao68 t151.length co68, .slice Ao69 t154.length co69, .slice none 0 0, .slice none 0 0]) ?_ 4 _ rfl; (with_reducible repeat (first | refine Z26 ?_ _ | refine Z27 ?_ | refine Z28 ?_ _)); refine Z30 (cs := #[.slice Ao63 t145.length co63, .slice (some ad160) t148.length co67, .slice Ao68 t151.length co68, .slice none 0 0, .slice none 0 0, .slice none 0 0]) ?_ 3 _ rfl; (with_reducible repeat (first | refine Z26 ?_ _ | refine Z27 ?_ | refine Z28 ?_ _)); refine Z30 (cs := #[.slice Ao63 t145.length co63, .slice (some ad160) t148.length co67, .slice none 0 0, .slice none 0 0, .slice none 0 0, .slice none 0 0]) ?_ 2 _ rfl; (with_reducible repeat (first | refine Z26 ?_ _ | refine Z27 ?_ | refine Z28 ?_ _)); refine Z30 (cs := #[.slice Ao63 t145.length co63, .slice none 0 0, .slice none 0 0, .slice none 0 0, .slice none 0 0, .slice none 0 0]) ?_ 1 _ rfl; (with_reducible repeat (first | refine Z26 ?_ _ | refine Z27 ?_ | refine Z28 ?_ _)); refine Z30 (cs := #[.slice none 0 0, .slice none 0 0, .slice none 0 0, .slice none 0 0, .slice none 0 0, .slice none 0 0]) ?_ 0 _ rfl; (with_reducible repeat (first | refine Z26 ?_ _ | refine Z27 ?_ | refine Z28 ?_ _)); exact BK144.out) Try.underlying35 rfl (by kernel_rfl)) rfl ?_
        exact ⟨_, _, _, _, _, _, Q77, by (with_reducible repeat (first | apply Z9 | apply Z10 | apply Z11)); exact Z12 (Z13 (p := ⟨gb144, 5, none⟩) (Z13 (p := ⟨gb144, 4, none⟩) (Z13 (p := ⟨gb144, 3, none⟩) (Z13 (p := ⟨gb144, 2, none⟩) (Z13 (p := ⟨gb144, 1, none⟩) (Z13 (p := ⟨gb144, 0, none⟩) (Z15 HO147.out BK144.out (by decide)) (fun _ hk => hk.2) (.slice Ao63 t145.length co63)) (fun _ hk => hk.2) (.slice (some ad160) t148.length co67)) (fun _ hk => hk.2) (.slice Ao68 t151.length co68)) (fun _ hk => hk.2) (.slice Ao69 t154.length co69)) (fun _ hk => hk.2) (.slice Ao76 t168.length co76)) (fun _ hk => hk.2) (.slice Ao78 t171.length co78)) (fun _ hk => ⟨hk.1.1.1.1, ⟨hk.1.1.1.2, ⟨hk.1.1.2, hk.1.2⟩⟩⟩), by (with_reducible repeat (first | apply Z9 | apply Z10 | apply Z11)); exact Z12 (Z13 (p := ⟨gb144, 5, none⟩) (Z13 (p := ⟨gb144, 4, none⟩) (Z13 (p := ⟨gb144, 3, none⟩) (Z13 (p := ⟨gb144, 2, none⟩) (Z13 (p := ⟨gb144, 1, none⟩) (Z13 (p := ⟨gb144, 0, none⟩) (Z15 HO150.out BK144.out (by decide)) (fun _ hk => hk.2) (.slice Ao63 t145.length co63)) (fun _ hk => hk.2) (.slice (some ad160) t148.length co67)) (fun _ hk => hk.2) (.slice Ao68 t151.length co68)) (fun _ hk => hk.2) (.slice Ao69 t154.length co69)) (fun _ hk => hk.2) (.slice Ao76 t168.length co76)) (fun _ hk => hk.2) (.slice Ao78 t171.length co78)) (fun _ hk => ⟨hk.1.1.1.1, ⟨hk.1.1.1.2, ⟨hk.1.1.2, hk.1.2⟩⟩⟩), by (with_reducible repeat (first | apply Z9 | apply Z10 | apply Z11)); exact Z12 (Z13 (p := ⟨gb144, 5, none⟩) (Z13 (p := ⟨gb144, 4, none⟩) (Z13 (p := ⟨gb144, 3, none⟩) (Z13 (p := ⟨gb144, 2, none⟩) (Z13 (p := ⟨gb144, 1, none⟩) (Z13 (p := ⟨gb144, 0, none⟩) (Z15 HO153.out BK144.out (by decide)) (fun _ hk => hk.2) (.slice Ao63 t145.length co63)) (fun _ hk => hk.2) (.slice (some ad160) t148.length co67)) (fun _ hk => hk.2) (.slice Ao68 t151.length co68)) (fun _ hk => hk.2) (.slice Ao69 t154.length co69)) (fun _ hk => hk.2) (.slice Ao76 t168.length co76)) (fun _ hk => hk.2) (.slice Ao78 t171.length co78)) (fun _ hk => trivial), by (with_reducible repeat (first | apply Z9 | apply Z10 | apply Z11)); exact Z12 (Z13 (p := ⟨gb144, 5, none⟩) (Z13 (p := ⟨gb144, 4, none⟩) (Z13 (p := ⟨gb144, 3, none⟩) (Z13 (p := ⟨gb144, 2, none⟩) (Z13 (p := ⟨gb144, 1, none⟩) (Z13 (p := ⟨gb144, 0, none⟩) (Z15 HO156.out BK144.out (by decide)) (fun _ hk => hk.2) (.slice Ao63 t145.length co63)) (fun _ hk => hk.2) (.slice (some ad160) t148.length co67)) (fun _ hk => hk.2) (.slice Ao68 t151.length co68)) (fun _ hk => hk.2) (.slice Ao69 t154.length co69)) (fun _ hk => hk.2) (.slice Ao76 t168.length co76)) (fun _ hk => hk.2) (.slice Ao78 t171.length co78)) (fun _ hk => ⟨hk.1.1.1.1, ⟨hk.1.1.1.2, ⟨hk.1.1.2, hk.1.2⟩⟩⟩), by (with_reducible repeat (first | apply Z9 | apply Z10 | apply Z11)); exact Z12 (Z13 (p := ⟨gb144, 5, none⟩) (Z13 (p := ⟨gb144, 4, none⟩) (Z13 (p := ⟨gb144, 3, none⟩) (Z13 (p := ⟨gb144, 2, none⟩) (Z13 (p := ⟨gb144, 1, none⟩) (Z13 (p := ⟨gb144, 0, none⟩) (Z15 HO170.out BK144.out (by decide)) (fun _ hk => hk.2) (.slice Ao63 t145.length co63)) (fun _ hk => hk.2) (.slice (some ad160) t148.length co67)) (fun _ hk => hk.2) (.slice Ao68 t151.length co68)) (fun _ hk => hk.2) (.slice Ao69 t154.length co69)) (fun _ hk => hk.2) (.slice Ao76 t168.length co76)) (fun _ hk => hk.2) (.slice Ao78 t171.length co78)) (fun _ hk => ⟨hk.1.1.1.1.2, ⟨hk.1.1.1.2, ⟨hk.1.1.2, hk.1.2⟩⟩⟩), by (with_reducible repeat (first | apply Z9 | apply Z10 | apply Z11)); exact Z12 (Z13 (p := ⟨gb144, 5, none⟩) (Z13 (p := ⟨gb144, 4, none⟩) (Z13 (p := ⟨gb144, 3, none⟩) (Z13 (p := ⟨gb144, 2, none⟩) (Z13 (p := ⟨gb144, 1, none⟩) (Z13 (p := ⟨gb144, 0, none⟩) (Z15 HO173.out BK144.out (by decide)) (fun _ hk => hk.2) (.slice Ao63 t145.length co63)) (fun _ hk => hk.2) (.slice (some ad160) t148.length co67)) (fun _ hk => hk.2) (.slice Ao68 t151.length co68)) (fun _ hk => hk.2) (.slice Ao69 t154.length co69)) (fun _ hk => hk.2) (.slice Ao76 t168.length co76)) (fun _ hk => hk.2) (.slice Ao78 t171.length co78)) (fun _ hk => ⟨hk.1.1.1.1.2, ⟨hk.1.1.1.2, ⟨hk.1.1.2, hk.1.2⟩⟩⟩), Q36⟩
      ·rw [if_neg c23] at H
       exact absurd H (by simp)
     ·rw [if_neg c22] at H
      exact absurd H (by simp)
    ·rw [if_neg c21] at H
     exact absurd H (by simp)
   ·rw [if_neg c20] at H
    exact absurd H (by simp)
  ·rw [if_neg c19] at H
   exact absurd H (by simp)

end Go.Proofs.Ytpfakdhfffehaaa.MFnExactSwapperAt
