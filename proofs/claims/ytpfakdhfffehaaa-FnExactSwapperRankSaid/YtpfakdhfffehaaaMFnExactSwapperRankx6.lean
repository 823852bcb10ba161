import Derived.Test.YtpfakdhfffehaaaMFnExactSwapperRankx0
import Derived.Test.YtpfakdhfffehaaaMFnExactSwapperRankx3
import Derived.Test.YtpfakdhfffehaaaMFnExactSwapperRankx5
namespace Go.Proofs.Ytpfakdhfffehaaa.MFnExactSwapperRank
open Go.RowKit Go.Proofs.YtpfakdhfffehaaaW.PrintWords Go.Proofs.YtpfakdhfffehaaaW.PrintLast Go.Proofs.YtpfakdhfffehaaaW.PrintMore
attribute [local go_sem] max2_int min2_int max_two min_two max_three min_three max_four min_four   
set_option linter.unusedVariables false
set_option linter.unusedSimpArgs false
def spec_foSwap.f (k : Nat) (l0_0 : List Int) (l0_1 : List Int) (l0_2 : List Bool) (l0_3 : List Int) (l0_4 : List Int) (l0_5 : List Int) : Option (List Int × List Int × List Bool × List Int × List Int × List Int × Int) := (spec_foStep.f l0_0 l0_1 l0_2 l0_3).bind fun bt305 => (if bt305.2.2.2.2 < 0 then (some (([] : List Int), ([] : List Int), ([] : List Bool), ([] : List Int), ([] : List Int), ([] : List Int), (-1))) else (if 0 ≤ (wrap64 (bt305.2.2.2.2 + 1)) then (if (wrap64 (bt305.2.2.2.2 + 1)) < (l0_5.length : Int) then (if 0 ≤ bt305.2.2.2.2 then (if bt305.2.2.2.2 < (bt305.2.1.length : Int) then (if bt305.2.2.2.2 < (l0_1.length : Int) then (if (rd bt305.2.1 bt305.2.2.2.2) > (rd l0_1 bt305.2.2.2.2) then ((spec_moApply.f k l0_4 0 (wrap64 ((rd l0_5 (wrap64 (bt305.2.2.2.2 + 1))) - 1)) (wrap64 ((wrap64 ((rd l0_5 (wrap64 (bt305.2.2.2.2 + 1))) - 1)) + 1))).bind fun t322 => ((spec_raInverse.f k t322).bind fun t325 => (some (bt305.1, bt305.2.1, bt305.2.2.1, bt305.2.2.2.1, t322, t325, wrap64 ((rd l0_5 (wrap64 (bt305.2.2.2.2 + 1))) - 1))))) else ((spec_moApply.f k l0_4 0 (rd l0_5 (wrap64 (bt305.2.2.2.2 + 1))) (wrap64 ((rd l0_5 (wrap64 (bt305.2.2.2.2 + 1))) + 1))).bind fun t328 => ((spec_raInverse.f k t328).bind fun t331 => (some (bt305.1, bt305.2.1, bt305.2.2.1, bt305.2.2.2.1, t328, t331, rd l0_5 (wrap64 (bt305.2.2.2.2 + 1))))))) else (none)) else (none)) else (none)) else (none)) else (none)))
theorem spec_foSwap.mono : ∀ a0 a1 a2 a3 a4 a5 k, LeO (spec_foSwap.f k a0 a1 a2 a3 a4 a5) (spec_foSwap.f (k + 1) a0 a1 a2 a3 a4 a5) := by
 intro a0 a1 a2 a3 a4 a5 k
 unfold spec_foSwap.f
 repeat' first
   | (with_reducible exact spec_moApply.mono _ _ _ _ _)
   | (with_reducible exact spec_raInverse.mono _ _)
   | (with_reducible exact LeO.refl _)
   | (with_reducible exact LeO.none _)
   | (with_reducible refine LeO.ite ?_ ?_)
   | (with_reducible refine LeO.bind ?_ (fun _ => ?_))
   | exact spec_moApply.mono _ _ _ _ _
   | exact spec_raInverse.mono _ _
   | exact LeO.none _
   | refine LeO.ite ?_ ?_
   | refine LeO.bind ?_ (fun _ => ?_)
def spec_foSwap.T5 : Bool × List (List Nat × List Nat) := (true, [([], []), ([0], [0]), ([], []), ([1, 2], [1, 2]), ([3], [3]), ([], []), ([5], [5]), ([6], [6]), ([], []), ([7, 8], [7, 8]), ([9], [9]), ([4, 10], [4, 10])])
def spec_foSwap.B5 : List Nat := [0, 1, 0, 7, 15, 0, 32, 96, 0, 480, 992, 2047]
theorem spec_foSwap.tab5 : rtab .any (opsOf Try.f55 5) = spec_foSwap.T5 := by kernel_rfl
theorem spec_foSwap.bits5 : waitsOk spec_foSwap.T5.2 spec_foSwap.B5 = true := by kernel_rfl
def spec_foSwap.T8 : Bool × List (List Nat × List Nat) := (true, [([], []), ([], []), ([], []), ([2], [2]), ([0, 1, 3], [0, 1, 3]), ([], []), ([4, 3, 0, 1, 2, 3, 4], [4]), ([5, 6, 0, 1, 2, 3, 4, 5, 6], [5])])
def spec_foSwap.B8 : List Nat := [0, 0, 0, 4, 15, 0, 31, 127]
theorem spec_foSwap.tab8 : rtab .any (opsOf Try.f55 8) = spec_foSwap.T8 := by kernel_rfl
theorem spec_foSwap.bits8 : waitsOk spec_foSwap.T8.2 spec_foSwap.B8 = true := by kernel_rfl
set_option maxHeartbeats 8000000 in
set_option maxRecDepth 100000 in
theorem spec_foSwap.calls (k : Nat) (A0_0 : Option Addr) (c0_0 : Nat) (l0_0 : List Int) (A0_1 : Option Addr) (c0_1 : Nat) (l0_1 : List Int) (A0_2 : Option Addr) (c0_2 : Nat) (l0_2 : List Bool) (A0_3 : Option Addr) (c0_3 : Nat) (l0_3 : List Int) (A0_4 : Option Addr) (c0_4 : Nat) (l0_4 : List Int) (A0_5 : Option Addr) (c0_5 : Nat) (l0_5 : List Int) (r1 : List Int) (r2 : List Int) (r3 : List Bool) (r4 : List Int) (r5 : List Int) (r6 : List Int) (r7 : Int) (w : World) (hr0_0 : Kd.C (Kd.int .i64) w A0_0 l0_0.length l0_0) (hc0_0 : l0_0.length ≤ c0_0) (hr0_1 : Kd.C (Kd.int .i64) w A0_1 l0_1.length l0_1) (hc0_1 : l0_1.length ≤ c0_1) (hr0_2 : Kd.C Kd.bool w A0_2 l0_2.length l0_2) (hc0_2 : l0_2.length ≤ c0_2) (hr0_3 : Kd.C (Kd.int .i64) w A0_3 l0_3.length l0_3) (hc0_3 : l0_3.length ≤ c0_3) (hr0_4 : Kd.C (Kd.int .i64) w A0_4 l0_4.length l0_4) (hc0_4 : l0_4.length ≤ c0_4) (hr0_5 : Kd.C (Kd.int .i64) w A0_5 l0_5.length l0_5) (hc0_5 : l0_5.length ≤ c0_5) (h : spec_foSwap.f k l0_0 l0_1 l0_2 l0_3 l0_4 l0_5 = some (r1, r2, r3, r4, r5, r6, r7)) :
  Calls Try.prog 55 #[.agg #[.slice A0_0 l0_0.length c0_0, .slice A0_1 l0_1.length c0_1, .slice A0_2 l0_2.length c0_2, .slice A0_3 l0_3.length c0_3, .slice A0_4 l0_4.length c0_4, .slice A0_5 l0_5.length c0_5]] w fun e w' => ∃ v0_ v1_ v2_ v3_ v4_ v5_ : Value, e = .returned (.tuple #[.agg #[v0_, v1_, v2_, v3_, v4_, v5_], .int .i64 r7]) ∧ Kd.R (Kd.int .i64) 3 w' w.heap.size (fun k_ => some k_ ≠ (v1_ : Value).ownBlock ∧ some k_ ≠ (v3_ : Value).ownBlock ∧ some k_ ≠ (v4_ : Value).ownBlock ∧ some k_ ≠ (v5_ : Value).ownBlock) v0_ r1 ∧ Kd.R (Kd.int .i64) 3 w' w.heap.size (fun k_ => some k_ ≠ (v0_ : Value).ownBlock ∧ some k_ ≠ (v3_ : Value).ownBlock ∧ some k_ ≠ (v4_ : Value).ownBlock ∧ some k_ ≠ (v5_ : Value).ownBlock) v1_ r2 ∧ Kd.R Kd.bool 4 w' w.heap.size (fun _ => True) v2_ r3 ∧ Kd.R (Kd.int .i64) 3 w' w.heap.size (fun k_ => some k_ ≠ (v0_ : Value).ownBlock ∧ some k_ ≠ (v1_ : Value).ownBlock ∧ some k_ ≠ (v4_ : Value).ownBlock ∧ some k_ ≠ (v5_ : Value).ownBlock) v3_ r4 ∧ Kd.R (Kd.int .i64) 3 w' w.heap.size (fun k_ => some k_ ≠ (v0_ : Value).ownBlock ∧ some k_ ≠ (v1_ : Value).ownBlock ∧ some k_ ≠ (v3_ : Value).ownBlock ∧ some k_ ≠ (v5_ : Value).ownBlock) v4_ r5 ∧ Kd.R (Kd.int .i64) 3 w' w.heap.size (fun k_ => some k_ ≠ (v0_ : Value).ownBlock ∧ some k_ ≠ (v1_ : Value).ownBlock ∧ some k_ ≠ (v3_ : Value).ownBlock ∧ some k_ ≠ (v4_ : Value).ownBlock) v5_ r6 ∧ Below w.heap.size w w' := by
 have hu35 := Try.underlying35
 have hu27 := Try.underlying27
 have hu82 := Try.underlying82
 have HR0_0 := Ya hr0_0
 have HC0_0 := Ya hc0_0
 clear hr0_0 hc0_0
 have HR0_1 := Ya hr0_1
 have HC0_1 := Ya hc0_1
 clear hr0_1 hc0_1
 have HR0_2 := Ya hr0_2
 have HC0_2 := Ya hc0_2
 clear hr0_2 hc0_2
 have HR0_3 := Ya hr0_3
 have HC0_3 := Ya hc0_3
 clear hr0_3 hc0_3
 have HR0_4 := Ya hr0_4
 have HC0_4 := Ya hc0_4
 clear hr0_4 hc0_4
 have HR0_5 := Ya hr0_5
 have HC0_5 := Ya hc0_5
 clear hr0_5 hc0_5
 have HB := Ya (Below.refl w.heap.size w)
 have H : ((spec_foStep.f l0_0 l0_1 l0_2 l0_3).bind fun bt305 => (if bt305.2.2.2.2 < 0 then (some (([] : List Int), ([] : List Int), ([] : List Bool), ([] : List Int), ([] : List Int), ([] : List Int), (-1))) else (if 0 ≤ (wrap64 (bt305.2.2.2.2 + 1)) then (if (wrap64 (bt305.2.2.2.2 + 1)) < (l0_5.length : Int) then (if 0 ≤ bt305.2.2.2.2 then (if bt305.2.2.2.2 < (bt305.2.1.length : Int) then (if bt305.2.2.2.2 < (l0_1.length : Int) then (if (rd bt305.2.1 bt305.2.2.2.2) > (rd l0_1 bt305.2.2.2.2) then ((spec_moApply.f k l0_4 0 (wrap64 ((rd l0_5 (wrap64 (bt305.2.2.2.2 + 1))) - 1)) (wrap64 ((wrap64 ((rd l0_5 (wrap64 (bt305.2.2.2.2 + 1))) - 1)) + 1))).bind fun t322 => ((spec_raInverse.f k t322).bind fun t325 => (some (bt305.1, bt305.2.1, bt305.2.2.1, bt305.2.2.2.1, t322, t325, wrap64 ((rd l0_5 (wrap64 (bt305.2.2.2.2 + 1))) - 1))))) else ((spec_moApply.f k l0_4 0 (rd l0_5 (wrap64 (bt305.2.2.2.2 + 1))) (wrap64 ((rd l0_5 (wrap64 (bt305.2.2.2.2 + 1))) + 1))).bind fun t328 => ((spec_raInverse.f k t328).bind fun t331 => (some (bt305.1, bt305.2.1, bt305.2.2.1, bt305.2.2.2.1, t328, t331, rd l0_5 (wrap64 (bt305.2.2.2.2 + 1))))))) else (none)) else (none)) else (none)) else (none)) else (none)))) = some (r1, r2, r3, r4, r5, r6, r7) := h
 clear h
 replace H := Z33.mp H
 obtain ⟨⟨t305, t308, t311, t314, t317⟩, A20, H⟩ := H
 replace H : (if t317 < 0 then (some (([] : List Int), ([] : List Int), ([] : List Bool), ([] : List Int), ([] : List Int), ([] : List Int), (-1))) else (if 0 ≤ (wrap64 (t317 + 1)) then (if (wrap64 (t317 + 1)) < (l0_5.length : Int) then (if 0 ≤ t317 then (if t317 < (t308.length : Int) then (if t317 < (l0_1.length : Int) then (if (rd t308 t317) > (rd l0_1 t317) then ((spec_moApply.f k l0_4 0 (wrap64 ((rd l0_5 (wrap64 (t317 + 1))) - 1)) (wrap64 ((wrap64 ((rd l0_5 (wrap64 (t317 + 1))) - 1)) + 1))).bind fun t322 => ((spec_raInverse.f k t322).bind fun t325 => (some (t305, t308, t311, t314, t322, t325, wrap64 ((rd l0_5 (wrap64 (t317 + 1))) - 1))))) else ((spec_moApply.f k l0_4 0 (rd l0_5 (wrap64 (t317 + 1))) (wrap64 ((rd l0_5 (wrap64 (t317 + 1))) + 1))).bind fun t328 => ((spec_raInverse.f k t328).bind fun t331 => (some (t305, t308, t311, t314, t328, t331, rd l0_5 (wrap64 (t317 + 1))))))) else (none)) else (none)) else (none)) else (none)) else (none))) = some (r1, r2, r3, r4, r5, r6, r7) := H
 have A2 := Ya A20
 clear A20
 by_cases c3 : t317 < 0
 ·rw [if_pos c3] at H
  have c3b0 : decide (t317 < 0) = true := Z35 c3
  clear c3
  simp only [Option.some.injEq, Prod.mk.injEq] at H
  obtain ⟨rfl, rfl, rfl, rfl, rfl, rfl, rfl⟩ := H
  go_enter Try.func55, Try.ntmps55
  go_wp2_with (first | ((with_reducible refine gate_dst (N := 1) rfl ?_); refine Yx 1 #[.slice A0_0 l0_0.length c0_0, .slice A0_1 l0_1.length c0_1, .slice A0_2 l0_2.length c0_2, .slice A0_3 l0_3.length c0_3, .slice A0_4 l0_4.length c0_4, .slice A0_5 l0_5.length c0_5] 35 ?_; intro gb303 hg w4 hbox hb; have BK303 := Ya hbox; have GW303 := Yg hg; have GE303 := GW303; replace HB := Yh hb; clear hb hbox hg) | ((with_reducible refine gate_dst (N := 2) rfl ?_); refine Yx 2 #[.slice none 0 0, .slice none 0 0, .slice none 0 0, .slice none 0 0, .slice none 0 0, .slice none 0 0] 35 ?_; intro gb304 hg w5 hbox hb; have BK304 := Ya hbox; have GW304 := Yg hg; have GE304 := GW304; replace HB := Yh hb; have NB303_304 := Yn BK303 hg; have NB304_303 := Ym BK303 hg; replace BK303 := Yb BK303 hb; clear hb hbox hg; have hnb6 := NB303_304.out; have hnc6 := NB304_303.out; have hz7 := Y6 BK303.out) | ((with_reducible refine gate_callee (f := 31) rfl ?_); refine Yz 11 Try.func31 #[.agg #[.slice A0_0 l0_0.length c0_0, .slice A0_1 l0_1.length c0_1, .slice A0_2 l0_2.length c0_2, .slice A0_3 l0_3.length c0_3]] ?_; (with_reducible refine (spec_foStep.calls _ _ l0_0 _ _ l0_1 _ _ l0_2 _ _ l0_3 t305 t308 t311 t314 t317 _ (Yc (Z19 HR0_0.out HB.out)) HC0_0.out (Yc (Z19 HR0_1.out HB.out)) HC0_1.out (Yc (Z19 HR0_2.out HB.out)) HC0_2.out (Yc (Z19 HR0_3.out HB.out)) HC0_3.out A2.out).mono ?_); rintro e w8 ⟨v306, v309, v312, v315, rfl, ho0, ho1, ho2, ho3, hb⟩; refine ⟨_, rfl, ?_⟩; have HO307 := Yl ho0; have HO310 := Yl ho1; have HO313 := Yl ho2; have HO316 := Yl ho3; replace BK303 := Yb BK303 hb; replace BK304 := Yb BK304 hb; replace HB := Yh hb; (try clear hb ho0 ho1 ho2 ho3)) | ((with_reducible refine gate_dst (N := 4) rfl ?_); refine Yx 4 #[.slice none 0 0, .slice none 0 0, .slice none 0 0, .slice none 0 0] 27 ?_; intro gb318 hg w9 hbox hb; replace HO307 := Yw HO307 hb; replace HO310 := Yw HO310 hb; replace HO313 := Yw HO313 hb; replace HO316 := Yw HO316 hb; have BK318 := Ya hbox; have GW318 := Yg hg; have GE318 := GW318; replace HB := Yh hb; have NB303_318 := Yn BK303 hg; have NB318_303 := Ym BK303 hg; replace BK303 := Yb BK303 hb; have NB304_318 := Yn BK304 hg; have NB318_304 := Ym BK304 hg; replace BK304 := Yb BK304 hb; clear hb hbox hg; obtain ⟨Ao10, co10, rfl⟩ := Z18 HO307.out; have hnb11 := NB318_303.out; have hnc11 := NB303_318.out; have hnb12 := NB318_304.out; have hnc12 := NB304_318.out; have hz13 := Y4 BK318.out; obtain ⟨Ao14, co14, rfl⟩ := Z18 HO310.out; obtain ⟨Ao15, co15, rfl⟩ := Z18 HO313.out; obtain ⟨Ao16, co16, rfl⟩ := Z18 HO316.out; have hz17 := Y6 BK304.out))
  refine bodyPost_ret (results_ct rfl _ _ gb304 35 #[.slice none 0 0, .slice none 0 0, .slice none 0 0, .slice none 0 0, .slice none 0 0, .slice none 0 0] (0, 0) _ rfl (by (with_reducible repeat (first | refine Z22 ?_ _ | refine Z23 ?_ | refine Z24 ?_ _)); refine Z26 (cs := #[.slice none 0 0, .slice none 0 0, .slice none 0 0, .slice none 0 0, .slice none 0 0, .slice none 0 0]) ?_ 5 _ rfl; (with_reducible repeat (first | refine Z22 ?_ _ | refine Z23 ?_ | refine Z24 ?_ _)); refine Z26 (cs := #[.slice none 0 0, .slice none 0 0, .slice none 0 0, .slice none 0 0, .slice none 0 0, .slice none 0 0]) ?_ 4 _ rfl; (with_reducible repeat (first | refine Z22 ?_ _ | refine Z23 ?_ | refine Z24 ?_ _)); refine Z26 (cs := #[.slice none 0 0, .slice none 0 0, .slice none 0 0, .slice none 0 0, .slice none 0 0, .slice none 0 0]) ?_ 3 _ rfl; (with_reducible repeat (first | refine Z22 ?_ _ | refine Z23 ?_ | refine Z24 ?_ _)); refine Z26 (cs := #[.slice none 0 0, .slice none 0 0, .slice none 0 0, .slice none 0 0, .slice none 0 0, .slice none 0 0]) ?_ 2 _ rfl; (with_reducible repeat (first | refine Z22 ?_ _ | refine Z23 ?_ | refine Z24 ?_ _)); refine Z26 (cs := #[.slice none 0 0, .slice none 0 0, .slice none 0 0, .slice none 0 0, .slice none 0 0, .slice none 0 0]) ?_ 1 _ rfl; (with_reducible repeat (first | refine Z22 ?_ _ | refine Z23 ?_ | refine Z24 ?_ _)); refine Z26 (cs := #[.slice none 0 0, .slice none 0 0, .slice none 0 0, .slice none 0 0, .slice none 0 0, .slice none 0 0]) ?_ 0 _ rfl; (with_reducible repeat (first | refine Z22 ?_ _ | refine Z23 ?_ | refine Z24 ?_ _)); refine blk_far ?_ NB304_318.out _; (with_reducible repeat (first | refine Z22 ?_ _ | refine Z23 ?_ | refine Z24 ?_ _)); refine blk_far ?_ NB304_318.out _; (with_reducible repeat (first | refine Z22 ?_ _ | refine Z23 ?_ | refine Z24 ?_ _)); refine blk_far ?_ NB304_318.out _; (with_reducible repeat (first | refine Z22 ?_ _ | refine Z23 ?_ | refine Z24 ?_ _)); refine blk_far ?_ NB304_318.out _; (with_reducible repeat (first | refine Z22 ?_ _ | refine Z23 ?_ | refine Z24 ?_ _)); exact BK304.out) Try.underlying35 rfl (by kernel_rfl)) rfl ?_
  exact ⟨_, _, _, _, _, _, Q2, Q8, Q8, Q8, Q8, Q8, Q8, Q12⟩
 ·rw [if_neg c3] at H
  have c3b0 : decide (t317 < 0) = false := Z34 c3
  clear c3
  obtain ⟨ji18, hji18⟩ : ∃ j_ : Int, (wrap64 (t317 + 1)) = j_ := ⟨_, rfl⟩
  replace H : (if 0 ≤ (ji18) then (if (ji18) < (l0_5.length : Int) then (if 0 ≤ t317 then (if t317 < (t308.length : Int) then (if t317 < (l0_1.length : Int) then (if (rd t308 t317) > (rd l0_1 t317) then ((spec_moApply.f k l0_4 0 (wrap64 ((rd l0_5 (ji18)) - 1)) (wrap64 ((wrap64 ((rd l0_5 (ji18)) - 1)) + 1))).bind fun t322 => ((spec_raInverse.f k t322).bind fun t325 => (some (t305, t308, t311, t314, t322, t325, wrap64 ((rd l0_5 (ji18)) - 1))))) else ((spec_moApply.f k l0_4 0 (rd l0_5 (ji18)) (wrap64 ((rd l0_5 (ji18)) + 1))).bind fun t328 => ((spec_raInverse.f k t328).bind fun t331 => (some (t305, t308, t311, t314, t328, t331, rd l0_5 (ji18)))))) else (none)) else (none)) else (none)) else (none)) else (none)) = some (r1, r2, r3, r4, r5, r6, r7) := by first | (rw [hji18] at H; exact H) | (simp only [hji18] at H ⊢; exact H)
  (try rw [hji18] at A2)
  have hji18w : (IntKind.i64.wrap (t317 + 1)) = ji18 := (i64_w _).trans hji18
  by_cases c19 : 0 ≤ (ji18)
  ·rw [if_pos c19] at H
   have c19b0 : decide (0 ≤ (ji18)) = true := Z35 c19
   clear c19
   by_cases c20 : (ji18) < (l0_5.length : Int)
   ·rw [if_pos c20] at H
    have c20b0 : decide ((ji18) < (l0_5.length : Int)) = true := Z35 c20
    clear c20
    by_cases c21 : 0 ≤ t317
    ·rw [if_pos c21] at H
     have c21b0 : decide (0 ≤ t317) = true := Z35 c21
     clear c21
     by_cases c22 : t317 < (t308.length : Int)
     ·rw [if_pos c22] at H
      have c22b0 : decide (t317 < (t308.length : Int)) = true := Z35 c22
      clear c22
      by_cases c23 : t317 < (l0_1.length : Int)
      ·rw [if_pos c23] at H
       have c23b0 : decide (t317 < (l0_1.length : Int)) = true := Z35 c23
       clear c23
       by_cases c24 : (rd t308 t317) > (rd l0_1 t317)
       ·rw [if_pos c24] at H
        have c24b0 : decide ((rd l0_1 t317) < (rd t308 t317)) = true := Z35 c24
        clear c24
        replace H := Z33.mp H
        obtain ⟨t322, A250, H⟩ := H
        replace H : ((spec_raInverse.f k t322).bind fun t325 => (some (t305, t308, t311, t314, t322, t325, wrap64 ((rd l0_5 (ji18)) - 1)))) = some (r1, r2, r3, r4, r5, r6, r7) := H
        have A25 := Ya A250
        clear A250
        replace H := Z33.mp H
        obtain ⟨t325, A260, H⟩ := H
        replace H : (some (t305, t308, t311, t314, t322, t325, wrap64 ((rd l0_5 (ji18)) - 1))) = some (r1, r2, r3, r4, r5, r6, r7) := H
        have A26 := Ya A260
        clear A260
        simp only [Option.some.injEq, Prod.mk.injEq] at H
        obtain ⟨rfl, rfl, rfl, rfl, rfl, rfl, rfl⟩ := H
        go_enter Try.func55, Try.ntmps55
        try go_wp2_with (first | ((with_reducible refine gate_dst (N := 1) rfl ?_); refine Yx 1 #[.slice A0_0 l0_0.length c0_0, .slice A0_1 l0_1.length c0_1, .slice A0_2 l0_2.length c0_2, .slice A0_3 l0_3.length c0_3, .slice A0_4 l0_4.length c0_4, .slice A0_5 l0_5.length c0_5] 35 ?_; intro gb303 hg w27 hbox hb; have BK303 := Ya hbox; have GW303 := Yg hg; have GE303 := GW303; replace HB := Yh hb; clear hb hbox hg) | ((with_reducible refine gate_dst (N := 2) rfl ?_); refine Yx 2 #[.slice none 0 0, .slice none 0 0, .slice none 0 0, .slice none 0 0, .slice none 0 0, .slice none 0 0] 35 ?_; intro gb304 hg w28 hbox hb; have BK304 := Ya hbox; have GW304 := Yg hg; have GE304 := GW304; replace HB := Yh hb; have NB303_304 := Yn BK303 hg; have NB304_303 := Ym BK303 hg; replace BK303 := Yb BK303 hb; clear hb hbox hg; have hnb29 := NB303_304.out; have hnc29 := NB304_303.out; have hz30 := Y6 BK303.out) | ((with_reducible refine gate_callee (f := 31) rfl ?_); refine Yz 11 Try.func31 #[.agg #[.slice A0_0 l0_0.length c0_0, .slice A0_1 l0_1.length c0_1, .slice A0_2 l0_2.length c0_2, .slice A0_3 l0_3.length c0_3]] ?_; (with_reducible refine (spec_foStep.calls _ _ l0_0 _ _ l0_1 _ _ l0_2 _ _ l0_3 t305 t308 t311 t314 t317 _ (Yc (Z19 HR0_0.out HB.out)) HC0_0.out (Yc (Z19 HR0_1.out HB.out)) HC0_1.out (Yc (Z19 HR0_2.out HB.out)) HC0_2.out (Yc (Z19 HR0_3.out HB.out)) HC0_3.out A2.out).mono ?_); rintro e w31 ⟨v306, v309, v312, v315, rfl, ho0, ho1, ho2, ho3, hb⟩; refine ⟨_, rfl, ?_⟩; have HO307 := Yl ho0; have HO310 := Yl ho1; have HO313 := Yl ho2; have HO316 := Yl ho3; replace BK303 := Yb BK303 hb; replace BK304 := Yb BK304 hb; replace HB := Yh hb; (try clear hb ho0 ho1 ho2 ho3)) | ((with_reducible refine gate_dst (N := 4) rfl ?_); refine Yx 4 #[.slice none 0 0, .slice none 0 0, .slice none 0 0, .slice none 0 0] 27 ?_; intro gb318 hg w32 hbox hb; replace HO307 := Yw HO307 hb; replace HO310 := Yw HO310 hb; replace HO313 := Yw HO313 hb; replace HO316 := Yw HO316 hb; have BK318 := Ya hbox; have GW318 := Yg hg; have GE318 := GW318; replace HB := Yh hb; have NB303_318 := Yn BK303 hg; have NB318_303 := Ym BK303 hg; replace BK303 := Yb BK303 hb; have NB304_318 := Yn BK304 hg; have NB318_304 := Ym BK304 hg; replace BK304 := Yb BK304 hb; clear hb hbox hg; obtain ⟨Ao33, co33, rfl⟩ := Z18 HO307.out; have hnb34 := NB318_303.out; have hnc34 := NB303_318.out; have hnb35 := NB318_304.out; have hnc35 := NB304_318.out; have hz36 := Y4 BK318.out; obtain ⟨Ao37, co37, rfl⟩ := Z18 HO310.out; obtain ⟨Ao38, co38, rfl⟩ := Z18 HO313.out; obtain ⟨Ao39, co39, rfl⟩ := Z18 HO316.out; have hz40 := Y6 BK303.out; have p319 : 0 ≤ ((ji18) : Int) := Z27 Q1; have q319 : (ji18) < (l0_5.length : Int) := Z27 Q1; obtain ⟨ad319, e319, hx319_0⟩ := Kd.at_int HR0_5.out (ji18) p319 q319; cases e319; have hn319_0 : ad319.block ≠ gb318 := Nat.ne_of_lt (Nat.lt_of_lt_of_le Q21 GW318.out); have hn319_1 : ad319.block ≠ gb318 := Nat.ne_of_lt (Nat.lt_of_lt_of_le Q21 GW318.out); have hn319_2 : ad319.block ≠ gb318 := Nat.ne_of_lt (Nat.lt_of_lt_of_le Q21 GW318.out); have hn319_3 : ad319.block ≠ gb318 := Nat.ne_of_lt (Nat.lt_of_lt_of_le Q21 GW318.out); try replace hx319_0 := (HB.out.cell (World.block_lt_of_cell? w _ hx319_0)).trans hx319_0; replace hx319_0 := (cell_far (p := ⟨gb318, 0, none⟩) Q92 (.slice Ao33 t305.length co33)).trans hx319_0; replace hx319_0 := (cell_far (p := ⟨gb318, 1, none⟩) Q91 (.slice Ao37 t308.length co37)).trans hx319_0; replace hx319_0 := (cell_far (p := ⟨gb318, 2, none⟩) Q90 (.slice Ao38 t311.length co38)).trans hx319_0; replace hx319_0 := (cell_far (p := ⟨gb318, 3, none⟩) Q89 (.slice Ao39 t314.length co39)).trans hx319_0; clear hn319_0; clear hn319_1; clear hn319_2; clear hn319_3; replace p319 := eq_true p319; replace q319 := eq_true q319))
        replace HO307 : Aside0 (Kd.R (Kd.int .i64) 3 ((((w32.setCell ⟨gb318, 0, none⟩ (.slice Ao33 t305.length co33)).setCell ⟨gb318, 1, none⟩ (.slice Ao37 t308.length co37)).setCell ⟨gb318, 2, none⟩ (.slice Ao38 t311.length co38)).setCell ⟨gb318, 3, none⟩ (.slice Ao39 t314.length co39)) w.heap.size (fun k_ => some k_ ≠ (.slice Ao37 t308.length co37 : Value).ownBlock ∧ some k_ ≠ (.slice Ao39 t314.length co39 : Value).ownBlock) (.slice Ao33 t305.length co33) t305) := ⟨Q67⟩
        replace HO310 : Aside0 (Kd.R (Kd.int .i64) 3 ((((w32.setCell ⟨gb318, 0, none⟩ (.slice Ao33 t305.length co33)).setCell ⟨gb318, 1, none⟩ (.slice Ao37 t308.length co37)).setCell ⟨gb318, 2, none⟩ (.slice Ao38 t311.length co38)).setCell ⟨gb318, 3, none⟩ (.slice Ao39 t314.length co39)) w.heap.size (fun k_ => some k_ ≠ (.slice Ao33 t305.length co33 : Value).ownBlock ∧ some k_ ≠ (.slice Ao39 t314.length co39 : Value).ownBlock) (.slice Ao37 t308.length co37) t308) := ⟨Q66⟩
        replace HO313 : Aside0 (Kd.R Kd.bool 4 ((((w32.setCell ⟨gb318, 0, none⟩ (.slice Ao33 t305.length co33)).setCell ⟨gb318, 1, none⟩ (.slice Ao37 t308.length co37)).setCell ⟨gb318, 2, none⟩ (.slice Ao38 t311.length co38)).setCell ⟨gb318, 3, none⟩ (.slice Ao39 t314.length co39)) w.heap.size (fun _ => True) (.slice Ao38 t311.length co38) t311) := ⟨Q88⟩
        replace HO316 : Aside0 (Kd.R (Kd.int .i64) 3 ((((w32.setCell ⟨gb318, 0, none⟩ (.slice Ao33 t305.length co33)).setCell ⟨gb318, 1, none⟩ (.slice Ao37 t308.length co37)).setCell ⟨gb318, 2, none⟩ (.slice Ao38 t311.length co38)).setCell ⟨gb318, 3, none⟩ (.slice Ao39 t314.length co39)) w.heap.size (fun k_ => some k_ ≠ (.slice Ao33 t305.length co33 : Value).ownBlock ∧ some k_ ≠ (.slice Ao37 t308.length co37 : Value).ownBlock) (.slice Ao39 t314.length co39) t314) := ⟨Q65⟩
        replace BK303 : Aside0 (((((w32.setCell ⟨gb318, 0, none⟩ (.slice Ao33 t305.length co33)).setCell ⟨gb318, 1, none⟩ (.slice Ao37 t308.length co37)).setCell ⟨gb318, 2, none⟩ (.slice Ao38 t311.length co38)).setCell ⟨gb318, 3, none⟩ (.slice Ao39 t314.length co39)).heap[gb303]? = some (.cells #[.slice A0_0 l0_0.length c0_0, .slice A0_1 l0_1.length c0_1, .slice A0_2 l0_2.length c0_2, .slice A0_3 l0_3.length c0_3, .slice A0_4 l0_4.length c0_4, .slice (some ad319) l0_5.length c0_5] 35 (0, 0))) := ⟨Q23⟩
        replace BK304 : Aside0 (((((w32.setCell ⟨gb318, 0, none⟩ (.slice Ao33 t305.length co33)).setCell ⟨gb318, 1, none⟩ (.slice Ao37 t308.length co37)).setCell ⟨gb318, 2, none⟩ (.slice Ao38 t311.length co38)).setCell ⟨gb318, 3, none⟩ (.slice Ao39 t314.length co39)).heap[gb304]? = some (.cells #[.slice none 0 0, .slice none 0 0, .slice none 0 0, .slice none 0 0, .slice none 0 0, .slice none 0 0] 35 (0, 0))) := ⟨Q22⟩
        replace BK318 : Aside0 (((((w32.setCell ⟨gb318, 0, none⟩ (.slice Ao33 t305.length co33)).setCell ⟨gb318, 1, none⟩ (.slice Ao37 t308.length co37)).setCell ⟨gb318, 2, none⟩ (.slice Ao38 t311.length co38)).setCell ⟨gb318, 3, none⟩ (.slice Ao39 t314.length co39)).heap[gb318]? = some (.cells #[.slice Ao33 t305.length co33, .slice Ao37 t308.length co37, .slice Ao38 t311.length co38, .slice Ao39 t314.length co39] 27 (0, 0))) := ⟨by (with_reducible repeat (first | refine Z22 ?_ _ | refine Z23 ?_ | refine Z24 ?_ _)); refine Z26 (cs := #[.slice Ao33 t305.length co33, .slice Ao37 t308.length co37, .slice Ao38 t311.length co38, .slice none 0 0]) ?_ 3 _ rfl; (with_reducible repeat (first | refine Z22 ?_ _ | refine Z23 ?_ | refine Z24 ?_ _)); refine Z26 (cs := #[.slice Ao33 t305.length co33, .slice Ao37 t308.length co37, .slice none 0 0, .slice none 0 0]) ?_ 2 _ rfl; (with_reducible repeat (first | refine Z22 ?_ _ | refine Z23 ?_ | refine Z24 ?_ _)); refine Z26 (cs := #[.slice Ao33 t305.length co33, .slice none 0 0, .slice none 0 0, .slice none 0 0]) ?_ 1 _ rfl; (with_reducible repeat (first | refine Z22 ?_ _ | refine Z23 ?_ | refine Z24 ?_ _)); refine Z26 (cs := #[.slice none 0 0, .slice none 0 0, .slice none 0 0, .slice none 0 0]) ?_ 0 _ rfl; (with_reducible repeat (first | refine Z22 ?_ _ | refine Z23 ?_ | refine Z24 ?_ _)); exact BK318.out⟩
        replace HB : Aside0 (Below w.heap.size w ((((w32.setCell ⟨gb318, 0, none⟩ (.slice Ao33 t305.length co33)).setCell ⟨gb318, 1, none⟩ (.slice Ao37 t308.length co37)).setCell ⟨gb318, 2, none⟩ (.slice Ao38 t311.length co38)).setCell ⟨gb318, 3, none⟩ (.slice Ao39 t314.length co39))) := ⟨Q12⟩
        generalize ((((w32.setCell ⟨gb318, 0, none⟩ (.slice Ao33 t305.length co33)).setCell ⟨gb318, 1, none⟩ (.slice Ao37 t308.length co37)).setCell ⟨gb318, 2, none⟩ (.slice Ao38 t311.length co38)).setCell ⟨gb318, 3, none⟩ (.slice Ao39 t314.length co39)) = w41 at HO307 HO310 HO313 HO316 BK303 BK304 BK318 HB ⊢
        replace HO307 := Ya (Z10 HO307.out)
        replace HO310 := Ya (Z10 HO310.out)
        replace HO313 := Ya (Z10 HO313.out)
        replace HO316 := Ya (Z10 HO316.out)
        replace BK303 := Ya (Z23 BK303.out)
        replace BK304 := Ya (Z23 BK304.out)
        replace BK318 := Ya (Z23 BK318.out)
        replace HB := Ya (Z4 HB.out)
        have p320 : 0 ≤ (t317 : Int) := Z27 Q1
        have q320 : t317 < (t308.length : Int) := Z27 Q1
        obtain ⟨ad320, e320, hx320_0⟩ := Kd.at_int (Kd.R_reads' HO310.out).2.2 t317 p320 q320
        cases e320
        replace p320 := eq_true p320
        replace q320 := eq_true q320
        have p321 : 0 ≤ (t317 : Int) := Z27 Q1
        have q321 : t317 < (l0_1.length : Int) := Z27 Q1
        obtain ⟨ad321, e321, hx321_0⟩ := Kd.at_int HR0_1.out t317 p321 q321
        have hw321_0 := hx321_0
        cases e321
        try replace hx321_0 := (HB.out.cell (World.block_lt_of_cell? w _ hx321_0)).trans hx321_0
        replace p321 := eq_true p321
        replace q321 := eq_true q321
        refine start_ (n := 12) (S := fun w' => w'.cell? ⟨gb318, 0, none⟩ = some (.slice Ao33 t305.length co33) ∧ w'.cell? ⟨gb318, 1, none⟩ = some (.slice (some ad320) t308.length co37) ∧ w'.cell? ⟨gb318, 2, none⟩ = some (.slice Ao38 t311.length co38) ∧ w'.cell? ⟨gb318, 3, none⟩ = some (.slice Ao39 t314.length co39) ∧ w'.cell? ⟨gb303, 0, none⟩ = some (.slice A0_0 l0_0.length c0_0) ∧ w'.cell? ⟨gb303, 1, none⟩ = some (.slice (some ad321) l0_1.length c0_1) ∧ w'.cell? ⟨gb303, 2, none⟩ = some (.slice A0_2 l0_2.length c0_2) ∧ w'.cell? ⟨gb303, 3, none⟩ = some (.slice A0_3 l0_3.length c0_3) ∧ w'.cell? ⟨gb303, 4, none⟩ = some (.slice A0_4 l0_4.length c0_4) ∧ w'.cell? ⟨gb303, 5, none⟩ = some (.slice (some ad319) l0_5.length c0_5) ∧ w'.cell? (ad320.add (t317).toNat) = some (.int .i64 (rd t308 t317)) ∧ w'.cell? (ad321.add (t317).toNat) = some (.int .i64 (rd l0_1 t317))) (ds := []) (YA 12 0) (by kernel_rfl) rfl rfl ⟨(Z20 BK318.out 0).trans rfl, (Z20 BK318.out 1).trans rfl, (Z20 BK318.out 2).trans rfl, (Z20 BK318.out 3).trans rfl, (Z20 BK303.out 0).trans rfl, (Z20 BK303.out 1).trans rfl, (Z20 BK303.out 2).trans rfl, (Z20 BK303.out 3).trans rfl, (Z20 BK303.out 4).trans rfl, (Z20 BK303.out 5).trans rfl, hx320_0, ((HB.out.cell (World.block_lt_of_cell? w _ hw321_0)).trans hw321_0)⟩ (fun hHeld => ?_); refine with_tabW spec_foSwap.tab5 spec_foSwap.bits5 (fun HT_ HW_ => ?_)
        generalize w41.drew = w42 at HO307 HO310 HO313 HO316 BK303 BK304 BK318 HB hx320_0 hx321_0 hHeld ⊢
        refine Yp 0 (some 23) (YA 12 1) rfl HT_.out ?_
        refine Yp 2 (some 25) (YA 12 5) rfl HT_.out ?_
        refine Yp 5 (some 28) (YA 12 37) rfl HT_.out ?_
        refine Yp 6 (some 29) (YA 12 101) rfl HT_.out ?_
        refine Yp 8 (some 31) (YA 12 357) rfl HT_.out ?_
        refine Yt 1 (some 24) (YA 12 359) rfl HT_.out HW_.out hHeld Q11 ?_
        refine Yp 3 (some 26) (YA 12 367) rfl HT_.out ?_
        refine Yt 4 (some 27) (YA 12 383) rfl HT_.out HW_.out hHeld Q11 ?_
        refine Yt 7 (some 30) (YA 12 511) rfl HT_.out HW_.out hHeld Q11 ?_
        refine Yp 9 (some 32) (YA 12 1023) rfl HT_.out ?_
        refine Yt 10 (some 33) (YA 12 2047) rfl HT_.out HW_.out hHeld Q11 ?_
        refine Yp 11 (some 34) (YA 12 4095) rfl HT_.out ?_
        refine done_ (done_of HT_.out (by kernel_rfl)) ?_
        have hz43 := Y6 BK303.out
        try go_wp2_with (first | ((with_reducible refine gate_callee (f := 74) rfl ?_); refine Yz 43 Try.func74 #[.slice A0_4 l0_4.length c0_4, .agg #[.int .i64 0, .int .i64 (wrap64 ((rd l0_5 (ji18)) - 1)), .int .i64 (wrap64 ((wrap64 ((rd l0_5 (ji18)) - 1)) + 1))]] ?_ (hargs := (by (try simp only [Z30, Z31, Z32]); first | done | (simp only [hji18]; rfl) | rfl | (simp only [Z28, Z29]; rfl))); (with_reducible refine (spec_moApply.calls k _ _ l0_4 0 (wrap64 ((rd l0_5 (ji18)) - 1)) (wrap64 ((wrap64 ((rd l0_5 (ji18)) - 1)) + 1)) t322 _ (Yc (Z19 HR0_4.out HB.out)) HC0_4.out A25.out).mono ?_); rintro e w44 ⟨v323, rfl, ho0, hb⟩; refine ⟨_, rfl, ?_⟩; replace HO313 := Yw HO313 hb; have HO324 := Yl (Kd.R_new' (Kd.R_new' (Kd.R_new' ho0 (Z17 (Yr HO307.out))) (Z17 (Yr HO310.out))) (Z17 (Yr HO316.out))); replace HO307 := Ya (Kd.R_elder' (Yr HO307.out) (Kd.R_base ho0) hb); replace HO310 := Ya (Kd.R_elder' (Yr HO310.out) (Kd.R_base ho0) hb); replace HO316 := Ya (Kd.R_elder' (Yr HO316.out) (Kd.R_base ho0) hb); replace BK303 := Yb BK303 hb; replace BK304 := Yb BK304 hb; replace BK318 := Yb BK318 hb; replace HB := Yh hb; (try clear hb ho0)))
        replace HO307 := Ya (Z10 HO307.out)
        replace HO310 := Ya (Z10 HO310.out)
        replace HO313 := Ya (Z10 HO313.out)
        replace HO316 := Ya (Z10 HO316.out)
        replace HO324 := Ya (Z10 HO324.out)
        replace BK303 := Ya (Z23 BK303.out)
        replace BK304 := Ya (Z23 BK304.out)
        replace BK318 := Ya (Z23 BK318.out)
        replace HB := Ya (Z4 HB.out)
        obtain ⟨Ao46, co46, eo46⟩ := Z18 HO324.out
        (first | subst eo46 | (injection eo46 with f1_ f2_ f3_; have f4_ := f1_.symm; have f5_ := f3_.symm; clear f1_ f2_ f3_; subst f4_; subst f5_))
        refine start_ (n := 8) (S := fun w' => w'.cell? ⟨gb318, 0, none⟩ = some (.slice Ao33 t305.length co33) ∧ w'.cell? ⟨gb318, 1, none⟩ = some (.slice (some ad320) t308.length co37) ∧ w'.cell? ⟨gb318, 2, none⟩ = some (.slice Ao38 t311.length co38) ∧ w'.cell? ⟨gb318, 3, none⟩ = some (.slice Ao39 t314.length co39)) (ds := []) (YA 8 0) (by kernel_rfl) rfl rfl ⟨(Z20 BK318.out 0).trans rfl, (Z20 BK318.out 1).trans rfl, (Z20 BK318.out 2).trans rfl, (Z20 BK318.out 3).trans rfl⟩ (fun hHeld => ?_); refine with_tabW spec_foSwap.tab8 spec_foSwap.bits8 (fun HT_ HW_ => ?_)
        generalize w44.drew = w45 at HO307 HO310 HO313 HO316 HO324 BK303 BK304 BK318 HB hHeld ⊢
        refine Yp 1 (some 45) (YA 8 2) rfl HT_.out ?_
        refine Yp 2 (some 46) (YA 8 6) rfl HT_.out ?_
        refine Yp 5 (some 49) (YA 8 38) rfl HT_.out ?_
        refine Yt 0 (some 44) (YA 8 39) rfl HT_.out HW_.out hHeld Q3 ?_
        refine one_ (i := 3) (N := some 47) (YA 8 47) rfl rfl (one_of HT_.out (by kernel_rfl)) (by decide) (fun K hK => ?_)
        refine goes_ Try.func75 (by kernel_rfl) rfl #[.slice Ao46 t322.length co46] (by rfl) rfl rfl Q6 ?_
        with_reducible refine (spec_raInverse.calls k _ _ t322 t325 _ ?side1 ?side2 A26.out).mono ?_
        (case side1 => exact Yc (Kd.R_reads' HO324.out).2.2)
        (case side2 => exact (Kd.R_reads' HO324.out).2.1)
        rintro e w47 ⟨v326, rfl, ho0, hb⟩
        refine ⟨_, rfl, ?_⟩
        replace HO313 := Yw HO313 hb
        have HO327 := Yl (Kd.R_new' (Kd.R_new' (Kd.R_new' (Kd.R_new' ho0 (Z17 (Yr HO307.out))) (Z17 (Yr HO310.out))) (Z17 (Yr HO316.out))) (Z17 (Yr HO324.out)))
        replace HO307 := Ya (Kd.R_elder' (Yr HO307.out) (Kd.R_base ho0) hb)
        replace HO310 := Ya (Kd.R_elder' (Yr HO310.out) (Kd.R_base ho0) hb)
        replace HO316 := Ya (Kd.R_elder' (Yr HO316.out) (Kd.R_base ho0) hb)
        replace HO324 := Ya (Kd.R_elder' (Yr HO324.out) (Kd.R_base ho0) hb)
        replace BK303 := Yb BK303 hb
        replace BK304 := Yb BK304 hb
        replace BK318 := Yb BK318 hb
        replace HB := Yh hb
        (try clear hb ho0)
        obtain ⟨Ao48, co48, eo48⟩ := Z18 HO327.out
        (first | subst eo48 | (injection eo48 with f1_ f2_ f3_; have f4_ := f1_.symm; have f5_ := f3_.symm; clear f1_ f2_ f3_; subst f4_; subst f5_))
        refine hK.out _ _ ⟨(Z20 BK318.out 0).trans rfl, (Z20 BK318.out 1).trans rfl, (Z20 BK318.out 2).trans rfl, (Z20 BK318.out 3).trans rfl⟩ (fun hHeld => ?_)
        clear hK K
        refine norm_ (a' := ?_) ?_ ?_
        rotate_left
        ·show Act.put _ (some 47) _ = _
         simp only [Act.put, Z0, Z1, Z2, i64_w, i32_w]
         rfl
        refine Yp 4 (some 48) (YA 8 63) rfl HT_.out ?_
        refine one_ (i := 6) (N := none) (YA 8 127) rfl rfl (one_of HT_.out (by kernel_rfl)) (by decide) (fun K hK => ?_)
        have hs49 : w47.cell? ⟨gb304, 0, none⟩ = some (.slice none 0 0) := (Z20 BK304.out 0).trans rfl
        have hfs49 := Z21 BK304.out 0
        have hns49_0 := NB303_304.out
        have hns49_2 := NB318_304.out
        have hms49_0 := NB304_303.out
        have hms49_2 := NB304_318.out
        have hs50 : w47.cell? ⟨gb304, 1, none⟩ = some (.slice none 0 0) := (Z20 BK304.out 1).trans rfl
        have hfs50 := Z21 BK304.out 1
        have hns50_0 := NB303_304.out
        have hns50_2 := NB318_304.out
        have hms50_0 := NB304_303.out
        have hms50_2 := NB304_318.out
        have hs51 : w47.cell? ⟨gb304, 2, none⟩ = some (.slice none 0 0) := (Z20 BK304.out 2).trans rfl
        have hfs51 := Z21 BK304.out 2
        have hns51_0 := NB303_304.out
        have hns51_2 := NB318_304.out
        have hms51_0 := NB304_303.out
        have hms51_2 := NB304_318.out
        have hs52 : w47.cell? ⟨gb304, 3, none⟩ = some (.slice none 0 0) := (Z20 BK304.out 3).trans rfl
        have hfs52 := Z21 BK304.out 3
        have hns52_0 := NB303_304.out
        have hns52_2 := NB318_304.out
        have hms52_0 := NB304_303.out
        have hms52_2 := NB304_318.out
        have hs53 : w47.cell? ⟨gb304, 4, none⟩ = some (.slice none 0 0) := (Z20 BK304.out 4).trans rfl
        have hfs53 := Z21 BK304.out 4
        have hns53_0 := NB303_304.out
        have hns53_2 := NB318_304.out
        have hms53_0 := NB304_303.out
        have hms53_2 := NB304_318.out
        have hs54 : w47.cell? ⟨gb304, 5, none⟩ = some (.slice none 0 0) := (Z20 BK304.out 5).trans rfl
        have hfs54 := Z21 BK304.out 5
        have hns54_0 := NB303_304.out
        have hns54_2 := NB318_304.out
        have hms54_0 := NB304_303.out
        have hms54_2 := NB304_318.out
        refine skip_ (w1 := ?_) (by rfl) rfl ?_ ?_
        rotate_left
        ·go_simp
         rfl
        refine hK.out _ _ ⟨((cell_far (p := ⟨gb304, _, none⟩) NB318_304.out _).trans (((cell_far (p := ⟨gb304, _, none⟩) NB318_304.out _).trans (((cell_far (p := ⟨gb304, _, none⟩) NB318_304.out _).trans (((cell_far (p := ⟨gb304, _, none⟩) NB318_304.out _).trans (((cell_far (p := ⟨gb304, _, none⟩) NB318_304.out _).trans (((cell_far (p := ⟨gb304, _, none⟩) NB318_304.out _).trans (hHeld.1)))))))))))), ((cell_far (p := ⟨gb304, _, none⟩) NB318_304.out _).trans (((cell_far (p := ⟨gb304, _, none⟩) NB318_304.out _).trans (((cell_far (p := ⟨gb304, _, none⟩) NB318_304.out _).trans (((cell_far (p := ⟨gb304, _, none⟩) NB318_304.out _).trans (((cell_far (p := ⟨gb304, _, none⟩) NB318_304.out _).trans (((cell_far (p := ⟨gb304, _, none⟩) NB318_304.out _).trans (hHeld.2.1)))))))))))), ((cell_far (p := ⟨gb304, _, none⟩) NB318_304.out _).trans (((cell_far (p := ⟨gb304, _, none⟩) NB318_304.out _).trans (((cell_far (p := ⟨gb304, _, none⟩) NB318_304.out _).trans (((cell_far (p := ⟨gb304, _, none⟩) NB318_304.out _).trans (((cell_far (p := ⟨gb304, _, none⟩) NB318_304.out _).trans (((cell_far (p := ⟨gb304, _, none⟩) NB318_304.out _).trans (hHeld.2.2.1)))))))))))), ((cell_far (p := ⟨gb304, _, none⟩) NB318_304.out _).trans (((cell_far (p := ⟨gb304, _, none⟩) NB318_304.out _).trans (((cell_far (p := ⟨gb304, _, none⟩) NB318_304.out _).trans (((cell_far (p := ⟨gb304, _, none⟩) NB318_304.out _).trans (((cell_far (p := ⟨gb304, _, none⟩) NB318_304.out _).trans (((cell_far (p := ⟨gb304, _, none⟩) NB318_304.out _).trans (hHeld.2.2.2))))))))))))⟩ (fun hHeld => ?_)
        clear hK K
        refine Yp 7 (some 3) (YA 8 255) rfl HT_.out ?_
        refine done_ (done_of HT_.out (by kernel_rfl)) ?_
        try go_wp2
        refine bodyPost_ret (results_ct rfl _ _ gb304 35 #[.slice Ao33 t305.length co33, .slice (some ad320) t308.length co37, .slice Ao38 t311.length co38, .slice Ao39 t314.length co39, .slice Ao46 t322.length co46, .slice Ao48 t325.length co48] (0, 0) _ rfl (Yk (Yv6 BK304.out)) Try.underlying35 rfl (by kernel_rfl)) rfl ?_
        exact ⟨_, _, _, _, _, _, Q63, Q62, Q61, Q87, Q60, by (with_reducible repeat (first | apply Z8 | apply Z9 | apply Z10)); exact Z11 (Yf6 HO324.out BK304.out) (fun _ hk => ⟨hk.1.1.1.1.2, ⟨hk.1.1.1.2, ⟨hk.1.1.2, hk.1.2⟩⟩⟩), by (with_reducible repeat (first | apply Z8 | apply Z9 | apply Z10)); exact Z11 (Yf6 HO327.out BK304.out) (fun _ hk => ⟨hk.1.1.1.1.2, ⟨hk.1.1.1.2, ⟨hk.1.1.2, hk.1.2⟩⟩⟩), Q12⟩
       ·rw [if_neg c24] at H
        have c24b0 : decide ((rd l0_1 t317) < (rd t308 t317)) = false := Z34 c24
        clear c24
        replace H := Z33.mp H
        obtain ⟨t328, A550, H⟩ := H
        replace H : ((spec_raInverse.f k t328).bind fun t331 => (some (t305, t308, t311, t314, t328, t331, rd l0_5 (ji18)))) = some (r1, r2, r3, r4, r5, r6, r7) := H
        have A55 := Ya A550
        clear A550
        replace H := Z33.mp H
        obtain ⟨t331, A560, H⟩ := H
        replace H : (some (t305, t308, t311, t314, t328, t331, rd l0_5 (ji18))) = some (r1, r2, r3, r4, r5, r6, r7) := H
        have A56 := Ya A560
        clear A560
        simp only [Option.some.injEq, Prod.mk.injEq] at H
        obtain ⟨rfl, rfl, rfl, rfl, rfl, rfl, rfl⟩ := H
        go_enter Try.func55, Try.ntmps55
        try go_wp2_with (first | ((with_reducible refine gate_dst (N := 1) rfl ?_); refine Yx 1 #[.slice A0_0 l0_0.length c0_0, .slice A0_1 l0_1.length c0_1, .slice A0_2 l0_2.length c0_2, .slice A0_3 l0_3.length c0_3, .slice A0_4 l0_4.length c0_4, .slice A0_5 l0_5.length c0_5] 35 ?_; intro gb303 hg w57 hbox hb; have BK303 := Ya hbox; have GW303 := Yg hg; have GE303 := GW303; replace HB := Yh hb; clear hb hbox hg) | ((with_reducible refine gate_dst (N := 2) rfl ?_); refine Yx 2 #[.slice none 0 0, .slice none 0 0, .slice none 0 0, .slice none 0 0, .slice none 0 0, .slice none 0 0] 35 ?_; intro gb304 hg w58 hbox hb; have BK304 := Ya hbox; have GW304 := Yg hg; have GE304 := GW304; replace HB := Yh hb; have NB303_304 := Yn BK303 hg; have NB304_303 := Ym BK303 hg; replace BK303 := Yb BK303 hb; clear hb hbox hg; have hnb59 := NB303_304.out; have hnc59 := NB304_303.out; have hz60 := Y6 BK303.out) | ((with_reducible refine gate_callee (f := 31) rfl ?_); refine Yz 11 Try.func31 #[.agg #[.slice A0_0 l0_0.length c0_0, .slice A0_1 l0_1.length c0_1, .slice A0_2 l0_2.length c0_2, .slice A0_3 l0_3.length c0_3]] ?_; (with_reducible refine (spec_foStep.calls _ _ l0_0 _ _ l0_1 _ _ l0_2 _ _ l0_3 t305 t308 t311 t314 t317 _ (Yc (Z19 HR0_0.out HB.out)) HC0_0.out (Yc (Z19 HR0_1.out HB.out)) HC0_1.out (Yc (Z19 HR0_2.out HB.out)) HC0_2.out (Yc (Z19 HR0_3.out HB.out)) HC0_3.out A2.out).mono ?_); rintro e w61 ⟨v306, v309, v312, v315, rfl, ho0, ho1, ho2, ho3, hb⟩; refine ⟨_, rfl, ?_⟩; have HO307 := Yl ho0; have HO310 := Yl ho1; have HO313 := Yl ho2; have HO316 := Yl ho3; replace BK303 := Yb BK303 hb; replace BK304 := Yb BK304 hb; replace HB := Yh hb; (try clear hb ho0 ho1 ho2 ho3)) | ((with_reducible refine gate_dst (N := 4) rfl ?_); refine Yx 4 #[.slice none 0 0, .slice none 0 0, .slice none 0 0, .slice none 0 0] 27 ?_; intro gb318 hg w62 hbox hb; replace HO307 := Yw HO307 hb; replace HO310 := Yw HO310 hb; replace HO313 := Yw HO313 hb; replace HO316 := Yw HO316 hb; have BK318 := Ya hbox; have GW318 := Yg hg; have GE318 := GW318; replace HB := Yh hb; have NB303_318 := Yn BK303 hg; have NB318_303 := Ym BK303 hg; replace BK303 := Yb BK303 hb; have NB304_318 := Yn BK304 hg; have NB318_304 := Ym BK304 hg; replace BK304 := Yb BK304 hb; clear hb hbox hg; obtain ⟨Ao63, co63, rfl⟩ := Z18 HO307.out; have hnb64 := NB318_303.out; have hnc64 := NB303_318.out; have hnb65 := NB318_304.out; have hnc65 := NB304_318.out; have hz66 := Y4 BK318.out; obtain ⟨Ao67, co67, rfl⟩ := Z18 HO310.out; obtain ⟨Ao68, co68, rfl⟩ := Z18 HO313.out; obtain ⟨Ao69, co69, rfl⟩ := Z18 HO316.out; have hz70 := Y6 BK303.out; have p319 : 0 ≤ ((ji18) : Int) := Z27 Q1; have q319 : (ji18) < (l0_5.length : Int) := Z27 Q1; obtain ⟨ad319, e319, hx319_0⟩ := Kd.at_int HR0_5.out (ji18) p319 q319; cases e319; have hn319_0 : ad319.block ≠ gb318 := Nat.ne_of_lt (Nat.lt_of_lt_of_le Q21 GW318.out); have hn319_1 : ad319.block ≠ gb318 := Nat.ne_of_lt (Nat.lt_of_lt_of_le Q21 GW318.out); have hn319_2 : ad319.block ≠ gb318 := Nat.ne_of_lt (Nat.lt_of_lt_of_le Q21 GW318.out); have hn319_3 : ad319.block ≠ gb318 := Nat.ne_of_lt (Nat.lt_of_lt_of_le Q21 GW318.out); try replace hx319_0 := (HB.out.cell (World.block_lt_of_cell? w _ hx319_0)).trans hx319_0; replace hx319_0 := (cell_far (p := ⟨gb318, 0, none⟩) Q92 (.slice Ao63 t305.length co63)).trans hx319_0; replace hx319_0 := (cell_far (p := ⟨gb318, 1, none⟩) Q91 (.slice Ao67 t308.length co67)).trans hx319_0; replace hx319_0 := (cell_far (p := ⟨gb318, 2, none⟩) Q90 (.slice Ao68 t311.length co68)).trans hx319_0; replace hx319_0 := (cell_far (p := ⟨gb318, 3, none⟩) Q89 (.slice Ao69 t314.length co69)).trans hx319_0; clear hn319_0; clear hn319_1; clear hn319_2; clear hn319_3; replace p319 := eq_true p319; replace q319 := eq_true q319))
        replace HO307 : Aside0 (Kd.R (Kd.int .i64) 3 ((((w62.setCell ⟨gb318, 0, none⟩ (.slice Ao63 t305.length co63)).setCell ⟨gb318, 1, none⟩ (.slice Ao67 t308.length co67)).setCell ⟨gb318, 2, none⟩ (.slice Ao68 t311.length co68)).setCell ⟨gb318, 3, none⟩ (.slice Ao69 t314.length co69)) w.heap.size (fun k_ => some k_ ≠ (.slice Ao67 t308.length co67 : Value).ownBlock ∧ some k_ ≠ (.slice Ao69 t314.length co69 : Value).ownBlock) (.slice Ao63 t305.length co63) t305) := ⟨Q67⟩
        replace HO310 : Aside0 (Kd.R (Kd.int .i64) 3 ((((w62.setCell ⟨gb318, 0, none⟩ (.slice Ao63 t305.length co63)).setCell ⟨gb318, 1, none⟩ (.slice Ao67 t308.length co67)).setCell ⟨gb318, 2, none⟩ (.slice Ao68 t311.length co68)).setCell ⟨gb318, 3, none⟩ (.slice Ao69 t314.length co69)) w.heap.size (fun k_ => some k_ ≠ (.slice Ao63 t305.length co63 : Value).ownBlock ∧ some k_ ≠ (.slice Ao69 t314.length co69 : Value).ownBlock) (.slice Ao67 t308.length co67) t308) := ⟨Q66⟩
        replace HO313 : Aside0 (Kd.R Kd.bool 4 ((((w62.setCell ⟨gb318, 0, none⟩ (.slice Ao63 t305.length co63)).setCell ⟨gb318, 1, none⟩ (.slice Ao67 t308.length co67)).setCell ⟨gb318, 2, none⟩ (.slice Ao68 t311.length co68)).setCell ⟨gb318, 3, none⟩ (.slice Ao69 t314.length co69)) w.heap.size (fun _ => True) (.slice Ao68 t311.length co68) t311) := ⟨Q88⟩
        replace HO316 : Aside0 (Kd.R (Kd.int .i64) 3 ((((w62.setCell ⟨gb318, 0, none⟩ (.slice Ao63 t305.length co63)).setCell ⟨gb318, 1, none⟩ (.slice Ao67 t308.length co67)).setCell ⟨gb318, 2, none⟩ (.slice Ao68 t311.length co68)).setCell ⟨gb318, 3, none⟩ (.slice Ao69 t314.length co69)) w.heap.size (fun k_ => some k_ ≠ (.slice Ao63 t305.length co63 : Value).ownBlock ∧ some k_ ≠ (.slice Ao67 t308.length co67 : Value).ownBlock) (.slice Ao69 t314.length co69) t314) := ⟨Q65⟩
        replace BK303 : Aside0 (((((w62.setCell ⟨gb318, 0, none⟩ (.slice Ao63 t305.length co63)).setCell ⟨gb318, 1, none⟩ (.slice Ao67 t308.length co67)).setCell ⟨gb318, 2, none⟩ (.slice Ao68 t311.length co68)).setCell ⟨gb318, 3, none⟩ (.slice Ao69 t314.length co69)).heap[gb303]? = some (.cells #[.slice A0_0 l0_0.length c0_0, .slice A0_1 l0_1.length c0_1, .slice A0_2 l0_2.length c0_2, .slice A0_3 l0_3.length c0_3, .slice A0_4 l0_4.length c0_4, .slice (some ad319) l0_5.length c0_5] 35 (0, 0))) := ⟨Q23⟩
        replace BK304 : Aside0 (((((w62.setCell ⟨gb318, 0, none⟩ (.slice Ao63 t305.length co63)).setCell ⟨gb318, 1, none⟩ (.slice Ao67 t308.length co67)).setCell ⟨gb318, 2, none⟩ (.slice Ao68 t311.length co68)).setCell ⟨gb318, 3, none⟩ (.slice Ao69 t314.length co69)).heap[gb304]? = some (.cells #[.slice none 0 0, .slice none 0 0, .slice none 0 0, .slice none 0 0, .slice none 0 0, .slice none 0 0] 35 (0, 0))) := ⟨Q22⟩
        replace BK318 : Aside0 (((((w62.setCell ⟨gb318, 0, none⟩ (.slice Ao63 t305.length co63)).setCell ⟨gb318, 1, none⟩ (.slice Ao67 t308.length co67)).setCell ⟨gb318, 2, none⟩ (.slice Ao68 t311.length co68)).setCell ⟨gb318, 3, none⟩ (.slice Ao69 t314.length co69)).heap[gb318]? = some (.cells #[.slice Ao63 t305.length co63, .slice Ao67 t308.length co67, .slice Ao68 t311.length co68, .slice Ao69 t314.length co69] 27 (0, 0))) := ⟨by (with_reducible repeat (first | refine Z22 ?_ _ | refine Z23 ?_ | refine Z24 ?_ _)); refine Z26 (cs := #[.slice Ao63 t305.length co63, .slice Ao67 t308.length co67, .slice Ao68 t311.length co68, .slice none 0 0]) ?_ 3 _ rfl; (with_reducible repeat (first | refine Z22 ?_ _ | refine Z23 ?_ | refine Z24 ?_ _)); refine Z26 (cs := #[.slice Ao63 t305.length co63, .slice Ao67 t308.length co67, .slice none 0 0, .slice none 0 0]) ?_ 2 _ rfl; (with_reducible repeat (first | refine Z22 ?_ _ | refine Z23 ?_ | refine Z24 ?_ _)); refine Z26 (cs := #[.slice Ao63 t305.length co63, .slice none 0 0, .slice none 0 0, .slice none 0 0]) ?_ 1 _ rfl; (with_reducible repeat (first | refine Z22 ?_ _ | refine Z23 ?_ | refine Z24 ?_ _)); refine Z26 (cs := #[.slice none 0 0, .slice none 0 0, .slice none 0 0, .slice none 0 0]) ?_ 0 _ rfl; (with_reducible repeat (first | refine Z22 ?_ _ | refine Z23 ?_ | refine Z24 ?_ _)); exact BK318.out⟩
        replace HB : Aside0 (Below w.heap.size w ((((w62.setCell ⟨gb318, 0, none⟩ (.slice Ao63 t305.length co63)).setCell ⟨gb318, 1, none⟩ (.slice Ao67 t308.length co67)).setCell ⟨gb318, 2, none⟩ (.slice Ao68 t311.length co68)).setCell ⟨gb318, 3, none⟩ (.slice Ao69 t314.length co69))) := ⟨Q12⟩
        generalize ((((w62.setCell ⟨gb318, 0, none⟩ (.slice Ao63 t305.length co63)).setCell ⟨gb318, 1, none⟩ (.slice Ao67 t308.length co67)).setCell ⟨gb318, 2, none⟩ (.slice Ao68 t311.length co68)).setCell ⟨gb318, 3, none⟩ (.slice Ao69 t314.length co69)) = w71 at HO307 HO310 HO313 HO316 BK303 BK304 BK318 HB ⊢
        replace HO307 := Ya (Z10 HO307.out)
        replace HO310 := Ya (Z10 HO310.out)
        replace HO313 := Ya (Z10 HO313.out)
        replace HO316 := Ya (Z10 HO316.out)
        replace BK303 := Ya (Z23 BK303.out)
        replace BK304 := Ya (Z23 BK304.out)
        replace BK318 := Ya (Z23 BK318.out)
        replace HB := Ya (Z4 HB.out)
        have p320 : 0 ≤ (t317 : Int) := Z27 Q1
        have q320 : t317 < (t308.length : Int) := Z27 Q1
        obtain ⟨ad320, e320, hx320_0⟩ := Kd.at_int (Kd.R_reads' HO310.out).2.2 t317 p320 q320
        cases e320
        replace p320 := eq_true p320
        replace q320 := eq_true q320
        have p321 : 0 ≤ (t317 : Int) := Z27 Q1
        have q321 : t317 < (l0_1.length : Int) := Z27 Q1
        obtain ⟨ad321, e321, hx321_0⟩ := Kd.at_int HR0_1.out t317 p321 q321
        have hw321_0 := hx321_0
        cases e321
        try replace hx321_0 := (HB.out.cell (World.block_lt_of_cell? w _ hx321_0)).trans hx321_0
        replace p321 := eq_true p321
        replace q321 := eq_true q321
        refine start_ (n := 12) (S := fun w' => w'.cell? ⟨gb318, 0, none⟩ = some (.slice Ao63 t305.length co63) ∧ w'.cell? ⟨gb318, 1, none⟩ = some (.slice (some ad320) t308.length co67) ∧ w'.cell? ⟨gb318, 2, none⟩ = some (.slice Ao68 t311.length co68) ∧ w'.cell? ⟨gb318, 3, none⟩ = some (.slice Ao69 t314.length co69) ∧ w'.cell? ⟨gb303, 0, none⟩ = some (.slice A0_0 l0_0.length c0_0) ∧ w'.cell? ⟨gb303, 1, none⟩ = some (.slice (some ad321) l0_1.length c0_1) ∧ w'.cell? ⟨gb303, 2, none⟩ = some (.slice A0_2 l0_2.length c0_2) ∧ w'.cell? ⟨gb303, 3, none⟩ = some (.slice A0_3 l0_3.length c0_3) ∧ w'.cell? ⟨gb303, 4, none⟩ = some (.slice A0_4 l0_4.length c0_4) ∧ w'.cell? ⟨gb303, 5, none⟩ = some (.slice (some ad319) l0_5.length c0_5) ∧ w'.cell? (ad320.add (t317).toNat) = some (.int .i64 (rd t308 t317)) ∧ w'.cell? (ad321.add (t317).toNat) = some (.int .i64 (rd l0_1 t317))) (ds := []) (YA 12 0) (by kernel_rfl) rfl rfl ⟨(Z20 BK318.out 0).trans rfl, (Z20 BK318.out 1).trans rfl, (Z20 BK318.out 2).trans rfl, (Z20 BK318.out 3).trans rfl, (Z20 BK303.out 0).trans rfl, (Z20 BK303.out 1).trans rfl, (Z20 BK303.out 2).trans rfl, (Z20 BK303.out 3).trans rfl, (Z20 BK303.out 4).trans rfl, (Z20 BK303.out 5).trans rfl, hx320_0, ((HB.out.cell (World.block_lt_of_cell? w _ hw321_0)).trans hw321_0)⟩ (fun hHeld => ?_); refine with_tabW spec_foSwap.tab5 spec_foSwap.bits5 (fun HT_ HW_ => ?_)
        generalize w71.drew = w72 at HO307 HO310 HO313 HO316 BK303 BK304 BK318 HB hx320_0 hx321_0 hHeld ⊢
        refine Yp 0 (some 23) (YA 12 1) rfl HT_.out ?_
        refine Yp 2 (some 25) (YA 12 5) rfl HT_.out ?_
        refine Yp 5 (some 28) (YA 12 37) rfl HT_.out ?_
        refine Yp 6 (some 29) (YA 12 101) rfl HT_.out ?_
        refine Yp 8 (some 31) (YA 12 357) rfl HT_.out ?_
        refine Yt 1 (some 24) (YA 12 359) rfl HT_.out HW_.out hHeld Q11 ?_
        refine Yp 3 (some 26) (YA 12 367) rfl HT_.out ?_
        refine Yt 4 (some 27) (YA 12 383) rfl HT_.out HW_.out hHeld Q11 ?_
        refine Yt 7 (some 30) (YA 12 511) rfl HT_.out HW_.out hHeld Q11 ?_
        refine Yp 9 (some 32) (YA 12 1023) rfl HT_.out ?_
        refine Yt 10 (some 33) (YA 12 2047) rfl HT_.out HW_.out hHeld Q11 ?_
        refine Yp 11 (some 34) (YA 12 4095) rfl HT_.out ?_
        refine done_ (done_of HT_.out (by kernel_rfl)) ?_
        have hz73 := Y6 BK303.out
        try go_wp2_with (first | ((with_reducible refine gate_callee (f := 74) rfl ?_); refine Yz 43 Try.func74 #[.slice A0_4 l0_4.length c0_4, .agg #[.int .i64 0, .int .i64 (rd l0_5 (ji18)), .int .i64 (wrap64 ((rd l0_5 (ji18)) + 1))]] ?_ (hargs := (by (try simp only [Z30, Z31, Z32]); first | done | (simp only [hji18]; rfl) | rfl | (simp only [Z28, Z29]; rfl))); (with_reducible refine (spec_moApply.calls k _ _ l0_4 0 (rd l0_5 (ji18)) (wrap64 ((rd l0_5 (ji18)) + 1)) t328 _ (Yc (Z19 HR0_4.out HB.out)) HC0_4.out A55.out).mono ?_); rintro e w74 ⟨v329, rfl, ho0, hb⟩; refine ⟨_, rfl, ?_⟩; replace HO313 := Yw HO313 hb; have HO330 := Yl (Kd.R_new' (Kd.R_new' (Kd.R_new' ho0 (Z17 (Yr HO307.out))) (Z17 (Yr HO310.out))) (Z17 (Yr HO316.out))); replace HO307 := Ya (Kd.R_elder' (Yr HO307.out) (Kd.R_base ho0) hb); replace HO310 := Ya (Kd.R_elder' (Yr HO310.out) (Kd.R_base ho0) hb); replace HO316 := Ya (Kd.R_elder' (Yr HO316.out) (Kd.R_base ho0) hb); replace BK303 := Yb BK303 hb; replace BK304 := Yb BK304 hb; replace BK318 := Yb BK318 hb; replace HB := Yh hb; (try clear hb ho0)))
        replace HO307 := Ya (Z10 HO307.out)
        replace HO310 := Ya (Z10 HO310.out)
        replace HO313 := Ya (Z10 HO313.out)
        replace HO316 := Ya (Z10 HO316.out)
        replace HO330 := Ya (Z10 HO330.out)
        replace BK303 := Ya (Z23 BK303.out)
        replace BK304 := Ya (Z23 BK304.out)
        replace BK318 := Ya (Z23 BK318.out)
        replace HB := Ya (Z4 HB.out)
        obtain ⟨Ao76, co76, eo76⟩ := Z18 HO330.out
        (first | subst eo76 | (injection eo76 with f1_ f2_ f3_; have f4_ := f1_.symm; have f5_ := f3_.symm; clear f1_ f2_ f3_; subst f4_; subst f5_))
        refine start_ (n := 8) (S := fun w' => w'.cell? ⟨gb318, 0, none⟩ = some (.slice Ao63 t305.length co63) ∧ w'.cell? ⟨gb318, 1, none⟩ = some (.slice (some ad320) t308.length co67) ∧ w'.cell? ⟨gb318, 2, none⟩ = some (.slice Ao68 t311.length co68) ∧ w'.cell? ⟨gb318, 3, none⟩ = some (.slice Ao69 t314.length co69)) (ds := []) (YA 8 0) (by kernel_rfl) rfl rfl ⟨(Z20 BK318.out 0).trans rfl, (Z20 BK318.out 1).trans rfl, (Z20 BK318.out 2).trans rfl, (Z20 BK318.out 3).trans rfl⟩ (fun hHeld => ?_); refine with_tabW spec_foSwap.tab8 spec_foSwap.bits8 (fun HT_ HW_ => ?_)
        generalize w74.drew = w75 at HO307 HO310 HO313 HO316 HO330 BK303 BK304 BK318 HB hHeld ⊢
        refine Yp 1 (some 45) (YA 8 2) rfl HT_.out ?_
        refine Yp 2 (some 46) (YA 8 6) rfl HT_.out ?_
        refine Yp 5 (some 49) (YA 8 38) rfl HT_.out ?_
        refine Yt 0 (some 44) (YA 8 39) rfl HT_.out HW_.out hHeld Q3 ?_
        refine one_ (i := 3) (N := some 47) (YA 8 47) rfl rfl (one_of HT_.out (by kernel_rfl)) (by decide) (fun K hK => ?_)
        refine goes_ Try.func75 (by kernel_rfl) rfl #[.slice Ao76 t328.length co76] (by rfl) rfl rfl Q6 ?_
        with_reducible refine (spec_raInverse.calls k _ _ t328 t331 _ ?side1 ?side2 A56.out).mono ?_
        (case side1 => exact Yc (Kd.R_reads' HO330.out).2.2)
        (case side2 => exact (Kd.R_reads' HO330.out).2.1)
        rintro e w77 ⟨v332, rfl, ho0, hb⟩
        refine ⟨_, rfl, ?_⟩
        replace HO313 := Yw HO313 hb
        have HO333 := Yl (Kd.R_new' (Kd.R_new' (Kd.R_new' (Kd.R_new' ho0 (Z17 (Yr HO307.out))) (Z17 (Yr HO310.out))) (Z17 (Yr HO316.out))) (Z17 (Yr HO330.out)))
        replace HO307 := Ya (Kd.R_elder' (Yr HO307.out) (Kd.R_base ho0) hb)
        replace HO310 := Ya (Kd.R_elder' (Yr HO310.out) (Kd.R_base ho0) hb)
        replace HO316 := Ya (Kd.R_elder' (Yr HO316.out) (Kd.R_base ho0) hb)
        replace HO330 := Ya (Kd.R_elder' (Yr HO330.out) (Kd.R_base ho0) hb)
        replace BK303 := Yb BK303 hb
        replace BK304 := Yb BK304 hb
        replace BK318 := Yb BK318 hb
        replace HB := Yh hb
        (try clear hb ho0)
        obtain ⟨Ao78, co78, eo78⟩ := Z18 HO333.out
        (first | subst eo78 | (injection eo78 with f1_ f2_ f3_; have f4_ := f1_.symm; have f5_ := f3_.symm; clear f1_ f2_ f3_; subst f4_; subst f5_))
        refine hK.out _ _ ⟨(Z20 BK318.out 0).trans rfl, (Z20 BK318.out 1).trans rfl, (Z20 BK318.out 2).trans rfl, (Z20 BK318.out 3).trans rfl⟩ (fun hHeld => ?_)
        clear hK K
        refine norm_ (a' := ?_) ?_ ?_
        rotate_left
        ·show Act.put _ (some 47) _ = _
         simp only [Act.put, Z0, Z1, Z2, i64_w, i32_w]
         rfl
        refine Yp 4 (some 48) (YA 8 63) rfl HT_.out ?_
        refine one_ (i := 6) (N := none) (YA 8 127) rfl rfl (one_of HT_.out (by kernel_rfl)) (by decide) (fun K hK => ?_)
        have hs79 : w77.cell? ⟨gb304, 0, none⟩ = some (.slice none 0 0) := (Z20 BK304.out 0).trans rfl
        have hfs79 := Z21 BK304.out 0
        have hns79_0 := NB303_304.out
        have hns79_2 := NB318_304.out
        have hms79_0 := NB304_303.out
        have hms79_2 := NB304_318.out
        have hs80 : w77.cell? ⟨gb304, 1, none⟩ = some (.slice none 0 0) := (Z20 BK304.out 1).trans rfl
        have hfs80 := Z21 BK304.out 1
        have hns80_0 := NB303_304.out
        have hns80_2 := NB318_304.out
        have hms80_0 := NB304_303.out
        have hms80_2 := NB304_318.out
        have hs81 : w77.cell? ⟨gb304, 2, none⟩ = some (.slice none 0 0) := (Z20 BK304.out 2).trans rfl
        have hfs81 := Z21 BK304.out 2
        have hns81_0 := NB303_304.out
        have hns81_2 := NB318_304.out
        have hms81_0 := NB304_303.out
        have hms81_2 := NB304_318.out
        have hs82 : w77.cell? ⟨gb304, 3, none⟩ = some (.slice none 0 0) := (Z20 BK304.out 3).trans rfl
        have hfs82 := Z21 BK304.out 3
        have hns82_0 := NB303_304.out
        have hns82_2 := NB318_304.out
        have hms82_0 := NB304_303.out
        have hms82_2 := NB304_318.out
        have hs83 : w77.cell? ⟨gb304, 4, none⟩ = some (.slice none 0 0) := (Z20 BK304.out 4).trans rfl
        have hfs83 := Z21 BK304.out 4
        have hns83_0 := NB303_304.out
        have hns83_2 := NB318_304.out
        have hms83_0 := NB304_303.out
        have hms83_2 := NB304_318.out
        have hs84 : w77.cell? ⟨gb304, 5, none⟩ = some (.slice none 0 0) := (Z20 BK304.out 5).trans rfl
        have hfs84 := Z21 BK304.out 5
        have hns84_0 := NB303_304.out
        have hns84_2 := NB318_304.out
        have hms84_0 := NB304_303.out
        have hms84_2 := NB304_318.out
        refine skip_ (w1 := ?_) (by rfl) rfl ?_ ?_
        rotate_left
        ·go_simp
         rfl
        refine hK.out _ _ ⟨((cell_far (p := ⟨gb304, _, none⟩) NB318_304.out _).trans (((cell_far (p := ⟨gb304, _, none⟩) NB318_304.out _).trans (((cell_far (p := ⟨gb304, _, none⟩) NB318_304.out _).trans (((cell_far (p := ⟨gb304, _, none⟩) NB318_304.out _).trans (((cell_far (p := ⟨gb304, _, none⟩) NB318_304.out _).trans (((cell_far (p := ⟨gb304, _, none⟩) NB318_304.out _).trans (hHeld.1)))))))))))), ((cell_far (p := ⟨gb304, _, none⟩) NB318_304.out _).trans (((cell_far (p := ⟨gb304, _, none⟩) NB318_304.out _).trans (((cell_far (p := ⟨gb304, _, none⟩) NB318_304.out _).trans (((cell_far (p := ⟨gb304, _, none⟩) NB318_304.out _).trans (((cell_far (p := ⟨gb304, _, none⟩) NB318_304.out _).trans (((cell_far (p := ⟨gb304, _, none⟩) NB318_304.out _).trans (hHeld.2.1)))))))))))), ((cell_far (p := ⟨gb304, _, none⟩) NB318_304.out _).trans (((cell_far (p := ⟨gb304, _, none⟩) NB318_304.out _).trans (((cell_far (p := ⟨gb304, _, none⟩) NB318_304.out _).trans (((cell_far (p := ⟨gb304, _, none⟩) NB318_304.out _).trans (((cell_far (p := ⟨gb304, _, none⟩) NB318_304.out _).trans (((cell_far (p := ⟨gb304, _, none⟩) NB318_304.out _).trans (hHeld.2.2.1)))))))))))), ((cell_far (p := ⟨gb304, _, none⟩) NB318_304.out _).trans (((cell_far (p := ⟨gb304, _, none⟩) NB318_304.out _).trans (((cell_far (p := ⟨gb304, _, none⟩) NB318_304.out _).trans (((cell_far (p := ⟨gb304, _, none⟩) NB318_304.out _).trans (((cell_far (p := ⟨gb304, _, none⟩) NB318_304.out _).trans (((cell_far (p := ⟨gb304, _, none⟩) NB318_304.out _).trans (hHeld.2.2.2))))))))))))⟩ (fun hHeld => ?_)
        clear hK K
        refine Yp 7 (some 3) (YA 8 255) rfl HT_.out ?_
        refine done_ (done_of HT_.out (by kernel_rfl)) ?_
        try go_wp2
        refine bodyPost_ret (results_ct rfl _ _ gb304 35 #[.slice Ao63 t305.length co63, .slice (some ad320) t308.length co67, .slice Ao68 t311.length co68, .slice Ao69 t314.length co69, .slice Ao76 t328.length co76, .slice Ao78 t331.length co78] (0, 0) _ rfl (Yk (Yv6 BK304.out)) Try.underlying35 rfl (by kernel_rfl)) rfl ?_
        exact ⟨_, _, _, _, _, _, Q63, Q62, Q61, Q87, Q60, by (with_reducible repeat (first | apply Z8 | apply Z9 | apply Z10)); exact Z11 (Yf6 HO330.out BK304.out) (fun _ hk => ⟨hk.1.1.1.1.2, ⟨hk.1.1.1.2, ⟨hk.1.1.2, hk.1.2⟩⟩⟩), by (with_reducible repeat (first | apply Z8 | apply Z9 | apply Z10)); exact Z11 (Yf6 HO333.out BK304.out) (fun _ hk => ⟨hk.1.1.1.1.2, ⟨hk.1.1.1.2, ⟨hk.1.1.2, hk.1.2⟩⟩⟩), Q12⟩
      ·rw [if_neg c23] at H
       exact absurd H (by simp)
     ·rw [if_neg c22] at H
      exact absurd H (by simp)
    ·rw [if_neg c21] at H
     exact absurd H (by simp)
   ·rw [if_neg c20] at H
    exact absurd H (by simp)
  ·rw [if_neg c19] at H
   exact absurd H (by simp)
end Go.Proofs.Ytpfakdhfffehaaa.MFnExactSwapperRank
