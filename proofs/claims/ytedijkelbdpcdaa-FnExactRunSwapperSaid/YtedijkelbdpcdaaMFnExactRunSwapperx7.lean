import Derived.Test.YtedijkelbdpcdaaMFnExactRunSwapperx0
import Derived.Test.YtedijkelbdpcdaaMFnExactRunSwapperx4
import Derived.Test.YtedijkelbdpcdaaMFnExactRunSwapperx5
import Derived.Test.YtedijkelbdpcdaaMFnExactRunSwapperx6
namespace Go.Proofs.Ytedijkelbdpcdaa.MFnExactRunSwapper
open Go.RowKit Go.Proofs.YtedijkelbdpcdaaW.PrintWords Go.Proofs.YtedijkelbdpcdaaW.PrintLast Go.Proofs.YtedijkelbdpcdaaW.PrintMore
attribute [local go_sem] max2_int min2_int max_two min_two max_three min_three max_four min_four   
set_option linter.unusedVariables false
set_option linter.unusedSimpArgs false
def spec_foSwap.f (k : Nat) (l0_0 : List Int) (l0_1 : List Int) (l0_2 : List Bool) (l0_3 : List Int) (l0_4 : List Int) (l0_5 : List Int) : Option (List Int × List Int × List Bool × List Int × List Int × List Int × Int) := (spec_foStep.f l0_0 l0_1 l0_2 l0_3).bind fun bt183 => (if bt183.2.2.2.2 < 0 then (some (([] : List Int), ([] : List Int), ([] : List Bool), ([] : List Int), ([] : List Int), ([] : List Int), (-1))) else (if 0 ≤ (wrap64 (bt183.2.2.2.2 + 1)) then (if (wrap64 (bt183.2.2.2.2 + 1)) < (l0_5.length : Int) then (if 0 ≤ bt183.2.2.2.2 then (if bt183.2.2.2.2 < (bt183.2.1.length : Int) then (if bt183.2.2.2.2 < (l0_1.length : Int) then (if (rd bt183.2.1 bt183.2.2.2.2) > (rd l0_1 bt183.2.2.2.2) then ((spec_moApply.f k l0_4 0 (wrap64 ((rd l0_5 (wrap64 (bt183.2.2.2.2 + 1))) - 1)) (wrap64 ((wrap64 ((rd l0_5 (wrap64 (bt183.2.2.2.2 + 1))) - 1)) + 1))).bind fun t200 => ((spec_raInverse.f k t200).bind fun t203 => (some (bt183.1, bt183.2.1, bt183.2.2.1, bt183.2.2.2.1, t200, t203, wrap64 ((rd l0_5 (wrap64 (bt183.2.2.2.2 + 1))) - 1))))) else ((spec_moApply.f k l0_4 0 (rd l0_5 (wrap64 (bt183.2.2.2.2 + 1))) (wrap64 ((rd l0_5 (wrap64 (bt183.2.2.2.2 + 1))) + 1))).bind fun t206 => ((spec_raInverse.f k t206).bind fun t209 => (some (bt183.1, bt183.2.1, bt183.2.2.1, bt183.2.2.2.1, t206, t209, rd l0_5 (wrap64 (bt183.2.2.2.2 + 1))))))) else (none)) else (none)) else (none)) else (none)) else (none)))
theorem spec_foSwap.mono : ∀ a0 a1 a2 a3 a4 a5 k, LeO (spec_foSwap.f k a0 a1 a2 a3 a4 a5) (spec_foSwap.f (k + 1) a0 a1 a2 a3 a4 a5) := by
 intro a0 a1 a2 a3 a4 a5 k
 unfold spec_foSwap.f
 repeat' first
   | (with_reducible exact spec_moApply.mono _ _ _ _ _)
   | (with_reducible exact spec_raInverse.mono _ _)
   | (with_reducible exact LeO.refl _)
   | (with_reducible exact LeO.none _)
   | (with_reducible refine LeO.ite ?_ ?_)
   | (with_reducible refine LeO.bind ?_ (fun _ => ?_))
   | exact spec_moApply.mono _ _ _ _ _
   | exact spec_raInverse.mono _ _
   | exact LeO.none _
   | refine LeO.ite ?_ ?_
   | refine LeO.bind ?_ (fun _ => ?_)
def spec_foSwap.T5 : Bool × List (List Nat × List Nat) := (true, [([], []), ([0], [0]), ([], []), ([1, 2], [1, 2]), ([3], [3]), ([], []), ([5], [5]), ([6], [6]), ([], []), ([7, 8], [7, 8]), ([9], [9]), ([4, 10], [4, 10])])
def spec_foSwap.B5 : List Nat := [0, 1, 0, 7, 15, 0, 32, 96, 0, 480, 992, 2047]
theorem spec_foSwap.tab5 : rtab .any (opsOf Try.f63 5) = spec_foSwap.T5 := by kernel_rfl
theorem spec_foSwap.bits5 : waitsOk spec_foSwap.T5.2 spec_foSwap.B5 = true := by kernel_rfl
def spec_foSwap.T8 : Bool × List (List Nat × List Nat) := (true, [([], []), ([], []), ([], []), ([2], [2]), ([0, 1, 3], [0, 1, 3]), ([], []), ([4, 3, 0, 1, 2, 3, 4], [4]), ([5, 6, 0, 1, 2, 3, 4, 5, 6], [5])])
def spec_foSwap.B8 : List Nat := [0, 0, 0, 4, 15, 0, 31, 127]
theorem spec_foSwap.tab8 : rtab .any (opsOf Try.f63 8) = spec_foSwap.T8 := by kernel_rfl
theorem spec_foSwap.bits8 : waitsOk spec_foSwap.T8.2 spec_foSwap.B8 = true := by kernel_rfl
set_option maxHeartbeats 8000000 in
set_option maxRecDepth 100000 in
theorem spec_foSwap.calls (k : Nat) (A0_0 : Option Addr) (c0_0 : Nat) (l0_0 : List Int) (A0_1 : Option Addr) (c0_1 : Nat) (l0_1 : List Int) (A0_2 : Option Addr) (c0_2 : Nat) (l0_2 : List Bool) (A0_3 : Option Addr) (c0_3 : Nat) (l0_3 : List Int) (A0_4 : Option Addr) (c0_4 : Nat) (l0_4 : List Int) (A0_5 : Option Addr) (c0_5 : Nat) (l0_5 : List Int) (r1 : List Int) (r2 : List Int) (r3 : List Bool) (r4 : List Int) (r5 : List Int) (r6 : List Int) (r7 : Int) (w : World) (hr0_0 : Kd.C (Kd.int .i64) w A0_0 l0_0.length l0_0) (hc0_0 : l0_0.length ≤ c0_0) (hr0_1 : Kd.C (Kd.int .i64) w A0_1 l0_1.length l0_1) (hc0_1 : l0_1.length ≤ c0_1) (hr0_2 : Kd.C Kd.bool w A0_2 l0_2.length l0_2) (hc0_2 : l0_2.length ≤ c0_2) (hr0_3 : Kd.C (Kd.int .i64) w A0_3 l0_3.length l0_3) (hc0_3 : l0_3.length ≤ c0_3) (hr0_4 : Kd.C (Kd.int .i64) w A0_4 l0_4.length l0_4) (hc0_4 : l0_4.length ≤ c0_4) (hr0_5 : Kd.C (Kd.int .i64) w A0_5 l0_5.length l0_5) (hc0_5 : l0_5.length ≤ c0_5) (h : spec_foSwap.f k l0_0 l0_1 l0_2 l0_3 l0_4 l0_5 = some (r1, r2, r3, r4, r5, r6, r7)) :
  Calls Try.prog 63 #[.agg #[.slice A0_0 l0_0.length c0_0, .slice A0_1 l0_1.length c0_1, .slice A0_2 l0_2.length c0_2, .slice A0_3 l0_3.length c0_3, .slice A0_4 l0_4.length c0_4, .slice A0_5 l0_5.length c0_5]] w fun e w' => ∃ v0_ v1_ v2_ v3_ v4_ v5_ : Value, e = .returned (.tuple #[.agg #[v0_, v1_, v2_, v3_, v4_, v5_], .int .i64 r7]) ∧ Kd.R (Kd.int .i64) 3 w' w.heap.size (fun k_ => some k_ ≠ (v1_ : Value).ownBlock ∧ some k_ ≠ (v3_ : Value).ownBlock ∧ some k_ ≠ (v4_ : Value).ownBlock ∧ some k_ ≠ (v5_ : Value).ownBlock) v0_ r1 ∧ Kd.R (Kd.int .i64) 3 w' w.heap.size (fun k_ => some k_ ≠ (v0_ : Value).ownBlock ∧ some k_ ≠ (v3_ : Value).ownBlock ∧ some k_ ≠ (v4_ : Value).ownBlock ∧ some k_ ≠ (v5_ : Value).ownBlock) v1_ r2 ∧ Kd.R Kd.bool 4 w' w.heap.size (fun _ => True) v2_ r3 ∧ Kd.R (Kd.int .i64) 3 w' w.heap.size (fun k_ => some k_ ≠ (v0_ : Value).ownBlock ∧ some k_ ≠ (v1_ : Value).ownBlock ∧ some k_ ≠ (v4_ : Value).ownBlock ∧ some k_ ≠ (v5_ : Value).ownBlock) v3_ r4 ∧ Kd.R (Kd.int .i64) 3 w' w.heap.size (fun k_ => some k_ ≠ (v0_ : Value).ownBlock ∧ some k_ ≠ (v1_ : Value).ownBlock ∧ some k_ ≠ (v3_ : Value).ownBlock ∧ some k_ ≠ (v5_ : Value).ownBlock) v4_ r5 ∧ Kd.R (Kd.int .i64) 3 w' w.heap.size (fun k_ => some k_ ≠ (v0_ : Value).ownBlock ∧ some k_ ≠ (v1_ : Value).ownBlock ∧ some k_ ≠ (v3_ : Value).ownBlock ∧ some k_ ≠ (v4_ : Value).ownBlock) v5_ r6 ∧ Below w.heap.size w w' := by
 have hu39 := Try.underlying39
 have hu29 := Try.underlying29
 have hu89 := Try.underlying89
 have HR0_0 := Aside0.mk hr0_0
 have HC0_0 := Aside0.mk hc0_0
 clear hr0_0 hc0_0
 have HR0_1 := Aside0.mk hr0_1
 have HC0_1 := Aside0.mk hc0_1
 clear hr0_1 hc0_1
 have HR0_2 := Aside0.mk hr0_2
 have HC0_2 := Aside0.mk hc0_2
 clear hr0_2 hc0_2
 have HR0_3 := Aside0.mk hr0_3
 have HC0_3 := Aside0.mk hc0_3
 clear hr0_3 hc0_3
 have HR0_4 := Aside0.mk hr0_4
 have HC0_4 := Aside0.mk hc0_4
 clear hr0_4 hc0_4
 have HR0_5 := Aside0.mk hr0_5
 have HC0_5 := Aside0.mk hc0_5
 clear hr0_5 hc0_5
 have HB := Aside0.mk (Below.refl w.heap.size w)
 have H : ((spec_foStep.f l0_0 l0_1 l0_2 l0_3).bind fun bt183 => (if bt183.2.2.2.2 < 0 then (some (([] : List Int), ([] : List Int), ([] : List Bool), ([] : List Int), ([] : List Int), ([] : List Int), (-1))) else (if 0 ≤ (wrap64 (bt183.2.2.2.2 + 1)) then (if (wrap64 (bt183.2.2.2.2 + 1)) < (l0_5.length : Int) then (if 0 ≤ bt183.2.2.2.2 then (if bt183.2.2.2.2 < (bt183.2.1.length : Int) then (if bt183.2.2.2.2 < (l0_1.length : Int) then (if (rd bt183.2.1 bt183.2.2.2.2) > (rd l0_1 bt183.2.2.2.2) then ((spec_moApply.f k l0_4 0 (wrap64 ((rd l0_5 (wrap64 (bt183.2.2.2.2 + 1))) - 1)) (wrap64 ((wrap64 ((rd l0_5 (wrap64 (bt183.2.2.2.2 + 1))) - 1)) + 1))).bind fun t200 => ((spec_raInverse.f k t200).bind fun t203 => (some (bt183.1, bt183.2.1, bt183.2.2.1, bt183.2.2.2.1, t200, t203, wrap64 ((rd l0_5 (wrap64 (bt183.2.2.2.2 + 1))) - 1))))) else ((spec_moApply.f k l0_4 0 (rd l0_5 (wrap64 (bt183.2.2.2.2 + 1))) (wrap64 ((rd l0_5 (wrap64 (bt183.2.2.2.2 + 1))) + 1))).bind fun t206 => ((spec_raInverse.f k t206).bind fun t209 => (some (bt183.1, bt183.2.1, bt183.2.2.1, bt183.2.2.2.1, t206, t209, rd l0_5 (wrap64 (bt183.2.2.2.2 + 1))))))) else (none)) else (none)) else (none)) else (none)) else (none)))) = some (r1, r2, r3, r4, r5, r6, r7) := h
 clear h
 replace H := Z37.mp H
 obtain ⟨⟨t183, t186, t189, t192, t195⟩, A20, H⟩ := H
 replace H : (if t195 < 0 then (some (([] : List Int), ([] : List Int), ([] : List Bool), ([] : List Int), ([] : List Int), ([] : List Int), (-1))) else (if 0 ≤ (wrap64 (t195 + 1)) then (if (wrap64 (t195 + 1)) < (l0_5.length : Int) then (if 0 ≤ t195 then (if t195 < (t186.length : Int) then (if t195 < (l0_1.length : Int) then (if (rd t186 t195) > (rd l0_1 t195) then ((spec_moApply.f k l0_4 0 (wrap64 ((rd l0_5 (wrap64 (t195 + 1))) - 1)) (wrap64 ((wrap64 ((rd l0_5 (wrap64 (t195 + 1))) - 1)) + 1))).bind fun t200 => ((spec_raInverse.f k t200).bind fun t203 => (some (t183, t186, t189, t192, t200, t203, wrap64 ((rd l0_5 (wrap64 (t195 + 1))) - 1))))) else ((spec_moApply.f k l0_4 0 (rd l0_5 (wrap64 (t195 + 1))) (wrap64 ((rd l0_5 (wrap64 (t195 + 1))) + 1))).bind fun t206 => ((spec_raInverse.f k t206).bind fun t209 => (some (t183, t186, t189, t192, t206, t209, rd l0_5 (wrap64 (t195 + 1))))))) else (none)) else (none)) else (none)) else (none)) else (none))) = some (r1, r2, r3, r4, r5, r6, r7) := H
 have A2 := Aside0.mk A20
 clear A20
 by_cases c3 : t195 < 0
 ·rw [if_pos c3] at H
  have c3b0 : decide (t195 < 0) = true := Z39 c3
  clear c3
  simp only [Option.some.injEq, Prod.mk.injEq] at H
  obtain ⟨rfl, rfl, rfl, rfl, rfl, rfl, rfl⟩ := H
  go_enter Try.func63, Try.ntmps63
  go_wp2_with (first | ((with_reducible refine gate_dst (N := 1) rfl ?_); refine box_event ?hg (N := 1) ?hd (cs := #[.slice A0_0 l0_0.length c0_0, .slice A0_1 l0_1.length c0_1, .slice A0_2 l0_2.length c0_2, .slice A0_3 l0_3.length c0_3, .slice A0_4 l0_4.length c0_4, .slice A0_5 l0_5.length c0_5]) (t := 39) ?hr ?_; (case hd => rfl); (case hg => rfl); (case hr => first | (go_simp; done) | (go_simp; rfl)); intro gb181 hg w4 hbox hb; have n0_ := Aside0.mk (Z8 (by repeat (first | (with_reducible first | exact HB.out | apply Z5 | apply Z3 | apply Z4) | exact HB.out)) hb); have n1_ := Aside0.mk (hbox); have n2_ := Aside0.mk ((by rw [hg]; exact (Z7 (by repeat (first | (with_reducible first | exact HB.out | apply Z5 | apply Z3 | apply Z4) | exact HB.out))) : w.heap.size ≤ gb181)); have n3_ := Aside0.mk ((by rw [hg]; exact (Z7 (by repeat (first | (with_reducible first | exact HB.out | apply Z5 | apply Z3 | apply Z4) | exact HB.out))) : w.heap.size ≤ gb181)); clear HB; have HB := n0_; have BK181 := n1_; have GW181 := n2_; have GE181 := n3_; clear n0_ n1_ n2_ n3_; clear hb hbox hg) | ((with_reducible refine gate_dst (N := 2) rfl ?_); refine box_event ?hg (N := 2) ?hd (cs := #[.slice none 0 0, .slice none 0 0, .slice none 0 0, .slice none 0 0, .slice none 0 0, .slice none 0 0]) (t := 39) ?hr ?_; (case hd => rfl); (case hg => rfl); (case hr => first | (go_simp; done) | (go_simp; rfl)); intro gb182 hg w5 hbox hb; have n0_ := Aside0.mk (Z29 (g := gb181) (o := .cells #[.slice A0_0 l0_0.length c0_0, .slice A0_1 l0_1.length c0_1, .slice A0_2 l0_2.length c0_2, .slice A0_3 l0_3.length c0_3, .slice A0_4 l0_4.length c0_4, .slice A0_5 l0_5.length c0_5] 39 (0, 0)) (by (with_reducible repeat (first | refine Z26 ?_ _ | refine Z27 ?_ | refine Z28 ?_ _)); exact BK181.out) hb); have n1_ := Aside0.mk (Z8 (by repeat (first | (with_reducible first | exact HB.out | apply Z5 | apply Z3 | apply Z4 | refine Z6 ?_ GE181.out) | exact HB.out)) hb); have n2_ := Aside0.mk (hbox); have n3_ := Aside0.mk ((by rw [hg]; exact (Z7 (by repeat (first | (with_reducible first | exact HB.out | apply Z5 | apply Z3 | apply Z4 | refine Z6 ?_ GE181.out) | exact HB.out))) : w.heap.size ≤ gb182)); have n4_ := Aside0.mk ((by rw [hg]; exact (Z7 (by repeat (first | (with_reducible first | exact HB.out | apply Z5 | apply Z3 | apply Z4 | refine Z6 ?_ GE181.out) | exact HB.out))) : w.heap.size ≤ gb182)); have n5_ := Aside0.mk ((by rw [hg]; exact Nat.ne_of_lt (blk_lt (g := gb181) (o := .cells #[.slice A0_0 l0_0.length c0_0, .slice A0_1 l0_1.length c0_1, .slice A0_2 l0_2.length c0_2, .slice A0_3 l0_3.length c0_3, .slice A0_4 l0_4.length c0_4, .slice A0_5 l0_5.length c0_5] 39 (0, 0)) (by (with_reducible repeat (first | refine Z26 ?_ _ | refine Z27 ?_ | refine Z28 ?_ _)); exact BK181.out)) : gb181 ≠ gb182)); have n6_ := Aside0.mk ((by rw [hg]; exact Nat.ne_of_gt (blk_lt (g := gb181) (o := .cells #[.slice A0_0 l0_0.length c0_0, .slice A0_1 l0_1.length c0_1, .slice A0_2 l0_2.length c0_2, .slice A0_3 l0_3.length c0_3, .slice A0_4 l0_4.length c0_4, .slice A0_5 l0_5.length c0_5] 39 (0, 0)) (by (with_reducible repeat (first | refine Z26 ?_ _ | refine Z27 ?_ | refine Z28 ?_ _)); exact BK181.out)) : gb182 ≠ gb181)); clear BK181; clear HB; have BK181 := n0_; have HB := n1_; have BK182 := n2_; have GW182 := n3_; have GE182 := n4_; have NB181_182 := n5_; have NB182_181 := n6_; clear n0_ n1_ n2_ n3_ n4_ n5_ n6_; clear hb hbox hg; have hnb6 := NB181_182.out; have hnc6 := NB182_181.out; have hcz7_0 : w5.cell? ⟨gb181, 0, none⟩ = some (.slice A0_0 l0_0.length c0_0) := (Z24 BK181.out 0).trans rfl; have hcz7_1 : w5.cell? ⟨gb181, 1, none⟩ = some (.slice A0_1 l0_1.length c0_1) := (Z24 BK181.out 1).trans rfl; have hcz7_2 : w5.cell? ⟨gb181, 2, none⟩ = some (.slice A0_2 l0_2.length c0_2) := (Z24 BK181.out 2).trans rfl; have hcz7_3 : w5.cell? ⟨gb181, 3, none⟩ = some (.slice A0_3 l0_3.length c0_3) := (Z24 BK181.out 3).trans rfl; have hcz7_4 : w5.cell? ⟨gb181, 4, none⟩ = some (.slice A0_4 l0_4.length c0_4) := (Z24 BK181.out 4).trans rfl; have hcz7_5 : w5.cell? ⟨gb181, 5, none⟩ = some (.slice A0_5 l0_5.length c0_5) := (Z24 BK181.out 5).trans rfl; have hfz7_0 := Z25 BK181.out 0; have hfz7_1 := Z25 BK181.out 1; have hfz7_2 := Z25 BK181.out 2; have hfz7_3 := Z25 BK181.out 3; have hfz7_4 := Z25 BK181.out 4; have hfz7_5 := Z25 BK181.out 5) | ((with_reducible refine gate_callee (f := 52) rfl ?_); refine goesL_ (some 11) rfl rfl Try.func52 (by kernel_rfl) rfl #[.agg #[.slice A0_0 l0_0.length c0_0, .slice A0_1 l0_1.length c0_1, .slice A0_2 l0_2.length c0_2, .slice A0_3 l0_3.length c0_3]] rfl (by (try simp only [Z34, Z35, Z36]); first | done | rfl | (simp only [Z32, Z33]; rfl)) ?_; (with_reducible refine (spec_foStep.calls _ _ l0_0 _ _ l0_1 _ _ l0_2 _ _ l0_3 t183 t186 t189 t192 t195 _ ?side1 ?side2 ?side3 ?side4 ?side5 ?side6 ?side7 ?side8 A2.out).mono ?_); (case side1 => repeat (first | exact (Z23 HR0_0.out HB.out) | (with_reducible refine Z20 ?_ _) | (with_reducible refine Z21 ?_ _) | (with_reducible refine Z22 ?_))); (case side2 => exact HC0_0.out); (case side3 => repeat (first | exact (Z23 HR0_1.out HB.out) | (with_reducible refine Z20 ?_ _) | (with_reducible refine Z21 ?_ _) | (with_reducible refine Z22 ?_))); (case side4 => exact HC0_1.out); (case side5 => repeat (first | exact (Z23 HR0_2.out HB.out) | (with_reducible refine Z20 ?_ _) | (with_reducible refine Z21 ?_ _) | (with_reducible refine Z22 ?_))); (case side6 => exact HC0_2.out); (case side7 => repeat (first | exact (Z23 HR0_3.out HB.out) | (with_reducible refine Z20 ?_ _) | (with_reducible refine Z21 ?_ _) | (with_reducible refine Z22 ?_))); (case side8 => exact HC0_3.out); rintro e w8 ⟨v184, v187, v190, v193, rfl, ho0, ho1, ho2, ho3, hb⟩; refine ⟨_, rfl, ?_⟩; have n0_ := Aside0.mk (Kd.R_lower ho0 (Z7 (by repeat (first | (with_reducible first | exact HB.out | apply Z5 | apply Z3 | apply Z4 | refine Z6 ?_ GE181.out | refine Z6 ?_ GE182.out) | exact HB.out)))); have n1_ := Aside0.mk (Kd.R_lower ho1 (Z7 (by repeat (first | (with_reducible first | exact HB.out | apply Z5 | apply Z3 | apply Z4 | refine Z6 ?_ GE181.out | refine Z6 ?_ GE182.out) | exact HB.out)))); have n2_ := Aside0.mk (Kd.R_lower ho2 (Z7 (by repeat (first | (with_reducible first | exact HB.out | apply Z5 | apply Z3 | apply Z4 | refine Z6 ?_ GE181.out | refine Z6 ?_ GE182.out) | exact HB.out)))); have n3_ := Aside0.mk (Kd.R_lower ho3 (Z7 (by repeat (first | (with_reducible first | exact HB.out | apply Z5 | apply Z3 | apply Z4 | refine Z6 ?_ GE181.out | refine Z6 ?_ GE182.out) | exact HB.out)))); have n4_ := Aside0.mk (Z29 (g := gb181) (o := .cells #[.slice A0_0 l0_0.length c0_0, .slice A0_1 l0_1.length c0_1, .slice A0_2 l0_2.length c0_2, .slice A0_3 l0_3.length c0_3, .slice A0_4 l0_4.length c0_4, .slice A0_5 l0_5.length c0_5] 39 (0, 0)) (by (with_reducible repeat (first | refine Z26 ?_ _ | refine Z27 ?_ | refine Z28 ?_ _)); exact BK181.out) hb); have n5_ := Aside0.mk (Z29 (g := gb182) (o := .cells #[.slice none 0 0, .slice none 0 0, .slice none 0 0, .slice none 0 0, .slice none 0 0, .slice none 0 0] 39 (0, 0)) (by (with_reducible repeat (first | refine Z26 ?_ _ | refine Z27 ?_ | refine Z28 ?_ _)); exact BK182.out) hb); have n6_ := Aside0.mk (Z8 (by repeat (first | (with_reducible first | exact HB.out | apply Z5 | apply Z3 | apply Z4 | refine Z6 ?_ GE181.out | refine Z6 ?_ GE182.out) | exact HB.out)) hb); clear BK181; clear BK182; clear HB; have HO185 := n0_; have HO188 := n1_; have HO191 := n2_; have HO194 := n3_; have BK181 := n4_; have BK182 := n5_; have HB := n6_; clear n0_ n1_ n2_ n3_ n4_ n5_ n6_; (try clear hb); (try clear hb2); (try clear hk); (try clear hi); (try clear ho0); (try clear ho1); (try clear ho2); (try clear ho3)) | ((with_reducible refine gate_dst (N := 4) rfl ?_); refine box_event ?hg (N := 4) ?hd (cs := #[.slice none 0 0, .slice none 0 0, .slice none 0 0, .slice none 0 0]) (t := 29) ?hr ?_; (case hd => rfl); (case hg => rfl); (case hr => first | (go_simp; done) | (go_simp; rfl)); intro gb196 hg w9 hbox hb; have n0_ := Aside0.mk (Z14 (by (with_reducible repeat (first | apply Z9 | apply Z10 | apply Z11)); exact HO185.out) hb); have n1_ := Aside0.mk (Z14 (by (with_reducible repeat (first | apply Z9 | apply Z10 | apply Z11)); exact HO188.out) hb); have n2_ := Aside0.mk (Z14 (by (with_reducible repeat (first | apply Z9 | apply Z10 | apply Z11)); exact HO191.out) hb); have n3_ := Aside0.mk (Z14 (by (with_reducible repeat (first | apply Z9 | apply Z10 | apply Z11)); exact HO194.out) hb); have n4_ := Aside0.mk (Z29 (g := gb181) (o := .cells #[.slice A0_0 l0_0.length c0_0, .slice A0_1 l0_1.length c0_1, .slice A0_2 l0_2.length c0_2, .slice A0_3 l0_3.length c0_3, .slice A0_4 l0_4.length c0_4, .slice A0_5 l0_5.length c0_5] 39 (0, 0)) (by (with_reducible repeat (first | refine Z26 ?_ _ | refine Z27 ?_ | refine Z28 ?_ _)); exact BK181.out) hb); have n5_ := Aside0.mk (Z29 (g := gb182) (o := .cells #[.slice none 0 0, .slice none 0 0, .slice none 0 0, .slice none 0 0, .slice none 0 0, .slice none 0 0] 39 (0, 0)) (by (with_reducible repeat (first | refine Z26 ?_ _ | refine Z27 ?_ | refine Z28 ?_ _)); exact BK182.out) hb); have n6_ := Aside0.mk (Z8 (by repeat (first | (with_reducible first | exact HB.out | apply Z5 | apply Z3 | apply Z4 | refine Z6 ?_ GE181.out | refine Z6 ?_ GE182.out) | exact HB.out)) hb); have n7_ := Aside0.mk (hbox); have n8_ := Aside0.mk ((by rw [hg]; exact (Z7 (by repeat (first | (with_reducible first | exact HB.out | apply Z5 | apply Z3 | apply Z4 | refine Z6 ?_ GE181.out | refine Z6 ?_ GE182.out) | exact HB.out))) : w.heap.size ≤ gb196)); have n9_ := Aside0.mk ((by rw [hg]; exact (Z7 (by repeat (first | (with_reducible first | exact HB.out | apply Z5 | apply Z3 | apply Z4 | refine Z6 ?_ GE181.out | refine Z6 ?_ GE182.out) | exact HB.out))) : w.heap.size ≤ gb196)); have n10_ := Aside0.mk ((by rw [hg]; exact Nat.ne_of_lt (blk_lt (g := gb181) (o := .cells #[.slice A0_0 l0_0.length c0_0, .slice A0_1 l0_1.length c0_1, .slice A0_2 l0_2.length c0_2, .slice A0_3 l0_3.length c0_3, .slice A0_4 l0_4.length c0_4, .slice A0_5 l0_5.length c0_5] 39 (0, 0)) (by (with_reducible repeat (first | refine Z26 ?_ _ | refine Z27 ?_ | refine Z28 ?_ _)); exact BK181.out)) : gb181 ≠ gb196)); have n11_ := Aside0.mk ((by rw [hg]; exact Nat.ne_of_gt (blk_lt (g := gb181) (o := .cells #[.slice A0_0 l0_0.length c0_0, .slice A0_1 l0_1.length c0_1, .slice A0_2 l0_2.length c0_2, .slice A0_3 l0_3.length c0_3, .slice A0_4 l0_4.length c0_4, .slice A0_5 l0_5.length c0_5] 39 (0, 0)) (by (with_reducible repeat (first | refine Z26 ?_ _ | refine Z27 ?_ | refine Z28 ?_ _)); exact BK181.out)) : gb196 ≠ gb181)); have n12_ := Aside0.mk ((by rw [hg]; exact Nat.ne_of_lt (blk_lt (g := gb182) (o := .cells #[.slice none 0 0, .slice none 0 0, .slice none 0 0, .slice none 0 0, .slice none 0 0, .slice none 0 0] 39 (0, 0)) (by (with_reducible repeat (first | refine Z26 ?_ _ | refine Z27 ?_ | refine Z28 ?_ _)); exact BK182.out)) : gb182 ≠ gb196)); have n13_ := Aside0.mk ((by rw [hg]; exact Nat.ne_of_gt (blk_lt (g := gb182) (o := .cells #[.slice none 0 0, .slice none 0 0, .slice none 0 0, .slice none 0 0, .slice none 0 0, .slice none 0 0] 39 (0, 0)) (by (with_reducible repeat (first | refine Z26 ?_ _ | refine Z27 ?_ | refine Z28 ?_ _)); exact BK182.out)) : gb196 ≠ gb182)); clear HO185; clear HO188; clear HO191; clear HO194; clear BK181; clear BK182; clear HB; have HO185 := n0_; have HO188 := n1_; have HO191 := n2_; have HO194 := n3_; have BK181 := n4_; have BK182 := n5_; have HB := n6_; have BK196 := n7_; have GW196 := n8_; have GE196 := n9_; have NB181_196 := n10_; have NB196_181 := n11_; have NB182_196 := n12_; have NB196_182 := n13_; clear n0_ n1_ n2_ n3_ n4_ n5_ n6_ n7_ n8_ n9_ n10_ n11_ n12_ n13_; clear hb hbox hg; obtain ⟨Ao10, co10, eo10⟩ := Z19 HO185.out; subst eo10; have hnb11 := NB196_181.out; have hnc11 := NB181_196.out; have hnb12 := NB196_182.out; have hnc12 := NB182_196.out; have hcz13_0 : w9.cell? ⟨gb196, 0, none⟩ = some (.slice none 0 0) := (Z24 BK196.out 0).trans rfl; have hcz13_1 : w9.cell? ⟨gb196, 1, none⟩ = some (.slice none 0 0) := (Z24 BK196.out 1).trans rfl; have hcz13_2 : w9.cell? ⟨gb196, 2, none⟩ = some (.slice none 0 0) := (Z24 BK196.out 2).trans rfl; have hcz13_3 : w9.cell? ⟨gb196, 3, none⟩ = some (.slice none 0 0) := (Z24 BK196.out 3).trans rfl; have hfz13_0 := Z25 BK196.out 0; have hfz13_1 := Z25 BK196.out 1; have hfz13_2 := Z25 BK196.out 2; have hfz13_3 := Z25 BK196.out 3; obtain ⟨Ao14, co14, eo14⟩ := Z19 HO188.out; subst eo14; obtain ⟨Ao15, co15, eo15⟩ := Z19 HO191.out; subst eo15; obtain ⟨Ao16, co16, eo16⟩ := Z19 HO194.out; subst eo16; have hcz17_0 : w9.cell? ⟨gb182, 0, none⟩ = some (.slice none 0 0) := (Z24 BK182.out 0).trans rfl; have hcz17_1 : w9.cell? ⟨gb182, 1, none⟩ = some (.slice none 0 0) := (Z24 BK182.out 1).trans rfl; have hcz17_2 : w9.cell? ⟨gb182, 2, none⟩ = some (.slice none 0 0) := (Z24 BK182.out 2).trans rfl; have hcz17_3 : w9.cell? ⟨gb182, 3, none⟩ = some (.slice none 0 0) := (Z24 BK182.out 3).trans rfl; have hcz17_4 : w9.cell? ⟨gb182, 4, none⟩ = some (.slice none 0 0) := (Z24 BK182.out 4).trans rfl; have hcz17_5 : w9.cell? ⟨gb182, 5, none⟩ = some (.slice none 0 0) := (Z24 BK182.out 5).trans rfl; have hfz17_0 := Z25 BK182.out 0; have hfz17_1 := Z25 BK182.out 1; have hfz17_2 := Z25 BK182.out 2; have hfz17_3 := Z25 BK182.out 3; have hfz17_4 := Z25 BK182.out 4; have hfz17_5 := Z25 BK182.out 5))
  refine bodyPost_ret (results_ct rfl _ _ gb182 39 #[.slice none 0 0, .slice none 0 0, .slice none 0 0, .slice none 0 0, .slice none 0 0, .slice none 0 0] (0, 0) _ rfl (by (with_reducible repeat (first | refine Z26 ?_ _ | refine Z27 ?_ | refine Z28 ?_ _)); refine Z30 (cs := #[.slice none 0 0, .slice none 0 0, .slice none 0 0, .slice none 0 0, .slice none 0 0, .slice none 0 0]) ?_ 5 _ rfl; (with_reducible repeat (first | refine Z26 ?_ _ | refine Z27 ?_ | refine Z28 ?_ _)); refine Z30 (cs := #[.slice none 0 0, .slice none 0 0, .slice none 0 0, .slice none 0 0, .slice none 0 0, .slice none 0 0]) ?_ 4 _ rfl; (with_reducible repeat (first | refine Z26 ?_ _ | refine Z27 ?_ | refine Z28 ?_ _)); refine Z30 (cs := #[.slice none 0 0, .slice none 0 0, .slice none 0 0, .slice none 0 0, .slice none 0 0, .slice none 0 0]) ?_ 3 _ rfl; (with_reducible repeat (first | refine Z26 ?_ _ | refine Z27 ?_ | refine Z28 ?_ _)); refine Z30 (cs := #[.slice none 0 0, .slice none 0 0, .slice none 0 0, .slice none 0 0, .slice none 0 0, .slice none 0 0]) ?_ 2 _ rfl; (with_reducible repeat (first | refine Z26 ?_ _ | refine Z27 ?_ | refine Z28 ?_ _)); refine Z30 (cs := #[.slice none 0 0, .slice none 0 0, .slice none 0 0, .slice none 0 0, .slice none 0 0, .slice none 0 0]) ?_ 1 _ rfl; (with_reducible repeat (first | refine Z26 ?_ _ | refine Z27 ?_ | refine Z28 ?_ _)); refine Z30 (cs := #[.slice none 0 0, .slice none 0 0, .slice none 0 0, .slice none 0 0, .slice none 0 0, .slice none 0 0]) ?_ 0 _ rfl; (with_reducible repeat (first | refine Z26 ?_ _ | refine Z27 ?_ | refine Z28 ?_ _)); refine blk_far ?_ NB182_196.out _; (with_reducible repeat (first | refine Z26 ?_ _ | refine Z27 ?_ | refine Z28 ?_ _)); refine blk_far ?_ NB182_196.out _; (with_reducible repeat (first | refine Z26 ?_ _ | refine Z27 ?_ | refine Z28 ?_ _)); refine blk_far ?_ NB182_196.out _; (with_reducible repeat (first | refine Z26 ?_ _ | refine Z27 ?_ | refine Z28 ?_ _)); refine blk_far ?_ NB182_196.out _; (with_reducible repeat (first | refine Z26 ?_ _ | refine Z27 ?_ | refine Z28 ?_ _)); exact BK182.out) Try.underlying39 rfl (by kernel_rfl)) rfl ?_
  exact ⟨_, _, _, _, _, _, by first | rfl | (simp [errW_none, errW_some] <;> rfl) | (simp [*, errW_none, errW_some] <;> rfl), by first | exact Kd.R_nil _ _ _ _ _ | exact Kd.N_nil _ _ _ _ _ | exact Kd.V_nil _ _ _ _ _ | exact Kd.Q_nil _ _ _ _ _ | exact Kd.S_nil _ _ _ _ _, by first | exact Kd.R_nil _ _ _ _ _ | exact Kd.N_nil _ _ _ _ _ | exact Kd.V_nil _ _ _ _ _ | exact Kd.Q_nil _ _ _ _ _ | exact Kd.S_nil _ _ _ _ _, by first | exact Kd.R_nil _ _ _ _ _ | exact Kd.N_nil _ _ _ _ _ | exact Kd.V_nil _ _ _ _ _ | exact Kd.Q_nil _ _ _ _ _ | exact Kd.S_nil _ _ _ _ _, by first | exact Kd.R_nil _ _ _ _ _ | exact Kd.N_nil _ _ _ _ _ | exact Kd.V_nil _ _ _ _ _ | exact Kd.Q_nil _ _ _ _ _ | exact Kd.S_nil _ _ _ _ _, by first | exact Kd.R_nil _ _ _ _ _ | exact Kd.N_nil _ _ _ _ _ | exact Kd.V_nil _ _ _ _ _ | exact Kd.Q_nil _ _ _ _ _ | exact Kd.S_nil _ _ _ _ _, by first | exact Kd.R_nil _ _ _ _ _ | exact Kd.N_nil _ _ _ _ _ | exact Kd.V_nil _ _ _ _ _ | exact Kd.Q_nil _ _ _ _ _ | exact Kd.S_nil _ _ _ _ _, by repeat (first | (with_reducible first | exact HB.out | apply Z5 | apply Z3 | apply Z4 | refine Z6 ?_ GE181.out | refine Z6 ?_ GE182.out | refine Z6 ?_ GE196.out) | exact HB.out)⟩
 ·rw [if_neg c3] at H
  have c3b0 : decide (t195 < 0) = false := Z38 c3
  clear c3
  obtain ⟨ji18, hji18⟩ : ∃ j_ : Int, (wrap64 (t195 + 1)) = j_ := ⟨_, rfl⟩
  replace H : (if 0 ≤ (ji18) then (if (ji18) < (l0_5.length : Int) then (if 0 ≤ t195 then (if t195 < (t186.length : Int) then (if t195 < (l0_1.length : Int) then (if (rd t186 t195) > (rd l0_1 t195) then ((spec_moApply.f k l0_4 0 (wrap64 ((rd l0_5 (ji18)) - 1)) (wrap64 ((wrap64 ((rd l0_5 (ji18)) - 1)) + 1))).bind fun t200 => ((spec_raInverse.f k t200).bind fun t203 => (some (t183, t186, t189, t192, t200, t203, wrap64 ((rd l0_5 (ji18)) - 1))))) else ((spec_moApply.f k l0_4 0 (rd l0_5 (ji18)) (wrap64 ((rd l0_5 (ji18)) + 1))).bind fun t206 => ((spec_raInverse.f k t206).bind fun t209 => (some (t183, t186, t189, t192, t206, t209, rd l0_5 (ji18)))))) else (none)) else (none)) else (none)) else (none)) else (none)) = some (r1, r2, r3, r4, r5, r6, r7) := by first | (rw [hji18] at H; exact H) | (simp only [hji18] at H ⊢; exact H)
  (try rw [hji18] at A2)
  have hji18w : (IntKind.i64.wrap (t195 + 1)) = ji18 := (i64_w _).trans hji18
  by_cases c19 : 0 ≤ (ji18)
  ·rw [if_pos c19] at H
   have c19b0 : decide (0 ≤ (ji18)) = true := Z39 c19
   clear c19
   by_cases c20 : (ji18) < (l0_5.length : Int)
   ·rw [if_pos c20] at H
    have c20b0 : decide ((ji18) < (l0_5.length : Int)) = true := Z39 c20
    clear c20
    by_cases c21 : 0 ≤ t195
    ·rw [if_pos c21] at H
     have c21b0 : decide (0 ≤ t195) = true := Z39 c21
     clear c21
     by_cases c22 : t195 < (t186.length : Int)
     ·rw [if_pos c22] at H
      have c22b0 : decide (t195 < (t186.length : Int)) = true := Z39 c22
      clear c22
      by_cases c23 : t195 < (l0_1.length : Int)
      ·rw [if_pos c23] at H
       have c23b0 : decide (t195 < (l0_1.length : Int)) = true := Z39 c23
       clear c23
       by_cases c24 : (rd t186 t195) > (rd l0_1 t195)
       ·rw [if_pos c24] at H
        have c24b0 : decide ((rd l0_1 t195) < (rd t186 t195)) = true := Z39 c24
        clear c24
        replace H := Z37.mp H
        obtain ⟨t200, A250, H⟩ := H
        replace H : ((spec_raInverse.f k t200).bind fun t203 => (some (t183, t186, t189, t192, t200, t203, wrap64 ((rd l0_5 (ji18)) - 1)))) = some (r1, r2, r3, r4, r5, r6, r7) := H
        have A25 := Aside0.mk A250
        clear A250
        replace H := Z37.mp H
        obtain ⟨t203, A260, H⟩ := H
        replace H : (some (t183, t186, t189, t192, t200, t203, wrap64 ((rd l0_5 (ji18)) - 1))) = some (r1, r2, r3, r4, r5, r6, r7) := H
        have A26 := Aside0.mk A260
        clear A260
        simp only [Option.some.injEq, Prod.mk.injEq] at H
        obtain ⟨rfl, rfl, rfl, rfl, rfl, rfl, rfl⟩ := H
        go_enter Try.func63, Try.ntmps63
        try go_wp2_with (first | ((with_reducible refine gate_dst (N := 1) rfl ?_); refine box_event ?hg (N := 1) ?hd (cs := #[.slice A0_0 l0_0.length c0_0, .slice A0_1 l0_1.length c0_1, .slice A0_2 l0_2.length c0_2, .slice A0_3 l0_3.length c0_3, .slice A0_4 l0_4.length c0_4, .slice A0_5 l0_5.length c0_5]) (t := 39) ?hr ?_; (case hd => rfl); (case hg => rfl); (case hr => first | (go_simp; done) | (go_simp; rfl)); intro gb181 hg w27 hbox hb; have n0_ := Aside0.mk (Z8 (by repeat (first | (with_reducible first | exact HB.out | apply Z5 | apply Z3 | apply Z4) | exact HB.out)) hb); have n1_ := Aside0.mk (hbox); have n2_ := Aside0.mk ((by rw [hg]; exact (Z7 (by repeat (first | (with_reducible first | exact HB.out | apply Z5 | apply Z3 | apply Z4) | exact HB.out))) : w.heap.size ≤ gb181)); have n3_ := Aside0.mk ((by rw [hg]; exact (Z7 (by repeat (first | (with_reducible first | exact HB.out | apply Z5 | apply Z3 | apply Z4) | exact HB.out))) : w.heap.size ≤ gb181)); clear HB; have HB := n0_; have BK181 := n1_; have GW181 := n2_; have GE181 := n3_; clear n0_ n1_ n2_ n3_; clear hb hbox hg) | ((with_reducible refine gate_dst (N := 2) rfl ?_); refine box_event ?hg (N := 2) ?hd (cs := #[.slice none 0 0, .slice none 0 0, .slice none 0 0, .slice none 0 0, .slice none 0 0, .slice none 0 0]) (t := 39) ?hr ?_; (case hd => rfl); (case hg => rfl); (case hr => first | (go_simp; done) | (go_simp; rfl)); intro gb182 hg w28 hbox hb; have n0_ := Aside0.mk (Z29 (g := gb181) (o := .cells #[.slice A0_0 l0_0.length c0_0, .slice A0_1 l0_1.length c0_1, .slice A0_2 l0_2.length c0_2, .slice A0_3 l0_3.length c0_3, .slice A0_4 l0_4.length c0_4, .slice A0_5 l0_5.length c0_5] 39 (0, 0)) (by (with_reducible repeat (first | refine Z26 ?_ _ | refine Z27 ?_ | refine Z28 ?_ _)); exact BK181.out) hb); have n1_ := Aside0.mk (Z8 (by repeat (first | (with_reducible first | exact HB.out | apply Z5 | apply Z3 | apply Z4 | refine Z6 ?_ GE181.out) | exact HB.out)) hb); have n2_ := Aside0.mk (hbox); have n3_ := Aside0.mk ((by rw [hg]; exact (Z7 (by repeat (first | (with_reducible first | exact HB.out | apply Z5 | apply Z3 | apply Z4 | refine Z6 ?_ GE181.out) | exact HB.out))) : w.heap.size ≤ gb182)); have n4_ := Aside0.mk ((by rw [hg]; exact (Z7 (by repeat (first | (with_reducible first | exact HB.out | apply Z5 | apply Z3 | apply Z4 | refine Z6 ?_ GE181.out) | exact HB.out))) : w.heap.size ≤ gb182)); have n5_ := Aside0.mk ((by rw [hg]; exact Nat.ne_of_lt (blk_lt (g := gb181) (o := .cells #[.slice A0_0 l0_0.length c0_0, .slice A0_1 l0_1.length c0_1, .slice A0_2 l0_2.length c0_2, .slice A0_3 l0_3.length c0_3, .slice A0_4 l0_4.length c0_4, .slice A0_5 l0_5.length c0_5] 39 (0, 0)) (by (with_reducible repeat (first | refine Z26 ?_ _ | refine Z27 ?_ | refine Z28 ?_ _)); exact BK181.out)) : gb181 ≠ gb182)); have n6_ := Aside0.mk ((by rw [hg]; exact Nat.ne_of_gt (blk_lt (g := gb181) (o := .cells #[.slice A0_0 l0_0.length c0_0, .slice A0_1 l0_1.length c0_1, .slice A0_2 l0_2.length c0_2, .slice A0_3 l0_3.length c0_3, .slice A0_4 l0_4.length c0_4, .slice A0_5 l0_5.length c0_5] 39 (0, 0)) (by (with_reducible repeat (first | refine Z26 ?_ _ | refine Z27 ?_ | refine Z28 ?_ _)); exact BK181.out)) : gb182 ≠ gb181)); clear BK181; clear HB; have BK181 := n0_; have HB := n1_; have BK182 := n2_; have GW182 := n3_; have GE182 := n4_; have NB181_182 := n5_; have NB182_181 := n6_; clear n0_ n1_ n2_ n3_ n4_ n5_ n6_; clear hb hbox hg; have hnb29 := NB181_182.out; have hnc29 := NB182_181.out; have hcz30_0 : w28.cell? ⟨gb181, 0, none⟩ = some (.slice A0_0 l0_0.length c0_0) := (Z24 BK181.out 0).trans rfl; have hcz30_1 : w28.cell? ⟨gb181, 1, none⟩ = some (.slice A0_1 l0_1.length c0_1) := (Z24 BK181.out 1).trans rfl; have hcz30_2 : w28.cell? ⟨gb181, 2, none⟩ = some (.slice A0_2 l0_2.length c0_2) := (Z24 BK181.out 2).trans rfl; have hcz30_3 : w28.cell? ⟨gb181, 3, none⟩ = some (.slice A0_3 l0_3.length c0_3) := (Z24 BK181.out 3).trans rfl; have hcz30_4 : w28.cell? ⟨gb181, 4, none⟩ = some (.slice A0_4 l0_4.length c0_4) := (Z24 BK181.out 4).trans rfl; have hcz30_5 : w28.cell? ⟨gb181, 5, none⟩ = some (.slice A0_5 l0_5.length c0_5) := (Z24 BK181.out 5).trans rfl; have hfz30_0 := Z25 BK181.out 0; have hfz30_1 := Z25 BK181.out 1; have hfz30_2 := Z25 BK181.out 2; have hfz30_3 := Z25 BK181.out 3; have hfz30_4 := Z25 BK181.out 4; have hfz30_5 := Z25 BK181.out 5) | ((with_reducible refine gate_callee (f := 52) rfl ?_); refine goesL_ (some 11) rfl rfl Try.func52 (by kernel_rfl) rfl #[.agg #[.slice A0_0 l0_0.length c0_0, .slice A0_1 l0_1.length c0_1, .slice A0_2 l0_2.length c0_2, .slice A0_3 l0_3.length c0_3]] rfl (by (try simp only [Z34, Z35, Z36]); first | done | rfl | (simp only [Z32, Z33]; rfl)) ?_; (with_reducible refine (spec_foStep.calls _ _ l0_0 _ _ l0_1 _ _ l0_2 _ _ l0_3 t183 t186 t189 t192 t195 _ ?side1 ?side2 ?side3 ?side4 ?side5 ?side6 ?side7 ?side8 A2.out).mono ?_); (case side1 => repeat (first | exact (Z23 HR0_0.out HB.out) | (with_reducible refine Z20 ?_ _) | (with_reducible refine Z21 ?_ _) | (with_reducible refine Z22 ?_))); (case side2 => exact HC0_0.out); (case side3 => repeat (first | exact (Z23 HR0_1.out HB.out) | (with_reducible refine Z20 ?_ _) | (with_reducible refine Z21 ?_ _) | (with_reducible refine Z22 ?_))); (case side4 => exact HC0_1.out); (case side5 => repeat (first | exact (Z23 HR0_2.out HB.out) | (with_reducible refine Z20 ?_ _) | (with_reducible refine Z21 ?_ _) | (with_reducible refine Z22 ?_))); (case side6 => exact HC0_2.out); (case side7 => repeat (first | exact (Z23 HR0_3.out HB.out) | (with_reducible refine Z20 ?_ _) | (with_reducible refine Z21 ?_ _) | (with_reducible refine Z22 ?_))); (case side8 => exact HC0_3.out); rintro e w31 ⟨v184, v187, v190, v193, rfl, ho0, ho1, ho2, ho3, hb⟩; refine ⟨_, rfl, ?_⟩; have n0_ := Aside0.mk (Kd.R_lower ho0 (Z7 (by repeat (first | (with_reducible first | exact HB.out | apply Z5 | apply Z3 | apply Z4 | refine Z6 ?_ GE181.out | refine Z6 ?_ GE182.out) | exact HB.out)))); have n1_ := Aside0.mk (Kd.R_lower ho1 (Z7 (by repeat (first | (with_reducible first | exact HB.out | apply Z5 | apply Z3 | apply Z4 | refine Z6 ?_ GE181.out | refine Z6 ?_ GE182.out) | exact HB.out)))); have n2_ := Aside0.mk (Kd.R_lower ho2 (Z7 (by repeat (first | (with_reducible first | exact HB.out | apply Z5 | apply Z3 | apply Z4 | refine Z6 ?_ GE181.out | refine Z6 ?_ GE182.out) | exact HB.out)))); have n3_ := Aside0.mk (Kd.R_lower ho3 (Z7 (by repeat (first | (with_reducible first | exact HB.out | apply Z5 | apply Z3 | apply Z4 | refine Z6 ?_ GE181.out | refine Z6 ?_ GE182.out) | exact HB.out)))); have n4_ := Aside0.mk (Z29 (g := gb181) (o := .cells #[.slice A0_0 l0_0.length c0_0, .slice A0_1 l0_1.length c0_1, .slice A0_2 l0_2.length c0_2, .slice A0_3 l0_3.length c0_3, .slice A0_4 l0_4.length c0_4, .slice A0_5 l0_5.length c0_5] 39 (0, 0)) (by (with_reducible repeat (first | refine Z26 ?_ _ | refine Z27 ?_ | refine Z28 ?_ _)); exact BK181.out) hb); have n5_ := Aside0.mk (Z29 (g := gb182) (o := .cells #[.slice none 0 0, .slice none 0 0, .slice none 0 0, .slice none 0 0, .slice none 0 0, .slice none 0 0] 39 (0, 0)) (by (with_reducible repeat (first | refine Z26 ?_ _ | refine Z27 ?_ | refine Z28 ?_ _)); exact BK182.out) hb); have n6_ := Aside0.mk (Z8 (by repeat (first | (with_reducible first | exact HB.out | apply Z5 | apply Z3 | apply Z4 | refine Z6 ?_ GE181.out | refine Z6 ?_ GE182.out) | exact HB.out)) hb); clear BK181; clear BK182; clear HB; have HO185 := n0_; have HO188 := n1_; have HO191 := n2_; have HO194 := n3_; have BK181 := n4_; have BK182 := n5_; have HB := n6_; clear n0_ n1_ n2_ n3_ n4_ n5_ n6_; (try clear hb); (try clear hb2); (try clear hk); (try clear hi); (try clear ho0); (try clear ho1); (try clear ho2); (try clear ho3)) | ((with_reducible refine gate_dst (N := 4) rfl ?_); refine box_event ?hg (N := 4) ?hd (cs := #[.slice none 0 0, .slice none 0 0, .slice none 0 0, .slice none 0 0]) (t := 29) ?hr ?_; (case hd => rfl); (case hg => rfl); (case hr => first | (go_simp; done) | (go_simp; rfl)); intro gb196 hg w32 hbox hb; have n0_ := Aside0.mk (Z14 (by (with_reducible repeat (first | apply Z9 | apply Z10 | apply Z11)); exact HO185.out) hb); have n1_ := Aside0.mk (Z14 (by (with_reducible repeat (first | apply Z9 | apply Z10 | apply Z11)); exact HO188.out) hb); have n2_ := Aside0.mk (Z14 (by (with_reducible repeat (first | apply Z9 | apply Z10 | apply Z11)); exact HO191.out) hb); have n3_ := Aside0.mk (Z14 (by (with_reducible repeat (first | apply Z9 | apply Z10 | apply Z11)); exact HO194.out) hb); have n4_ := Aside0.mk (Z29 (g := gb181) (o := .cells #[.slice A0_0 l0_0.length c0_0, .slice A0_1 l0_1.length c0_1, .slice A0_2 l0_2.length c0_2, .slice A0_3 l0_3.length c0_3, .slice A0_4 l0_4.length c0_4, .slice A0_5 l0_5.length c0_5] 39 (0, 0)) (by (with_reducible repeat (first | refine Z26 ?_ _ | refine Z27 ?_ | refine Z28 ?_ _)); exact BK181.out) hb); have n5_ := Aside0.mk (Z29 (g := gb182) (o := .cells #[.slice none 0 0, .slice none 0 0, .slice none 0 0, .slice none 0 0, .slice none 0 0, .slice none 0 0] 39 (0, 0)) (by (with_reducible repeat (first | refine Z26 ?_ _ | refine Z27 ?_ | refine Z28 ?_ _)); exact BK182.out) hb); have n6_ := Aside0.mk (Z8 (by repeat (first | (with_reducible first | exact HB.out | apply Z5 | apply Z3 | apply Z4 | refine Z6 ?_ GE181.out | refine Z6 ?_ GE182.out) | exact HB.out)) hb); have n7_ := Aside0.mk (hbox); have n8_ := Aside0.mk ((by rw [hg]; exact (Z7 (by repeat (first | (with_reducible first | exact HB.out | apply Z5 | apply Z3 | apply Z4 | refine Z6 ?_ GE181.out | refine Z6 ?_ GE182.out) | exact HB.out))) : w.heap.size ≤ gb196)); have n9_ := Aside0.mk ((by rw [hg]; exact (Z7 (by repeat (first | (with_reducible first | exact HB.out | apply Z5 | apply Z3 | apply Z4 | refine Z6 ?_ GE181.out | refine Z6 ?_ GE182.out) | exact HB.out))) : w.heap.size ≤ gb196)); have n10_ := Aside0.mk ((by rw [hg]; exact Nat.ne_of_lt (blk_lt (g := gb181) (o := .cells #[.slice A0_0 l0_0.length c0_0, .slice A0_1 l0_1.length c0_1, .slice A0_2 l0_2.length c0_2, .slice A0_3 l0_3.length c0_3, .slice A0_4 l0_4.length c0_4, .slice A0_5 l0_5.length c0_5] 39 (0, 0)) (by (with_reducible repeat (first | refine Z26 ?_ _ | refine Z27 ?_ | refine Z28 ?_ _)); exact BK181.out)) : gb181 ≠ gb196)); have n11_ := Aside0.mk ((by rw [hg]; exact Nat.ne_of_gt (blk_lt (g := gb181) (o := .cells #[.slice A0_0 l0_0.length c0_0, .slice A0_1 l0_1.length c0_1, .slice A0_2 l0_2.length c0_2, .slice A0_3 l0_3.length c0_3, .slice A0_4 l0_4.length c0_4, .slice A0_5 l0_5.length c0_5] 39 (0, 0)) (by (with_reducible repeat (first | refine Z26 ?_ _ | refine Z27 ?_ | refine Z28 ?_ _)); exact BK181.out)) : gb196 ≠ gb181)); have n12_ := Aside0.mk ((by rw [hg]; exact Nat.ne_of_lt (blk_lt (g := gb182) (o := .cells #[.slice none 0 0, .slice none 0 0, .slice none 0 0, .slice none 0 0, .slice none 0 0, .slice none 0 0] 39 (0, 0)) (by (with_reducible repeat (first | refine Z26 ?_ _ | refine Z27 ?_ | refine Z28 ?_ _)); exact BK182.out)) : gb182 ≠ gb196)); have n13_ := Aside0.mk ((by rw [hg]; exact Nat.ne_of_gt (blk_lt (g := gb182) (o := .cells #[.slice none 0 0, .slice none 0 0, .slice none 0 0, .slice none 0 0, .slice none 0 0, .slice none 0 0] 39 (0, 0)) (by (with_reducible repeat (first | refine Z26 ?_ _ | refine Z27 ?_ | refine Z28 ?_ _)); exact BK182.out)) : gb196 ≠ gb182)); clear HO185; clear HO188; clear HO191; clear HO194; clear BK181; clear BK182; clear HB; have HO185 := n0_; have HO188 := n1_; have HO191 := n2_; have HO194 := n3_; have BK181 := n4_; have BK182 := n5_; have HB := n6_; have BK196 := n7_; have GW196 := n8_; have GE196 := n9_; have NB181_196 := n10_; have NB196_181 := n11_; have NB182_196 := n12_; have NB196_182 := n13_; clear n0_ n1_ n2_ n3_ n4_ n5_ n6_ n7_ n8_ n9_ n10_ n11_ n12_ n13_; clear hb hbox hg; obtain ⟨Ao33, co33, eo33⟩ := Z19 HO185.out; subst eo33; have hnb34 := NB196_181.out; have hnc34 := NB181_196.out; have hnb35 := NB196_182.out; have hnc35 := NB182_196.out; have hcz36_0 : w32.cell? ⟨gb196, 0, none⟩ = some (.slice none 0 0) := (Z24 BK196.out 0).trans rfl; have hcz36_1 : w32.cell? ⟨gb196, 1, none⟩ = some (.slice none 0 0) := (Z24 BK196.out 1).trans rfl; have hcz36_2 : w32.cell? ⟨gb196, 2, none⟩ = some (.slice none 0 0) := (Z24 BK196.out 2).trans rfl; have hcz36_3 : w32.cell? ⟨gb196, 3, none⟩ = some (.slice none 0 0) := (Z24 BK196.out 3).trans rfl; have hfz36_0 := Z25 BK196.out 0; have hfz36_1 := Z25 BK196.out 1; have hfz36_2 := Z25 BK196.out 2; have hfz36_3 := Z25 BK196.out 3; obtain ⟨Ao37, co37, eo37⟩ := Z19 HO188.out; subst eo37; obtain ⟨Ao38, co38, eo38⟩ := Z19 HO191.out; subst eo38; obtain ⟨Ao39, co39, eo39⟩ := Z19 HO194.out; subst eo39; have hcz40_0 : w32.cell? ⟨gb181, 0, none⟩ = some (.slice A0_0 l0_0.length c0_0) := (Z24 BK181.out 0).trans rfl; have hcz40_1 : w32.cell? ⟨gb181, 1, none⟩ = some (.slice A0_1 l0_1.length c0_1) := (Z24 BK181.out 1).trans rfl; have hcz40_2 : w32.cell? ⟨gb181, 2, none⟩ = some (.slice A0_2 l0_2.length c0_2) := (Z24 BK181.out 2).trans rfl; have hcz40_3 : w32.cell? ⟨gb181, 3, none⟩ = some (.slice A0_3 l0_3.length c0_3) := (Z24 BK181.out 3).trans rfl; have hcz40_4 : w32.cell? ⟨gb181, 4, none⟩ = some (.slice A0_4 l0_4.length c0_4) := (Z24 BK181.out 4).trans rfl; have hcz40_5 : w32.cell? ⟨gb181, 5, none⟩ = some (.slice A0_5 l0_5.length c0_5) := (Z24 BK181.out 5).trans rfl; have hfz40_0 := Z25 BK181.out 0; have hfz40_1 := Z25 BK181.out 1; have hfz40_2 := Z25 BK181.out 2; have hfz40_3 := Z25 BK181.out 3; have hfz40_4 := Z25 BK181.out 4; have hfz40_5 := Z25 BK181.out 5; have p197 : 0 ≤ ((ji18) : Int) := Z31 (by first | (with_reducible assumption) | assumption); have q197 : (ji18) < (l0_5.length : Int) := Z31 (by first | (with_reducible assumption) | assumption); obtain ⟨ad197, e197, hx197_0⟩ := Kd.at_int HR0_5.out (ji18) p197 q197; cases e197; have hn197_0 : ad197.block ≠ gb196 := Nat.ne_of_lt (Nat.lt_of_lt_of_le (by have := World.block_lt_of_cell? _ _ hx197_0; first | rwa [add_block] at this | exact this) GW196.out); have hn197_1 : ad197.block ≠ gb196 := Nat.ne_of_lt (Nat.lt_of_lt_of_le (by have := World.block_lt_of_cell? _ _ hx197_0; first | rwa [add_block] at this | exact this) GW196.out); have hn197_2 : ad197.block ≠ gb196 := Nat.ne_of_lt (Nat.lt_of_lt_of_le (by have := World.block_lt_of_cell? _ _ hx197_0; first | rwa [add_block] at this | exact this) GW196.out); have hn197_3 : ad197.block ≠ gb196 := Nat.ne_of_lt (Nat.lt_of_lt_of_le (by have := World.block_lt_of_cell? _ _ hx197_0; first | rwa [add_block] at this | exact this) GW196.out); try replace hx197_0 := (HB.out.cell (World.block_lt_of_cell? w _ hx197_0)).trans hx197_0; replace hx197_0 := (cell_far (p := ⟨gb196, 0, none⟩) (by first | (rw [add_block]; exact hn197_0) | (show (Addr.add _ _).block ≠ _; rw [add_block]; exact hn197_0) | exact hn197_0) (.slice Ao33 t183.length co33)).trans hx197_0; replace hx197_0 := (cell_far (p := ⟨gb196, 1, none⟩) (by first | (rw [add_block]; exact hn197_1) | (show (Addr.add _ _).block ≠ _; rw [add_block]; exact hn197_1) | exact hn197_1) (.slice Ao37 t186.length co37)).trans hx197_0; replace hx197_0 := (cell_far (p := ⟨gb196, 2, none⟩) (by first | (rw [add_block]; exact hn197_2) | (show (Addr.add _ _).block ≠ _; rw [add_block]; exact hn197_2) | exact hn197_2) (.slice Ao38 t189.length co38)).trans hx197_0; replace hx197_0 := (cell_far (p := ⟨gb196, 3, none⟩) (by first | (rw [add_block]; exact hn197_3) | (show (Addr.add _ _).block ≠ _; rw [add_block]; exact hn197_3) | exact hn197_3) (.slice Ao39 t192.length co39)).trans hx197_0; clear hn197_0; clear hn197_1; clear hn197_2; clear hn197_3; replace p197 := eq_true p197; replace q197 := eq_true q197))
        have n0_ : Aside0 (Kd.R (Kd.int .i64) 3 ((((w32.setCell ⟨gb196, 0, none⟩ (.slice Ao33 t183.length co33)).setCell ⟨gb196, 1, none⟩ (.slice Ao37 t186.length co37)).setCell ⟨gb196, 2, none⟩ (.slice Ao38 t189.length co38)).setCell ⟨gb196, 3, none⟩ (.slice Ao39 t192.length co39)) w.heap.size (fun k_ => some k_ ≠ (.slice Ao37 t186.length co37 : Value).ownBlock ∧ some k_ ≠ (.slice Ao39 t192.length co39 : Value).ownBlock) (.slice Ao33 t183.length co33) t183) := ⟨by (with_reducible repeat (first | apply Z9 | apply Z10 | apply Z11)); exact Z12 (Z13 (p := ⟨gb196, 3, none⟩) (Z13 (p := ⟨gb196, 2, none⟩) (Z13 (p := ⟨gb196, 1, none⟩) (Z13 (p := ⟨gb196, 0, none⟩) (Z15 HO185.out BK196.out (by decide)) (fun _ hk => hk.2) (.slice Ao33 t183.length co33)) (fun _ hk => hk.2) (.slice Ao37 t186.length co37)) (fun _ hk => hk.2) (.slice Ao38 t189.length co38)) (fun _ hk => hk.2) (.slice Ao39 t192.length co39)) (fun _ hk => ⟨hk.1.1, hk.1.2⟩)⟩
        have n1_ : Aside0 (Kd.R (Kd.int .i64) 3 ((((w32.setCell ⟨gb196, 0, none⟩ (.slice Ao33 t183.length co33)).setCell ⟨gb196, 1, none⟩ (.slice Ao37 t186.length co37)).setCell ⟨gb196, 2, none⟩ (.slice Ao38 t189.length co38)).setCell ⟨gb196, 3, none⟩ (.slice Ao39 t192.length co39)) w.heap.size (fun k_ => some k_ ≠ (.slice Ao33 t183.length co33 : Value).ownBlock ∧ some k_ ≠ (.slice Ao39 t192.length co39 : Value).ownBlock) (.slice Ao37 t186.length co37) t186) := ⟨by (with_reducible repeat (first | apply Z9 | apply Z10 | apply Z11)); exact Z12 (Z13 (p := ⟨gb196, 3, none⟩) (Z13 (p := ⟨gb196, 2, none⟩) (Z13 (p := ⟨gb196, 1, none⟩) (Z13 (p := ⟨gb196, 0, none⟩) (Z15 HO188.out BK196.out (by decide)) (fun _ hk => hk.2) (.slice Ao33 t183.length co33)) (fun _ hk => hk.2) (.slice Ao37 t186.length co37)) (fun _ hk => hk.2) (.slice Ao38 t189.length co38)) (fun _ hk => hk.2) (.slice Ao39 t192.length co39)) (fun _ hk => ⟨hk.1.1, hk.1.2⟩)⟩
        have n2_ : Aside0 (Kd.R Kd.bool 4 ((((w32.setCell ⟨gb196, 0, none⟩ (.slice Ao33 t183.length co33)).setCell ⟨gb196, 1, none⟩ (.slice Ao37 t186.length co37)).setCell ⟨gb196, 2, none⟩ (.slice Ao38 t189.length co38)).setCell ⟨gb196, 3, none⟩ (.slice Ao39 t192.length co39)) w.heap.size (fun _ => True) (.slice Ao38 t189.length co38) t189) := ⟨by (with_reducible repeat (first | apply Z9 | apply Z10 | apply Z11)); exact Z12 (Z13 (p := ⟨gb196, 3, none⟩) (Z13 (p := ⟨gb196, 2, none⟩) (Z13 (p := ⟨gb196, 1, none⟩) (Z13 (p := ⟨gb196, 0, none⟩) (Z15 HO191.out BK196.out (by decide)) (fun _ hk => hk.2) (.slice Ao33 t183.length co33)) (fun _ hk => hk.2) (.slice Ao37 t186.length co37)) (fun _ hk => hk.2) (.slice Ao38 t189.length co38)) (fun _ hk => hk.2) (.slice Ao39 t192.length co39)) (fun _ hk => trivial)⟩
        have n3_ : Aside0 (Kd.R (Kd.int .i64) 3 ((((w32.setCell ⟨gb196, 0, none⟩ (.slice Ao33 t183.length co33)).setCell ⟨gb196, 1, none⟩ (.slice Ao37 t186.length co37)).setCell ⟨gb196, 2, none⟩ (.slice Ao38 t189.length co38)).setCell ⟨gb196, 3, none⟩ (.slice Ao39 t192.length co39)) w.heap.size (fun k_ => some k_ ≠ (.slice Ao33 t183.length co33 : Value).ownBlock ∧ some k_ ≠ (.slice Ao37 t186.length co37 : Value).ownBlock) (.slice Ao39 t192.length co39) t192) := ⟨by (with_reducible repeat (first | apply Z9 | apply Z10 | apply Z11)); exact Z12 (Z13 (p := ⟨gb196, 3, none⟩) (Z13 (p := ⟨gb196, 2, none⟩) (Z13 (p := ⟨gb196, 1, none⟩) (Z13 (p := ⟨gb196, 0, none⟩) (Z15 HO194.out BK196.out (by decide)) (fun _ hk => hk.2) (.slice Ao33 t183.length co33)) (fun _ hk => hk.2) (.slice Ao37 t186.length co37)) (fun _ hk => hk.2) (.slice Ao38 t189.length co38)) (fun _ hk => hk.2) (.slice Ao39 t192.length co39)) (fun _ hk => ⟨hk.1.1, hk.1.2⟩)⟩
        have n4_ : Aside0 (((((w32.setCell ⟨gb196, 0, none⟩ (.slice Ao33 t183.length co33)).setCell ⟨gb196, 1, none⟩ (.slice Ao37 t186.length co37)).setCell ⟨gb196, 2, none⟩ (.slice Ao38 t189.length co38)).setCell ⟨gb196, 3, none⟩ (.slice Ao39 t192.length co39)).heap[gb181]? = some (.cells #[.slice A0_0 l0_0.length c0_0, .slice A0_1 l0_1.length c0_1, .slice A0_2 l0_2.length c0_2, .slice A0_3 l0_3.length c0_3, .slice A0_4 l0_4.length c0_4, .slice (some ad197) l0_5.length c0_5] 39 (0, 0))) := ⟨by (with_reducible repeat (first | refine Z26 ?_ _ | refine Z27 ?_ | refine Z28 ?_ _)); refine blk_far ?_ NB181_196.out _; (with_reducible repeat (first | refine Z26 ?_ _ | refine Z27 ?_ | refine Z28 ?_ _)); refine blk_far ?_ NB181_196.out _; (with_reducible repeat (first | refine Z26 ?_ _ | refine Z27 ?_ | refine Z28 ?_ _)); refine blk_far ?_ NB181_196.out _; (with_reducible repeat (first | refine Z26 ?_ _ | refine Z27 ?_ | refine Z28 ?_ _)); refine blk_far ?_ NB181_196.out _; (with_reducible repeat (first | refine Z26 ?_ _ | refine Z27 ?_ | refine Z28 ?_ _)); exact BK181.out⟩
        have n5_ : Aside0 (((((w32.setCell ⟨gb196, 0, none⟩ (.slice Ao33 t183.length co33)).setCell ⟨gb196, 1, none⟩ (.slice Ao37 t186.length co37)).setCell ⟨gb196, 2, none⟩ (.slice Ao38 t189.length co38)).setCell ⟨gb196, 3, none⟩ (.slice Ao39 t192.length co39)).heap[gb182]? = some (.cells #[.slice none 0 0, .slice none 0 0, .slice none 0 0, .slice none 0 0, .slice none 0 0, .slice none 0 0] 39 (0, 0))) := ⟨by (with_reducible repeat (first | refine Z26 ?_ _ | refine Z27 ?_ | refine Z28 ?_ _)); refine blk_far ?_ NB182_196.out _; (with_reducible repeat (first | refine Z26 ?_ _ | refine Z27 ?_ | refine Z28 ?_ _)); refine blk_far ?_ NB182_196.out _; (with_reducible repeat (first | refine Z26 ?_ _ | refine Z27 ?_ | refine Z28 ?_ _)); refine blk_far ?_ NB182_196.out _; (with_reducible repeat (first | refine Z26 ?_ _ | refine Z27 ?_ | refine Z28 ?_ _)); refine blk_far ?_ NB182_196.out _; (with_reducible repeat (first | refine Z26 ?_ _ | refine Z27 ?_ | refine Z28 ?_ _)); exact BK182.out⟩
        have n6_ : Aside0 (((((w32.setCell ⟨gb196, 0, none⟩ (.slice Ao33 t183.length co33)).setCell ⟨gb196, 1, none⟩ (.slice Ao37 t186.length co37)).setCell ⟨gb196, 2, none⟩ (.slice Ao38 t189.length co38)).setCell ⟨gb196, 3, none⟩ (.slice Ao39 t192.length co39)).heap[gb196]? = some (.cells #[.slice Ao33 t183.length co33, .slice Ao37 t186.length co37, .slice Ao38 t189.length co38, .slice Ao39 t192.length co39] 29 (0, 0))) := ⟨by (with_reducible repeat (first | refine Z26 ?_ _ | refine Z27 ?_ | refine Z28 ?_ _)); refine Z30 (cs := #[.slice Ao33 t183.length co33, .slice Ao37 t186.length co37, .slice Ao38 t189.length co38, .slice none 0 0]) ?_ 3 _ rfl; (with_reducible repeat (first | refine Z26 ?_ _ | refine Z27 ?_ | refine Z28 ?_ _)); refine Z30 (cs := #[.slice Ao33 t183.length co33, .slice Ao37 t186.length co37, .slice none 0 0, .slice none 0 0]) ?_ 2 _ rfl; (with_reducible repeat (first | refine Z26 ?_ _ | refine Z27 ?_ | refine Z28 ?_ _)); refine Z30 (cs := #[.slice Ao33 t183.length co33, .slice none 0 0, .slice none 0 0, .slice none 0 0]) ?_ 1 _ rfl; (with_reducible repeat (first | refine Z26 ?_ _ | refine Z27 ?_ | refine Z28 ?_ _)); refine Z30 (cs := #[.slice none 0 0, .slice none 0 0, .slice none 0 0, .slice none 0 0]) ?_ 0 _ rfl; (with_reducible repeat (first | refine Z26 ?_ _ | refine Z27 ?_ | refine Z28 ?_ _)); exact BK196.out⟩
        have n7_ : Aside0 (Below w.heap.size w ((((w32.setCell ⟨gb196, 0, none⟩ (.slice Ao33 t183.length co33)).setCell ⟨gb196, 1, none⟩ (.slice Ao37 t186.length co37)).setCell ⟨gb196, 2, none⟩ (.slice Ao38 t189.length co38)).setCell ⟨gb196, 3, none⟩ (.slice Ao39 t192.length co39))) := ⟨by repeat (first | (with_reducible first | exact HB.out | apply Z5 | apply Z3 | apply Z4 | refine Z6 ?_ GE181.out | refine Z6 ?_ GE182.out | refine Z6 ?_ GE196.out) | exact HB.out)⟩
        (try clear HO185)
        (try clear HO188)
        (try clear HO191)
        (try clear HO194)
        (try clear BK181)
        (try clear BK182)
        (try clear BK196)
        (try clear HB)
        generalize ((((w32.setCell ⟨gb196, 0, none⟩ (.slice Ao33 t183.length co33)).setCell ⟨gb196, 1, none⟩ (.slice Ao37 t186.length co37)).setCell ⟨gb196, 2, none⟩ (.slice Ao38 t189.length co38)).setCell ⟨gb196, 3, none⟩ (.slice Ao39 t192.length co39)) = w41 at n0_ n1_ n2_ n3_ n4_ n5_ n6_ n7_ ⊢
        have HO185 := n0_
        have HO188 := n1_
        have HO191 := n2_
        have HO194 := n3_
        have BK181 := n4_
        have BK182 := n5_
        have BK196 := n6_
        have HB := n7_
        clear n0_ n1_ n2_ n3_ n4_ n5_ n6_ n7_
        have n0_ := Aside0.mk (Z11 HO185.out)
        have n1_ := Aside0.mk (Z11 HO188.out)
        have n2_ := Aside0.mk (Z11 HO191.out)
        have n3_ := Aside0.mk (Z11 HO194.out)
        have n4_ := Aside0.mk (Z27 BK181.out)
        have n5_ := Aside0.mk (Z27 BK182.out)
        have n6_ := Aside0.mk (Z27 BK196.out)
        have n7_ := Aside0.mk (Z4 HB.out)
        clear HO185
        clear HO188
        clear HO191
        clear HO194
        clear BK181
        clear BK182
        clear BK196
        clear HB
        have HO185 := n0_
        have HO188 := n1_
        have HO191 := n2_
        have HO194 := n3_
        have BK181 := n4_
        have BK182 := n5_
        have BK196 := n6_
        have HB := n7_
        clear n0_ n1_ n2_ n3_ n4_ n5_ n6_ n7_
        have p198 : 0 ≤ (t195 : Int) := Z31 (by first | (with_reducible assumption) | assumption)
        have q198 : t195 < (t186.length : Int) := Z31 (by first | (with_reducible assumption) | assumption)
        obtain ⟨ad198, e198, hx198_0⟩ := Kd.at_int (Kd.R_reads' HO188.out).2.2 t195 p198 q198
        cases e198
        replace p198 := eq_true p198
        replace q198 := eq_true q198
        have p199 : 0 ≤ (t195 : Int) := Z31 (by first | (with_reducible assumption) | assumption)
        have q199 : t195 < (l0_1.length : Int) := Z31 (by first | (with_reducible assumption) | assumption)
        obtain ⟨ad199, e199, hx199_0⟩ := Kd.at_int HR0_1.out t195 p199 q199
        have hw199_0 := hx199_0
        cases e199
        try replace hx199_0 := (HB.out.cell (World.block_lt_of_cell? w _ hx199_0)).trans hx199_0
        replace p199 := eq_true p199
        replace q199 := eq_true q199
        refine start_ (n := 12) (S := fun w' => w'.cell? ⟨gb196, 0, none⟩ = some (.slice Ao33 t183.length co33) ∧ w'.cell? ⟨gb196, 1, none⟩ = some (.slice (some ad198) t186.length co37) ∧ w'.cell? ⟨gb196, 2, none⟩ = some (.slice Ao38 t189.length co38) ∧ w'.cell? ⟨gb196, 3, none⟩ = some (.slice Ao39 t192.length co39) ∧ w'.cell? ⟨gb181, 0, none⟩ = some (.slice A0_0 l0_0.length c0_0) ∧ w'.cell? ⟨gb181, 1, none⟩ = some (.slice (some ad199) l0_1.length c0_1) ∧ w'.cell? ⟨gb181, 2, none⟩ = some (.slice A0_2 l0_2.length c0_2) ∧ w'.cell? ⟨gb181, 3, none⟩ = some (.slice A0_3 l0_3.length c0_3) ∧ w'.cell? ⟨gb181, 4, none⟩ = some (.slice A0_4 l0_4.length c0_4) ∧ w'.cell? ⟨gb181, 5, none⟩ = some (.slice (some ad197) l0_5.length c0_5) ∧ w'.cell? (ad198.add (t195).toNat) = some (.int .i64 (rd t186 t195)) ∧ w'.cell? (ad199.add (t195).toNat) = some (.int .i64 (rd l0_1 t195))) (ds := []) #[false, false, false, false, false, false, false, false, false, false, false, false] (by kernel_rfl) rfl rfl ⟨(Z24 BK196.out 0).trans rfl, (Z24 BK196.out 1).trans rfl, (Z24 BK196.out 2).trans rfl, (Z24 BK196.out 3).trans rfl, (Z24 BK181.out 0).trans rfl, (Z24 BK181.out 1).trans rfl, (Z24 BK181.out 2).trans rfl, (Z24 BK181.out 3).trans rfl, (Z24 BK181.out 4).trans rfl, (Z24 BK181.out 5).trans rfl, hx198_0, ((HB.out.cell (World.block_lt_of_cell? w _ hw199_0)).trans hw199_0)⟩ (fun hHeld => ?_); refine with_tabW spec_foSwap.tab5 spec_foSwap.bits5 (fun HT_ HW_ => ?_)
        generalize w41.drew = w42 at HO185 HO188 HO191 HO194 BK181 BK182 BK196 HB hx198_0 hx199_0 hHeld ⊢
        refine pure_ (i := 0) (N := some 23) (v := ?_) (a' := ?_) #[true, false, false, false, false, false, false, false, false, false, false, false] rfl rfl (any_of HT_.out (by kernel_rfl)) (fun _ _ _ h => h) (Or.inl ⟨by rfl, ?_⟩) ?_ ?_
        rotate_left
        ·intro w'
         go_simp
         with_reducible rfl
        rotate_left
        ·simp only [Act.put, Z0, Z1, Z2, i64_w, i32_w]
         rfl
        refine pure_ (i := 2) (N := some 25) (v := ?_) (a' := ?_) #[true, false, true, false, false, false, false, false, false, false, false, false] rfl rfl (any_of HT_.out (by kernel_rfl)) (fun _ _ _ h => h) (Or.inl ⟨by rfl, ?_⟩) ?_ ?_
        rotate_left
        ·intro w'
         go_simp
         with_reducible rfl
        rotate_left
        ·simp only [Act.put, Z0, Z1, Z2, i64_w, i32_w]
         rfl
        refine pure_ (i := 5) (N := some 28) (v := ?_) (a' := ?_) #[true, false, true, false, false, true, false, false, false, false, false, false] rfl rfl (any_of HT_.out (by kernel_rfl)) (fun _ _ _ h => h) (Or.inl ⟨by rfl, ?_⟩) ?_ ?_
        rotate_left
        ·intro w'
         go_simp
         with_reducible rfl
        rotate_left
        ·simp only [Act.put, Z0, Z1, Z2, i64_w, i32_w]
         rfl
        refine pure_ (i := 6) (N := some 29) (v := ?_) (a' := ?_) #[true, false, true, false, false, true, true, false, false, false, false, false] rfl rfl (any_of HT_.out (by kernel_rfl)) (fun _ _ _ h => h) (Or.inl ⟨by rfl, ?_⟩) ?_ ?_
        rotate_left
        ·intro w'
         go_simp
         with_reducible rfl
        rotate_left
        ·simp only [Act.put, Z0, Z1, Z2, i64_w, i32_w]
         rfl
        refine pure_ (i := 8) (N := some 31) (v := ?_) (a' := ?_) #[true, false, true, false, false, true, true, false, true, false, false, false] rfl rfl (any_of HT_.out (by kernel_rfl)) (fun _ _ _ h => h) (Or.inl ⟨by rfl, ?_⟩) ?_ ?_
        rotate_left
        ·intro w'
         go_simp
         with_reducible rfl
        rotate_left
        ·simp only [Act.put, Z0, Z1, Z2, i64_w, i32_w]
         rfl
        refine take_ (i := 1) (N := some 24) (v := ?_) (a' := ?_) #[true, true, true, false, false, true, true, false, true, false, false, false] rfl rfl (take_ofW HT_.out HW_.out (by kernel_rfl)) (fun _ _ _ h => h) (Or.inl ⟨by rfl, ?_⟩) hHeld ?_ ?_
        rotate_left
        ·rintro w' ⟨s0, s1, s2, s3, s4, s5, s6, s7, s8, s9, s10, s11⟩
         go_simp
         with_reducible rfl
        rotate_left
        ·simp only [Act.put, Z0, Z1, Z2, i64_w, i32_w]
         rfl
        refine pure_ (i := 3) (N := some 26) (v := ?_) (a' := ?_) #[true, true, true, true, false, true, true, false, true, false, false, false] rfl rfl (any_of HT_.out (by kernel_rfl)) (fun _ _ _ h => h) (Or.inl ⟨by rfl, ?_⟩) ?_ ?_
        rotate_left
        ·intro w'
         go_simp
         with_reducible rfl
        rotate_left
        ·simp only [Act.put, Z0, Z1, Z2, i64_w, i32_w]
         rfl
        refine take_ (i := 4) (N := some 27) (v := ?_) (a' := ?_) #[true, true, true, true, true, true, true, false, true, false, false, false] rfl rfl (take_ofW HT_.out HW_.out (by kernel_rfl)) (fun _ _ _ h => h) (Or.inl ⟨by rfl, ?_⟩) hHeld ?_ ?_
        rotate_left
        ·rintro w' ⟨s0, s1, s2, s3, s4, s5, s6, s7, s8, s9, s10, s11⟩
         go_simp
         with_reducible rfl
        rotate_left
        ·simp only [Act.put, Z0, Z1, Z2, i64_w, i32_w]
         rfl
        refine take_ (i := 7) (N := some 30) (v := ?_) (a' := ?_) #[true, true, true, true, true, true, true, true, true, false, false, false] rfl rfl (take_ofW HT_.out HW_.out (by kernel_rfl)) (fun _ _ _ h => h) (Or.inl ⟨by rfl, ?_⟩) hHeld ?_ ?_
        rotate_left
        ·rintro w' ⟨s0, s1, s2, s3, s4, s5, s6, s7, s8, s9, s10, s11⟩
         go_simp
         with_reducible rfl
        rotate_left
        ·simp only [Act.put, Z0, Z1, Z2, i64_w, i32_w]
         rfl
        refine pure_ (i := 9) (N := some 32) (v := ?_) (a' := ?_) #[true, true, true, true, true, true, true, true, true, true, false, false] rfl rfl (any_of HT_.out (by kernel_rfl)) (fun _ _ _ h => h) (Or.inl ⟨by rfl, ?_⟩) ?_ ?_
        rotate_left
        ·intro w'
         go_simp
         with_reducible rfl
        rotate_left
        ·simp only [Act.put, Z0, Z1, Z2, i64_w, i32_w]
         rfl
        refine take_ (i := 10) (N := some 33) (v := ?_) (a' := ?_) #[true, true, true, true, true, true, true, true, true, true, true, false] rfl rfl (take_ofW HT_.out HW_.out (by kernel_rfl)) (fun _ _ _ h => h) (Or.inl ⟨by rfl, ?_⟩) hHeld ?_ ?_
        rotate_left
        ·rintro w' ⟨s0, s1, s2, s3, s4, s5, s6, s7, s8, s9, s10, s11⟩
         go_simp
         with_reducible rfl
        rotate_left
        ·simp only [Act.put, Z0, Z1, Z2, i64_w, i32_w]
         rfl
        refine pure_ (i := 11) (N := some 34) (v := ?_) (a' := ?_) #[true, true, true, true, true, true, true, true, true, true, true, true] rfl rfl (any_of HT_.out (by kernel_rfl)) (fun _ _ _ h => h) (Or.inl ⟨by rfl, ?_⟩) ?_ ?_
        rotate_left
        ·intro w'
         go_simp
         with_reducible rfl
        rotate_left
        ·simp only [Act.put, Z0, Z1, Z2, i64_w, i32_w]
         rfl
        refine done_ (done_of HT_.out (by kernel_rfl)) ?_
        have hcz43_0 : w42.cell? ⟨gb181, 0, none⟩ = some (.slice A0_0 l0_0.length c0_0) := (Z24 BK181.out 0).trans rfl
        have hcz43_1 : w42.cell? ⟨gb181, 1, none⟩ = some (.slice (some ad199) l0_1.length c0_1) := (Z24 BK181.out 1).trans rfl
        have hcz43_2 : w42.cell? ⟨gb181, 2, none⟩ = some (.slice A0_2 l0_2.length c0_2) := (Z24 BK181.out 2).trans rfl
        have hcz43_3 : w42.cell? ⟨gb181, 3, none⟩ = some (.slice A0_3 l0_3.length c0_3) := (Z24 BK181.out 3).trans rfl
        have hcz43_4 : w42.cell? ⟨gb181, 4, none⟩ = some (.slice A0_4 l0_4.length c0_4) := (Z24 BK181.out 4).trans rfl
        have hcz43_5 : w42.cell? ⟨gb181, 5, none⟩ = some (.slice (some ad197) l0_5.length c0_5) := (Z24 BK181.out 5).trans rfl
        have hfz43_0 := Z25 BK181.out 0
        have hfz43_1 := Z25 BK181.out 1
        have hfz43_2 := Z25 BK181.out 2
        have hfz43_3 := Z25 BK181.out 3
        have hfz43_4 := Z25 BK181.out 4
        have hfz43_5 := Z25 BK181.out 5
        try go_wp2_with (first | ((with_reducible refine gate_callee (f := 88) rfl ?_); refine goesL_ (some 43) rfl rfl Try.func88 (by kernel_rfl) rfl #[.slice A0_4 l0_4.length c0_4, .agg #[.int .i64 0, .int .i64 (wrap64 ((rd l0_5 (ji18)) - 1)), .int .i64 (wrap64 ((wrap64 ((rd l0_5 (ji18)) - 1)) + 1))]] rfl (by (try simp only [Z34, Z35, Z36]); first | done | (simp only [hji18]; rfl) | rfl | (simp only [Z32, Z33]; rfl)) ?_; (with_reducible refine (spec_moApply.calls k _ _ l0_4 0 (wrap64 ((rd l0_5 (ji18)) - 1)) (wrap64 ((wrap64 ((rd l0_5 (ji18)) - 1)) + 1)) t200 _ ?side1 ?side2 A25.out).mono ?_); (case side1 => repeat (first | exact (Z23 HR0_4.out HB.out) | (with_reducible refine Z20 ?_ _) | (with_reducible refine Z21 ?_ _) | (with_reducible refine Z22 ?_))); (case side2 => exact HC0_4.out); rintro e w44 ⟨v201, rfl, ho0, hb⟩; refine ⟨_, rfl, ?_⟩; have n0_ := Aside0.mk (Kd.R_elder' (by (with_reducible repeat (first | apply Z9 | apply Z10 | apply Z11)); exact HO185.out) (Kd.R_base ho0) hb); have n1_ := Aside0.mk (Kd.R_elder' (by (with_reducible repeat (first | apply Z9 | apply Z10 | apply Z11)); exact HO188.out) (Kd.R_base ho0) hb); have n2_ := Aside0.mk (Z14 (by (with_reducible repeat (first | apply Z9 | apply Z10 | apply Z11)); exact HO191.out) hb); have n3_ := Aside0.mk (Kd.R_elder' (by (with_reducible repeat (first | apply Z9 | apply Z10 | apply Z11)); exact HO194.out) (Kd.R_base ho0) hb); have n4_ := Aside0.mk (Kd.R_lower (Kd.R_new' (Kd.R_new' (Kd.R_new' ho0 (Z18 (by (with_reducible repeat (first | apply Z9 | apply Z10 | apply Z11)); exact HO185.out))) (Z18 (by (with_reducible repeat (first | apply Z9 | apply Z10 | apply Z11)); exact HO188.out))) (Z18 (by (with_reducible repeat (first | apply Z9 | apply Z10 | apply Z11)); exact HO194.out))) (Z7 (by repeat (first | (with_reducible first | exact HB.out | apply Z5 | apply Z3 | apply Z4 | refine Z6 ?_ GE181.out | refine Z6 ?_ GE182.out | refine Z6 ?_ GE196.out) | exact HB.out)))); have n5_ := Aside0.mk (Z29 (g := gb181) (o := .cells #[.slice A0_0 l0_0.length c0_0, .slice (some ad199) l0_1.length c0_1, .slice A0_2 l0_2.length c0_2, .slice A0_3 l0_3.length c0_3, .slice A0_4 l0_4.length c0_4, .slice (some ad197) l0_5.length c0_5] 39 (0, 0)) (by (with_reducible repeat (first | refine Z26 ?_ _ | refine Z27 ?_ | refine Z28 ?_ _)); exact BK181.out) hb); have n6_ := Aside0.mk (Z29 (g := gb182) (o := .cells #[.slice none 0 0, .slice none 0 0, .slice none 0 0, .slice none 0 0, .slice none 0 0, .slice none 0 0] 39 (0, 0)) (by (with_reducible repeat (first | refine Z26 ?_ _ | refine Z27 ?_ | refine Z28 ?_ _)); exact BK182.out) hb); have n7_ := Aside0.mk (Z29 (g := gb196) (o := .cells #[.slice Ao33 t183.length co33, .slice (some ad198) t186.length co37, .slice Ao38 t189.length co38, .slice Ao39 t192.length co39] 29 (0, 0)) (by (with_reducible repeat (first | refine Z26 ?_ _ | refine Z27 ?_ | refine Z28 ?_ _)); exact BK196.out) hb); have n8_ := Aside0.mk (Z8 (by repeat (first | (with_reducible first | exact HB.out | apply Z5 | apply Z3 | apply Z4 | refine Z6 ?_ GE181.out | refine Z6 ?_ GE182.out | refine Z6 ?_ GE196.out) | exact HB.out)) hb); clear HO185; clear HO188; clear HO191; clear HO194; clear BK181; clear BK182; clear BK196; clear HB; have HO185 := n0_; have HO188 := n1_; have HO191 := n2_; have HO194 := n3_; have HO202 := n4_; have BK181 := n5_; have BK182 := n6_; have BK196 := n7_; have HB := n8_; clear n0_ n1_ n2_ n3_ n4_ n5_ n6_ n7_ n8_; (try clear hb); (try clear hb2); (try clear hk); (try clear hi); (try clear ho0)))
        have n0_ := Aside0.mk (Z11 HO185.out)
        have n1_ := Aside0.mk (Z11 HO188.out)
        have n2_ := Aside0.mk (Z11 HO191.out)
        have n3_ := Aside0.mk (Z11 HO194.out)
        have n4_ := Aside0.mk (Z11 HO202.out)
        have n5_ := Aside0.mk (Z27 BK181.out)
        have n6_ := Aside0.mk (Z27 BK182.out)
        have n7_ := Aside0.mk (Z27 BK196.out)
        have n8_ := Aside0.mk (Z4 HB.out)
        clear HO185
        clear HO188
        clear HO191
        clear HO194
        clear HO202
        clear BK181
        clear BK182
        clear BK196
        clear HB
        have HO185 := n0_
        have HO188 := n1_
        have HO191 := n2_
        have HO194 := n3_
        have HO202 := n4_
        have BK181 := n5_
        have BK182 := n6_
        have BK196 := n7_
        have HB := n8_
        clear n0_ n1_ n2_ n3_ n4_ n5_ n6_ n7_ n8_
        obtain ⟨Ao46, co46, eo46⟩ := Z19 HO202.out
        (first | subst eo46 | (injection eo46 with f1_ f2_ f3_; have f4_ := f1_.symm; have f5_ := f3_.symm; clear f1_ f2_ f3_; subst f4_; subst f5_))
        refine start_ (n := 8) (S := fun w' => w'.cell? ⟨gb196, 0, none⟩ = some (.slice Ao33 t183.length co33) ∧ w'.cell? ⟨gb196, 1, none⟩ = some (.slice (some ad198) t186.length co37) ∧ w'.cell? ⟨gb196, 2, none⟩ = some (.slice Ao38 t189.length co38) ∧ w'.cell? ⟨gb196, 3, none⟩ = some (.slice Ao39 t192.length co39)) (ds := []) #[false, false, false, false, false, false, false, false] (by kernel_rfl) rfl rfl ⟨(Z24 BK196.out 0).trans rfl, (Z24 BK196.out 1).trans rfl, (Z24 BK196.out 2).trans rfl, (Z24 BK196.out 3).trans rfl⟩ (fun hHeld => ?_); refine with_tabW spec_foSwap.tab8 spec_foSwap.bits8 (fun HT_ HW_ => ?_)
        generalize w44.drew = w45 at HO185 HO188 HO191 HO194 HO202 BK181 BK182 BK196 HB hHeld ⊢
        refine pure_ (i := 1) (N := some 45) (v := ?_) (a' := ?_) #[false, true, false, false, false, false, false, false] rfl rfl (any_of HT_.out (by kernel_rfl)) (fun _ _ _ h => h) (Or.inl ⟨by rfl, ?_⟩) ?_ ?_
        rotate_left
        ·intro w'
         go_simp
         with_reducible rfl
        rotate_left
        ·simp only [Act.put, Z0, Z1, Z2, i64_w, i32_w]
         rfl
        refine pure_ (i := 2) (N := some 46) (v := ?_) (a' := ?_) #[false, true, true, false, false, false, false, false] rfl rfl (any_of HT_.out (by kernel_rfl)) (fun _ _ _ h => h) (Or.inl ⟨by rfl, ?_⟩) ?_ ?_
        rotate_left
        ·intro w'
         go_simp
         with_reducible rfl
        rotate_left
        ·simp only [Act.put, Z0, Z1, Z2, i64_w, i32_w]
         rfl
        refine pure_ (i := 5) (N := some 49) (v := ?_) (a' := ?_) #[false, true, true, false, false, true, false, false] rfl rfl (any_of HT_.out (by kernel_rfl)) (fun _ _ _ h => h) (Or.inl ⟨by rfl, ?_⟩) ?_ ?_
        rotate_left
        ·intro w'
         go_simp
         with_reducible rfl
        rotate_left
        ·simp only [Act.put, Z0, Z1, Z2, i64_w, i32_w]
         rfl
        refine take_ (i := 0) (N := some 44) (v := ?_) (a' := ?_) #[true, true, true, false, false, true, false, false] rfl rfl (take_ofW HT_.out HW_.out (by kernel_rfl)) (fun _ _ _ h => h) (Or.inl ⟨by rfl, ?_⟩) hHeld ?_ ?_
        rotate_left
        ·rintro w' ⟨s0, s1, s2, s3⟩
         go_simp
         with_reducible rfl
        rotate_left
        ·simp only [Act.put, Z0, Z1, Z2, i64_w, i32_w]
         rfl
        refine one_ (i := 3) (N := some 47) #[true, true, true, true, false, true, false, false] rfl rfl (one_of HT_.out (by kernel_rfl)) (by decide) (fun K hK => ?_)
        refine goes_ Try.func89 (by kernel_rfl) rfl #[.slice Ao46 t200.length co46] (by rfl) rfl rfl (by (try simp only [Z34, Z35, Z36]); first | done | rfl | (simp only [Z32, Z33]; rfl)) ?_
        with_reducible refine (spec_raInverse.calls k _ _ t200 t203 _ ?side1 ?side2 A26.out).mono ?_
        (case side1 => repeat (first | exact (Kd.R_reads' HO202.out).2.2 | (with_reducible refine Z20 ?_ _) | (with_reducible refine Z21 ?_ _) | (with_reducible refine Z22 ?_)))
        (case side2 => exact (Kd.R_reads' HO202.out).2.1)
        rintro e w47 ⟨v204, rfl, ho0, hb⟩
        refine ⟨_, rfl, ?_⟩
        have n0_ := Aside0.mk (Kd.R_elder' (by (with_reducible repeat (first | apply Z9 | apply Z10 | apply Z11)); exact HO185.out) (Kd.R_base ho0) hb)
        have n1_ := Aside0.mk (Kd.R_elder' (by (with_reducible repeat (first | apply Z9 | apply Z10 | apply Z11)); exact HO188.out) (Kd.R_base ho0) hb)
        have n2_ := Aside0.mk (Z14 (by (with_reducible repeat (first | apply Z9 | apply Z10 | apply Z11)); exact HO191.out) hb)
        have n3_ := Aside0.mk (Kd.R_elder' (by (with_reducible repeat (first | apply Z9 | apply Z10 | apply Z11)); exact HO194.out) (Kd.R_base ho0) hb)
        have n4_ := Aside0.mk (Kd.R_elder' (by (with_reducible repeat (first | apply Z9 | apply Z10 | apply Z11)); exact HO202.out) (Kd.R_base ho0) hb)
        have n5_ := Aside0.mk (Kd.R_lower (Kd.R_new' (Kd.R_new' (Kd.R_new' (Kd.R_new' ho0 (Z18 (by (with_reducible repeat (first | apply Z9 | apply Z10 | apply Z11)); exact HO185.out))) (Z18 (by (with_reducible repeat (first | apply Z9 | apply Z10 | apply Z11)); exact HO188.out))) (Z18 (by (with_reducible repeat (first | apply Z9 | apply Z10 | apply Z11)); exact HO194.out))) (Z18 (by (with_reducible repeat (first | apply Z9 | apply Z10 | apply Z11)); exact HO202.out))) (Z7 (by repeat (first | (with_reducible first | exact HB.out | apply Z5 | apply Z3 | apply Z4 | refine Z6 ?_ GE181.out | refine Z6 ?_ GE182.out | refine Z6 ?_ GE196.out) | exact HB.out))))
        have n6_ := Aside0.mk (Z29 (g := gb181) (o := .cells #[.slice A0_0 l0_0.length c0_0, .slice (some ad199) l0_1.length c0_1, .slice A0_2 l0_2.length c0_2, .slice A0_3 l0_3.length c0_3, .slice A0_4 l0_4.length c0_4, .slice (some ad197) l0_5.length c0_5] 39 (0, 0)) (by (with_reducible repeat (first | refine Z26 ?_ _ | refine Z27 ?_ | refine Z28 ?_ _)); exact BK181.out) hb)
        have n7_ := Aside0.mk (Z29 (g := gb182) (o := .cells #[.slice none 0 0, .slice none 0 0, .slice none 0 0, .slice none 0 0, .slice none 0 0, .slice none 0 0] 39 (0, 0)) (by (with_reducible repeat (first | refine Z26 ?_ _ | refine Z27 ?_ | refine Z28 ?_ _)); exact BK182.out) hb)
        have n8_ := Aside0.mk (Z29 (g := gb196) (o := .cells #[.slice Ao33 t183.length co33, .slice (some ad198) t186.length co37, .slice Ao38 t189.length co38, .slice Ao39 t192.length co39] 29 (0, 0)) (by (with_reducible repeat (first | refine Z26 ?_ _ | refine Z27 ?_ | refine Z28 ?_ _)); exact BK196.out) hb)
        have n9_ := Aside0.mk (Z8 (by repeat (first | (with_reducible first | exact HB.out | apply Z5 | apply Z3 | apply Z4 | refine Z6 ?_ GE181.out | refine Z6 ?_ GE182.out | refine Z6 ?_ GE196.out) | exact HB.out)) hb)
        clear HO185
        clear HO188
        clear HO191
        clear HO194
        clear HO202
        clear BK181
        clear BK182
        clear BK196
        clear HB
        have HO185 := n0_
        have HO188 := n1_
        have HO191 := n2_
        have HO194 := n3_
        have HO202 := n4_
        have HO205 := n5_
        have BK181 := n6_
        have BK182 := n7_
        have BK196 := n8_
        have HB := n9_
        clear n0_ n1_ n2_ n3_ n4_ n5_ n6_ n7_ n8_ n9_
        (try clear hb)
        (try clear hb2)
        (try clear hk)
        (try clear hi)
        (try clear ho0)
        obtain ⟨Ao48, co48, eo48⟩ := Z19 HO205.out
        (first | subst eo48 | (injection eo48 with f1_ f2_ f3_; have f4_ := f1_.symm; have f5_ := f3_.symm; clear f1_ f2_ f3_; subst f4_; subst f5_))
        refine hK.out _ _ ⟨(Z24 BK196.out 0).trans rfl, (Z24 BK196.out 1).trans rfl, (Z24 BK196.out 2).trans rfl, (Z24 BK196.out 3).trans rfl⟩ (fun hHeld => ?_)
        clear hK K
        refine norm_ (a' := ?_) ?_ ?_
        rotate_left
        ·show Act.put _ (some 47) _ = _
         simp only [Act.put, Z0, Z1, Z2, i64_w, i32_w]
         rfl
        refine pure_ (i := 4) (N := some 48) (v := ?_) (a' := ?_) #[true, true, true, true, true, true, false, false] rfl rfl (any_of HT_.out (by kernel_rfl)) (fun _ _ _ h => h) (Or.inl ⟨by rfl, ?_⟩) ?_ ?_
        rotate_left
        ·intro w'
         go_simp
         with_reducible rfl
        rotate_left
        ·simp only [Act.put, Z0, Z1, Z2, i64_w, i32_w]
         rfl
        refine one_ (i := 6) (N := none) #[true, true, true, true, true, true, true, false] rfl rfl (one_of HT_.out (by kernel_rfl)) (by decide) (fun K hK => ?_)
        have hs49 : w47.cell? ⟨gb182, 0, none⟩ = some (.slice none 0 0) := (Z24 BK182.out 0).trans rfl
        have hfs49 := Z25 BK182.out 0
        have hns49_0 := NB181_182.out
        have hns49_2 := NB196_182.out
        have hms49_0 := NB182_181.out
        have hms49_2 := NB182_196.out
        have hs50 : w47.cell? ⟨gb182, 1, none⟩ = some (.slice none 0 0) := (Z24 BK182.out 1).trans rfl
        have hfs50 := Z25 BK182.out 1
        have hns50_0 := NB181_182.out
        have hns50_2 := NB196_182.out
        have hms50_0 := NB182_181.out
        have hms50_2 := NB182_196.out
        have hs51 : w47.cell? ⟨gb182, 2, none⟩ = some (.slice none 0 0) := (Z24 BK182.out 2).trans rfl
        have hfs51 := Z25 BK182.out 2
        have hns51_0 := NB181_182.out
        have hns51_2 := NB196_182.out
        have hms51_0 := NB182_181.out
        have hms51_2 := NB182_196.out
        have hs52 : w47.cell? ⟨gb182, 3, none⟩ = some (.slice none 0 0) := (Z24 BK182.out 3).trans rfl
        have hfs52 := Z25 BK182.out 3
        have hns52_0 := NB181_182.out
        have hns52_2 := NB196_182.out
        have hms52_0 := NB182_181.out
        have hms52_2 := NB182_196.out
        have hs53 : w47.cell? ⟨gb182, 4, none⟩ = some (.slice none 0 0) := (Z24 BK182.out 4).trans rfl
        have hfs53 := Z25 BK182.out 4
        have hns53_0 := NB181_182.out
        have hns53_2 := NB196_182.out
        have hms53_0 := NB182_181.out
        have hms53_2 := NB182_196.out
        have hs54 : w47.cell? ⟨gb182, 5, none⟩ = some (.slice none 0 0) := (Z24 BK182.out 5).trans rfl
        have hfs54 := Z25 BK182.out 5
        have hns54_0 := NB181_182.out
        have hns54_2 := NB196_182.out
        have hms54_0 := NB182_181.out
        have hms54_2 := NB182_196.out
        refine skip_ (w1 := ?_) (by rfl) rfl ?_ ?_
        rotate_left
        ·go_simp
         rfl
        refine hK.out _ _ ⟨((cell_far (p := ⟨gb182, _, none⟩) NB196_182.out _).trans (((cell_far (p := ⟨gb182, _, none⟩) NB196_182.out _).trans (((cell_far (p := ⟨gb182, _, none⟩) NB196_182.out _).trans (((cell_far (p := ⟨gb182, _, none⟩) NB196_182.out _).trans (((cell_far (p := ⟨gb182, _, none⟩) NB196_182.out _).trans (((cell_far (p := ⟨gb182, _, none⟩) NB196_182.out _).trans (hHeld.1)))))))))))), ((cell_far (p := ⟨gb182, _, none⟩) NB196_182.out _).trans (((cell_far (p := ⟨gb182, _, none⟩) NB196_182.out _).trans (((cell_far (p := ⟨gb182, _, none⟩) NB196_182.out _).trans (((cell_far (p := ⟨gb182, _, none⟩) NB196_182.out _).trans (((cell_far (p := ⟨gb182, _, none⟩) NB196_182.out _).trans (((cell_far (p := ⟨gb182, _, none⟩) NB196_182.out _).trans (hHeld.2.1)))))))))))), ((cell_far (p := ⟨gb182, _, none⟩) NB196_182.out _).trans (((cell_far (p := ⟨gb182, _, none⟩) NB196_182.out _).trans (((cell_far (p := ⟨gb182, _, none⟩) NB196_182.out _).trans (((cell_far (p := ⟨gb182, _, none⟩) NB196_182.out _).trans (((cell_far (p := ⟨gb182, _, none⟩) NB196_182.out _).trans (((cell_far (p := ⟨gb182, _, none⟩) NB196_182.out _).trans (hHeld.2.2.1)))))))))))), ((cell_far (p := ⟨gb182, _, none⟩) NB196_182.out _).trans (((cell_far (p := ⟨gb182, _, none⟩) NB196_182.out _).trans (((cell_far (p := ⟨gb182, _, none⟩) NB196_182.out _).trans (((cell_far (p := ⟨gb182, _, none⟩) NB196_182.out _).trans (((cell_far (p := ⟨gb182, _, none⟩) NB196_182.out _).trans (((cell_far (p := ⟨gb182, _, none⟩) NB196_182.out _).trans (hHeld.2.2.2))))))))))))⟩ (fun hHeld => ?_)
        clear hK K
        refine pure_ (i := 7) (N := some 3) (v := ?_) (a' := ?_) #[true, true, true, true, true, true, true, true] rfl rfl (any_of HT_.out (by kernel_rfl)) (fun _ _ _ h => h) (Or.inl ⟨by rfl, ?_⟩) ?_ ?_
        rotate_left
        ·intro w'
         go_simp
         with_reducible rfl
        rotate_left
        ·simp only [Act.put, Z0, Z1, Z2, i64_w, i32_w]
         rfl
        refine done_ (done_of HT_.out (by kernel_rfl)) ?_
        try go_wp2
        refine bodyPost_ret (results_ct rfl _ _ gb182 39 #[.slice Ao33 t183.length co33, .slice (some ad198) t186.length co37, .slice Ao38 t189.length co38, .slice Ao39 t192.length co39, .slice Ao46 t200.length co46, .slice Ao48 t203.length co48] (0, 0) _ rfl (by (with_reducible repeat (first | refine Z26 ?_ _ | refine Z27 ?_ | refine Z28 ?_ _)); refine Z30 (cs := #[.slice Ao33 t183.length co33, .slice (some ad198) t186.length co37, .slice Ao38 t189.length co38, .slice Ao39 t192.length co39, .slice Ao46 t200.length co46, .slice none 0 0]) ?_ 5 _ rfl; (with_reducible repeat (first | refine Z26 ?_ _ | refine Z27 ?_ | refine Z28 ?_ _)); refine Z30 (cs := #[.slice Ao33 t183.length co33, .slice (some ad198) t186.length co37, .slice Ao38 t189.length co38, .slice Ao39 t192.length co39, .slice none 0 0, .slice none 0 0]) ?_ 4 _ rfl; (with_reducible repeat (first | refine Z26 ?_ _ | refine Z27 ?_ | refine Z28 ?_ _)); refine Z30 (cs := #[.slice Ao33 t183.length co33, .slice (some ad198) t186.length co37, .slice Ao38 t189.length co38, .slice none 0 0, .slice none 0 0, .slice none 0 0]) ?_ 3 _ rfl; (with_reducible repeat (first | refine Z26 ?_ _ | refine Z27 ?_ | refine Z28 ?_ _)); refine Z30 (cs := #[.slice Ao33 t183.length co33, .slice (some ad198) t186.length co37, .slice none 0 0, .slice none 0 0, .slice none 0 0, .slice none 0 0]) ?_ 2 _ rfl; (with_reducible repeat (first | refine Z26 ?_ _ | refine Z27 ?_ | refine Z28 ?_ _)); refine Z30 (cs := #[.slice Ao33 t183.length co33, .slice none 0 0, .slice none 0 0, .slice none 0 0, .slice none 0 0, .slice none 0 0]) ?_ 1 _ rfl; (with_reducible repeat (first | refine Z26 ?_ _ | refine Z27 ?_ | refine Z28 ?_ _)); refine Z30 (cs := #[.slice none 0 0, .slice none 0 0, .slice none 0 0, .slice none 0 0, .slice none 0 0, .slice none 0 0]) ?_ 0 _ rfl; (with_reducible repeat (first | refine Z26 ?_ _ | refine Z27 ?_ | refine Z28 ?_ _)); exact BK182.out) Try.underlying39 rfl (by kernel_rfl)) rfl ?_
        exact ⟨_, _, _, _, _, _, by first | rfl | (simp [errW_none, errW_some] <;> rfl) | (simp only [← hji18]; first | rfl | (simp [errW_none, errW_some] <;> rfl)) | (simp [*, errW_none, errW_some] <;> rfl), by (with_reducible repeat (first | apply Z9 | apply Z10 | apply Z11)); exact Z12 (Z13 (p := ⟨gb182, 5, none⟩) (Z13 (p := ⟨gb182, 4, none⟩) (Z13 (p := ⟨gb182, 3, none⟩) (Z13 (p := ⟨gb182, 2, none⟩) (Z13 (p := ⟨gb182, 1, none⟩) (Z13 (p := ⟨gb182, 0, none⟩) (Z15 HO185.out BK182.out (by decide)) (fun _ hk => hk.2) (.slice Ao33 t183.length co33)) (fun _ hk => hk.2) (.slice (some ad198) t186.length co37)) (fun _ hk => hk.2) (.slice Ao38 t189.length co38)) (fun _ hk => hk.2) (.slice Ao39 t192.length co39)) (fun _ hk => hk.2) (.slice Ao46 t200.length co46)) (fun _ hk => hk.2) (.slice Ao48 t203.length co48)) (fun _ hk => ⟨hk.1.1.1.1, ⟨hk.1.1.1.2, ⟨hk.1.1.2, hk.1.2⟩⟩⟩), by (with_reducible repeat (first | apply Z9 | apply Z10 | apply Z11)); exact Z12 (Z13 (p := ⟨gb182, 5, none⟩) (Z13 (p := ⟨gb182, 4, none⟩) (Z13 (p := ⟨gb182, 3, none⟩) (Z13 (p := ⟨gb182, 2, none⟩) (Z13 (p := ⟨gb182, 1, none⟩) (Z13 (p := ⟨gb182, 0, none⟩) (Z15 HO188.out BK182.out (by decide)) (fun _ hk => hk.2) (.slice Ao33 t183.length co33)) (fun _ hk => hk.2) (.slice (some ad198) t186.length co37)) (fun _ hk => hk.2) (.slice Ao38 t189.length co38)) (fun _ hk => hk.2) (.slice Ao39 t192.length co39)) (fun _ hk => hk.2) (.slice Ao46 t200.length co46)) (fun _ hk => hk.2) (.slice Ao48 t203.length co48)) (fun _ hk => ⟨hk.1.1.1.1, ⟨hk.1.1.1.2, ⟨hk.1.1.2, hk.1.2⟩⟩⟩), by (with_reducible repeat (first | apply Z9 | apply Z10 | apply Z11)); exact Z12 (Z13 (p := ⟨gb182, 5, none⟩) (Z13 (p := ⟨gb182, 4, none⟩) (Z13 (p := ⟨gb182, 3, none⟩) (Z13 (p := ⟨gb182, 2, none⟩) (Z13 (p := ⟨gb182, 1, none⟩) (Z13 (p := ⟨gb182, 0, none⟩) (Z15 HO191.out BK182.out (by decide)) (fun _ hk => hk.2) (.slice Ao33 t183.length co33)) (fun _ hk => hk.2) (.slice (some ad198) t186.length co37)) (fun _ hk => hk.2) (.slice Ao38 t189.length co38)) (fun _ hk => hk.2) (.slice Ao39 t192.length co39)) (fun _ hk => hk.2) (.slice Ao46 t200.length co46)) (fun _ hk => hk.2) (.slice Ao48 t203.length co48)) (fun _ hk => trivial), by (with_reducible repeat (first | apply Z9 | apply Z10 | apply Z11)); exact Z12 (Z13 (p := ⟨gb182, 5, none⟩) (Z13 (p := ⟨gb182, 4, none⟩) (Z13 (p := ⟨gb182, 3, none⟩) (Z13 (p := ⟨gb182, 2, none⟩) (Z13 (p := ⟨gb182, 1, none⟩) (Z13 (p := ⟨gb182, 0, none⟩) (Z15 HO194.out BK182.out (by decide)) (fun _ hk => hk.2) (.slice Ao33 t183.length co33)) (fun _ hk => hk.2) (.slice (some ad198) t186.length co37)) (fun _ hk => hk.2) (.slice Ao38 t189.length co38)) (fun _ hk => hk.2) (.slice Ao39 t192.length co39)) (fun _ hk => hk.2) (.slice Ao46 t200.length co46)) (fun _ hk => hk.2) (.slice Ao48 t203.length co48)) (fun _ hk => ⟨hk.1.1.1.1, ⟨hk.1.1.1.2, ⟨hk.1.1.2, hk.1.2⟩⟩⟩), by (with_reducible repeat (first | apply Z9 | apply Z10 | apply Z11)); exact Z12 (Z13 (p := ⟨gb182, 5, none⟩) (Z13 (p := ⟨gb182, 4, none⟩) (Z13 (p := ⟨gb182, 3, none⟩) (Z13 (p := ⟨gb182, 2, none⟩) (Z13 (p := ⟨gb182, 1, none⟩) (Z13 (p := ⟨gb182, 0, none⟩) (Z15 HO202.out BK182.out (by decide)) (fun _ hk => hk.2) (.slice Ao33 t183.length co33)) (fun _ hk => hk.2) (.slice (some ad198) t186.length co37)) (fun _ hk => hk.2) (.slice Ao38 t189.length co38)) (fun _ hk => hk.2) (.slice Ao39 t192.length co39)) (fun _ hk => hk.2) (.slice Ao46 t200.length co46)) (fun _ hk => hk.2) (.slice Ao48 t203.length co48)) (fun _ hk => ⟨hk.1.1.1.1.2, ⟨hk.1.1.1.2, ⟨hk.1.1.2, hk.1.2⟩⟩⟩), by (with_reducible repeat (first | apply Z9 | apply Z10 | apply Z11)); exact Z12 (Z13 (p := ⟨gb182, 5, none⟩) (Z13 (p := ⟨gb182, 4, none⟩) (Z13 (p := ⟨gb182, 3, none⟩) (Z13 (p := ⟨gb182, 2, none⟩) (Z13 (p := ⟨gb182, 1, none⟩) (Z13 (p := ⟨gb182, 0, none⟩) (Z15 HO205.out BK182.out (by decide)) (fun _ hk => hk.2) (.slice Ao33 t183.length co33)) (fun _ hk => hk.2) (.slice (some ad198) t186.length co37)) (fun _ hk => hk.2) (.slice Ao38 t189.length co38)) (fun _ hk => hk.2) (.slice Ao39 t192.length co39)) (fun _ hk => hk.2) (.slice Ao46 t200.length co46)) (fun _ hk => hk.2) (.slice Ao48 t203.length co48)) (fun _ hk => ⟨hk.1.1.1.1.2, ⟨hk.1.1.1.2, ⟨hk.1.1.2, hk.1.2⟩⟩⟩), by repeat (first | (with_reducible first | exact HB.out | apply Z5 | apply Z3 | apply Z4 | refine Z6 ?_ GE181.out | refine Z6 ?_ GE182.out | refine Z6 ?_ GE196.out) | exact HB.out)⟩
       ·rw [if_neg c24] at H
        have c24b0 : decide ((rd l0_1 t195) < (rd t186 t195)) = false := Z38 c24
        clear c24
        replace H := Z37.mp H
        obtain ⟨t206, A550, H⟩ := H
        replace H : ((spec_raInverse.f k t206).bind fun t209 => (some (t183, t186, t189, t192, t206, t209, rd l0_5 (ji18)))) = some (r1, r2, r3, r4, r5, r6, r7) := H
        have A55 := Aside0.mk A550
        clear A550
        replace H := Z37.mp H
        obtain ⟨t209, A560, H⟩ := H
        replace H : (some (t183, t186, t189, t192, t206, t209, rd l0_5 (ji18))) = some (r1, r2, r3, r4, r5, r6, r7) := H
        have A56 := Aside0.mk A560
        clear A560
        simp only [Option.some.injEq, Prod.mk.injEq] at H
        obtain ⟨rfl, rfl, rfl, rfl, rfl, rfl, rfl⟩ := H
        go_enter Try.func63, Try.ntmps63
        try go_wp2_with (first | ((with_reducible refine gate_dst (N := 1) rfl ?_); refine box_event ?hg (N := 1) ?hd (cs := #[.slice A0_0 l0_0.length c0_0, .slice A0_1 l0_1.length c0_1, .slice A0_2 l0_2.length c0_2, .slice A0_3 l0_3.length c0_3, .slice A0_4 l0_4.length c0_4, .slice A0_5 l0_5.length c0_5]) (t := 39) ?hr ?_; (case hd => rfl); (case hg => rfl); (case hr => first | (go_simp; done) | (go_simp; rfl)); intro gb181 hg w57 hbox hb; have n0_ := Aside0.mk (Z8 (by repeat (first | (with_reducible first | exact HB.out | apply Z5 | apply Z3 | apply Z4) | exact HB.out)) hb); have n1_ := Aside0.mk (hbox); have n2_ := Aside0.mk ((by rw [hg]; exact (Z7 (by repeat (first | (with_reducible first | exact HB.out | apply Z5 | apply Z3 | apply Z4) | exact HB.out))) : w.heap.size ≤ gb181)); have n3_ := Aside0.mk ((by rw [hg]; exact (Z7 (by repeat (first | (with_reducible first | exact HB.out | apply Z5 | apply Z3 | apply Z4) | exact HB.out))) : w.heap.size ≤ gb181)); clear HB; have HB := n0_; have BK181 := n1_; have GW181 := n2_; have GE181 := n3_; clear n0_ n1_ n2_ n3_; clear hb hbox hg) | ((with_reducible refine gate_dst (N := 2) rfl ?_); refine box_event ?hg (N := 2) ?hd (cs := #[.slice none 0 0, .slice none 0 0, .slice none 0 0, .slice none 0 0, .slice none 0 0, .slice none 0 0]) (t := 39) ?hr ?_; (case hd => rfl); (case hg => rfl); (case hr => first | (go_simp; done) | (go_simp; rfl)); intro gb182 hg w58 hbox hb; have n0_ := Aside0.mk (Z29 (g := gb181) (o := .cells #[.slice A0_0 l0_0.length c0_0, .slice A0_1 l0_1.length c0_1, .slice A0_2 l0_2.length c0_2, .slice A0_3 l0_3.length c0_3, .slice A0_4 l0_4.length c0_4, .slice A0_5 l0_5.length c0_5] 39 (0, 0)) (by (with_reducible repeat (first | refine Z26 ?_ _ | refine Z27 ?_ | refine Z28 ?_ _)); exact BK181.out) hb); have n1_ := Aside0.mk (Z8 (by repeat (first | (with_reducible first | exact HB.out | apply Z5 | apply Z3 | apply Z4 | refine Z6 ?_ GE181.out) | exact HB.out)) hb); have n2_ := Aside0.mk (hbox); have n3_ := Aside0.mk ((by rw [hg]; exact (Z7 (by repeat (first | (with_reducible first | exact HB.out | apply Z5 | apply Z3 | apply Z4 | refine Z6 ?_ GE181.out) | exact HB.out))) : w.heap.size ≤ gb182)); have n4_ := Aside0.mk ((by rw [hg]; exact (Z7 (by repeat (first | (with_reducible first | exact HB.out | apply Z5 | apply Z3 | apply Z4 | refine Z6 ?_ GE181.out) | exact HB.out))) : w.heap.size ≤ gb182)); have n5_ := Aside0.mk ((by rw [hg]; exact Nat.ne_of_lt (blk_lt (g := gb181) (o := .cells #[.slice A0_0 l0_0.length c0_0, .slice A0_1 l0_1.length c0_1, .slice A0_2 l0_2.length c0_2, .slice A0_3 l0_3.length c0_3, .slice A0_4 l0_4.length c0_4, .slice A0_5 l0_5.length c0_5] 39 (0, 0)) (by (with_reducible repeat (first | refine Z26 ?_ _ | refine Z27 ?_ | refine Z28 ?_ _)); exact BK181.out)) : gb181 ≠ gb182)); have n6_ := Aside0.mk ((by rw [hg]; exact Nat.ne_of_gt (blk_lt (g := gb181) (o := .cells #[.slice A0_0 l0_0.length c0_0, .slice A0_1 l0_1.length c0_1, .slice A0_2 l0_2.length c0_2, .slice A0_3 l0_3.length c0_3, .slice A0_4 l0_4.length c0_4, .slice A0_5 l0_5.length c0_5] 39 (0, 0)) (by (with_reducible repeat (first | refine Z26 ?_ _ | refine Z27 ?_ | refine Z28 ?_ _)); exact BK181.out)) : gb182 ≠ gb181)); clear BK181; clear HB; have BK181 := n0_; have HB := n1_; have BK182 := n2_; have GW182 := n3_; have GE182 := n4_; have NB181_182 := n5_; have NB182_181 := n6_; clear n0_ n1_ n2_ n3_ n4_ n5_ n6_; clear hb hbox hg; have hnb59 := NB181_182.out; have hnc59 := NB182_181.out; have hcz60_0 : w58.cell? ⟨gb181, 0, none⟩ = some (.slice A0_0 l0_0.length c0_0) := (Z24 BK181.out 0).trans rfl; have hcz60_1 : w58.cell? ⟨gb181, 1, none⟩ = some (.slice A0_1 l0_1.length c0_1) := (Z24 BK181.out 1).trans rfl; have hcz60_2 : w58.cell? ⟨gb181, 2, none⟩ = some (.slice A0_2 l0_2.length c0_2) := (Z24 BK181.out 2).trans rfl; have hcz60_3 : w58.cell? ⟨gb181, 3, none⟩ = some (.slice A0_3 l0_3.length c0_3) := (Z24 BK181.out 3).trans rfl; have hcz60_4 : w58.cell? ⟨gb181, 4, none⟩ = some (.slice A0_4 l0_4.length c0_4) := (Z24 BK181.out 4).trans rfl; have hcz60_5 : w58.cell? ⟨gb181, 5, none⟩ = some (.slice A0_5 l0_5.length c0_5) := (Z24 BK181.out 5).trans rfl; have hfz60_0 := Z25 BK181.out 0; have hfz60_1 := Z25 BK181.out 1; have hfz60_2 := Z25 BK181.out 2; have hfz60_3 := Z25 BK181.out 3; have hfz60_4 := Z25 BK181.out 4; have hfz60_5 := Z25 BK181.out 5) | ((with_reducible refine gate_callee (f := 52) rfl ?_); refine goesL_ (some 11) rfl rfl Try.func52 (by kernel_rfl) rfl #[.agg #[.slice A0_0 l0_0.length c0_0, .slice A0_1 l0_1.length c0_1, .slice A0_2 l0_2.length c0_2, .slice A0_3 l0_3.length c0_3]] rfl (by (try simp only [Z34, Z35, Z36]); first | done | rfl | (simp only [Z32, Z33]; rfl)) ?_; (with_reducible refine (spec_foStep.calls _ _ l0_0 _ _ l0_1 _ _ l0_2 _ _ l0_3 t183 t186 t189 t192 t195 _ ?side1 ?side2 ?side3 ?side4 ?side5 ?side6 ?side7 ?side8 A2.out).mono ?_); (case side1 => repeat (first | exact (Z23 HR0_0.out HB.out) | (with_reducible refine Z20 ?_ _) | (with_reducible refine Z21 ?_ _) | (with_reducible refine Z22 ?_))); (case side2 => exact HC0_0.out); (case side3 => repeat (first | exact (Z23 HR0_1.out HB.out) | (with_reducible refine Z20 ?_ _) | (with_reducible refine Z21 ?_ _) | (with_reducible refine Z22 ?_))); (case side4 => exact HC0_1.out); (case side5 => repeat (first | exact (Z23 HR0_2.out HB.out) | (with_reducible refine Z20 ?_ _) | (with_reducible refine Z21 ?_ _) | (with_reducible refine Z22 ?_))); (case side6 => exact HC0_2.out); (case side7 => repeat (first | exact (Z23 HR0_3.out HB.out) | (with_reducible refine Z20 ?_ _) | (with_reducible refine Z21 ?_ _) | (with_reducible refine Z22 ?_))); (case side8 => exact HC0_3.out); rintro e w61 ⟨v184, v187, v190, v193, rfl, ho0, ho1, ho2, ho3, hb⟩; refine ⟨_, rfl, ?_⟩; have n0_ := Aside0.mk (Kd.R_lower ho0 (Z7 (by repeat (first | (with_reducible first | exact HB.out | apply Z5 | apply Z3 | apply Z4 | refine Z6 ?_ GE181.out | refine Z6 ?_ GE182.out) | exact HB.out)))); have n1_ := Aside0.mk (Kd.R_lower ho1 (Z7 (by repeat (first | (with_reducible first | exact HB.out | apply Z5 | apply Z3 | apply Z4 | refine Z6 ?_ GE181.out | refine Z6 ?_ GE182.out) | exact HB.out)))); have n2_ := Aside0.mk (Kd.R_lower ho2 (Z7 (by repeat (first | (with_reducible first | exact HB.out | apply Z5 | apply Z3 | apply Z4 | refine Z6 ?_ GE181.out | refine Z6 ?_ GE182.out) | exact HB.out)))); have n3_ := Aside0.mk (Kd.R_lower ho3 (Z7 (by repeat (first | (with_reducible first | exact HB.out | apply Z5 | apply Z3 | apply Z4 | refine Z6 ?_ GE181.out | refine Z6 ?_ GE182.out) | exact HB.out)))); have n4_ := Aside0.mk (Z29 (g := gb181) (o := .cells #[.slice A0_0 l0_0.length c0_0, .slice A0_1 l0_1.length c0_1, .slice A0_2 l0_2.length c0_2, .slice A0_3 l0_3.length c0_3, .slice A0_4 l0_4.length c0_4, .slice A0_5 l0_5.length c0_5] 39 (0, 0)) (by (with_reducible repeat (first | refine Z26 ?_ _ | refine Z27 ?_ | refine Z28 ?_ _)); exact BK181.out) hb); have n5_ := Aside0.mk (Z29 (g := gb182) (o := .cells #[.slice none 0 0, .slice none 0 0, .slice none 0 0, .slice none 0 0, .slice none 0 0, .slice none 0 0] 39 (0, 0)) (by (with_reducible repeat (first | refine Z26 ?_ _ | refine Z27 ?_ | refine Z28 ?_ _)); exact BK182.out) hb); have n6_ := Aside0.mk (Z8 (by repeat (first | (with_reducible first | exact HB.out | apply Z5 | apply Z3 | apply Z4 | refine Z6 ?_ GE181.out | refine Z6 ?_ GE182.out) | exact HB.out)) hb); clear BK181; clear BK182; clear HB; have HO185 := n0_; have HO188 := n1_; have HO191 := n2_; have HO194 := n3_; have BK181 := n4_; have BK182 := n5_; have HB := n6_; clear n0_ n1_ n2_ n3_ n4_ n5_ n6_; (try clear hb); (try clear hb2); (try clear hk); (try clear hi); (try clear ho0); (try clear ho1); (try clear ho2); (try clear ho3)) | ((with_reducible refine gate_dst (N := 4) rfl ?_); refine box_event ?hg (N := 4) ?hd (cs := #[.slice none 0 0, .slice none 0 0, .slice none 0 0, .slice none 0 0]) (t := 29) ?hr ?_; (case hd => rfl); (case hg => rfl); (case hr => first | (go_simp; done) | (go_simp; rfl)); intro gb196 hg w62 hbox hb; have n0_ := Aside0.mk (Z14 (by (with_reducible repeat (first | apply Z9 | apply Z10 | apply Z11)); exact HO185.out) hb); have n1_ := Aside0.mk (Z14 (by (with_reducible repeat (first | apply Z9 | apply Z10 | apply Z11)); exact HO188.out) hb); have n2_ := Aside0.mk (Z14 (by (with_reducible repeat (first | apply Z9 | apply Z10 | apply Z11)); exact HO191.out) hb); have n3_ := Aside0.mk (Z14 (by (with_reducible repeat (first | apply Z9 | apply Z10 | apply Z11)); exact HO194.out) hb); have n4_ := Aside0.mk (Z29 (g := gb181) (o := .cells #[.slice A0_0 l0_0.length c0_0, .slice A0_1 l0_1.length c0_1, .slice A0_2 l0_2.length c0_2, .slice A0_3 l0_3.length c0_3, .slice A0_4 l0_4.length c0_4, .slice A0_5 l0_5.length c0_5] 39 (0, 0)) (by (with_reducible repeat (first | refine Z26 ?_ _ | refine Z27 ?_ | refine Z28 ?_ _)); exact BK181.out) hb); have n5_ := Aside0.mk (Z29 (g := gb182) (o := .cells #[.slice none 0 0, .slice none 0 0, .slice none 0 0, .slice none 0 0, .slice none 0 0, .slice none 0 0] 39 (0, 0)) (by (with_reducible repeat (first | refine Z26 ?_ _ | refine Z27 ?_ | refine Z28 ?_ _)); exact BK182.out) hb); have n6_ := Aside0.mk (Z8 (by repeat (first | (with_reducible first | exact HB.out | apply Z5 | apply Z3 | apply Z4 | refine Z6 ?_ GE181.out | refine Z6 ?_ GE182.out) | exact HB.out)) hb); have n7_ := Aside0.mk (hbox); have n8_ := Aside0.mk ((by rw [hg]; exact (Z7 (by repeat (first | (with_reducible first | exact HB.out | apply Z5 | apply Z3 | apply Z4 | refine Z6 ?_ GE181.out | refine Z6 ?_ GE182.out) | exact HB.out))) : w.heap.size ≤ gb196)); have n9_ := Aside0.mk ((by rw [hg]; exact (Z7 (by repeat (first | (with_reducible first | exact HB.out | apply Z5 | apply Z3 | apply Z4 | refine Z6 ?_ GE181.out | refine Z6 ?_ GE182.out) | exact HB.out))) : w.heap.size ≤ gb196)); have n10_ := Aside0.mk ((by rw [hg]; exact Nat.ne_of_lt (blk_lt (g := gb181) (o := .cells #[.slice A0_0 l0_0.length c0_0, .slice A0_1 l0_1.length c0_1, .slice A0_2 l0_2.length c0_2, .slice A0_3 l0_3.length c0_3, .slice A0_4 l0_4.length c0_4, .slice A0_5 l0_5.length c0_5] 39 (0, 0)) (by (with_reducible repeat (first | refine Z26 ?_ _ | refine Z27 ?_ | refine Z28 ?_ _)); exact BK181.out)) : gb181 ≠ gb196)); have n11_ := Aside0.mk ((by rw [hg]; exact Nat.ne_of_gt (blk_lt (g := gb181) (o := .cells #[.slice A0_0 l0_0.length c0_0, .slice A0_1 l0_1.length c0_1, .slice A0_2 l0_2.length c0_2, .slice A0_3 l0_3.length c0_3, .slice A0_4 l0_4.length c0_4, .slice A0_5 l0_5.length c0_5] 39 (0, 0)) (by (with_reducible repeat (first | refine Z26 ?_ _ | refine Z27 ?_ | refine Z28 ?_ _)); exact BK181.out)) : gb196 ≠ gb181)); have n12_ := Aside0.mk ((by rw [hg]; exact Nat.ne_of_lt (blk_lt (g := gb182) (o := .cells #[.slice none 0 0, .slice none 0 0, .slice none 0 0, .slice none 0 0, .slice none 0 0, .slice none 0 0] 39 (0, 0)) (by (with_reducible repeat (first | refine Z26 ?_ _ | refine Z27 ?_ | refine Z28 ?_ _)); exact BK182.out)) : gb182 ≠ gb196)); have n13_ := Aside0.mk ((by rw [hg]; exact Nat.ne_of_gt (blk_lt (g := gb182) (o := .cells #[.slice none 0 0, .slice none 0 0, .slice none 0 0, .slice none 0 0, .slice none 0 0, .slice none 0 0] 39 (0, 0)) (by (with_reducible repeat (first | refine Z26 ?_ _ | refine Z27 ?_ | refine Z28 ?_ _)); exact BK182.out)) : gb196 ≠ gb182)); clear HO185; clear HO188; clear HO191; clear HO194; clear BK181; clear BK182; clear HB; have HO185 := n0_; have HO188 := n1_; have HO191 := n2_; have HO194 := n3_; have BK181 := n4_; have BK182 := n5_; have HB := n6_; have BK196 := n7_; have GW196 := n8_; have GE196 := n9_; have NB181_196 := n10_; have NB196_181 := n11_; have NB182_196 := n12_; have NB196_182 := n13_; clear n0_ n1_ n2_ n3_ n4_ n5_ n6_ n7_ n8_ n9_ n10_ n11_ n12_ n13_; clear hb hbox hg; obtain ⟨Ao63, co63, eo63⟩ := Z19 HO185.out; subst eo63; have hnb64 := NB196_181.out; have hnc64 := NB181_196.out; have hnb65 := NB196_182.out; have hnc65 := NB182_196.out; have hcz66_0 : w62.cell? ⟨gb196, 0, none⟩ = some (.slice none 0 0) := (Z24 BK196.out 0).trans rfl; have hcz66_1 : w62.cell? ⟨gb196, 1, none⟩ = some (.slice none 0 0) := (Z24 BK196.out 1).trans rfl; have hcz66_2 : w62.cell? ⟨gb196, 2, none⟩ = some (.slice none 0 0) := (Z24 BK196.out 2).trans rfl; have hcz66_3 : w62.cell? ⟨gb196, 3, none⟩ = some (.slice none 0 0) := (Z24 BK196.out 3).trans rfl; have hfz66_0 := Z25 BK196.out 0; have hfz66_1 := Z25 BK196.out 1; have hfz66_2 := Z25 BK196.out 2; have hfz66_3 := Z25 BK196.out 3; obtain ⟨Ao67, co67, eo67⟩ := Z19 HO188.out; subst eo67; obtain ⟨Ao68, co68, eo68⟩ := Z19 HO191.out; subst eo68; obtain ⟨Ao69, co69, eo69⟩ := Z19 HO194.out; subst eo69; have hcz70_0 : w62.cell? ⟨gb181, 0, none⟩ = some (.slice A0_0 l0_0.length c0_0) := (Z24 BK181.out 0).trans rfl; have hcz70_1 : w62.cell? ⟨gb181, 1, none⟩ = some (.slice A0_1 l0_1.length c0_1) := (Z24 BK181.out 1).trans rfl; have hcz70_2 : w62.cell? ⟨gb181, 2, none⟩ = some (.slice A0_2 l0_2.length c0_2) := (Z24 BK181.out 2).trans rfl; have hcz70_3 : w62.cell? ⟨gb181, 3, none⟩ = some (.slice A0_3 l0_3.length c0_3) := (Z24 BK181.out 3).trans rfl; have hcz70_4 : w62.cell? ⟨gb181, 4, none⟩ = some (.slice A0_4 l0_4.length c0_4) := (Z24 BK181.out 4).trans rfl; have hcz70_5 : w62.cell? ⟨gb181, 5, none⟩ = some (.slice A0_5 l0_5.length c0_5) := (Z24 BK181.out 5).trans rfl; have hfz70_0 := Z25 BK181.out 0; have hfz70_1 := Z25 BK181.out 1; have hfz70_2 := Z25 BK181.out 2; have hfz70_3 := Z25 BK181.out 3; have hfz70_4 := Z25 BK181.out 4; have hfz70_5 := Z25 BK181.out 5; have p197 : 0 ≤ ((ji18) : Int) := Z31 (by first | (with_reducible assumption) | assumption); have q197 : (ji18) < (l0_5.length : Int) := Z31 (by first | (with_reducible assumption) | assumption); obtain ⟨ad197, e197, hx197_0⟩ := Kd.at_int HR0_5.out (ji18) p197 q197; cases e197; have hn197_0 : ad197.block ≠ gb196 := Nat.ne_of_lt (Nat.lt_of_lt_of_le (by have := World.block_lt_of_cell? _ _ hx197_0; first | rwa [add_block] at this | exact this) GW196.out); have hn197_1 : ad197.block ≠ gb196 := Nat.ne_of_lt (Nat.lt_of_lt_of_le (by have := World.block_lt_of_cell? _ _ hx197_0; first | rwa [add_block] at this | exact this) GW196.out); have hn197_2 : ad197.block ≠ gb196 := Nat.ne_of_lt (Nat.lt_of_lt_of_le (by have := World.block_lt_of_cell? _ _ hx197_0; first | rwa [add_block] at this | exact this) GW196.out); have hn197_3 : ad197.block ≠ gb196 := Nat.ne_of_lt (Nat.lt_of_lt_of_le (by have := World.block_lt_of_cell? _ _ hx197_0; first | rwa [add_block] at this | exact this) GW196.out); try replace hx197_0 := (HB.out.cell (World.block_lt_of_cell? w _ hx197_0)).trans hx197_0; replace hx197_0 := (cell_far (p := ⟨gb196, 0, none⟩) (by first | (rw [add_block]; exact hn197_0) | (show (Addr.add _ _).block ≠ _; rw [add_block]; exact hn197_0) | exact hn197_0) (.slice Ao63 t183.length co63)).trans hx197_0; replace hx197_0 := (cell_far (p := ⟨gb196, 1, none⟩) (by first | (rw [add_block]; exact hn197_1) | (show (Addr.add _ _).block ≠ _; rw [add_block]; exact hn197_1) | exact hn197_1) (.slice Ao67 t186.length co67)).trans hx197_0; replace hx197_0 := (cell_far (p := ⟨gb196, 2, none⟩) (by first | (rw [add_block]; exact hn197_2) | (show (Addr.add _ _).block ≠ _; rw [add_block]; exact hn197_2) | exact hn197_2) (.slice Ao68 t189.length co68)).trans hx197_0; replace hx197_0 := (cell_far (p := ⟨gb196, 3, none⟩) (by first | (rw [add_block]; exact hn197_3) | (show (Addr.add _ _).block ≠ _; rw [add_block]; exact hn197_3) | exact hn197_3) (.slice Ao69 t192.length co69)).trans hx197_0; clear hn197_0; clear hn197_1; clear hn197_2; clear hn197_3; replace p197 := eq_true p197; replace q197 := eq_true q197))
        have n0_ : Aside0 (Kd.R (Kd.int .i64) 3 ((((w62.setCell ⟨gb196, 0, none⟩ (.slice Ao63 t183.length co63)).setCell ⟨gb196, 1, none⟩ (.slice Ao67 t186.length co67)).setCell ⟨gb196, 2, none⟩ (.slice Ao68 t189.length co68)).setCell ⟨gb196, 3, none⟩ (.slice Ao69 t192.length co69)) w.heap.size (fun k_ => some k_ ≠ (.slice Ao67 t186.length co67 : Value).ownBlock ∧ some k_ ≠ (.slice Ao69 t192.length co69 : Value).ownBlock) (.slice Ao63 t183.length co63) t183) := ⟨by (with_reducible repeat (first | apply Z9 | apply Z10 | apply Z11)); exact Z12 (Z13 (p := ⟨gb196, 3, none⟩) (Z13 (p := ⟨gb196, 2, none⟩) (Z13 (p := ⟨gb196, 1, none⟩) (Z13 (p := ⟨gb196, 0, none⟩) (Z15 HO185.out BK196.out (by decide)) (fun _ hk => hk.2) (.slice Ao63 t183.length co63)) (fun _ hk => hk.2) (.slice Ao67 t186.length co67)) (fun _ hk => hk.2) (.slice Ao68 t189.length co68)) (fun _ hk => hk.2) (.slice Ao69 t192.length co69)) (fun _ hk => ⟨hk.1.1, hk.1.2⟩)⟩
        have n1_ : Aside0 (Kd.R (Kd.int .i64) 3 ((((w62.setCell ⟨gb196, 0, none⟩ (.slice Ao63 t183.length co63)).setCell ⟨gb196, 1, none⟩ (.slice Ao67 t186.length co67)).setCell ⟨gb196, 2, none⟩ (.slice Ao68 t189.length co68)).setCell ⟨gb196, 3, none⟩ (.slice Ao69 t192.length co69)) w.heap.size (fun k_ => some k_ ≠ (.slice Ao63 t183.length co63 : Value).ownBlock ∧ some k_ ≠ (.slice Ao69 t192.length co69 : Value).ownBlock) (.slice Ao67 t186.length co67) t186) := ⟨by (with_reducible repeat (first | apply Z9 | apply Z10 | apply Z11)); exact Z12 (Z13 (p := ⟨gb196, 3, none⟩) (Z13 (p := ⟨gb196, 2, none⟩) (Z13 (p := ⟨gb196, 1, none⟩) (Z13 (p := ⟨gb196, 0, none⟩) (Z15 HO188.out BK196.out (by decide)) (fun _ hk => hk.2) (.slice Ao63 t183.length co63)) (fun _ hk => hk.2) (.slice Ao67 t186.length co67)) (fun _ hk => hk.2) (.slice Ao68 t189.length co68)) (fun _ hk => hk.2) (.slice Ao69 t192.length co69)) (fun _ hk => ⟨hk.1.1, hk.1.2⟩)⟩
        have n2_ : Aside0 (Kd.R Kd.bool 4 ((((w62.setCell ⟨gb196, 0, none⟩ (.slice Ao63 t183.length co63)).setCell ⟨gb196, 1, none⟩ (.slice Ao67 t186.length co67)).setCell ⟨gb196, 2, none⟩ (.slice Ao68 t189.length co68)).setCell ⟨gb196, 3, none⟩ (.slice Ao69 t192.length co69)) w.heap.size (fun _ => True) (.slice Ao68 t189.length co68) t189) := ⟨by (with_reducible repeat (first | apply Z9 | apply Z10 | apply Z11)); exact Z12 (Z13 (p := ⟨gb196, 3, none⟩) (Z13 (p := ⟨gb196, 2, none⟩) (Z13 (p := ⟨gb196, 1, none⟩) (Z13 (p := ⟨gb196, 0, none⟩) (Z15 HO191.out BK196.out (by decide)) (fun _ hk => hk.2) (.slice Ao63 t183.length co63)) (fun _ hk => hk.2) (.slice Ao67 t186.length co67)) (fun _ hk => hk.2) (.slice Ao68 t189.length co68)) (fun _ hk => hk.2) (.slice Ao69 t192.length co69)) (fun _ hk => trivial)⟩
        have n3_ : Aside0 (Kd.R (Kd.int .i64) 3 ((((w62.setCell ⟨gb196, 0, none⟩ (.slice Ao63 t183.length co63)).setCell ⟨gb196, 1, none⟩ (.slice Ao67 t186.length co67)).setCell ⟨gb196, 2, none⟩ (.slice Ao68 t189.length co68)).setCell ⟨gb196, 3, none⟩ (.slice Ao69 t192.length co69)) w.heap.size (fun k_ => some k_ ≠ (.slice Ao63 t183.length co63 : Value).ownBlock ∧ some k_ ≠ (.slice Ao67 t186.length co67 : Value).ownBlock) (.slice Ao69 t192.length co69) t192) := ⟨by (with_reducible repeat (first | apply Z9 | apply Z10 | apply Z11)); exact Z12 (Z13 (p := ⟨gb196, 3, none⟩) (Z13 (p := ⟨gb196, 2, none⟩) (Z13 (p := ⟨gb196, 1, none⟩) (Z13 (p := ⟨gb196, 0, none⟩) (Z15 HO194.out BK196.out (by decide)) (fun _ hk => hk.2) (.slice Ao63 t183.length co63)) (fun _ hk => hk.2) (.slice Ao67 t186.length co67)) (fun _ hk => hk.2) (.slice Ao68 t189.length co68)) (fun _ hk => hk.2) (.slice Ao69 t192.length co69)) (fun _ hk => ⟨hk.1.1, hk.1.2⟩)⟩
        have n4_ : Aside0 (((((w62.setCell ⟨gb196, 0, none⟩ (.slice Ao63 t183.length co63)).setCell ⟨gb196, 1, none⟩ (.slice Ao67 t186.length co67)).setCell ⟨gb196, 2, none⟩ (.slice Ao68 t189.length co68)).setCell ⟨gb196, 3, none⟩ (.slice Ao69 t192.length co69)).heap[gb181]? = some (.cells #[.slice A0_0 l0_0.length c0_0, .slice A0_1 l0_1.length c0_1, .slice A0_2 l0_2.length c0_2, .slice A0_3 l0_3.length c0_3, .slice A0_4 l0_4.length c0_4, .slice (some ad197) l0_5.length c0_5] 39 (0, 0))) := ⟨by (with_reducible repeat (first | refine Z26 ?_ _ | refine Z27 ?_ | refine Z28 ?_ _)); refine blk_far ?_ NB181_196.out _; (with_reducible repeat (first | refine Z26 ?_ _ | refine Z27 ?_ | refine Z28 ?_ _)); refine blk_far ?_ NB181_196.out _; (with_reducible repeat (first | refine Z26 ?_ _ | refine Z27 ?_ | refine Z28 ?_ _)); refine blk_far ?_ NB181_196.out _; (with_reducible repeat (first | refine Z26 ?_ _ | refine Z27 ?_ | refine Z28 ?_ _)); refine blk_far ?_ NB181_196.out _; (with_reducible repeat (first | refine Z26 ?_ _ | refine Z27 ?_ | refine Z28 ?_ _)); exact BK181.out⟩
        have n5_ : Aside0 (((((w62.setCell ⟨gb196, 0, none⟩ (.slice Ao63 t183.length co63)).setCell ⟨gb196, 1, none⟩ (.slice Ao67 t186.length co67)).setCell ⟨gb196, 2, none⟩ (.slice Ao68 t189.length co68)).setCell ⟨gb196, 3, none⟩ (.slice Ao69 t192.length co69)).heap[gb182]? = some (.cells #[.slice none 0 0, .slice none 0 0, .slice none 0 0, .slice none 0 0, .slice none 0 0, .slice none 0 0] 39 (0, 0))) := ⟨by (with_reducible repeat (first | refine Z26 ?_ _ | refine Z27 ?_ | refine Z28 ?_ _)); refine blk_far ?_ NB182_196.out _; (with_reducible repeat (first | refine Z26 ?_ _ | refine Z27 ?_ | refine Z28 ?_ _)); refine blk_far ?_ NB182_196.out _; (with_reducible repeat (first | refine Z26 ?_ _ | refine Z27 ?_ | refine Z28 ?_ _)); refine blk_far ?_ NB182_196.out _; (with_reducible repeat (first | refine Z26 ?_ _ | refine Z27 ?_ | refine Z28 ?_ _)); refine blk_far ?_ NB182_196.out _; (with_reducible repeat (first | refine Z26 ?_ _ | refine Z27 ?_ | refine Z28 ?_ _)); exact BK182.out⟩
        have n6_ : Aside0 (((((w62.setCell ⟨gb196, 0, none⟩ (.slice Ao63 t183.length co63)).setCell ⟨gb196, 1, none⟩ (.slice Ao67 t186.length co67)).setCell ⟨gb196, 2, none⟩ (.slice Ao68 t189.length co68)).setCell ⟨gb196, 3, none⟩ (.slice Ao69 t192.length co69)).heap[gb196]? = some (.cells #[.slice Ao63 t183.length co63, .slice Ao67 t186.length co67, .slice Ao68 t189.length co68, .slice Ao69 t192.length co69] 29 (0, 0))) := ⟨by (with_reducible repeat (first | refine Z26 ?_ _ | refine Z27 ?_ | refine Z28 ?_ _)); refine Z30 (cs := #[.slice Ao63 t183.length co63, .slice Ao67 t186.length co67, .slice Ao68 t189.length co68, .slice none 0 0]) ?_ 3 _ rfl; (with_reducible repeat (first | refine Z26 ?_ _ | refine Z27 ?_ | refine Z28 ?_ _)); refine Z30 (cs := #[.slice Ao63 t183.length co63, .slice Ao67 t186.length co67, .slice none 0 0, .slice none 0 0]) ?_ 2 _ rfl; (with_reducible repeat (first | refine Z26 ?_ _ | refine Z27 ?_ | refine Z28 ?_ _)); refine Z30 (cs := #[.slice Ao63 t183.length co63, .slice none 0 0, .slice none 0 0, .slice none 0 0]) ?_ 1 _ rfl; (with_reducible repeat (first | refine Z26 ?_ _ | refine Z27 ?_ | refine Z28 ?_ _)); refine Z30 (cs := #[.slice none 0 0, .slice none 0 0, .slice none 0 0, .slice none 0 0]) ?_ 0 _ rfl; (with_reducible repeat (first | refine Z26 ?_ _ | refine Z27 ?_ | refine Z28 ?_ _)); exact BK196.out⟩
        have n7_ : Aside0 (Below w.heap.size w ((((w62.setCell ⟨gb196, 0, none⟩ (.slice Ao63 t183.length co63)).setCell ⟨gb196, 1, none⟩ (.slice Ao67 t186.length co67)).setCell ⟨gb196, 2, none⟩ (.slice Ao68 t189.length co68)).setCell ⟨gb196, 3, none⟩ (.slice Ao69 t192.length co69))) := ⟨by repeat (first | (with_reducible first | exact HB.out | apply Z5 | apply Z3 | apply Z4 | refine Z6 ?_ GE181.out | refine Z6 ?_ GE182.out | refine Z6 ?_ GE196.out) | exact HB.out)⟩
        (try clear HO185)
        (try clear HO188)
        (try clear HO191)
        (try clear HO194)
        (try clear BK181)
        (try clear BK182)
        (try clear BK196)
        (try clear HB)
        generalize ((((w62.setCell ⟨gb196, 0, none⟩ (.slice Ao63 t183.length co63)).setCell ⟨gb196, 1, none⟩ (.slice Ao67 t186.length co67)).setCell ⟨gb196, 2, none⟩ (.slice Ao68 t189.length co68)).setCell ⟨gb196, 3, none⟩ (.slice Ao69 t192.length co69)) = w71 at n0_ n1_ n2_ n3_ n4_ n5_ n6_ n7_ ⊢
        have HO185 := n0_
        have HO188 := n1_
        have HO191 := n2_
        have HO194 := n3_
        have BK181 := n4_
        have BK182 := n5_
        have BK196 := n6_
        have HB := n7_
        clear n0_ n1_ n2_ n3_ n4_ n5_ n6_ n7_
        have n0_ := Aside0.mk (Z11 HO185.out)
        have n1_ := Aside0.mk (Z11 HO188.out)
        have n2_ := Aside0.mk (Z11 HO191.out)
        have n3_ := Aside0.mk (Z11 HO194.out)
        have n4_ := Aside0.mk (Z27 BK181.out)
        have n5_ := Aside0.mk (Z27 BK182.out)
        have n6_ := Aside0.mk (Z27 BK196.out)
        have n7_ := Aside0.mk (Z4 HB.out)
        clear HO185
        clear HO188
        clear HO191
        clear HO194
        clear BK181
        clear BK182
        clear BK196
        clear HB
        have HO185 := n0_
        have HO188 := n1_
        have HO191 := n2_
        have HO194 := n3_
        have BK181 := n4_
        have BK182 := n5_
        have BK196 := n6_
        have HB := n7_
        clear n0_ n1_ n2_ n3_ n4_ n5_ n6_ n7_
        have p198 : 0 ≤ (t195 : Int) := Z31 (by first | (with_reducible assumption) | assumption)
        have q198 : t195 < (t186.length : Int) := Z31 (by first | (with_reducible assumption) | assumption)
        obtain ⟨ad198, e198, hx198_0⟩ := Kd.at_int (Kd.R_reads' HO188.out).2.2 t195 p198 q198
        cases e198
        replace p198 := eq_true p198
        replace q198 := eq_true q198
        have p199 : 0 ≤ (t195 : Int) := Z31 (by first | (with_reducible assumption) | assumption)
        have q199 : t195 < (l0_1.length : Int) := Z31 (by first | (with_reducible assumption) | assumption)
        obtain ⟨ad199, e199, hx199_0⟩ := Kd.at_int HR0_1.out t195 p199 q199
        have hw199_0 := hx199_0
        cases e199
        try replace hx199_0 := (HB.out.cell (World.block_lt_of_cell? w _ hx199_0)).trans hx199_0
        replace p199 := eq_true p199
        replace q199 := eq_true q199
        refine start_ (n := 12) (S := fun w' => w'.cell? ⟨gb196, 0, none⟩ = some (.slice Ao63 t183.length co63) ∧ w'.cell? ⟨gb196, 1, none⟩ = some (.slice (some ad198) t186.length co67) ∧ w'.cell? ⟨gb196, 2, none⟩ = some (.slice Ao68 t189.length co68) ∧ w'.cell? ⟨gb196, 3, none⟩ = some (.slice Ao69 t192.length co69) ∧ w'.cell? ⟨gb181, 0, none⟩ = some (.slice A0_0 l0_0.length c0_0) ∧ w'.cell? ⟨gb181, 1, none⟩ = some (.slice (some ad199) l0_1.length c0_1) ∧ w'.cell? ⟨gb181, 2, none⟩ = some (.slice A0_2 l0_2.length c0_2) ∧ w'.cell? ⟨gb181, 3, none⟩ = some (.slice A0_3 l0_3.length c0_3) ∧ w'.cell? ⟨gb181, 4, none⟩ = some (.slice A0_4 l0_4.length c0_4) ∧ w'.cell? ⟨gb181, 5, none⟩ = some (.slice (some ad197) l0_5.length c0_5) ∧ w'.cell? (ad198.add (t195).toNat) = some (.int .i64 (rd t186 t195)) ∧ w'.cell? (ad199.add (t195).toNat) = some (.int .i64 (rd l0_1 t195))) (ds := []) #[false, false, false, false, false, false, false, false, false, false, false, false] (by kernel_rfl) rfl rfl ⟨(Z24 BK196.out 0).trans rfl, (Z24 BK196.out 1).trans rfl, (Z24 BK196.out 2).trans rfl, (Z24 BK196.out 3).trans rfl, (Z24 BK181.out 0).trans rfl, (Z24 BK181.out 1).trans rfl, (Z24 BK181.out 2).trans rfl, (Z24 BK181.out 3).trans rfl, (Z24 BK181.out 4).trans rfl, (Z24 BK181.out 5).trans rfl, hx198_0, ((HB.out.cell (World.block_lt_of_cell? w _ hw199_0)).trans hw199_0)⟩ (fun hHeld => ?_); refine with_tabW spec_foSwap.tab5 spec_foSwap.bits5 (fun HT_ HW_ => ?_)
        generalize w71.drew = w72 at HO185 HO188 HO191 HO194 BK181 BK182 BK196 HB hx198_0 hx199_0 hHeld ⊢
        refine pure_ (i := 0) (N := some 23) (v := ?_) (a' := ?_) #[true, false, false, false, false, false, false, false, false, false, false, false] rfl rfl (any_of HT_.out (by kernel_rfl)) (fun _ _ _ h => h) (Or.inl ⟨by rfl, ?_⟩) ?_ ?_
        rotate_left
        ·intro w'
         go_simp
         with_reducible rfl
        rotate_left
        ·simp only [Act.put, Z0, Z1, Z2, i64_w, i32_w]
         rfl
        refine pure_ (i := 2) (N := some 25) (v := ?_) (a' := ?_) #[true, false, true, false, false, false, false, false, false, false, false, false] rfl rfl (any_of HT_.out (by kernel_rfl)) (fun _ _ _ h => h) (Or.inl ⟨by rfl, ?_⟩) ?_ ?_
        rotate_left
        ·intro w'
         go_simp
         with_reducible rfl
        rotate_left
        ·simp only [Act.put, Z0, Z1, Z2, i64_w, i32_w]
         rfl
        refine pure_ (i := 5) (N := some 28) (v := ?_) (a' := ?_) #[true, false, true, false, false, true, false, false, false, false, false, false] rfl rfl (any_of HT_.out (by kernel_rfl)) (fun _ _ _ h => h) (Or.inl ⟨by rfl, ?_⟩) ?_ ?_
        rotate_left
        ·intro w'
         go_simp
         with_reducible rfl
        rotate_left
        ·simp only [Act.put, Z0, Z1, Z2, i64_w, i32_w]
         rfl
        refine pure_ (i := 6) (N := some 29) (v := ?_) (a' := ?_) #[true, false, true, false, false, true, true, false, false, false, false, false] rfl rfl (any_of HT_.out (by kernel_rfl)) (fun _ _ _ h => h) (Or.inl ⟨by rfl, ?_⟩) ?_ ?_
        rotate_left
        ·intro w'
         go_simp
         with_reducible rfl
        rotate_left
        ·simp only [Act.put, Z0, Z1, Z2, i64_w, i32_w]
         rfl
        refine pure_ (i := 8) (N := some 31) (v := ?_) (a' := ?_) #[true, false, true, false, false, true, true, false, true, false, false, false] rfl rfl (any_of HT_.out (by kernel_rfl)) (fun _ _ _ h => h) (Or.inl ⟨by rfl, ?_⟩) ?_ ?_
        rotate_left
        ·intro w'
         go_simp
         with_reducible rfl
        rotate_left
        ·simp only [Act.put, Z0, Z1, Z2, i64_w, i32_w]
         rfl
        refine take_ (i := 1) (N := some 24) (v := ?_) (a' := ?_) #[true, true, true, false, false, true, true, false, true, false, false, false] rfl rfl (take_ofW HT_.out HW_.out (by kernel_rfl)) (fun _ _ _ h => h) (Or.inl ⟨by rfl, ?_⟩) hHeld ?_ ?_
        rotate_left
        ·rintro w' ⟨s0, s1, s2, s3, s4, s5, s6, s7, s8, s9, s10, s11⟩
         go_simp
         with_reducible rfl
        rotate_left
        ·simp only [Act.put, Z0, Z1, Z2, i64_w, i32_w]
         rfl
        refine pure_ (i := 3) (N := some 26) (v := ?_) (a' := ?_) #[true, true, true, true, false, true, true, false, true, false, false, false] rfl rfl (any_of HT_.out (by kernel_rfl)) (fun _ _ _ h => h) (Or.inl ⟨by rfl, ?_⟩) ?_ ?_
        rotate_left
        ·intro w'
         go_simp
         with_reducible rfl
        rotate_left
        ·simp only [Act.put, Z0, Z1, Z2, i64_w, i32_w]
         rfl
        refine take_ (i := 4) (N := some 27) (v := ?_) (a' := ?_) #[true, true, true, true, true, true, true, false, true, false, false, false] rfl rfl (take_ofW HT_.out HW_.out (by kernel_rfl)) (fun _ _ _ h => h) (Or.inl ⟨by rfl, ?_⟩) hHeld ?_ ?_
        rotate_left
        ·rintro w' ⟨s0, s1, s2, s3, s4, s5, s6, s7, s8, s9, s10, s11⟩
         go_simp
         with_reducible rfl
        rotate_left
        ·simp only [Act.put, Z0, Z1, Z2, i64_w, i32_w]
         rfl
        refine take_ (i := 7) (N := some 30) (v := ?_) (a' := ?_) #[true, true, true, true, true, true, true, true, true, false, false, false] rfl rfl (take_ofW HT_.out HW_.out (by kernel_rfl)) (fun _ _ _ h => h) (Or.inl ⟨by rfl, ?_⟩) hHeld ?_ ?_
        rotate_left
        ·rintro w' ⟨s0, s1, s2, s3, s4, s5, s6, s7, s8, s9, s10, s11⟩
         go_simp
         with_reducible rfl
        rotate_left
        ·simp only [Act.put, Z0, Z1, Z2, i64_w, i32_w]
         rfl
        refine pure_ (i := 9) (N := some 32) (v := ?_) (a' := ?_) #[true, true, true, true, true, true, true, true, true, true, false, false] rfl rfl (any_of HT_.out (by kernel_rfl)) (fun _ _ _ h => h) (Or.inl ⟨by rfl, ?_⟩) ?_ ?_
        rotate_left
        ·intro w'
         go_simp
         with_reducible rfl
        rotate_left
        ·simp only [Act.put, Z0, Z1, Z2, i64_w, i32_w]
         rfl
        refine take_ (i := 10) (N := some 33) (v := ?_) (a' := ?_) #[true, true, true, true, true, true, true, true, true, true, true, false] rfl rfl (take_ofW HT_.out HW_.out (by kernel_rfl)) (fun _ _ _ h => h) (Or.inl ⟨by rfl, ?_⟩) hHeld ?_ ?_
        rotate_left
        ·rintro w' ⟨s0, s1, s2, s3, s4, s5, s6, s7, s8, s9, s10, s11⟩
         go_simp
         with_reducible rfl
        rotate_left
        ·simp only [Act.put, Z0, Z1, Z2, i64_w, i32_w]
         rfl
        refine pure_ (i := 11) (N := some 34) (v := ?_) (a' := ?_) #[true, true, true, true, true, true, true, true, true, true, true, true] rfl rfl (any_of HT_.out (by kernel_rfl)) (fun _ _ _ h => h) (Or.inl ⟨by rfl, ?_⟩) ?_ ?_
        rotate_left
        ·intro w'
         go_simp
         with_reducible rfl
        rotate_left
        ·simp only [Act.put, Z0, Z1, Z2, i64_w, i32_w]
         rfl
        refine done_ (done_of HT_.out (by kernel_rfl)) ?_
        have hcz73_0 : w72.cell? ⟨gb181, 0, none⟩ = some (.slice A0_0 l0_0.length c0_0) := (Z24 BK181.out 0).trans rfl
        have hcz73_1 : w72.cell? ⟨gb181, 1, none⟩ = some (.slice (some ad199) l0_1.length c0_1) := (Z24 BK181.out 1).trans rfl
        have hcz73_2 : w72.cell? ⟨gb181, 2, none⟩ = some (.slice A0_2 l0_2.length c0_2) := (Z24 BK181.out 2).trans rfl
        have hcz73_3 : w72.cell? ⟨gb181, 3, none⟩ = some (.slice A0_3 l0_3.length c0_3) := (Z24 BK181.out 3).trans rfl
        have hcz73_4 : w72.cell? ⟨gb181, 4, none⟩ = some (.slice A0_4 l0_4.length c0_4) := (Z24 BK181.out 4).trans rfl
        have hcz73_5 : w72.cell? ⟨gb181, 5, none⟩ = some (.slice (some ad197) l0_5.length c0_5) := (Z24 BK181.out 5).trans rfl
        have hfz73_0 := Z25 BK181.out 0
        have hfz73_1 := Z25 BK181.out 1
        have hfz73_2 := Z25 BK181.out 2
        have hfz73_3 := Z25 BK181.out 3
        have hfz73_4 := Z25 BK181.out 4
        have hfz73_5 := Z25 BK181.out 5
        try go_wp2_with (first | ((with_reducible refine gate_callee (f := 88) rfl ?_); refine goesL_ (some 43) rfl rfl Try.func88 (by kernel_rfl) rfl #[.slice A0_4 l0_4.length c0_4, .agg #[.int .i64 0, .int .i64 (rd l0_5 (ji18)), .int .i64 (wrap64 ((rd l0_5 (ji18)) + 1))]] rfl (by (try simp only [Z34, Z35, Z36]); first | done | (simp only [hji18]; rfl) | rfl | (simp only [Z32, Z33]; rfl)) ?_; (with_reducible refine (spec_moApply.calls k _ _ l0_4 0 (rd l0_5 (ji18)) (wrap64 ((rd l0_5 (ji18)) + 1)) t206 _ ?side1 ?side2 A55.out).mono ?_); (case side1 => repeat (first | exact (Z23 HR0_4.out HB.out) | (with_reducible refine Z20 ?_ _) | (with_reducible refine Z21 ?_ _) | (with_reducible refine Z22 ?_))); (case side2 => exact HC0_4.out); rintro e w74 ⟨v207, rfl, ho0, hb⟩; refine ⟨_, rfl, ?_⟩; have n0_ := Aside0.mk (Kd.R_elder' (by (with_reducible repeat (first | apply Z9 | apply Z10 | apply Z11)); exact HO185.out) (Kd.R_base ho0) hb); have n1_ := Aside0.mk (Kd.R_elder' (by (with_reducible repeat (first | apply Z9 | apply Z10 | apply Z11)); exact HO188.out) (Kd.R_base ho0) hb); have n2_ := Aside0.mk (Z14 (by (with_reducible repeat (first | apply Z9 | apply Z10 | apply Z11)); exact HO191.out) hb); have n3_ := Aside0.mk (Kd.R_elder' (by (with_reducible repeat (first | apply Z9 | apply Z10 | apply Z11)); exact HO194.out) (Kd.R_base ho0) hb); have n4_ := Aside0.mk (Kd.R_lower (Kd.R_new' (Kd.R_new' (Kd.R_new' ho0 (Z18 (by (with_reducible repeat (first | apply Z9 | apply Z10 | apply Z11)); exact HO185.out))) (Z18 (by (with_reducible repeat (first | apply Z9 | apply Z10 | apply Z11)); exact HO188.out))) (Z18 (by (with_reducible repeat (first | apply Z9 | apply Z10 | apply Z11)); exact HO194.out))) (Z7 (by repeat (first | (with_reducible first | exact HB.out | apply Z5 | apply Z3 | apply Z4 | refine Z6 ?_ GE181.out | refine Z6 ?_ GE182.out | refine Z6 ?_ GE196.out) | exact HB.out)))); have n5_ := Aside0.mk (Z29 (g := gb181) (o := .cells #[.slice A0_0 l0_0.length c0_0, .slice (some ad199) l0_1.length c0_1, .slice A0_2 l0_2.length c0_2, .slice A0_3 l0_3.length c0_3, .slice A0_4 l0_4.length c0_4, .slice (some ad197) l0_5.length c0_5] 39 (0, 0)) (by (with_reducible repeat (first | refine Z26 ?_ _ | refine Z27 ?_ | refine Z28 ?_ _)); exact BK181.out) hb); have n6_ := Aside0.mk (Z29 (g := gb182) (o := .cells #[.slice none 0 0, .slice none 0 0, .slice none 0 0, .slice none 0 0, .slice none 0 0, .slice none 0 0] 39 (0, 0)) (by (with_reducible repeat (first | refine Z26 ?_ _ | refine Z27 ?_ | refine Z28 ?_ _)); exact BK182.out) hb); have n7_ := Aside0.mk (Z29 (g := gb196) (o := .cells #[.slice Ao63 t183.length co63, .slice (some ad198) t186.length co67, .slice Ao68 t189.length co68, .slice Ao69 t192.length co69] 29 (0, 0)) (by (with_reducible repeat (first | refine Z26 ?_ _ | refine Z27 ?_ | refine Z28 ?_ _)); exact BK196.out) hb); have n8_ := Aside0.mk (Z8 (by repeat (first | (with_reducible first | exact HB.out | apply Z5 | apply Z3 | apply Z4 | refine Z6 ?_ GE181.out | refine Z6 ?_ GE182.out | refine Z6 ?_ GE196.out) | exact HB.out)) hb); clear HO185; clear HO188; clear HO191; clear HO194; clear BK181; clear BK182; clear BK196; clear HB; have HO185 := n0_; have HO188 := n1_; have HO191 := n2_; have HO194 := n3_; have HO208 := n4_; have BK181 := n5_; have BK182 := n6_; have BK196 := n7_; have HB := n8_; clear n0_ n1_ n2_ n3_ n4_ n5_ n6_ n7_ n8_; (try clear hb); (try clear hb2); (try clear hk); (try clear hi); (try clear ho0)))
        have n0_ := Aside0.mk (Z11 HO185.out)
        have n1_ := Aside0.mk (Z11 HO188.out)
        have n2_ := Aside0.mk (Z11 HO191.out)
        have n3_ := Aside0.mk (Z11 HO194.out)
        have n4_ := Aside0.mk (Z11 HO208.out)
        have n5_ := Aside0.mk (Z27 BK181.out)
        have n6_ := Aside0.mk (Z27 BK182.out)
        have n7_ := Aside0.mk (Z27 BK196.out)
        have n8_ := Aside0.mk (Z4 HB.out)
        clear HO185
        clear HO188
        clear HO191
        clear HO194
        clear HO208
        clear BK181
        clear BK182
        clear BK196
        clear HB
        have HO185 := n0_
        have HO188 := n1_
        have HO191 := n2_
        have HO194 := n3_
        have HO208 := n4_
        have BK181 := n5_
        have BK182 := n6_
        have BK196 := n7_
        have HB := n8_
        clear n0_ n1_ n2_ n3_ n4_ n5_ n6_ n7_ n8_
        obtain ⟨Ao76, co76, eo76⟩ := Z19 HO208.out
        (first | subst eo76 | (injection eo76 with f1_ f2_ f3_; have f4_ := f1_.symm; have f5_ := f3_.symm; clear f1_ f2_ f3_; subst f4_; subst f5_))
        refine start_ (n := 8) (S := fun w' => w'.cell? ⟨gb196, 0, none⟩ = some (.slice Ao63 t183.length co63) ∧ w'.cell? ⟨gb196, 1, none⟩ = some (.slice (some ad198) t186.length co67) ∧ w'.cell? ⟨gb196, 2, none⟩ = some (.slice Ao68 t189.length co68) ∧ w'.cell? ⟨gb196, 3, none⟩ = some (.slice Ao69 t192.length co69)) (ds := []) #[false, false, false, false, false, false, false, false] (by kernel_rfl) rfl rfl ⟨(Z24 BK196.out 0).trans rfl, (Z24 BK196.out 1).trans rfl, (Z24 BK196.out 2).trans rfl, (Z24 BK196.out 3).trans rfl⟩ (fun hHeld => ?_); refine with_tabW spec_foSwap.tab8 spec_foSwap.bits8 (fun HT_ HW_ => ?_)
        generalize w74.drew = w75 at HO185 HO188 HO191 HO194 HO208 BK181 BK182 BK196 HB hHeld ⊢
        refine pure_ (i := 1) (N := some 45) (v := ?_) (a' := ?_) #[false, true, false, false, false, false, false, false] rfl rfl (any_of HT_.out (by kernel_rfl)) (fun _ _ _ h => h) (Or.inl ⟨by rfl, ?_⟩) ?_ ?_
        rotate_left
        ·intro w'
         go_simp
         with_reducible rfl
        rotate_left
        ·simp only [Act.put, Z0, Z1, Z2, i64_w, i32_w]
         rfl
        refine pure_ (i := 2) (N := some 46) (v := ?_) (a' := ?_) #[false, true, true, false, false, false, false, false] rfl rfl (any_of HT_.out (by kernel_rfl)) (fun _ _ _ h => h) (Or.inl ⟨by rfl, ?_⟩) ?_ ?_
        rotate_left
        ·intro w'
         go_simp
         with_reducible rfl
        rotate_left
        ·simp only [Act.put, Z0, Z1, Z2, i64_w, i32_w]
         rfl
        refine pure_ (i := 5) (N := some 49) (v := ?_) (a' := ?_) #[false, true, true, false, false, true, false, false] rfl rfl (any_of HT_.out (by kernel_rfl)) (fun _ _ _ h => h) (Or.inl ⟨by rfl, ?_⟩) ?_ ?_
        rotate_left
        ·intro w'
         go_simp
         with_reducible rfl
        rotate_left
        ·simp only [Act.put, Z0, Z1, Z2, i64_w, i32_w]
         rfl
        refine take_ (i := 0) (N := some 44) (v := ?_) (a' := ?_) #[true, true, true, false, false, true, false, false] rfl rfl (take_ofW HT_.out HW_.out (by kernel_rfl)) (fun _ _ _ h => h) (Or.inl ⟨by rfl, ?_⟩) hHeld ?_ ?_
        rotate_left
        ·rintro w' ⟨s0, s1, s2, s3⟩
         go_simp
         with_reducible rfl
        rotate_left
        ·simp only [Act.put, Z0, Z1, Z2, i64_w, i32_w]
         rfl
        refine one_ (i := 3) (N := some 47) #[true, true, true, true, false, true, false, false] rfl rfl (one_of HT_.out (by kernel_rfl)) (by decide) (fun K hK => ?_)
        refine goes_ Try.func89 (by kernel_rfl) rfl #[.slice Ao76 t206.length co76] (by rfl) rfl rfl (by (try simp only [Z34, Z35, Z36]); first | done | rfl | (simp only [Z32, Z33]; rfl)) ?_
        with_reducible refine (spec_raInverse.calls k _ _ t206 t209 _ ?side1 ?side2 A56.out).mono ?_
        (case side1 => repeat (first | exact (Kd.R_reads' HO208.out).2.2 | (with_reducible refine Z20 ?_ _) | (with_reducible refine Z21 ?_ _) | (with_reducible refine Z22 ?_)))
        (case side2 => exact (Kd.R_reads' HO208.out).2.1)
        rintro e w77 ⟨v210, rfl, ho0, hb⟩
        refine ⟨_, rfl, ?_⟩
        have n0_ := Aside0.mk (Kd.R_elder' (by (with_reducible repeat (first | apply Z9 | apply Z10 | apply Z11)); exact HO185.out) (Kd.R_base ho0) hb)
        have n1_ := Aside0.mk (Kd.R_elder' (by (with_reducible repeat (first | apply Z9 | apply Z10 | apply Z11)); exact HO188.out) (Kd.R_base ho0) hb)
        have n2_ := Aside0.mk (Z14 (by (with_reducible repeat (first | apply Z9 | apply Z10 | apply Z11)); exact HO191.out) hb)
        have n3_ := Aside0.mk (Kd.R_elder' (by (with_reducible repeat (first | apply Z9 | apply Z10 | apply Z11)); exact HO194.out) (Kd.R_base ho0) hb)
        have n4_ := Aside0.mk (Kd.R_elder' (by (with_reducible repeat (first | apply Z9 | apply Z10 | apply Z11)); exact HO208.out) (Kd.R_base ho0) hb)
        have n5_ := Aside0.mk (Kd.R_lower (Kd.R_new' (Kd.R_new' (Kd.R_new' (Kd.R_new' ho0 (Z18 (by (with_reducible repeat (first | apply Z9 | apply Z10 | apply Z11)); exact HO185.out))) (Z18 (by (with_reducible repeat (first | apply Z9 | apply Z10 | apply Z11)); exact HO188.out))) (Z18 (by (with_reducible repeat (first | apply Z9 | apply Z10 | apply Z11)); exact HO194.out))) (Z18 (by (with_reducible repeat (first | apply Z9 | apply Z10 | apply Z11)); exact HO208.out))) (Z7 (by repeat (first | (with_reducible first | exact HB.out | apply Z5 | apply Z3 | apply Z4 | refine Z6 ?_ GE181.out | refine Z6 ?_ GE182.out | refine Z6 ?_ GE196.out) | exact HB.out))))
        have n6_ := Aside0.mk (Z29 (g := gb181) (o := .cells #[.slice A0_0 l0_0.length c0_0, .slice (some ad199) l0_1.length c0_1, .slice A0_2 l0_2.length c0_2, .slice A0_3 l0_3.length c0_3, .slice A0_4 l0_4.length c0_4, .slice (some ad197) l0_5.length c0_5] 39 (0, 0)) (by (with_reducible repeat (first | refine Z26 ?_ _ | refine Z27 ?_ | refine Z28 ?_ _)); exact BK181.out) hb)
        have n7_ := Aside0.mk (Z29 (g := gb182) (o := .cells #[.slice none 0 0, .slice none 0 0, .slice none 0 0, .slice none 0 0, .slice none 0 0, .slice none 0 0] 39 (0, 0)) (by (with_reducible repeat (first | refine Z26 ?_ _ | refine Z27 ?_ | refine Z28 ?_ _)); exact BK182.out) hb)
        have n8_ := Aside0.mk (Z29 (g := gb196) (o := .cells #[.slice Ao63 t183.length co63, .slice (some ad198) t186.length co67, .slice Ao68 t189.length co68, .slice Ao69 t192.length co69] 29 (0, 0)) (by (with_reducible repeat (first | refine Z26 ?_ _ | refine Z27 ?_ | refine Z28 ?_ _)); exact BK196.out) hb)
        have n9_ := Aside0.mk (Z8 (by repeat (first | (with_reducible first | exact HB.out | apply Z5 | apply Z3 | apply Z4 | refine Z6 ?_ GE181.out | refine Z6 ?_ GE182.out | refine Z6 ?_ GE196.out) | exact HB.out)) hb)
        clear HO185
        clear HO188
        clear HO191
        clear HO194
        clear HO208
        clear BK181
        clear BK182
        clear BK196
        clear HB
        have HO185 := n0_
        have HO188 := n1_
        have HO191 := n2_
        have HO194 := n3_
        have HO208 := n4_
        have HO211 := n5_
        have BK181 := n6_
        have BK182 := n7_
        have BK196 := n8_
        have HB := n9_
        clear n0_ n1_ n2_ n3_ n4_ n5_ n6_ n7_ n8_ n9_
        (try clear hb)
        (try clear hb2)
        (try clear hk)
        (try clear hi)
        (try clear ho0)
        obtain ⟨Ao78, co78, eo78⟩ := Z19 HO211.out
        (first | subst eo78 | (injection eo78 with f1_ f2_ f3_; have f4_ := f1_.symm; have f5_ := f3_.symm; clear f1_ f2_ f3_; subst f4_; subst f5_))
        refine hK.out _ _ ⟨(Z24 BK196.out 0).trans rfl, (Z24 BK196.out 1).trans rfl, (Z24 BK196.out 2).trans rfl, (Z24 BK196.out 3).trans rfl⟩ (fun hHeld => ?_)
        clear hK K
        refine norm_ (a' := ?_) ?_ ?_
        rotate_left
        ·show Act.put _ (some 47) _ = _
         simp only [Act.put, Z0, Z1, Z2, i64_w, i32_w]
         rfl
        refine pure_ (i := 4) (N := some 48) (v := ?_) (a' := ?_) #[true, true, true, true, true, true, false, false] rfl rfl (any_of HT_.out (by kernel_rfl)) (fun _ _ _ h => h) (Or.inl ⟨by rfl, ?_⟩) ?_ ?_
        rotate_left
        ·intro w'
         go_simp
         with_reducible rfl
        rotate_left
        ·simp only [Act.put, Z0, Z1, Z2, i64_w, i32_w]
         rfl
        refine one_ (i := 6) (N := none) #[true, true, true, true, true, true, true, false] rfl rfl (one_of HT_.out (by kernel_rfl)) (by decide) (fun K hK => ?_)
        have hs79 : w77.cell? ⟨gb182, 0, none⟩ = some (.slice none 0 0) := (Z24 BK182.out 0).trans rfl
        have hfs79 := Z25 BK182.out 0
        have hns79_0 := NB181_182.out
        have hns79_2 := NB196_182.out
        have hms79_0 := NB182_181.out
        have hms79_2 := NB182_196.out
        have hs80 : w77.cell? ⟨gb182, 1, none⟩ = some (.slice none 0 0) := (Z24 BK182.out 1).trans rfl
        have hfs80 := Z25 BK182.out 1
        have hns80_0 := NB181_182.out
        have hns80_2 := NB196_182.out
        have hms80_0 := NB182_181.out
        have hms80_2 := NB182_196.out
        have hs81 : w77.cell? ⟨gb182, 2, none⟩ = some (.slice none 0 0) := (Z24 BK182.out 2).trans rfl
        have hfs81 := Z25 BK182.out 2
        have hns81_0 := NB181_182.out
        have hns81_2 := NB196_182.out
        have hms81_0 := NB182_181.out
        have hms81_2 := NB182_196.out
        have hs82 : w77.cell? ⟨gb182, 3, none⟩ = some (.slice none 0 0) := (Z24 BK182.out 3).trans rfl
        have hfs82 := Z25 BK182.out 3
        have hns82_0 := NB181_182.out
        have hns82_2 := NB196_182.out
        have hms82_0 := NB182_181.out
        have hms82_2 := NB182_196.out
        have hs83 : w77.cell? ⟨gb182, 4, none⟩ = some (.slice none 0 0) := (Z24 BK182.out 4).trans rfl
        have hfs83 := Z25 BK182.out 4
        have hns83_0 := NB181_182.out
        have hns83_2 := NB196_182.out
        have hms83_0 := NB182_181.out
        have hms83_2 := NB182_196.out
        have hs84 : w77.cell? ⟨gb182, 5, none⟩ = some (.slice none 0 0) := (Z24 BK182.out 5).trans rfl
        have hfs84 := Z25 BK182.out 5
        have hns84_0 := NB181_182.out
        have hns84_2 := NB196_182.out
        have hms84_0 := NB182_181.out
        have hms84_2 := NB182_196.out
        refine skip_ (w1 := ?_) (by rfl) rfl ?_ ?_
        rotate_left
        ·go_simp
         rfl
        refine hK.out _ _ ⟨((cell_far (p := ⟨gb182, _, none⟩) NB196_182.out _).trans (((cell_far (p := ⟨gb182, _, none⟩) NB196_182.out _).trans (((cell_far (p := ⟨gb182, _, none⟩) NB196_182.out _).trans (((cell_far (p := ⟨gb182, _, none⟩) NB196_182.out _).trans (((cell_far (p := ⟨gb182, _, none⟩) NB196_182.out _).trans (((cell_far (p := ⟨gb182, _, none⟩) NB196_182.out _).trans (hHeld.1)))))))))))), ((cell_far (p := ⟨gb182, _, none⟩) NB196_182.out _).trans (((cell_far (p := ⟨gb182, _, none⟩) NB196_182.out _).trans (((cell_far (p := ⟨gb182, _, none⟩) NB196_182.out _).trans (((cell_far (p := ⟨gb182, _, none⟩) NB196_182.out _).trans (((cell_far (p := ⟨gb182, _, none⟩) NB196_182.out _).trans (((cell_far (p := ⟨gb182, _, none⟩) NB196_182.out _).trans (hHeld.2.1)))))))))))), ((cell_far (p := ⟨gb182, _, none⟩) NB196_182.out _).trans (((cell_far (p := ⟨gb182, _, none⟩) NB196_182.out _).trans (((cell_far (p := ⟨gb182, _, none⟩) NB196_182.out _).trans (((cell_far (p := ⟨gb182, _, none⟩) NB196_182.out _).trans (((cell_far (p := ⟨gb182, _, none⟩) NB196_182.out _).trans (((cell_far (p := ⟨gb182, _, none⟩) NB196_182.out _).trans (hHeld.2.2.1)))))))))))), ((cell_far (p := ⟨gb182, _, none⟩) NB196_182.out _).trans (((cell_far (p := ⟨gb182, _, none⟩) NB196_182.out _).trans (((cell_far (p := ⟨gb182, _, none⟩) NB196_182.out _).trans (((cell_far (p := ⟨gb182, _, none⟩) NB196_182.out _).trans (((cell_far (p := ⟨gb182, _, none⟩) NB196_182.out _).trans (((cell_far (p := ⟨gb182, _, none⟩) NB196_182.out _).trans (hHeld.2.2.2))))))))))))⟩ (fun hHeld => ?_)
        clear hK K
        refine pure_ (i := 7) (N := some 3) (v := ?_) (a' := ?_) #[true, true, true, true, true, true, true, true] rfl rfl (any_of HT_.out (by kernel_rfl)) (fun _ _ _ h => h) (Or.inl ⟨by rfl, ?_⟩) ?_ ?_
        rotate_left
        ·intro w'
         go_simp
         with_reducible rfl
        rotate_left
        ·simp only [Act.put, Z0, Z1, Z2, i64_w, i32_w]
         rfl
        refine done_ (done_of HT_.out (by kernel_rfl)) ?_
        try go_wp2
        refine bodyPost_ret (results_ct rfl _ _ gb182 39 #[.slice Ao63 t183.length co63, .slice (some ad198) t186.length co67, .slice Ao68 t189.length co68, .slice Ao69 t192.length co69, .slice Ao76 t206.length co76, .slice Ao78 t209.length co78] (0, 0) _ rfl (by (with_reducible repeat (first | refine Z26 ?_ _ | refine Z27 ?_ | refine Z28 ?_ _)); refine Z30 (cs := #[.slice Ao63 t183.length co63, .slice (some ad198) t186.length co67, .slice Ao68 t189.length co68, .slice Ao69 t192.length co69, .slice Ao76 t206.length co76, .slice none 0 0]) ?_ 5 _ rfl; (with_reducible repeat (first | refine Z26 ?_ _ | refine Z27 ?_ | refine Z28 ?_ _)); refine Z30 (cs := #[.slice Ao63 t183.length co63, .slice (some ad198) t186.length co67, .slice Ao68 t189.length co68, .slice Ao69 t192.length co69, .slice none 0 0, .slice none 0 0]) ?_ 4 _ rfl; (with_reducible repeat (first | refine Z26 ?_ _ | refine Z27 ?_ | refine Z28 ?_ _)); refine Z30 (cs := #[.slice Ao63 t183.length co63, .slice (some ad198) t186.length co67, .slice Ao68 t189.length co68, .slice none 0 0, .slice none 0 0, .slice none 0 0]) ?_ 3 _ rfl; (with_reducible repeat (first | refine Z26 ?_ _ | refine Z27 ?_ | refine Z28 ?_ _)); refine Z30 (cs := #[.slice Ao63 t183.length co63, .slice (some ad198) t186.length co67, .slice none 0 0, .slice none 0 0, .slice none 0 0, .slice none 0 0]) ?_ 2 _ rfl; (with_reducible repeat (first | refine Z26 ?_ _ | refine Z27 ?_ | refine Z28 ?_ _)); refine Z30 (cs := #[.slice Ao63 t183.length co63, .slice none 0 0, .slice none 0 0, .slice none 0 0, .slice none 0 0, .slice none 0 0]) ?_ 1 _ rfl; (with_reducible repeat (first | refine Z26 ?_ _ | refine Z27 ?_ | refine Z28 ?_ _)); refine Z30 (cs := #[.slice none 0 0, .slice none 0 0, .slice none 0 0, .slice none 0 0, .slice none 0 0, .slice none 0 0]) ?_ 0 _ rfl; (with_reducible repeat (first | refine Z26 ?_ _ | refine Z27 ?_ | refine Z28 ?_ _)); exact BK182.out) Try.underlying39 rfl (by kernel_rfl)) rfl ?_
        exact ⟨_, _, _, _, _, _, by first | rfl | (simp [errW_none, errW_some] <;> rfl) | (simp only [← hji18]; first | rfl | (simp [errW_none, errW_some] <;> rfl)) | (simp [*, errW_none, errW_some] <;> rfl), by (with_reducible repeat (first | apply Z9 | apply Z10 | apply Z11)); exact Z12 (Z13 (p := ⟨gb182, 5, none⟩) (Z13 (p := ⟨gb182, 4, none⟩) (Z13 (p := ⟨gb182, 3, none⟩) (Z13 (p := ⟨gb182, 2, none⟩) (Z13 (p := ⟨gb182, 1, none⟩) (Z13 (p := ⟨gb182, 0, none⟩) (Z15 HO185.out BK182.out (by decide)) (fun _ hk => hk.2) (.slice Ao63 t183.length co63)) (fun _ hk => hk.2) (.slice (some ad198) t186.length co67)) (fun _ hk => hk.2) (.slice Ao68 t189.length co68)) (fun _ hk => hk.2) (.slice Ao69 t192.length co69)) (fun _ hk => hk.2) (.slice Ao76 t206.length co76)) (fun _ hk => hk.2) (.slice Ao78 t209.length co78)) (fun _ hk => ⟨hk.1.1.1.1, ⟨hk.1.1.1.2, ⟨hk.1.1.2, hk.1.2⟩⟩⟩), by (with_reducible repeat (first | apply Z9 | apply Z10 | apply Z11)); exact Z12 (Z13 (p := ⟨gb182, 5, none⟩) (Z13 (p := ⟨gb182, 4, none⟩) (Z13 (p := ⟨gb182, 3, none⟩) (Z13 (p := ⟨gb182, 2, none⟩) (Z13 (p := ⟨gb182, 1, none⟩) (Z13 (p := ⟨gb182, 0, none⟩) (Z15 HO188.out BK182.out (by decide)) (fun _ hk => hk.2) (.slice Ao63 t183.length co63)) (fun _ hk => hk.2) (.slice (some ad198) t186.length co67)) (fun _ hk => hk.2) (.slice Ao68 t189.length co68)) (fun _ hk => hk.2) (.slice Ao69 t192.length co69)) (fun _ hk => hk.2) (.slice Ao76 t206.length co76)) (fun _ hk => hk.2) (.slice Ao78 t209.length co78)) (fun _ hk => ⟨hk.1.1.1.1, ⟨hk.1.1.1.2, ⟨hk.1.1.2, hk.1.2⟩⟩⟩), by (with_reducible repeat (first | apply Z9 | apply Z10 | apply Z11)); exact Z12 (Z13 (p := ⟨gb182, 5, none⟩) (Z13 (p := ⟨gb182, 4, none⟩) (Z13 (p := ⟨gb182, 3, none⟩) (Z13 (p := ⟨gb182, 2, none⟩) (Z13 (p := ⟨gb182, 1, none⟩) (Z13 (p := ⟨gb182, 0, none⟩) (Z15 HO191.out BK182.out (by decide)) (fun _ hk => hk.2) (.slice Ao63 t183.length co63)) (fun _ hk => hk.2) (.slice (some ad198) t186.length co67)) (fun _ hk => hk.2) (.slice Ao68 t189.length co68)) (fun _ hk => hk.2) (.slice Ao69 t192.length co69)) (fun _ hk => hk.2) (.slice Ao76 t206.length co76)) (fun _ hk => hk.2) (.slice Ao78 t209.length co78)) (fun _ hk => trivial), by (with_reducible repeat (first | apply Z9 | apply Z10 | apply Z11)); exact Z12 (Z13 (p := ⟨gb182, 5, none⟩) (Z13 (p := ⟨gb182, 4, none⟩) (Z13 (p := ⟨gb182, 3, none⟩) (Z13 (p := ⟨gb182, 2, none⟩) (Z13 (p := ⟨gb182, 1, none⟩) (Z13 (p := ⟨gb182, 0, none⟩) (Z15 HO194.out BK182.out (by decide)) (fun _ hk => hk.2) (.slice Ao63 t183.length co63)) (fun _ hk => hk.2) (.slice (some ad198) t186.length co67)) (fun _ hk => hk.2) (.slice Ao68 t189.length co68)) (fun _ hk => hk.2) (.slice Ao69 t192.length co69)) (fun _ hk => hk.2) (.slice Ao76 t206.length co76)) (fun _ hk => hk.2) (.slice Ao78 t209.length co78)) (fun _ hk => ⟨hk.1.1.1.1, ⟨hk.1.1.1.2, ⟨hk.1.1.2, hk.1.2⟩⟩⟩), by (with_reducible repeat (first | apply Z9 | apply Z10 | apply Z11)); exact Z12 (Z13 (p := ⟨gb182, 5, none⟩) (Z13 (p := ⟨gb182, 4, none⟩) (Z13 (p := ⟨gb182, 3, none⟩) (Z13 (p := ⟨gb182, 2, none⟩) (Z13 (p := ⟨gb182, 1, none⟩) (Z13 (p := ⟨gb182, 0, none⟩) (Z15 HO208.out BK182.out (by decide)) (fun _ hk => hk.2) (.slice Ao63 t183.length co63)) (fun _ hk => hk.2) (.slice (some ad198) t186.length co67)) (fun _ hk => hk.2) (.slice Ao68 t189.length co68)) (fun _ hk => hk.2) (.slice Ao69 t192.length co69)) (fun _ hk => hk.2) (.slice Ao76 t206.length co76)) (fun _ hk => hk.2) (.slice Ao78 t209.length co78)) (fun _ hk => ⟨hk.1.1.1.1.2, ⟨hk.1.1.1.2, ⟨hk.1.1.2, hk.1.2⟩⟩⟩), by (with_reducible repeat (first | apply Z9 | apply Z10 | apply Z11)); exact Z12 (Z13 (p := ⟨gb182, 5, none⟩) (Z13 (p := ⟨gb182, 4, none⟩) (Z13 (p := ⟨gb182, 3, none⟩) (Z13 (p := ⟨gb182, 2, none⟩) (Z13 (p := ⟨gb182, 1, none⟩) (Z13 (p := ⟨gb182, 0, none⟩) (Z15 HO211.out BK182.out (by decide)) (fun _ hk => hk.2) (.slice Ao63 t183.length co63)) (fun _ hk => hk.2) (.slice (some ad198) t186.length co67)) (fun _ hk => hk.2) (.slice Ao68 t189.length co68)) (fun _ hk => hk.2) (.slice Ao69 t192.length co69)) (fun _ hk => hk.2) (.slice Ao76 t206.length co76)) (fun _ hk => hk.2) (.slice Ao78 t209.length co78)) (fun _ hk => ⟨hk.1.1.1.1.2, ⟨hk.1.1.1.2, ⟨hk.1.1.2, hk.1.2⟩⟩⟩), by repeat (first | (with_reducible first | exact HB.out | apply Z5 | apply Z3 | apply Z4 | refine Z6 ?_ GE181.out | refine Z6 ?_ GE182.out | refine Z6 ?_ GE196.out) | exact HB.out)⟩
      ·rw [if_neg c23] at H
       exact absurd H (by simp)
     ·rw [if_neg c22] at H
      exact absurd H (by simp)
    ·rw [if_neg c21] at H
     exact absurd H (by simp)
   ·rw [if_neg c20] at H
    exact absurd H (by simp)
  ·rw [if_neg c19] at H
   exact absurd H (by simp)
end Go.Proofs.Ytedijkelbdpcdaa.MFnExactRunSwapper
