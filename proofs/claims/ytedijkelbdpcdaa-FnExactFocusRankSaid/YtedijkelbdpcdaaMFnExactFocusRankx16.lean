import Derived.Test.YtedijkelbdpcdaaMFnExactFocusRankx0
import Derived.Test.YtedijkelbdpcdaaMFnExactFocusRankx1
import Derived.Test.YtedijkelbdpcdaaMFnExactFocusRankx8
import Derived.Test.YtedijkelbdpcdaaMFnExactFocusRankx15
namespace Go.Proofs.Ytedijkelbdpcdaa.MFnExactFocusRank
open Go.RowKit Go.Proofs.YtedijkelbdpcdaaW.PrintWords Go.Proofs.YtedijkelbdpcdaaW.PrintLast Go.Proofs.YtedijkelbdpcdaaW.PrintMore
attribute [local go_sem] max2_int min2_int max_two min_two max_three min_three max_four min_four   
set_option linter.unusedVariables false
set_option linter.unusedSimpArgs false
def laws_FnExactFocusRank.j0 : Nat → Bool → List Int → List Int → List Bool → List Int → List Int → List Int → List Bool → List Int → Option (Bool)
 | 0, _, _, _, _, _, _, _, _, _ => none
 | k + 1, x34, x333000, x333001, x333002, x333003, x361000, x361001, x361002, x361003 => if x34 = true then (some false) else ((laws_toFocus.f k x333000 x333001 x333002 x333003).bind fun bt363 => ((laws_eqFocus.f k x361000 x361001 x361002 x361003 bt363.1 bt363.2.1 bt363.2.2.1 bt363.2.2.2).bind fun t375 => (if t375 = true then (some true) else (some false))))
def laws_FnExactFocusRank.f (k : Nat) (l0_0 : List Int) (l0_1 : List Int) (l0_2 : List Bool) (l0_3 : List Int) : Option (Bool) := (laws_szFocus.f l0_0 l0_1 l0_2 l0_3 1048576).bind fun t333 => (if t333 < 0 then (some true) else ((laws_toFocus.f k l0_0 l0_1 l0_2 l0_3).bind fun bt334 => ((spec_FocusRank.f k bt334.1 bt334.2.1 bt334.2.2.1 bt334.2.2.2).bind fun bt346 => ((laws_toFocus.f k l0_0 l0_1 l0_2 l0_3).bind fun bt348 => ((impl_FocusRank.f k bt348.1 bt348.2.1 bt348.2.2.1 bt348.2.2.2).bind fun bt361 => (if bt361.1 = bt346.1 then (laws_FnExactFocusRank.j0 k (bt361.2 != bt346.2) l0_0 l0_1 l0_2 l0_3 bt348.1 bt348.2.1 bt348.2.2.1 bt348.2.2.2) else (laws_FnExactFocusRank.j0 k true l0_0 l0_1 l0_2 l0_3 bt348.1 bt348.2.1 bt348.2.2.1 bt348.2.2.2)))))))
theorem laws_FnExactFocusRank.mono_l : ∀ k, (∀ y0 y1 y2 y3 y4 y5 y6 y7 y8, LeO (laws_FnExactFocusRank.j0 k y0 y1 y2 y3 y4 y5 y6 y7 y8) (laws_FnExactFocusRank.j0 (k + 1) y0 y1 y2 y3 y4 y5 y6 y7 y8))
 | 0 => fun _ _ _ _ _ _ _ _ _ r h => by simp [laws_FnExactFocusRank.j0] at h
 | k + 1 => by
  have ih0 := laws_FnExactFocusRank.mono_l k
  ·intro y0 y1 y2 y3 y4 y5 y6 y7 y8
   unfold laws_FnExactFocusRank.j0
   repeat' first
   | (with_reducible exact ih0 _ _ _ _ _ _ _ _ _)
   | (with_reducible exact impl_FocusRank.mono _ _ _ _ _)
   | (with_reducible exact laws_eqFocus.mono _ _ _ _ _ _ _ _ _)
   | (with_reducible exact laws_toFocus.mono _ _ _ _ _)
   | (with_reducible exact spec_FocusRank.mono _ _ _ _ _)
   | (with_reducible exact LeO.refl _)
   | (with_reducible exact LeO.none _)
   | (with_reducible refine LeO.ite ?_ ?_)
   | (with_reducible refine LeO.bind ?_ (fun _ => ?_))
   | exact ih0 _ _ _ _ _ _ _ _ _
   | exact impl_FocusRank.mono _ _ _ _ _
   | exact laws_eqFocus.mono _ _ _ _ _ _ _ _ _
   | exact laws_toFocus.mono _ _ _ _ _
   | exact spec_FocusRank.mono _ _ _ _ _
   | exact LeO.none _
   | refine LeO.ite ?_ ?_
   | refine LeO.bind ?_ (fun _ => ?_)
theorem laws_FnExactFocusRank.mono : ∀ a0 a1 a2 a3 k, LeO (laws_FnExactFocusRank.f k a0 a1 a2 a3) (laws_FnExactFocusRank.f (k + 1) a0 a1 a2 a3) := by
 intro a0 a1 a2 a3 k
 have ih0 := laws_FnExactFocusRank.mono_l k
 unfold laws_FnExactFocusRank.f
 repeat' first
   | (with_reducible exact ih0 _ _ _ _ _ _ _ _ _)
   | (with_reducible exact impl_FocusRank.mono _ _ _ _ _)
   | (with_reducible exact laws_eqFocus.mono _ _ _ _ _ _ _ _ _)
   | (with_reducible exact laws_toFocus.mono _ _ _ _ _)
   | (with_reducible exact spec_FocusRank.mono _ _ _ _ _)
   | (with_reducible exact LeO.refl _)
   | (with_reducible exact LeO.none _)
   | (with_reducible refine LeO.ite ?_ ?_)
   | (with_reducible refine LeO.bind ?_ (fun _ => ?_))
   | exact ih0 _ _ _ _ _ _ _ _ _
   | exact impl_FocusRank.mono _ _ _ _ _
   | exact laws_eqFocus.mono _ _ _ _ _ _ _ _ _
   | exact laws_toFocus.mono _ _ _ _ _
   | exact spec_FocusRank.mono _ _ _ _ _
   | exact LeO.none _
   | refine LeO.ite ?_ ?_
   | refine LeO.bind ?_ (fun _ => ?_)
set_option maxHeartbeats 8000000 in
set_option maxRecDepth 100000 in
theorem laws_FnExactFocusRank.calls (k : Nat) (A0_0 : Option Addr) (c0_0 : Nat) (l0_0 : List Int) (A0_1 : Option Addr) (c0_1 : Nat) (l0_1 : List Int) (A0_2 : Option Addr) (c0_2 : Nat) (l0_2 : List Bool) (A0_3 : Option Addr) (c0_3 : Nat) (l0_3 : List Int) (r : Bool) (w : World) (hr0_0 : Kd.C (Kd.int .i64) w A0_0 l0_0.length l0_0) (hc0_0 : l0_0.length ≤ c0_0) (hr0_1 : Kd.C (Kd.int .i64) w A0_1 l0_1.length l0_1) (hc0_1 : l0_1.length ≤ c0_1) (hr0_2 : Kd.C Kd.bool w A0_2 l0_2.length l0_2) (hc0_2 : l0_2.length ≤ c0_2) (hr0_3 : Kd.C (Kd.int .i64) w A0_3 l0_3.length l0_3) (hc0_3 : l0_3.length ≤ c0_3) (h : laws_FnExactFocusRank.f k l0_0 l0_1 l0_2 l0_3 = some r) :
  Calls Try.prog 3 #[.agg #[.slice A0_0 l0_0.length c0_0, .slice A0_1 l0_1.length c0_1, .slice A0_2 l0_2.length c0_2, .slice A0_3 l0_3.length c0_3]] w fun e w' => e = .returned (.bool r) ∧ Below w.heap.size w w' := by
 have hu25 := Try.underlying25
 have hu29 := Try.underlying29
 have HR0_0 := Aside0.mk hr0_0
 have HC0_0 := Aside0.mk hc0_0
 clear hr0_0 hc0_0
 have HR0_1 := Aside0.mk hr0_1
 have HC0_1 := Aside0.mk hc0_1
 clear hr0_1 hc0_1
 have HR0_2 := Aside0.mk hr0_2
 have HC0_2 := Aside0.mk hc0_2
 clear hr0_2 hc0_2
 have HR0_3 := Aside0.mk hr0_3
 have HC0_3 := Aside0.mk hc0_3
 clear hr0_3 hc0_3
 have HB := Aside0.mk (Below.refl w.heap.size w)
 have H : ((laws_szFocus.f l0_0 l0_1 l0_2 l0_3 1048576).bind fun t333 => (if t333 < 0 then (some true) else ((laws_toFocus.f k l0_0 l0_1 l0_2 l0_3).bind fun bt334 => ((spec_FocusRank.f k bt334.1 bt334.2.1 bt334.2.2.1 bt334.2.2.2).bind fun bt346 => ((laws_toFocus.f k l0_0 l0_1 l0_2 l0_3).bind fun bt348 => ((impl_FocusRank.f k bt348.1 bt348.2.1 bt348.2.2.1 bt348.2.2.2).bind fun bt361 => (if bt361.1 = bt346.1 then (laws_FnExactFocusRank.j0 k (bt361.2 != bt346.2) l0_0 l0_1 l0_2 l0_3 bt348.1 bt348.2.1 bt348.2.2.1 bt348.2.2.2) else (laws_FnExactFocusRank.j0 k true l0_0 l0_1 l0_2 l0_3 bt348.1 bt348.2.1 bt348.2.2.1 bt348.2.2.2)))))))) = some r := h
 clear h
 replace H := Z37.mp H
 obtain ⟨t333, A20, H⟩ := H
 replace H : (if t333 < 0 then (some true) else ((laws_toFocus.f k l0_0 l0_1 l0_2 l0_3).bind fun bt334 => ((spec_FocusRank.f k bt334.1 bt334.2.1 bt334.2.2.1 bt334.2.2.2).bind fun bt346 => ((laws_toFocus.f k l0_0 l0_1 l0_2 l0_3).bind fun bt348 => ((impl_FocusRank.f k bt348.1 bt348.2.1 bt348.2.2.1 bt348.2.2.2).bind fun bt361 => (if bt361.1 = bt346.1 then (laws_FnExactFocusRank.j0 k (bt361.2 != bt346.2) l0_0 l0_1 l0_2 l0_3 bt348.1 bt348.2.1 bt348.2.2.1 bt348.2.2.2) else (laws_FnExactFocusRank.j0 k true l0_0 l0_1 l0_2 l0_3 bt348.1 bt348.2.1 bt348.2.2.1 bt348.2.2.2))))))) = some r := H
 have A2 := Aside0.mk A20
 clear A20
 by_cases c3 : t333 < 0
 ·rw [if_pos c3] at H
  have c3b0 : decide (t333 < 0) = true := Z39 c3
  clear c3
  obtain rfl := Option.some.inj H
  go_enter Try.func3, Try.ntmps3
  go_wp2_with (first | ((with_reducible refine gate_dst (N := 1) rfl ?_); refine box_event ?hg (N := 1) ?hd (cs := #[.slice A0_0 l0_0.length c0_0, .slice A0_1 l0_1.length c0_1, .slice A0_2 l0_2.length c0_2, .slice A0_3 l0_3.length c0_3]) (t := 25) ?hr ?_; (case hd => rfl); (case hg => rfl); (case hr => first | (go_simp; done) | (go_simp; rfl)); intro gb332 hg w4 hbox hb; have n0_ := Aside0.mk (Z8 (by repeat (first | (with_reducible first | exact HB.out | apply Z5 | apply Z3 | apply Z4) | exact HB.out)) hb); have n1_ := Aside0.mk (hbox); have n2_ := Aside0.mk ((by rw [hg]; exact (Z7 (by repeat (first | (with_reducible first | exact HB.out | apply Z5 | apply Z3 | apply Z4) | exact HB.out))) : w.heap.size ≤ gb332)); have n3_ := Aside0.mk ((by rw [hg]; exact (Z7 (by repeat (first | (with_reducible first | exact HB.out | apply Z5 | apply Z3 | apply Z4) | exact HB.out))) : w.heap.size ≤ gb332)); clear HB; have HB := n0_; have BK332 := n1_; have GW332 := n2_; have GE332 := n3_; clear n0_ n1_ n2_ n3_; clear hb hbox hg; have hcz5_0 : w4.cell? ⟨gb332, 0, none⟩ = some (.slice A0_0 l0_0.length c0_0) := (Z24 BK332.out 0).trans rfl; have hcz5_1 : w4.cell? ⟨gb332, 1, none⟩ = some (.slice A0_1 l0_1.length c0_1) := (Z24 BK332.out 1).trans rfl; have hcz5_2 : w4.cell? ⟨gb332, 2, none⟩ = some (.slice A0_2 l0_2.length c0_2) := (Z24 BK332.out 2).trans rfl; have hcz5_3 : w4.cell? ⟨gb332, 3, none⟩ = some (.slice A0_3 l0_3.length c0_3) := (Z24 BK332.out 3).trans rfl; have hfz5_0 := Z25 BK332.out 0; have hfz5_1 := Z25 BK332.out 1; have hfz5_2 := Z25 BK332.out 2; have hfz5_3 := Z25 BK332.out 3) | ((with_reducible refine gate_callee (f := 12) rfl ?_); refine goesL_ (some 11) rfl rfl Try.func12 (by kernel_rfl) rfl #[.agg #[.slice A0_0 l0_0.length c0_0, .slice A0_1 l0_1.length c0_1, .slice A0_2 l0_2.length c0_2, .slice A0_3 l0_3.length c0_3], .int .i64 1048576] rfl (by (try simp only [Z34, Z35, Z36]); first | done | rfl | (simp only [Z32, Z33]; rfl)) ?_; (with_reducible refine (laws_szFocus.calls _ _ l0_0 _ _ l0_1 _ _ l0_2 _ _ l0_3 1048576 t333 _ ?side1 ?side2 ?side3 ?side4 ?side5 ?side6 ?side7 ?side8 A2.out).mono ?_); (case side1 => repeat (first | exact (Z23 HR0_0.out HB.out) | (with_reducible refine Z20 ?_ _) | (with_reducible refine Z21 ?_ _) | (with_reducible refine Z22 ?_))); (case side2 => exact HC0_0.out); (case side3 => repeat (first | exact (Z23 HR0_1.out HB.out) | (with_reducible refine Z20 ?_ _) | (with_reducible refine Z21 ?_ _) | (with_reducible refine Z22 ?_))); (case side4 => exact HC0_1.out); (case side5 => repeat (first | exact (Z23 HR0_2.out HB.out) | (with_reducible refine Z20 ?_ _) | (with_reducible refine Z21 ?_ _) | (with_reducible refine Z22 ?_))); (case side6 => exact HC0_2.out); (case side7 => repeat (first | exact (Z23 HR0_3.out HB.out) | (with_reducible refine Z20 ?_ _) | (with_reducible refine Z21 ?_ _) | (with_reducible refine Z22 ?_))); (case side8 => exact HC0_3.out); rintro e w6 ⟨rfl, hb⟩; refine ⟨_, rfl, ?_⟩; have n0_ := Aside0.mk (Z29 (g := gb332) (o := .cells #[.slice A0_0 l0_0.length c0_0, .slice A0_1 l0_1.length c0_1, .slice A0_2 l0_2.length c0_2, .slice A0_3 l0_3.length c0_3] 25 (0, 0)) (by (with_reducible repeat (first | refine Z26 ?_ _ | refine Z27 ?_ | refine Z28 ?_ _)); exact BK332.out) hb); have n1_ := Aside0.mk (Z8 (by repeat (first | (with_reducible first | exact HB.out | apply Z5 | apply Z3 | apply Z4 | refine Z6 ?_ GE332.out) | exact HB.out)) hb); clear BK332; clear HB; have BK332 := n0_; have HB := n1_; clear n0_ n1_; (try clear hb); (try clear hb2); (try clear hk); (try clear hi)))
  go_ret
  exact ⟨by first | rfl | (simp [errW_none, errW_some] <;> rfl) | (simp [*, errW_none, errW_some] <;> rfl), by repeat (first | (with_reducible first | exact HB.out | apply Z5 | apply Z3 | apply Z4 | refine Z6 ?_ GE332.out) | exact HB.out)⟩
 ·rw [if_neg c3] at H
  have c3b0 : decide (t333 < 0) = false := Z38 c3
  clear c3
  replace H := Z37.mp H
  obtain ⟨⟨t334, t337, t340, t343⟩, A70, H⟩ := H
  replace H : ((spec_FocusRank.f k t334 t337 t340 t343).bind fun bt346 => ((laws_toFocus.f k l0_0 l0_1 l0_2 l0_3).bind fun bt348 => ((impl_FocusRank.f k bt348.1 bt348.2.1 bt348.2.2.1 bt348.2.2.2).bind fun bt361 => (if bt361.1 = bt346.1 then (laws_FnExactFocusRank.j0 k (bt361.2 != bt346.2) l0_0 l0_1 l0_2 l0_3 bt348.1 bt348.2.1 bt348.2.2.1 bt348.2.2.2) else (laws_FnExactFocusRank.j0 k true l0_0 l0_1 l0_2 l0_3 bt348.1 bt348.2.1 bt348.2.2.1 bt348.2.2.2))))) = some r := H
  have A7 := Aside0.mk A70
  clear A70
  replace H := Z37.mp H
  obtain ⟨⟨t346, t347⟩, A80, H⟩ := H
  replace H : ((laws_toFocus.f k l0_0 l0_1 l0_2 l0_3).bind fun bt348 => ((impl_FocusRank.f k bt348.1 bt348.2.1 bt348.2.2.1 bt348.2.2.2).bind fun bt361 => (if bt361.1 = t346 then (laws_FnExactFocusRank.j0 k (bt361.2 != t347) l0_0 l0_1 l0_2 l0_3 bt348.1 bt348.2.1 bt348.2.2.1 bt348.2.2.2) else (laws_FnExactFocusRank.j0 k true l0_0 l0_1 l0_2 l0_3 bt348.1 bt348.2.1 bt348.2.2.1 bt348.2.2.2)))) = some r := H
  have A8 := Aside0.mk A80
  clear A80
  replace H := Z37.mp H
  obtain ⟨⟨t348, t351, t354, t357⟩, A90, H⟩ := H
  replace H : ((impl_FocusRank.f k t348 t351 t354 t357).bind fun bt361 => (if bt361.1 = t346 then (laws_FnExactFocusRank.j0 k (bt361.2 != t347) l0_0 l0_1 l0_2 l0_3 t348 t351 t354 t357) else (laws_FnExactFocusRank.j0 k true l0_0 l0_1 l0_2 l0_3 t348 t351 t354 t357))) = some r := H
  have A9 := Aside0.mk A90
  clear A90
  replace H := Z37.mp H
  obtain ⟨⟨t361, t362⟩, A100, H⟩ := H
  replace H : (if t361 = t346 then (laws_FnExactFocusRank.j0 k (t362 != t347) l0_0 l0_1 l0_2 l0_3 t348 t351 t354 t357) else (laws_FnExactFocusRank.j0 k true l0_0 l0_1 l0_2 l0_3 t348 t351 t354 t357)) = some r := H
  have A10 := Aside0.mk A100
  clear A100
  have HC11 := Aside0.mk H
  clear H
  go_enter Try.func3, Try.ntmps3
  go_upto_region 8 with (first | ((with_reducible refine gate_dst (N := 1) rfl ?_); refine box_event ?hg (N := 1) ?hd (cs := #[.slice A0_0 l0_0.length c0_0, .slice A0_1 l0_1.length c0_1, .slice A0_2 l0_2.length c0_2, .slice A0_3 l0_3.length c0_3]) (t := 25) ?hr ?_; (case hd => rfl); (case hg => rfl); (case hr => first | (go_simp; done) | (go_simp; rfl)); intro gb332 hg w12 hbox hb; have n0_ := Aside0.mk (Z8 (by repeat (first | (with_reducible first | exact HB.out | apply Z5 | apply Z3 | apply Z4) | exact HB.out)) hb); have n1_ := Aside0.mk (hbox); have n2_ := Aside0.mk ((by rw [hg]; exact (Z7 (by repeat (first | (with_reducible first | exact HB.out | apply Z5 | apply Z3 | apply Z4) | exact HB.out))) : w.heap.size ≤ gb332)); have n3_ := Aside0.mk ((by rw [hg]; exact (Z7 (by repeat (first | (with_reducible first | exact HB.out | apply Z5 | apply Z3 | apply Z4) | exact HB.out))) : w.heap.size ≤ gb332)); clear HB; have HB := n0_; have BK332 := n1_; have GW332 := n2_; have GE332 := n3_; clear n0_ n1_ n2_ n3_; clear hb hbox hg; have hcz13_0 : w12.cell? ⟨gb332, 0, none⟩ = some (.slice A0_0 l0_0.length c0_0) := (Z24 BK332.out 0).trans rfl; have hcz13_1 : w12.cell? ⟨gb332, 1, none⟩ = some (.slice A0_1 l0_1.length c0_1) := (Z24 BK332.out 1).trans rfl; have hcz13_2 : w12.cell? ⟨gb332, 2, none⟩ = some (.slice A0_2 l0_2.length c0_2) := (Z24 BK332.out 2).trans rfl; have hcz13_3 : w12.cell? ⟨gb332, 3, none⟩ = some (.slice A0_3 l0_3.length c0_3) := (Z24 BK332.out 3).trans rfl; have hfz13_0 := Z25 BK332.out 0; have hfz13_1 := Z25 BK332.out 1; have hfz13_2 := Z25 BK332.out 2; have hfz13_3 := Z25 BK332.out 3) | ((with_reducible refine gate_callee (f := 12) rfl ?_); refine goesL_ (some 11) rfl rfl Try.func12 (by kernel_rfl) rfl #[.agg #[.slice A0_0 l0_0.length c0_0, .slice A0_1 l0_1.length c0_1, .slice A0_2 l0_2.length c0_2, .slice A0_3 l0_3.length c0_3], .int .i64 1048576] rfl (by (try simp only [Z34, Z35, Z36]); first | done | rfl | (simp only [Z32, Z33]; rfl)) ?_; (with_reducible refine (laws_szFocus.calls _ _ l0_0 _ _ l0_1 _ _ l0_2 _ _ l0_3 1048576 t333 _ ?side1 ?side2 ?side3 ?side4 ?side5 ?side6 ?side7 ?side8 A2.out).mono ?_); (case side1 => repeat (first | exact (Z23 HR0_0.out HB.out) | (with_reducible refine Z20 ?_ _) | (with_reducible refine Z21 ?_ _) | (with_reducible refine Z22 ?_))); (case side2 => exact HC0_0.out); (case side3 => repeat (first | exact (Z23 HR0_1.out HB.out) | (with_reducible refine Z20 ?_ _) | (with_reducible refine Z21 ?_ _) | (with_reducible refine Z22 ?_))); (case side4 => exact HC0_1.out); (case side5 => repeat (first | exact (Z23 HR0_2.out HB.out) | (with_reducible refine Z20 ?_ _) | (with_reducible refine Z21 ?_ _) | (with_reducible refine Z22 ?_))); (case side6 => exact HC0_2.out); (case side7 => repeat (first | exact (Z23 HR0_3.out HB.out) | (with_reducible refine Z20 ?_ _) | (with_reducible refine Z21 ?_ _) | (with_reducible refine Z22 ?_))); (case side8 => exact HC0_3.out); rintro e w14 ⟨rfl, hb⟩; refine ⟨_, rfl, ?_⟩; have n0_ := Aside0.mk (Z29 (g := gb332) (o := .cells #[.slice A0_0 l0_0.length c0_0, .slice A0_1 l0_1.length c0_1, .slice A0_2 l0_2.length c0_2, .slice A0_3 l0_3.length c0_3] 25 (0, 0)) (by (with_reducible repeat (first | refine Z26 ?_ _ | refine Z27 ?_ | refine Z28 ?_ _)); exact BK332.out) hb); have n1_ := Aside0.mk (Z8 (by repeat (first | (with_reducible first | exact HB.out | apply Z5 | apply Z3 | apply Z4 | refine Z6 ?_ GE332.out) | exact HB.out)) hb); clear BK332; clear HB; have BK332 := n0_; have HB := n1_; clear n0_ n1_; (try clear hb); (try clear hb2); (try clear hk); (try clear hi); have hcz15_0 : w14.cell? ⟨gb332, 0, none⟩ = some (.slice A0_0 l0_0.length c0_0) := (Z24 BK332.out 0).trans rfl; have hcz15_1 : w14.cell? ⟨gb332, 1, none⟩ = some (.slice A0_1 l0_1.length c0_1) := (Z24 BK332.out 1).trans rfl; have hcz15_2 : w14.cell? ⟨gb332, 2, none⟩ = some (.slice A0_2 l0_2.length c0_2) := (Z24 BK332.out 2).trans rfl; have hcz15_3 : w14.cell? ⟨gb332, 3, none⟩ = some (.slice A0_3 l0_3.length c0_3) := (Z24 BK332.out 3).trans rfl; have hfz15_0 := Z25 BK332.out 0; have hfz15_1 := Z25 BK332.out 1; have hfz15_2 := Z25 BK332.out 2; have hfz15_3 := Z25 BK332.out 3) | ((with_reducible refine gate_callee (f := 14) rfl ?_); refine goesL_ (some 16) rfl rfl Try.func14 (by kernel_rfl) rfl #[.agg #[.slice A0_0 l0_0.length c0_0, .slice A0_1 l0_1.length c0_1, .slice A0_2 l0_2.length c0_2, .slice A0_3 l0_3.length c0_3]] rfl (by (try simp only [Z34, Z35, Z36]); first | done | rfl | (simp only [Z32, Z33]; rfl)) ?_; (with_reducible refine (laws_toFocus.calls k _ _ l0_0 _ _ l0_1 _ _ l0_2 _ _ l0_3 t334 t337 t340 t343 _ ?side1 ?side2 ?side3 ?side4 ?side5 ?side6 ?side7 ?side8 A7.out).mono ?_); (case side1 => repeat (first | exact (Z23 HR0_0.out HB.out) | (with_reducible refine Z20 ?_ _) | (with_reducible refine Z21 ?_ _) | (with_reducible refine Z22 ?_))); (case side2 => exact HC0_0.out); (case side3 => repeat (first | exact (Z23 HR0_1.out HB.out) | (with_reducible refine Z20 ?_ _) | (with_reducible refine Z21 ?_ _) | (with_reducible refine Z22 ?_))); (case side4 => exact HC0_1.out); (case side5 => repeat (first | exact (Z23 HR0_2.out HB.out) | (with_reducible refine Z20 ?_ _) | (with_reducible refine Z21 ?_ _) | (with_reducible refine Z22 ?_))); (case side6 => exact HC0_2.out); (case side7 => repeat (first | exact (Z23 HR0_3.out HB.out) | (with_reducible refine Z20 ?_ _) | (with_reducible refine Z21 ?_ _) | (with_reducible refine Z22 ?_))); (case side8 => exact HC0_3.out); rintro e w16 ⟨v335, v338, v341, v344, rfl, ho0, ho1, ho2, ho3, hb⟩; refine ⟨_, rfl, ?_⟩; have n0_ := Aside0.mk (Kd.R_lower ho0 (Z7 (by repeat (first | (with_reducible first | exact HB.out | apply Z5 | apply Z3 | apply Z4 | refine Z6 ?_ GE332.out) | exact HB.out)))); have n1_ := Aside0.mk (Kd.R_lower ho1 (Z7 (by repeat (first | (with_reducible first | exact HB.out | apply Z5 | apply Z3 | apply Z4 | refine Z6 ?_ GE332.out) | exact HB.out)))); have n2_ := Aside0.mk (Kd.R_lower ho2 (Z7 (by repeat (first | (with_reducible first | exact HB.out | apply Z5 | apply Z3 | apply Z4 | refine Z6 ?_ GE332.out) | exact HB.out)))); have n3_ := Aside0.mk (Kd.R_lower ho3 (Z7 (by repeat (first | (with_reducible first | exact HB.out | apply Z5 | apply Z3 | apply Z4 | refine Z6 ?_ GE332.out) | exact HB.out)))); have n4_ := Aside0.mk (Z29 (g := gb332) (o := .cells #[.slice A0_0 l0_0.length c0_0, .slice A0_1 l0_1.length c0_1, .slice A0_2 l0_2.length c0_2, .slice A0_3 l0_3.length c0_3] 25 (0, 0)) (by (with_reducible repeat (first | refine Z26 ?_ _ | refine Z27 ?_ | refine Z28 ?_ _)); exact BK332.out) hb); have n5_ := Aside0.mk (Z8 (by repeat (first | (with_reducible first | exact HB.out | apply Z5 | apply Z3 | apply Z4 | refine Z6 ?_ GE332.out) | exact HB.out)) hb); clear BK332; clear HB; have HO336 := n0_; have HO339 := n1_; have HO342 := n2_; have HO345 := n3_; have BK332 := n4_; have HB := n5_; clear n0_ n1_ n2_ n3_ n4_ n5_; (try clear hb); (try clear hb2); (try clear hk); (try clear hi); (try clear ho0); (try clear ho1); (try clear ho2); (try clear ho3); obtain ⟨Ao17, co17, eo17⟩ := Z19 HO336.out; subst eo17; obtain ⟨Ao18, co18, eo18⟩ := Z19 HO339.out; subst eo18; obtain ⟨Ao19, co19, eo19⟩ := Z19 HO342.out; subst eo19; obtain ⟨Ao20, co20, eo20⟩ := Z19 HO345.out; subst eo20) | ((with_reducible refine gate_callee (f := 13) rfl ?_); refine goesL_ (some 17) rfl rfl Try.func13 (by kernel_rfl) rfl #[.agg #[.slice Ao17 t334.length co17, .slice Ao18 t337.length co18, .slice Ao19 t340.length co19, .slice Ao20 t343.length co20]] rfl (by (try simp only [Z34, Z35, Z36]); first | done | rfl | (simp only [Z32, Z33]; rfl)) ?_; (with_reducible refine (spec_FocusRank.calls k _ _ t334 _ _ t337 _ _ t340 _ _ t343 t346 t347 _ ?side1 ?side2 ?side3 ?side4 ?side5 ?side6 ?side7 ?side8 A8.out).mono ?_); (case side1 => repeat (first | exact (Kd.R_reads' HO336.out).2.2 | (with_reducible refine Z20 ?_ _) | (with_reducible refine Z21 ?_ _) | (with_reducible refine Z22 ?_))); (case side2 => exact (Kd.R_reads' HO336.out).2.1); (case side3 => repeat (first | exact (Kd.R_reads' HO339.out).2.2 | (with_reducible refine Z20 ?_ _) | (with_reducible refine Z21 ?_ _) | (with_reducible refine Z22 ?_))); (case side4 => exact (Kd.R_reads' HO339.out).2.1); (case side5 => repeat (first | exact (Kd.R_reads' HO342.out).2.2 | (with_reducible refine Z20 ?_ _) | (with_reducible refine Z21 ?_ _) | (with_reducible refine Z22 ?_))); (case side6 => exact (Kd.R_reads' HO342.out).2.1); (case side7 => repeat (first | exact (Kd.R_reads' HO345.out).2.2 | (with_reducible refine Z20 ?_ _) | (with_reducible refine Z21 ?_ _) | (with_reducible refine Z22 ?_))); (case side8 => exact (Kd.R_reads' HO345.out).2.1); rintro e w21 ⟨rfl, hb⟩; refine ⟨_, rfl, ?_⟩; have n0_ := Aside0.mk (Z14 (by (with_reducible repeat (first | apply Z9 | apply Z10 | apply Z11)); exact HO336.out) hb); have n1_ := Aside0.mk (Z14 (by (with_reducible repeat (first | apply Z9 | apply Z10 | apply Z11)); exact HO339.out) hb); have n2_ := Aside0.mk (Z14 (by (with_reducible repeat (first | apply Z9 | apply Z10 | apply Z11)); exact HO342.out) hb); have n3_ := Aside0.mk (Z14 (by (with_reducible repeat (first | apply Z9 | apply Z10 | apply Z11)); exact HO345.out) hb); have n4_ := Aside0.mk (Z29 (g := gb332) (o := .cells #[.slice A0_0 l0_0.length c0_0, .slice A0_1 l0_1.length c0_1, .slice A0_2 l0_2.length c0_2, .slice A0_3 l0_3.length c0_3] 25 (0, 0)) (by (with_reducible repeat (first | refine Z26 ?_ _ | refine Z27 ?_ | refine Z28 ?_ _)); exact BK332.out) hb); have n5_ := Aside0.mk (Z8 (by repeat (first | (with_reducible first | exact HB.out | apply Z5 | apply Z3 | apply Z4 | refine Z6 ?_ GE332.out) | exact HB.out)) hb); clear HO336; clear HO339; clear HO342; clear HO345; clear BK332; clear HB; have HO336 := n0_; have HO339 := n1_; have HO342 := n2_; have HO345 := n3_; have BK332 := n4_; have HB := n5_; clear n0_ n1_ n2_ n3_ n4_ n5_; (try clear hb); (try clear hb2); (try clear hk); (try clear hi); have hcz22_0 : w21.cell? ⟨gb332, 0, none⟩ = some (.slice A0_0 l0_0.length c0_0) := (Z24 BK332.out 0).trans rfl; have hcz22_1 : w21.cell? ⟨gb332, 1, none⟩ = some (.slice A0_1 l0_1.length c0_1) := (Z24 BK332.out 1).trans rfl; have hcz22_2 : w21.cell? ⟨gb332, 2, none⟩ = some (.slice A0_2 l0_2.length c0_2) := (Z24 BK332.out 2).trans rfl; have hcz22_3 : w21.cell? ⟨gb332, 3, none⟩ = some (.slice A0_3 l0_3.length c0_3) := (Z24 BK332.out 3).trans rfl; have hfz22_0 := Z25 BK332.out 0; have hfz22_1 := Z25 BK332.out 1; have hfz22_2 := Z25 BK332.out 2; have hfz22_3 := Z25 BK332.out 3) | ((with_reducible refine gate_callee (f := 14) rfl ?_); refine goesL_ (some 21) rfl rfl Try.func14 (by kernel_rfl) rfl #[.agg #[.slice A0_0 l0_0.length c0_0, .slice A0_1 l0_1.length c0_1, .slice A0_2 l0_2.length c0_2, .slice A0_3 l0_3.length c0_3]] rfl (by (try simp only [Z34, Z35, Z36]); first | done | rfl | (simp only [Z32, Z33]; rfl)) ?_; (with_reducible refine (laws_toFocus.calls k _ _ l0_0 _ _ l0_1 _ _ l0_2 _ _ l0_3 t348 t351 t354 t357 _ ?side1 ?side2 ?side3 ?side4 ?side5 ?side6 ?side7 ?side8 A9.out).mono ?_); (case side1 => repeat (first | exact (Z23 HR0_0.out HB.out) | (with_reducible refine Z20 ?_ _) | (with_reducible refine Z21 ?_ _) | (with_reducible refine Z22 ?_))); (case side2 => exact HC0_0.out); (case side3 => repeat (first | exact (Z23 HR0_1.out HB.out) | (with_reducible refine Z20 ?_ _) | (with_reducible refine Z21 ?_ _) | (with_reducible refine Z22 ?_))); (case side4 => exact HC0_1.out); (case side5 => repeat (first | exact (Z23 HR0_2.out HB.out) | (with_reducible refine Z20 ?_ _) | (with_reducible refine Z21 ?_ _) | (with_reducible refine Z22 ?_))); (case side6 => exact HC0_2.out); (case side7 => repeat (first | exact (Z23 HR0_3.out HB.out) | (with_reducible refine Z20 ?_ _) | (with_reducible refine Z21 ?_ _) | (with_reducible refine Z22 ?_))); (case side8 => exact HC0_3.out); rintro e w23 ⟨v349, v352, v355, v358, rfl, ho0, ho1, ho2, ho3, hb⟩; refine ⟨_, rfl, ?_⟩; have n0_ := Aside0.mk (Z12 (Z16 (Z16 (Z16 (Z17 (by (with_reducible repeat (first | apply Z9 | apply Z10 | apply Z11)); exact HO336.out) hb) (Kd.R_base ho0)) (Kd.R_base ho1)) (Kd.R_base ho3)) (fun _ h_ => h_.1)); have n1_ := Aside0.mk (Z12 (Z16 (Z16 (Z16 (Z17 (by (with_reducible repeat (first | apply Z9 | apply Z10 | apply Z11)); exact HO339.out) hb) (Kd.R_base ho0)) (Kd.R_base ho1)) (Kd.R_base ho3)) (fun _ h_ => h_.1)); have n2_ := Aside0.mk (Kd.R_elder' (by (with_reducible repeat (first | apply Z9 | apply Z10 | apply Z11)); exact HO342.out) (Kd.R_base ho2) hb); have n3_ := Aside0.mk (Z12 (Z16 (Z16 (Z16 (Z17 (by (with_reducible repeat (first | apply Z9 | apply Z10 | apply Z11)); exact HO345.out) hb) (Kd.R_base ho0)) (Kd.R_base ho1)) (Kd.R_base ho3)) (fun _ h_ => h_.1)); have n4_ := Aside0.mk (Kd.R_lower (Kd.R_new' (Kd.R_new' (Kd.R_new' ho0 (Z18 (by (with_reducible repeat (first | apply Z9 | apply Z10 | apply Z11)); exact HO336.out))) (Z18 (by (with_reducible repeat (first | apply Z9 | apply Z10 | apply Z11)); exact HO339.out))) (Z18 (by (with_reducible repeat (first | apply Z9 | apply Z10 | apply Z11)); exact HO345.out))) (Z7 (by repeat (first | (with_reducible first | exact HB.out | apply Z5 | apply Z3 | apply Z4 | refine Z6 ?_ GE332.out) | exact HB.out)))); have n5_ := Aside0.mk (Kd.R_lower (Kd.R_new' (Kd.R_new' (Kd.R_new' ho1 (Z18 (by (with_reducible repeat (first | apply Z9 | apply Z10 | apply Z11)); exact HO336.out))) (Z18 (by (with_reducible repeat (first | apply Z9 | apply Z10 | apply Z11)); exact HO339.out))) (Z18 (by (with_reducible repeat (first | apply Z9 | apply Z10 | apply Z11)); exact HO345.out))) (Z7 (by repeat (first | (with_reducible first | exact HB.out | apply Z5 | apply Z3 | apply Z4 | refine Z6 ?_ GE332.out) | exact HB.out)))); have n6_ := Aside0.mk (Kd.R_lower (Kd.R_new' ho2 (Z18 (by (with_reducible repeat (first | apply Z9 | apply Z10 | apply Z11)); exact HO342.out))) (Z7 (by repeat (first | (with_reducible first | exact HB.out | apply Z5 | apply Z3 | apply Z4 | refine Z6 ?_ GE332.out) | exact HB.out)))); have n7_ := Aside0.mk (Kd.R_lower (Kd.R_new' (Kd.R_new' (Kd.R_new' ho3 (Z18 (by (with_reducible repeat (first | apply Z9 | apply Z10 | apply Z11)); exact HO336.out))) (Z18 (by (with_reducible repeat (first | apply Z9 | apply Z10 | apply Z11)); exact HO339.out))) (Z18 (by (with_reducible repeat (first | apply Z9 | apply Z10 | apply Z11)); exact HO345.out))) (Z7 (by repeat (first | (with_reducible first | exact HB.out | apply Z5 | apply Z3 | apply Z4 | refine Z6 ?_ GE332.out) | exact HB.out)))); have n8_ := Aside0.mk (Z29 (g := gb332) (o := .cells #[.slice A0_0 l0_0.length c0_0, .slice A0_1 l0_1.length c0_1, .slice A0_2 l0_2.length c0_2, .slice A0_3 l0_3.length c0_3] 25 (0, 0)) (by (with_reducible repeat (first | refine Z26 ?_ _ | refine Z27 ?_ | refine Z28 ?_ _)); exact BK332.out) hb); have n9_ := Aside0.mk (Z8 (by repeat (first | (with_reducible first | exact HB.out | apply Z5 | apply Z3 | apply Z4 | refine Z6 ?_ GE332.out) | exact HB.out)) hb); clear HO336; clear HO339; clear HO342; clear HO345; clear BK332; clear HB; have HO336 := n0_; have HO339 := n1_; have HO342 := n2_; have HO345 := n3_; have HO350 := n4_; have HO353 := n5_; have HO356 := n6_; have HO359 := n7_; have BK332 := n8_; have HB := n9_; clear n0_ n1_ n2_ n3_ n4_ n5_ n6_ n7_ n8_ n9_; (try clear hb); (try clear hb2); (try clear hk); (try clear hi); (try clear ho0); (try clear ho1); (try clear ho2); (try clear ho3)) | ((with_reducible refine gate_dst (N := 6) rfl ?_); refine box_event ?hg (N := 6) ?hd (cs := #[.slice none 0 0, .slice none 0 0, .slice none 0 0, .slice none 0 0]) (t := 29) ?hr ?_; (case hd => rfl); (case hg => rfl); (case hr => first | (go_simp; done) | (go_simp; rfl)); intro gb360 hg w24 hbox hb; have n0_ := Aside0.mk (Z14 (by (with_reducible repeat (first | apply Z9 | apply Z10 | apply Z11)); exact HO336.out) hb); have n1_ := Aside0.mk (Z14 (by (with_reducible repeat (first | apply Z9 | apply Z10 | apply Z11)); exact HO339.out) hb); have n2_ := Aside0.mk (Z14 (by (with_reducible repeat (first | apply Z9 | apply Z10 | apply Z11)); exact HO342.out) hb); have n3_ := Aside0.mk (Z14 (by (with_reducible repeat (first | apply Z9 | apply Z10 | apply Z11)); exact HO345.out) hb); have n4_ := Aside0.mk (Z14 (by (with_reducible repeat (first | apply Z9 | apply Z10 | apply Z11)); exact HO350.out) hb); have n5_ := Aside0.mk (Z14 (by (with_reducible repeat (first | apply Z9 | apply Z10 | apply Z11)); exact HO353.out) hb); have n6_ := Aside0.mk (Z14 (by (with_reducible repeat (first | apply Z9 | apply Z10 | apply Z11)); exact HO356.out) hb); have n7_ := Aside0.mk (Z14 (by (with_reducible repeat (first | apply Z9 | apply Z10 | apply Z11)); exact HO359.out) hb); have n8_ := Aside0.mk (Z29 (g := gb332) (o := .cells #[.slice A0_0 l0_0.length c0_0, .slice A0_1 l0_1.length c0_1, .slice A0_2 l0_2.length c0_2, .slice A0_3 l0_3.length c0_3] 25 (0, 0)) (by (with_reducible repeat (first | refine Z26 ?_ _ | refine Z27 ?_ | refine Z28 ?_ _)); exact BK332.out) hb); have n9_ := Aside0.mk (Z8 (by repeat (first | (with_reducible first | exact HB.out | apply Z5 | apply Z3 | apply Z4 | refine Z6 ?_ GE332.out) | exact HB.out)) hb); have n10_ := Aside0.mk (hbox); have n11_ := Aside0.mk ((by rw [hg]; exact (Z7 (by repeat (first | (with_reducible first | exact HB.out | apply Z5 | apply Z3 | apply Z4 | refine Z6 ?_ GE332.out) | exact HB.out))) : w.heap.size ≤ gb360)); have n12_ := Aside0.mk ((by rw [hg]; exact (Z7 (by repeat (first | (with_reducible first | exact HB.out | apply Z5 | apply Z3 | apply Z4 | refine Z6 ?_ GE332.out) | exact HB.out))) : w.heap.size ≤ gb360)); have n13_ := Aside0.mk ((by rw [hg]; exact Nat.ne_of_lt (blk_lt (g := gb332) (o := .cells #[.slice A0_0 l0_0.length c0_0, .slice A0_1 l0_1.length c0_1, .slice A0_2 l0_2.length c0_2, .slice A0_3 l0_3.length c0_3] 25 (0, 0)) (by (with_reducible repeat (first | refine Z26 ?_ _ | refine Z27 ?_ | refine Z28 ?_ _)); exact BK332.out)) : gb332 ≠ gb360)); have n14_ := Aside0.mk ((by rw [hg]; exact Nat.ne_of_gt (blk_lt (g := gb332) (o := .cells #[.slice A0_0 l0_0.length c0_0, .slice A0_1 l0_1.length c0_1, .slice A0_2 l0_2.length c0_2, .slice A0_3 l0_3.length c0_3] 25 (0, 0)) (by (with_reducible repeat (first | refine Z26 ?_ _ | refine Z27 ?_ | refine Z28 ?_ _)); exact BK332.out)) : gb360 ≠ gb332)); clear HO336; clear HO339; clear HO342; clear HO345; clear HO350; clear HO353; clear HO356; clear HO359; clear BK332; clear HB; have HO336 := n0_; have HO339 := n1_; have HO342 := n2_; have HO345 := n3_; have HO350 := n4_; have HO353 := n5_; have HO356 := n6_; have HO359 := n7_; have BK332 := n8_; have HB := n9_; have BK360 := n10_; have GW360 := n11_; have GE360 := n12_; have NB332_360 := n13_; have NB360_332 := n14_; clear n0_ n1_ n2_ n3_ n4_ n5_ n6_ n7_ n8_ n9_ n10_ n11_ n12_ n13_ n14_; clear hb hbox hg; obtain ⟨Ao25, co25, eo25⟩ := Z19 HO350.out; subst eo25; have hnb26 := NB360_332.out; have hnc26 := NB332_360.out; have hcz27_0 : w24.cell? ⟨gb360, 0, none⟩ = some (.slice none 0 0) := (Z24 BK360.out 0).trans rfl; have hcz27_1 : w24.cell? ⟨gb360, 1, none⟩ = some (.slice none 0 0) := (Z24 BK360.out 1).trans rfl; have hcz27_2 : w24.cell? ⟨gb360, 2, none⟩ = some (.slice none 0 0) := (Z24 BK360.out 2).trans rfl; have hcz27_3 : w24.cell? ⟨gb360, 3, none⟩ = some (.slice none 0 0) := (Z24 BK360.out 3).trans rfl; have hfz27_0 := Z25 BK360.out 0; have hfz27_1 := Z25 BK360.out 1; have hfz27_2 := Z25 BK360.out 2; have hfz27_3 := Z25 BK360.out 3; obtain ⟨Ao28, co28, eo28⟩ := Z19 HO353.out; subst eo28; obtain ⟨Ao29, co29, eo29⟩ := Z19 HO356.out; subst eo29; obtain ⟨Ao30, co30, eo30⟩ := Z19 HO359.out; subst eo30) | ((with_reducible refine gate_callee (f := 15) rfl ?_); refine goesL_ (some 24) rfl rfl Try.func15 (by kernel_rfl) rfl #[.agg #[.slice Ao25 t348.length co25, .slice Ao28 t351.length co28, .slice Ao29 t354.length co29, .slice Ao30 t357.length co30]] rfl (by (try simp only [Z34, Z35, Z36]); first | done | rfl | (simp only [Z32, Z33]; rfl)) ?_; (with_reducible refine (impl_FocusRank.calls k _ _ t348 _ _ t351 _ _ t354 _ _ t357 t361 t362 _ ?side1 ?side2 ?side3 ?side4 ?side5 ?side6 ?side7 ?side8 A10.out).mono ?_); (case side1 => refine (Kd.R_reads' (e := 3) (base := w.heap.size) (ok := fun k_ => ((((some k_ ≠ (.slice Ao28 t351.length co28 : Value).ownBlock ∧ some k_ ≠ (.slice Ao30 t357.length co30 : Value).ownBlock) ∧ some k_ ≠ (.slice Ao17 t334.length co17 : Value).ownBlock) ∧ some k_ ≠ (.slice Ao18 t337.length co18 : Value).ownBlock) ∧ some k_ ≠ (.slice Ao20 t343.length co20 : Value).ownBlock)) (n := t348.length) (c := co25) ?_).2.2; exact (by (with_reducible repeat (first | apply Z9 | apply Z10 | apply Z11)); exact (Z12 (Z13 (p := ⟨gb360, 3, none⟩) (Z13 (p := ⟨gb360, 2, none⟩) (Z13 (p := ⟨gb360, 1, none⟩) (Z13 (p := ⟨gb360, 0, none⟩) (Z15 HO350.out BK360.out (by decide)) (fun _ hk => hk.2) (.slice Ao25 t348.length co25)) (fun _ hk => hk.2) (.slice Ao28 t351.length co28)) (fun _ hk => hk.2) (.slice Ao29 t354.length co29)) (fun _ hk => hk.2) (.slice Ao30 t357.length co30)) (fun _ h_ => h_.1)))); (case side2 => exact (Kd.R_reads' HO350.out).2.1); (case side3 => refine (Kd.R_reads' (e := 3) (base := w.heap.size) (ok := fun k_ => ((((some k_ ≠ (.slice Ao25 t348.length co25 : Value).ownBlock ∧ some k_ ≠ (.slice Ao30 t357.length co30 : Value).ownBlock) ∧ some k_ ≠ (.slice Ao17 t334.length co17 : Value).ownBlock) ∧ some k_ ≠ (.slice Ao18 t337.length co18 : Value).ownBlock) ∧ some k_ ≠ (.slice Ao20 t343.length co20 : Value).ownBlock)) (n := t351.length) (c := co28) ?_).2.2; exact (by (with_reducible repeat (first | apply Z9 | apply Z10 | apply Z11)); exact (Z12 (Z13 (p := ⟨gb360, 3, none⟩) (Z13 (p := ⟨gb360, 2, none⟩) (Z13 (p := ⟨gb360, 1, none⟩) (Z13 (p := ⟨gb360, 0, none⟩) (Z15 HO353.out BK360.out (by decide)) (fun _ hk => hk.2) (.slice Ao25 t348.length co25)) (fun _ hk => hk.2) (.slice Ao28 t351.length co28)) (fun _ hk => hk.2) (.slice Ao29 t354.length co29)) (fun _ hk => hk.2) (.slice Ao30 t357.length co30)) (fun _ h_ => h_.1)))); (case side4 => exact (Kd.R_reads' HO353.out).2.1); (case side5 => refine (Kd.R_reads' (e := 4) (base := w.heap.size) (ok := fun k_ => (True ∧ some k_ ≠ (.slice Ao19 t340.length co19 : Value).ownBlock)) (n := t354.length) (c := co29) ?_).2.2; exact (by (with_reducible repeat (first | apply Z9 | apply Z10 | apply Z11)); exact (Z12 (Z13 (p := ⟨gb360, 3, none⟩) (Z13 (p := ⟨gb360, 2, none⟩) (Z13 (p := ⟨gb360, 1, none⟩) (Z13 (p := ⟨gb360, 0, none⟩) (Z15 HO356.out BK360.out (by decide)) (fun _ hk => hk.2) (.slice Ao25 t348.length co25)) (fun _ hk => hk.2) (.slice Ao28 t351.length co28)) (fun _ hk => hk.2) (.slice Ao29 t354.length co29)) (fun _ hk => hk.2) (.slice Ao30 t357.length co30)) (fun _ h_ => h_.1)))); (case side6 => exact (Kd.R_reads' HO356.out).2.1); (case side7 => refine (Kd.R_reads' (e := 3) (base := w.heap.size) (ok := fun k_ => ((((some k_ ≠ (.slice Ao25 t348.length co25 : Value).ownBlock ∧ some k_ ≠ (.slice Ao28 t351.length co28 : Value).ownBlock) ∧ some k_ ≠ (.slice Ao17 t334.length co17 : Value).ownBlock) ∧ some k_ ≠ (.slice Ao18 t337.length co18 : Value).ownBlock) ∧ some k_ ≠ (.slice Ao20 t343.length co20 : Value).ownBlock)) (n := t357.length) (c := co30) ?_).2.2; exact (by (with_reducible repeat (first | apply Z9 | apply Z10 | apply Z11)); exact (Z12 (Z13 (p := ⟨gb360, 3, none⟩) (Z13 (p := ⟨gb360, 2, none⟩) (Z13 (p := ⟨gb360, 1, none⟩) (Z13 (p := ⟨gb360, 0, none⟩) (Z15 HO359.out BK360.out (by decide)) (fun _ hk => hk.2) (.slice Ao25 t348.length co25)) (fun _ hk => hk.2) (.slice Ao28 t351.length co28)) (fun _ hk => hk.2) (.slice Ao29 t354.length co29)) (fun _ hk => hk.2) (.slice Ao30 t357.length co30)) (fun _ h_ => h_.1)))); (case side8 => exact (Kd.R_reads' HO359.out).2.1); rintro e w31 ⟨rfl, hb⟩; refine ⟨_, rfl, ?_⟩; have n0_ := Aside0.mk (Z14 (by (with_reducible repeat (first | apply Z9 | apply Z10 | apply Z11)); exact (Z12 (Z13 (p := ⟨gb360, 3, none⟩) (Z13 (p := ⟨gb360, 2, none⟩) (Z13 (p := ⟨gb360, 1, none⟩) (Z13 (p := ⟨gb360, 0, none⟩) (Z15 HO336.out BK360.out (by decide)) (fun _ hk => hk.2) (.slice Ao25 t348.length co25)) (fun _ hk => hk.2) (.slice Ao28 t351.length co28)) (fun _ hk => hk.2) (.slice Ao29 t354.length co29)) (fun _ hk => hk.2) (.slice Ao30 t357.length co30)) (fun _ h_ => h_.1))) hb); have n1_ := Aside0.mk (Z14 (by (with_reducible repeat (first | apply Z9 | apply Z10 | apply Z11)); exact (Z12 (Z13 (p := ⟨gb360, 3, none⟩) (Z13 (p := ⟨gb360, 2, none⟩) (Z13 (p := ⟨gb360, 1, none⟩) (Z13 (p := ⟨gb360, 0, none⟩) (Z15 HO339.out BK360.out (by decide)) (fun _ hk => hk.2) (.slice Ao25 t348.length co25)) (fun _ hk => hk.2) (.slice Ao28 t351.length co28)) (fun _ hk => hk.2) (.slice Ao29 t354.length co29)) (fun _ hk => hk.2) (.slice Ao30 t357.length co30)) (fun _ h_ => h_.1))) hb); have n2_ := Aside0.mk (Z14 (by (with_reducible repeat (first | apply Z9 | apply Z10 | apply Z11)); exact (Z12 (Z13 (p := ⟨gb360, 3, none⟩) (Z13 (p := ⟨gb360, 2, none⟩) (Z13 (p := ⟨gb360, 1, none⟩) (Z13 (p := ⟨gb360, 0, none⟩) (Z15 HO342.out BK360.out (by decide)) (fun _ hk => hk.2) (.slice Ao25 t348.length co25)) (fun _ hk => hk.2) (.slice Ao28 t351.length co28)) (fun _ hk => hk.2) (.slice Ao29 t354.length co29)) (fun _ hk => hk.2) (.slice Ao30 t357.length co30)) (fun _ h_ => h_.1))) hb); have n3_ := Aside0.mk (Z14 (by (with_reducible repeat (first | apply Z9 | apply Z10 | apply Z11)); exact (Z12 (Z13 (p := ⟨gb360, 3, none⟩) (Z13 (p := ⟨gb360, 2, none⟩) (Z13 (p := ⟨gb360, 1, none⟩) (Z13 (p := ⟨gb360, 0, none⟩) (Z15 HO345.out BK360.out (by decide)) (fun _ hk => hk.2) (.slice Ao25 t348.length co25)) (fun _ hk => hk.2) (.slice Ao28 t351.length co28)) (fun _ hk => hk.2) (.slice Ao29 t354.length co29)) (fun _ hk => hk.2) (.slice Ao30 t357.length co30)) (fun _ h_ => h_.1))) hb); have n4_ := Aside0.mk (Z14 (by (with_reducible repeat (first | apply Z9 | apply Z10 | apply Z11)); exact (Z12 (Z13 (p := ⟨gb360, 3, none⟩) (Z13 (p := ⟨gb360, 2, none⟩) (Z13 (p := ⟨gb360, 1, none⟩) (Z13 (p := ⟨gb360, 0, none⟩) (Z15 HO350.out BK360.out (by decide)) (fun _ hk => hk.2) (.slice Ao25 t348.length co25)) (fun _ hk => hk.2) (.slice Ao28 t351.length co28)) (fun _ hk => hk.2) (.slice Ao29 t354.length co29)) (fun _ hk => hk.2) (.slice Ao30 t357.length co30)) (fun _ h_ => h_.1))) hb); have n5_ := Aside0.mk (Z14 (by (with_reducible repeat (first | apply Z9 | apply Z10 | apply Z11)); exact (Z12 (Z13 (p := ⟨gb360, 3, none⟩) (Z13 (p := ⟨gb360, 2, none⟩) (Z13 (p := ⟨gb360, 1, none⟩) (Z13 (p := ⟨gb360, 0, none⟩) (Z15 HO353.out BK360.out (by decide)) (fun _ hk => hk.2) (.slice Ao25 t348.length co25)) (fun _ hk => hk.2) (.slice Ao28 t351.length co28)) (fun _ hk => hk.2) (.slice Ao29 t354.length co29)) (fun _ hk => hk.2) (.slice Ao30 t357.length co30)) (fun _ h_ => h_.1))) hb); have n6_ := Aside0.mk (Z14 (by (with_reducible repeat (first | apply Z9 | apply Z10 | apply Z11)); exact (Z12 (Z13 (p := ⟨gb360, 3, none⟩) (Z13 (p := ⟨gb360, 2, none⟩) (Z13 (p := ⟨gb360, 1, none⟩) (Z13 (p := ⟨gb360, 0, none⟩) (Z15 HO356.out BK360.out (by decide)) (fun _ hk => hk.2) (.slice Ao25 t348.length co25)) (fun _ hk => hk.2) (.slice Ao28 t351.length co28)) (fun _ hk => hk.2) (.slice Ao29 t354.length co29)) (fun _ hk => hk.2) (.slice Ao30 t357.length co30)) (fun _ h_ => h_.1))) hb); have n7_ := Aside0.mk (Z14 (by (with_reducible repeat (first | apply Z9 | apply Z10 | apply Z11)); exact (Z12 (Z13 (p := ⟨gb360, 3, none⟩) (Z13 (p := ⟨gb360, 2, none⟩) (Z13 (p := ⟨gb360, 1, none⟩) (Z13 (p := ⟨gb360, 0, none⟩) (Z15 HO359.out BK360.out (by decide)) (fun _ hk => hk.2) (.slice Ao25 t348.length co25)) (fun _ hk => hk.2) (.slice Ao28 t351.length co28)) (fun _ hk => hk.2) (.slice Ao29 t354.length co29)) (fun _ hk => hk.2) (.slice Ao30 t357.length co30)) (fun _ h_ => h_.1))) hb); have n8_ := Aside0.mk (Z29 (g := gb332) (o := .cells #[.slice A0_0 l0_0.length c0_0, .slice A0_1 l0_1.length c0_1, .slice A0_2 l0_2.length c0_2, .slice A0_3 l0_3.length c0_3] 25 (0, 0)) (by (with_reducible repeat (first | refine Z26 ?_ _ | refine Z27 ?_ | refine Z28 ?_ _)); refine blk_far ?_ NB332_360.out _; (with_reducible repeat (first | refine Z26 ?_ _ | refine Z27 ?_ | refine Z28 ?_ _)); refine blk_far ?_ NB332_360.out _; (with_reducible repeat (first | refine Z26 ?_ _ | refine Z27 ?_ | refine Z28 ?_ _)); refine blk_far ?_ NB332_360.out _; (with_reducible repeat (first | refine Z26 ?_ _ | refine Z27 ?_ | refine Z28 ?_ _)); refine blk_far ?_ NB332_360.out _; (with_reducible repeat (first | refine Z26 ?_ _ | refine Z27 ?_ | refine Z28 ?_ _)); exact BK332.out) hb); have n9_ := Aside0.mk (Z29 (g := gb360) (o := .cells #[.slice Ao25 t348.length co25, .slice Ao28 t351.length co28, .slice Ao29 t354.length co29, .slice Ao30 t357.length co30] 29 (0, 0)) (by (with_reducible repeat (first | refine Z26 ?_ _ | refine Z27 ?_ | refine Z28 ?_ _)); refine Z30 (cs := #[.slice Ao25 t348.length co25, .slice Ao28 t351.length co28, .slice Ao29 t354.length co29, .slice none 0 0]) ?_ 3 _ rfl; (with_reducible repeat (first | refine Z26 ?_ _ | refine Z27 ?_ | refine Z28 ?_ _)); refine Z30 (cs := #[.slice Ao25 t348.length co25, .slice Ao28 t351.length co28, .slice none 0 0, .slice none 0 0]) ?_ 2 _ rfl; (with_reducible repeat (first | refine Z26 ?_ _ | refine Z27 ?_ | refine Z28 ?_ _)); refine Z30 (cs := #[.slice Ao25 t348.length co25, .slice none 0 0, .slice none 0 0, .slice none 0 0]) ?_ 1 _ rfl; (with_reducible repeat (first | refine Z26 ?_ _ | refine Z27 ?_ | refine Z28 ?_ _)); refine Z30 (cs := #[.slice none 0 0, .slice none 0 0, .slice none 0 0, .slice none 0 0]) ?_ 0 _ rfl; (with_reducible repeat (first | refine Z26 ?_ _ | refine Z27 ?_ | refine Z28 ?_ _)); exact BK360.out) hb); have n10_ := Aside0.mk (Z8 (by repeat (first | (with_reducible first | exact HB.out | apply Z5 | apply Z3 | apply Z4 | refine Z6 ?_ GE332.out | refine Z6 ?_ GE360.out) | exact HB.out)) hb); clear HO336; clear HO339; clear HO342; clear HO345; clear HO350; clear HO353; clear HO356; clear HO359; clear BK332; clear BK360; clear HB; have HO336 := n0_; have HO339 := n1_; have HO342 := n2_; have HO345 := n3_; have HO350 := n4_; have HO353 := n5_; have HO356 := n6_; have HO359 := n7_; have BK332 := n8_; have BK360 := n9_; have HB := n10_; clear n0_ n1_ n2_ n3_ n4_ n5_ n6_ n7_ n8_ n9_ n10_; (try clear hb); (try clear hb2); (try clear hk); (try clear hi)))
  (try simp only [Act.put, Z0, Z1, Z2])
  go_cut [34] (fun v34 wc => ∃ (kq : Nat) (x34_10 : Bool), v34 = .bool x34_10 ∧ Aside0 (laws_FnExactFocusRank.j0 kq x34_10 l0_0 l0_1 l0_2 l0_3 t348 t351 t354 t357 = some r) ∧ Aside0 (kq ≤ k) ∧ Aside0 (Kd.R (Kd.int .i64) 3 wc w.heap.size (fun k_ => some k_ ≠ ((.slice Ao28 t351.length co28) : Value).ownBlock ∧ some k_ ≠ ((.slice Ao30 t357.length co30) : Value).ownBlock) (.slice Ao25 t348.length co25) t348) ∧ Aside0 (Kd.R (Kd.int .i64) 3 wc w.heap.size (fun k_ => some k_ ≠ ((.slice Ao25 t348.length co25) : Value).ownBlock ∧ some k_ ≠ ((.slice Ao30 t357.length co30) : Value).ownBlock) (.slice Ao28 t351.length co28) t351) ∧ Aside0 (Kd.R Kd.bool 4 wc w.heap.size (fun _ => True) (.slice Ao29 t354.length co29) t354) ∧ Aside0 (Kd.R (Kd.int .i64) 3 wc w.heap.size (fun k_ => some k_ ≠ ((.slice Ao25 t348.length co25) : Value).ownBlock ∧ some k_ ≠ ((.slice Ao28 t351.length co28) : Value).ownBlock) (.slice Ao30 t357.length co30) t357) ∧ Aside0 (wc.heap[gb332]? = some (.cells #[(.slice A0_0 l0_0.length c0_0), (.slice A0_1 l0_1.length c0_1), (.slice A0_2 l0_2.length c0_2), (.slice A0_3 l0_3.length c0_3)] 25 (0, 0))) ∧ Aside0 (wc.heap[gb360]? = some (.cells #[(.slice Ao25 t348.length co25), (.slice Ao28 t351.length co28), (.slice Ao29 t354.length co29), (.slice Ao30 t357.length co30)] 29 (0, 0))) ∧ Aside0 (Below w.heap.size w wc))
  case first =>
   have H := HC11.out
   clear HC11
   by_cases c32 : t361 = t346
   ·rw [if_pos c32] at H
    have c32b0 : (t361 == t346) = true := beq_iff_eq.mpr c32
    have c32b1 : (t361 != t346) = false := bne_eq_false_iff_eq.mpr c32
    clear c32
    (first | rw [c32b0] | (simp only [i64_w, i32_w]; rw [c32b0]) | skip)
    have H' := Aside0.mk H
    clear H
    go_wp2
    go_meet
    case rel => exact ⟨_, ((t362 != t347)), (by first | rfl | (simp; done) | (simp [*]; done)), H', ⟨by first | omega | exact Nat.le_refl _⟩, ⟨by (with_reducible repeat (first | apply Z9 | apply Z10 | apply Z11)); exact Z12 HO350.out (fun _ hk => ⟨hk.1.1.1.1, hk.1.1.1.2⟩)⟩, ⟨by (with_reducible repeat (first | apply Z9 | apply Z10 | apply Z11)); exact Z12 HO353.out (fun _ hk => ⟨hk.1.1.1.1, hk.1.1.1.2⟩)⟩, ⟨by (with_reducible repeat (first | apply Z9 | apply Z10 | apply Z11)); exact Z12 HO356.out (fun _ hk => trivial)⟩, ⟨by (with_reducible repeat (first | apply Z9 | apply Z10 | apply Z11)); exact Z12 HO359.out (fun _ hk => ⟨hk.1.1.1.1, hk.1.1.1.2⟩)⟩, ⟨by (with_reducible repeat (first | refine Z26 ?_ _ | refine Z27 ?_ | refine Z28 ?_ _)); exact BK332.out⟩, ⟨by (with_reducible repeat (first | refine Z26 ?_ _ | refine Z27 ?_ | refine Z28 ?_ _)); exact BK360.out⟩, ⟨by repeat (first | (with_reducible first | exact HB.out | apply Z5 | apply Z3 | apply Z4 | refine Z6 ?_ GE332.out | refine Z6 ?_ GE360.out) | exact HB.out)⟩⟩
   ·rw [if_neg c32] at H
    have c32b0 : (t361 == t346) = false := beq_eq_false_iff_ne.mpr c32
    have c32b1 : (t361 != t346) = true := bne_iff_ne.mpr c32
    (first | rw [c32b0] | (simp only [i64_w, i32_w]; rw [c32b0]) | skip)
    have H' := Aside0.mk H
    clear H
    go_wp2
    go_meet
    case rel => exact ⟨_, (true), (by first | rfl | (simp; done) | (simp [*]; done)), H', ⟨by first | omega | exact Nat.le_refl _⟩, ⟨by (with_reducible repeat (first | apply Z9 | apply Z10 | apply Z11)); exact Z12 HO350.out (fun _ hk => ⟨hk.1.1.1.1, hk.1.1.1.2⟩)⟩, ⟨by (with_reducible repeat (first | apply Z9 | apply Z10 | apply Z11)); exact Z12 HO353.out (fun _ hk => ⟨hk.1.1.1.1, hk.1.1.1.2⟩)⟩, ⟨by (with_reducible repeat (first | apply Z9 | apply Z10 | apply Z11)); exact Z12 HO356.out (fun _ hk => trivial)⟩, ⟨by (with_reducible repeat (first | apply Z9 | apply Z10 | apply Z11)); exact Z12 HO359.out (fun _ hk => ⟨hk.1.1.1.1, hk.1.1.1.2⟩)⟩, ⟨by (with_reducible repeat (first | refine Z26 ?_ _ | refine Z27 ?_ | refine Z28 ?_ _)); exact BK332.out⟩, ⟨by (with_reducible repeat (first | refine Z26 ?_ _ | refine Z27 ?_ | refine Z28 ?_ _)); exact BK360.out⟩, ⟨by repeat (first | (with_reducible first | exact HB.out | apply Z5 | apply Z3 | apply Z4 | refine Z6 ?_ GE332.out | refine Z6 ?_ GE360.out) | exact HB.out)⟩⟩
  case rest =>
   clear HC11
   try clear c1
   try clear c2
   try clear p2
   try clear c3
   try clear c3b0
   try clear c12
   try clear c13
   try clear c14
   try clear c15
   try clear c26
   try clear c32
   try clear c32b0
   try clear c32b1
   try clear hcz13_0
   try clear hcz13_1
   try clear hcz13_2
   try clear hcz13_3
   try clear hcz15_0
   try clear hcz15_1
   try clear hcz15_2
   try clear hcz15_3
   try clear hcz22_0
   try clear hcz22_1
   try clear hcz22_2
   try clear hcz22_3
   try clear hcz27_0
   try clear hcz27_1
   try clear hcz27_2
   try clear hcz27_3
   try clear hcz5_0
   try clear hcz5_1
   try clear hcz5_2
   try clear hcz5_3
   try clear hfz13_0
   try clear hfz13_1
   try clear hfz13_2
   try clear hfz13_3
   try clear hfz15_0
   try clear hfz15_1
   try clear hfz15_2
   try clear hfz15_3
   try clear hfz22_0
   try clear hfz22_1
   try clear hfz22_2
   try clear hfz22_3
   try clear hfz27_0
   try clear hfz27_1
   try clear hfz27_2
   try clear hfz27_3
   try clear hfz5_0
   try clear hfz5_1
   try clear hfz5_2
   try clear hfz5_3
   obtain ⟨kq, x34_10, rfl, HA, HJ10, HO_361000, HO_361001, HO_361002, HO_361003, BK332, BK360, HB⟩ := hcut
   cases kq with
   | zero => exact absurd HA.out (by simp [laws_FnExactFocusRank.j0])
   | succ kj10 =>
    have H := HA.out
    clear HA
    simp only [laws_FnExactFocusRank.j0] at H
    by_cases c33 : x34_10 = true
    ·subst c33
     have H1 : (some false) = some r := by rw [if_pos rfl] at H; exact H
     clear H
     have H := H1
     clear H1
     obtain rfl := Option.some.inj H
     go_wp2
     go_ret
     exact ⟨by first | rfl | (simp [errW_none, errW_some] <;> rfl) | (simp [*, errW_none, errW_some] <;> rfl), by repeat (first | (with_reducible first | exact HB.out | apply Z5 | apply Z3 | apply Z4 | refine Z6 ?_ GE332.out | refine Z6 ?_ GE360.out) | exact HB.out)⟩
    ·replace c33 := Bool.eq_false_iff.mpr c33
     subst c33
     have H1 : ((laws_toFocus.f kj10 l0_0 l0_1 l0_2 l0_3).bind fun bt363 => ((laws_eqFocus.f kj10 t348 t351 t354 t357 bt363.1 bt363.2.1 bt363.2.2.1 bt363.2.2.2).bind fun t375 => (if t375 = true then (some true) else (some false)))) = some r := by rw [if_neg (show ¬ (false = true) by decide)] at H; exact H
     clear H
     have H := H1
     clear H1
     replace H := Z37.mp H
     obtain ⟨⟨t363, t366, t369, t372⟩, A340, H⟩ := H
     replace H : ((laws_eqFocus.f kj10 t348 t351 t354 t357 t363 t366 t369 t372).bind fun t375 => (if t375 = true then (some true) else (some false))) = some r := H
     have A34 := Aside0.mk A340
     clear A340
     replace H := Z37.mp H
     obtain ⟨t375, A350, H⟩ := H
     replace H : (if t375 = true then (some true) else (some false)) = some r := H
     have A35 := Aside0.mk A350
     clear A350
     by_cases c36 : t375 = true
     ·subst c36
      have H1 : (some true) = some r := by rw [if_pos rfl] at H; exact H
      clear H
      have H := H1
      clear H1
      obtain rfl := Option.some.inj H
      try go_wp2
      have n0_ := Aside0.mk (Z11 HO_361000.out)
      have n1_ := Aside0.mk (Z11 HO_361001.out)
      have n2_ := Aside0.mk (Z11 HO_361002.out)
      have n3_ := Aside0.mk (Z11 HO_361003.out)
      have n4_ := Aside0.mk (Z27 BK332.out)
      have n5_ := Aside0.mk (Z27 BK360.out)
      have n6_ := Aside0.mk (Z4 HB.out)
      clear HO_361000
      clear HO_361001
      clear HO_361002
      clear HO_361003
      clear BK332
      clear BK360
      clear HB
      have HO_361000 := n0_
      have HO_361001 := n1_
      have HO_361002 := n2_
      have HO_361003 := n3_
      have BK332 := n4_
      have BK360 := n5_
      have HB := n6_
      clear n0_ n1_ n2_ n3_ n4_ n5_ n6_
      refine start_ (n := 5) (S := fun w' => w'.cell? ⟨gb360, 0, none⟩ = some (.slice Ao25 t348.length co25) ∧ w'.cell? ⟨gb360, 1, none⟩ = some (.slice Ao28 t351.length co28) ∧ w'.cell? ⟨gb360, 2, none⟩ = some (.slice Ao29 t354.length co29) ∧ w'.cell? ⟨gb360, 3, none⟩ = some (.slice Ao30 t357.length co30) ∧ w'.cell? ⟨gb332, 0, none⟩ = some (.slice A0_0 l0_0.length c0_0) ∧ w'.cell? ⟨gb332, 1, none⟩ = some (.slice A0_1 l0_1.length c0_1) ∧ w'.cell? ⟨gb332, 2, none⟩ = some (.slice A0_2 l0_2.length c0_2) ∧ w'.cell? ⟨gb332, 3, none⟩ = some (.slice A0_3 l0_3.length c0_3)) (ds := []) #[false, false, false, false, false] (by kernel_rfl) rfl rfl ⟨(Z24 BK360.out 0).trans rfl, (Z24 BK360.out 1).trans rfl, (Z24 BK360.out 2).trans rfl, (Z24 BK360.out 3).trans rfl, (Z24 BK332.out 0).trans rfl, (Z24 BK332.out 1).trans rfl, (Z24 BK332.out 2).trans rfl, (Z24 BK332.out 3).trans rfl⟩ (fun hHeld => ?_)
      generalize wc.drew = w37 at HO_361000 HO_361001 HO_361002 HO_361003 BK332 BK360 HB hHeld ⊢
      refine take_ (i := 0) (N := some 35) (v := ?_) (a' := ?_) #[true, false, false, false, false] rfl rfl (by kernel_rfl) (fun _ _ _ h => h) (Or.inl ⟨by rfl, ?_⟩) hHeld ?_ ?_
      rotate_left
      ·rintro w' ⟨s0, s1, s2, s3, s4, s5, s6, s7⟩
       go_simp
       with_reducible rfl
      rotate_left
      ·simp only [Act.put, Z0, Z1, Z2, i64_w, i32_w]
       rfl
      refine take_ (i := 1) (N := some 36) (v := ?_) (a' := ?_) #[true, true, false, false, false] rfl rfl (by kernel_rfl) (fun _ _ _ h => h) (Or.inl ⟨by rfl, ?_⟩) hHeld ?_ ?_
      rotate_left
      ·rintro w' ⟨s0, s1, s2, s3, s4, s5, s6, s7⟩
       go_simp
       with_reducible rfl
      rotate_left
      ·simp only [Act.put, Z0, Z1, Z2, i64_w, i32_w]
       rfl
      refine one_ (i := 2) (N := some 37) #[true, true, true, false, false] rfl rfl (by kernel_rfl) (by decide) (fun K hK => ?_)
      refine goes_ Try.func14 (by kernel_rfl) rfl #[.agg #[.slice A0_0 l0_0.length c0_0, .slice A0_1 l0_1.length c0_1, .slice A0_2 l0_2.length c0_2, .slice A0_3 l0_3.length c0_3]] (by rfl) rfl rfl (by (try simp only [Z34, Z35, Z36]); first | done | rfl | (simp only [Z32, Z33]; rfl)) ?_
      with_reducible refine (laws_toFocus.calls kj10 _ _ l0_0 _ _ l0_1 _ _ l0_2 _ _ l0_3 t363 t366 t369 t372 _ ?side1 ?side2 ?side3 ?side4 ?side5 ?side6 ?side7 ?side8 A34.out).mono ?_
      (case side1 => repeat (first | exact (Z23 HR0_0.out HB.out) | (with_reducible refine Z20 ?_ _) | (with_reducible refine Z21 ?_ _) | (with_reducible refine Z22 ?_)))
      (case side2 => exact HC0_0.out)
      (case side3 => repeat (first | exact (Z23 HR0_1.out HB.out) | (with_reducible refine Z20 ?_ _) | (with_reducible refine Z21 ?_ _) | (with_reducible refine Z22 ?_)))
      (case side4 => exact HC0_1.out)
      (case side5 => repeat (first | exact (Z23 HR0_2.out HB.out) | (with_reducible refine Z20 ?_ _) | (with_reducible refine Z21 ?_ _) | (with_reducible refine Z22 ?_)))
      (case side6 => exact HC0_2.out)
      (case side7 => repeat (first | exact (Z23 HR0_3.out HB.out) | (with_reducible refine Z20 ?_ _) | (with_reducible refine Z21 ?_ _) | (with_reducible refine Z22 ?_)))
      (case side8 => exact HC0_3.out)
      rintro e w38 ⟨v364, v367, v370, v373, rfl, ho0, ho1, ho2, ho3, hb⟩
      refine ⟨_, rfl, ?_⟩
      have n0_ := Aside0.mk (Z12 (Z16 (Z16 (Z16 (Z17 (by (with_reducible repeat (first | apply Z9 | apply Z10 | apply Z11)); exact HO_361000.out) hb) (Kd.R_base ho0)) (Kd.R_base ho1)) (Kd.R_base ho3)) (fun _ h_ => h_.1))
      have n1_ := Aside0.mk (Z12 (Z16 (Z16 (Z16 (Z17 (by (with_reducible repeat (first | apply Z9 | apply Z10 | apply Z11)); exact HO_361001.out) hb) (Kd.R_base ho0)) (Kd.R_base ho1)) (Kd.R_base ho3)) (fun _ h_ => h_.1))
      have n2_ := Aside0.mk (Kd.R_elder' (by (with_reducible repeat (first | apply Z9 | apply Z10 | apply Z11)); exact HO_361002.out) (Kd.R_base ho2) hb)
      have n3_ := Aside0.mk (Z12 (Z16 (Z16 (Z16 (Z17 (by (with_reducible repeat (first | apply Z9 | apply Z10 | apply Z11)); exact HO_361003.out) hb) (Kd.R_base ho0)) (Kd.R_base ho1)) (Kd.R_base ho3)) (fun _ h_ => h_.1))
      have n4_ := Aside0.mk (Kd.R_lower (Kd.R_new' (Kd.R_new' (Kd.R_new' ho0 (Z18 (by (with_reducible repeat (first | apply Z9 | apply Z10 | apply Z11)); exact HO_361000.out))) (Z18 (by (with_reducible repeat (first | apply Z9 | apply Z10 | apply Z11)); exact HO_361001.out))) (Z18 (by (with_reducible repeat (first | apply Z9 | apply Z10 | apply Z11)); exact HO_361003.out))) (Z7 (by repeat (first | (with_reducible first | exact HB.out | apply Z5 | apply Z3 | apply Z4 | refine Z6 ?_ GE332.out | refine Z6 ?_ GE360.out) | exact HB.out))))
      have n5_ := Aside0.mk (Kd.R_lower (Kd.R_new' (Kd.R_new' (Kd.R_new' ho1 (Z18 (by (with_reducible repeat (first | apply Z9 | apply Z10 | apply Z11)); exact HO_361000.out))) (Z18 (by (with_reducible repeat (first | apply Z9 | apply Z10 | apply Z11)); exact HO_361001.out))) (Z18 (by (with_reducible repeat (first | apply Z9 | apply Z10 | apply Z11)); exact HO_361003.out))) (Z7 (by repeat (first | (with_reducible first | exact HB.out | apply Z5 | apply Z3 | apply Z4 | refine Z6 ?_ GE332.out | refine Z6 ?_ GE360.out) | exact HB.out))))
      have n6_ := Aside0.mk (Kd.R_lower (Kd.R_new' ho2 (Z18 (by (with_reducible repeat (first | apply Z9 | apply Z10 | apply Z11)); exact HO_361002.out))) (Z7 (by repeat (first | (with_reducible first | exact HB.out | apply Z5 | apply Z3 | apply Z4 | refine Z6 ?_ GE332.out | refine Z6 ?_ GE360.out) | exact HB.out))))
      have n7_ := Aside0.mk (Kd.R_lower (Kd.R_new' (Kd.R_new' (Kd.R_new' ho3 (Z18 (by (with_reducible repeat (first | apply Z9 | apply Z10 | apply Z11)); exact HO_361000.out))) (Z18 (by (with_reducible repeat (first | apply Z9 | apply Z10 | apply Z11)); exact HO_361001.out))) (Z18 (by (with_reducible repeat (first | apply Z9 | apply Z10 | apply Z11)); exact HO_361003.out))) (Z7 (by repeat (first | (with_reducible first | exact HB.out | apply Z5 | apply Z3 | apply Z4 | refine Z6 ?_ GE332.out | refine Z6 ?_ GE360.out) | exact HB.out))))
      have n8_ := Aside0.mk (Z29 (g := gb332) (o := .cells #[.slice A0_0 l0_0.length c0_0, .slice A0_1 l0_1.length c0_1, .slice A0_2 l0_2.length c0_2, .slice A0_3 l0_3.length c0_3] 25 (0, 0)) (by (with_reducible repeat (first | refine Z26 ?_ _ | refine Z27 ?_ | refine Z28 ?_ _)); exact BK332.out) hb)
      have n9_ := Aside0.mk (Z29 (g := gb360) (o := .cells #[.slice Ao25 t348.length co25, .slice Ao28 t351.length co28, .slice Ao29 t354.length co29, .slice Ao30 t357.length co30] 29 (0, 0)) (by (with_reducible repeat (first | refine Z26 ?_ _ | refine Z27 ?_ | refine Z28 ?_ _)); exact BK360.out) hb)
      have n10_ := Aside0.mk (Z8 (by repeat (first | (with_reducible first | exact HB.out | apply Z5 | apply Z3 | apply Z4 | refine Z6 ?_ GE332.out | refine Z6 ?_ GE360.out) | exact HB.out)) hb)
      clear HO_361000
      clear HO_361001
      clear HO_361002
      clear HO_361003
      clear BK332
      clear BK360
      clear HB
      have HO_361000 := n0_
      have HO_361001 := n1_
      have HO_361002 := n2_
      have HO_361003 := n3_
      have HO365 := n4_
      have HO368 := n5_
      have HO371 := n6_
      have HO374 := n7_
      have BK332 := n8_
      have BK360 := n9_
      have HB := n10_
      clear n0_ n1_ n2_ n3_ n4_ n5_ n6_ n7_ n8_ n9_ n10_
      (try clear hb)
      (try clear hb2)
      (try clear hk)
      (try clear hi)
      (try clear ho0)
      (try clear ho1)
      (try clear ho2)
      (try clear ho3)
      obtain ⟨Ao39, co39, eo39⟩ := Z19 HO365.out
      (first | subst eo39 | (injection eo39 with f1_ f2_ f3_; have f4_ := f1_.symm; have f5_ := f3_.symm; clear f1_ f2_ f3_; subst f4_; subst f5_))
      obtain ⟨Ao40, co40, eo40⟩ := Z19 HO368.out
      (first | subst eo40 | (injection eo40 with f1_ f2_ f3_; have f4_ := f1_.symm; have f5_ := f3_.symm; clear f1_ f2_ f3_; subst f4_; subst f5_))
      obtain ⟨Ao41, co41, eo41⟩ := Z19 HO371.out
      (first | subst eo41 | (injection eo41 with f1_ f2_ f3_; have f4_ := f1_.symm; have f5_ := f3_.symm; clear f1_ f2_ f3_; subst f4_; subst f5_))
      obtain ⟨Ao42, co42, eo42⟩ := Z19 HO374.out
      (first | subst eo42 | (injection eo42 with f1_ f2_ f3_; have f4_ := f1_.symm; have f5_ := f3_.symm; clear f1_ f2_ f3_; subst f4_; subst f5_))
      refine hK.out _ _ ⟨(Z24 BK360.out 0).trans rfl, (Z24 BK360.out 1).trans rfl, (Z24 BK360.out 2).trans rfl, (Z24 BK360.out 3).trans rfl, (Z24 BK332.out 0).trans rfl, (Z24 BK332.out 1).trans rfl, (Z24 BK332.out 2).trans rfl, (Z24 BK332.out 3).trans rfl⟩ (fun hHeld => ?_)
      clear hK K
      refine norm_ (a' := ?_) ?_ ?_
      rotate_left
      ·show Act.put _ (some 37) _ = _
       simp only [Act.put, Z0, Z1, Z2, i64_w, i32_w]
       rfl
      refine one_ (i := 3) (N := some 38) #[true, true, true, true, false] rfl rfl (by kernel_rfl) (by decide) (fun K hK => ?_)
      refine goes_ Try.func16 (by kernel_rfl) rfl #[.agg #[.slice Ao25 t348.length co25, .slice Ao28 t351.length co28, .slice Ao29 t354.length co29, .slice Ao30 t357.length co30], .agg #[.slice Ao39 t363.length co39, .slice Ao40 t366.length co40, .slice Ao41 t369.length co41, .slice Ao42 t372.length co42]] (by rfl) rfl rfl (by (try simp only [Z34, Z35, Z36]); first | done | rfl | (simp only [Z32, Z33]; rfl)) ?_
      with_reducible refine (laws_eqFocus.calls kj10 _ _ t348 _ _ t351 _ _ t354 _ _ t357 _ _ t363 _ _ t366 _ _ t369 _ _ t372 true _ ?side1 ?side2 ?side3 ?side4 ?side5 ?side6 ?side7 ?side8 ?side9 ?side10 ?side11 ?side12 ?side13 ?side14 ?side15 ?side16 A35.out).mono ?_
      (case side1 => repeat (first | exact (Kd.R_reads' HO_361000.out).2.2 | (with_reducible refine Z20 ?_ _) | (with_reducible refine Z21 ?_ _) | (with_reducible refine Z22 ?_)))
      (case side2 => exact (Kd.R_reads' HO_361000.out).2.1)
      (case side3 => repeat (first | exact (Kd.R_reads' HO_361001.out).2.2 | (with_reducible refine Z20 ?_ _) | (with_reducible refine Z21 ?_ _) | (with_reducible refine Z22 ?_)))
      (case side4 => exact (Kd.R_reads' HO_361001.out).2.1)
      (case side5 => repeat (first | exact (Kd.R_reads' HO_361002.out).2.2 | (with_reducible refine Z20 ?_ _) | (with_reducible refine Z21 ?_ _) | (with_reducible refine Z22 ?_)))
      (case side6 => exact (Kd.R_reads' HO_361002.out).2.1)
      (case side7 => repeat (first | exact (Kd.R_reads' HO_361003.out).2.2 | (with_reducible refine Z20 ?_ _) | (with_reducible refine Z21 ?_ _) | (with_reducible refine Z22 ?_)))
      (case side8 => exact (Kd.R_reads' HO_361003.out).2.1)
      (case side9 => repeat (first | exact (Kd.R_reads' HO365.out).2.2 | (with_reducible refine Z20 ?_ _) | (with_reducible refine Z21 ?_ _) | (with_reducible refine Z22 ?_)))
      (case side10 => exact (Kd.R_reads' HO365.out).2.1)
      (case side11 => repeat (first | exact (Kd.R_reads' HO368.out).2.2 | (with_reducible refine Z20 ?_ _) | (with_reducible refine Z21 ?_ _) | (with_reducible refine Z22 ?_)))
      (case side12 => exact (Kd.R_reads' HO368.out).2.1)
      (case side13 => repeat (first | exact (Kd.R_reads' HO371.out).2.2 | (with_reducible refine Z20 ?_ _) | (with_reducible refine Z21 ?_ _) | (with_reducible refine Z22 ?_)))
      (case side14 => exact (Kd.R_reads' HO371.out).2.1)
      (case side15 => repeat (first | exact (Kd.R_reads' HO374.out).2.2 | (with_reducible refine Z20 ?_ _) | (with_reducible refine Z21 ?_ _) | (with_reducible refine Z22 ?_)))
      (case side16 => exact (Kd.R_reads' HO374.out).2.1)
      rintro e w43 ⟨rfl, hb⟩
      refine ⟨_, rfl, ?_⟩
      have n0_ := Aside0.mk (Z14 (by (with_reducible repeat (first | apply Z9 | apply Z10 | apply Z11)); exact HO_361000.out) hb)
      have n1_ := Aside0.mk (Z14 (by (with_reducible repeat (first | apply Z9 | apply Z10 | apply Z11)); exact HO_361001.out) hb)
      have n2_ := Aside0.mk (Z14 (by (with_reducible repeat (first | apply Z9 | apply Z10 | apply Z11)); exact HO_361002.out) hb)
      have n3_ := Aside0.mk (Z14 (by (with_reducible repeat (first | apply Z9 | apply Z10 | apply Z11)); exact HO_361003.out) hb)
      have n4_ := Aside0.mk (Z14 (by (with_reducible repeat (first | apply Z9 | apply Z10 | apply Z11)); exact HO365.out) hb)
      have n5_ := Aside0.mk (Z14 (by (with_reducible repeat (first | apply Z9 | apply Z10 | apply Z11)); exact HO368.out) hb)
      have n6_ := Aside0.mk (Z14 (by (with_reducible repeat (first | apply Z9 | apply Z10 | apply Z11)); exact HO371.out) hb)
      have n7_ := Aside0.mk (Z14 (by (with_reducible repeat (first | apply Z9 | apply Z10 | apply Z11)); exact HO374.out) hb)
      have n8_ := Aside0.mk (Z29 (g := gb332) (o := .cells #[.slice A0_0 l0_0.length c0_0, .slice A0_1 l0_1.length c0_1, .slice A0_2 l0_2.length c0_2, .slice A0_3 l0_3.length c0_3] 25 (0, 0)) (by (with_reducible repeat (first | refine Z26 ?_ _ | refine Z27 ?_ | refine Z28 ?_ _)); exact BK332.out) hb)
      have n9_ := Aside0.mk (Z29 (g := gb360) (o := .cells #[.slice Ao25 t348.length co25, .slice Ao28 t351.length co28, .slice Ao29 t354.length co29, .slice Ao30 t357.length co30] 29 (0, 0)) (by (with_reducible repeat (first | refine Z26 ?_ _ | refine Z27 ?_ | refine Z28 ?_ _)); exact BK360.out) hb)
      have n10_ := Aside0.mk (Z8 (by repeat (first | (with_reducible first | exact HB.out | apply Z5 | apply Z3 | apply Z4 | refine Z6 ?_ GE332.out | refine Z6 ?_ GE360.out) | exact HB.out)) hb)
      clear HO_361000
      clear HO_361001
      clear HO_361002
      clear HO_361003
      clear HO365
      clear HO368
      clear HO371
      clear HO374
      clear BK332
      clear BK360
      clear HB
      have HO_361000 := n0_
      have HO_361001 := n1_
      have HO_361002 := n2_
      have HO_361003 := n3_
      have HO365 := n4_
      have HO368 := n5_
      have HO371 := n6_
      have HO374 := n7_
      have BK332 := n8_
      have BK360 := n9_
      have HB := n10_
      clear n0_ n1_ n2_ n3_ n4_ n5_ n6_ n7_ n8_ n9_ n10_
      (try clear hb)
      (try clear hb2)
      (try clear hk)
      (try clear hi)
      refine hK.out _ _ ⟨(Z24 BK360.out 0).trans rfl, (Z24 BK360.out 1).trans rfl, (Z24 BK360.out 2).trans rfl, (Z24 BK360.out 3).trans rfl, (Z24 BK332.out 0).trans rfl, (Z24 BK332.out 1).trans rfl, (Z24 BK332.out 2).trans rfl, (Z24 BK332.out 3).trans rfl⟩ (fun hHeld => ?_)
      clear hK K
      refine norm_ (a' := ?_) ?_ ?_
      rotate_left
      ·show Act.put _ (some 38) _ = _
       simp only [Act.put, Z0, Z1, Z2, i64_w, i32_w]
       rfl
      refine pure_ (i := 4) (N := some 39) (v := ?_) (a' := ?_) #[true, true, true, true, true] rfl rfl (by kernel_rfl) (fun _ _ _ h => h) (Or.inl ⟨by rfl, ?_⟩) ?_ ?_
      rotate_left
      ·intro w'
       go_simp
       with_reducible rfl
      rotate_left
      ·simp only [Act.put, Z0, Z1, Z2, i64_w, i32_w]
       rfl
      refine done_ (by kernel_rfl) ?_
      try go_wp2
      go_ret
      exact ⟨by first | rfl | (simp [errW_none, errW_some] <;> rfl) | (simp [*, errW_none, errW_some] <;> rfl), by repeat (first | (with_reducible first | exact HB.out | apply Z5 | apply Z3 | apply Z4 | refine Z6 ?_ GE332.out | refine Z6 ?_ GE360.out) | exact HB.out)⟩
     ·replace c36 := Bool.eq_false_iff.mpr c36
      subst c36
      have H1 : (some false) = some r := by rw [if_neg (show ¬ (false = true) by decide)] at H; exact H
      clear H
      have H := H1
      clear H1
      obtain rfl := Option.some.inj H
      try go_wp2
      have n0_ := Aside0.mk (Z11 HO_361000.out)
      have n1_ := Aside0.mk (Z11 HO_361001.out)
      have n2_ := Aside0.mk (Z11 HO_361002.out)
      have n3_ := Aside0.mk (Z11 HO_361003.out)
      have n4_ := Aside0.mk (Z27 BK332.out)
      have n5_ := Aside0.mk (Z27 BK360.out)
      have n6_ := Aside0.mk (Z4 HB.out)
      clear HO_361000
      clear HO_361001
      clear HO_361002
      clear HO_361003
      clear BK332
      clear BK360
      clear HB
      have HO_361000 := n0_
      have HO_361001 := n1_
      have HO_361002 := n2_
      have HO_361003 := n3_
      have BK332 := n4_
      have BK360 := n5_
      have HB := n6_
      clear n0_ n1_ n2_ n3_ n4_ n5_ n6_
      refine start_ (n := 5) (S := fun w' => w'.cell? ⟨gb360, 0, none⟩ = some (.slice Ao25 t348.length co25) ∧ w'.cell? ⟨gb360, 1, none⟩ = some (.slice Ao28 t351.length co28) ∧ w'.cell? ⟨gb360, 2, none⟩ = some (.slice Ao29 t354.length co29) ∧ w'.cell? ⟨gb360, 3, none⟩ = some (.slice Ao30 t357.length co30) ∧ w'.cell? ⟨gb332, 0, none⟩ = some (.slice A0_0 l0_0.length c0_0) ∧ w'.cell? ⟨gb332, 1, none⟩ = some (.slice A0_1 l0_1.length c0_1) ∧ w'.cell? ⟨gb332, 2, none⟩ = some (.slice A0_2 l0_2.length c0_2) ∧ w'.cell? ⟨gb332, 3, none⟩ = some (.slice A0_3 l0_3.length c0_3)) (ds := []) #[false, false, false, false, false] (by kernel_rfl) rfl rfl ⟨(Z24 BK360.out 0).trans rfl, (Z24 BK360.out 1).trans rfl, (Z24 BK360.out 2).trans rfl, (Z24 BK360.out 3).trans rfl, (Z24 BK332.out 0).trans rfl, (Z24 BK332.out 1).trans rfl, (Z24 BK332.out 2).trans rfl, (Z24 BK332.out 3).trans rfl⟩ (fun hHeld => ?_)
      generalize wc.drew = w44 at HO_361000 HO_361001 HO_361002 HO_361003 BK332 BK360 HB hHeld ⊢
      refine take_ (i := 0) (N := some 35) (v := ?_) (a' := ?_) #[true, false, false, false, false] rfl rfl (by kernel_rfl) (fun _ _ _ h => h) (Or.inl ⟨by rfl, ?_⟩) hHeld ?_ ?_
      rotate_left
      ·rintro w' ⟨s0, s1, s2, s3, s4, s5, s6, s7⟩
       go_simp
       with_reducible rfl
      rotate_left
      ·simp only [Act.put, Z0, Z1, Z2, i64_w, i32_w]
       rfl
      refine take_ (i := 1) (N := some 36) (v := ?_) (a' := ?_) #[true, true, false, false, false] rfl rfl (by kernel_rfl) (fun _ _ _ h => h) (Or.inl ⟨by rfl, ?_⟩) hHeld ?_ ?_
      rotate_left
      ·rintro w' ⟨s0, s1, s2, s3, s4, s5, s6, s7⟩
       go_simp
       with_reducible rfl
      rotate_left
      ·simp only [Act.put, Z0, Z1, Z2, i64_w, i32_w]
       rfl
      refine one_ (i := 2) (N := some 37) #[true, true, true, false, false] rfl rfl (by kernel_rfl) (by decide) (fun K hK => ?_)
      refine goes_ Try.func14 (by kernel_rfl) rfl #[.agg #[.slice A0_0 l0_0.length c0_0, .slice A0_1 l0_1.length c0_1, .slice A0_2 l0_2.length c0_2, .slice A0_3 l0_3.length c0_3]] (by rfl) rfl rfl (by (try simp only [Z34, Z35, Z36]); first | done | rfl | (simp only [Z32, Z33]; rfl)) ?_
      with_reducible refine (laws_toFocus.calls kj10 _ _ l0_0 _ _ l0_1 _ _ l0_2 _ _ l0_3 t363 t366 t369 t372 _ ?side1 ?side2 ?side3 ?side4 ?side5 ?side6 ?side7 ?side8 A34.out).mono ?_
      (case side1 => repeat (first | exact (Z23 HR0_0.out HB.out) | (with_reducible refine Z20 ?_ _) | (with_reducible refine Z21 ?_ _) | (with_reducible refine Z22 ?_)))
      (case side2 => exact HC0_0.out)
      (case side3 => repeat (first | exact (Z23 HR0_1.out HB.out) | (with_reducible refine Z20 ?_ _) | (with_reducible refine Z21 ?_ _) | (with_reducible refine Z22 ?_)))
      (case side4 => exact HC0_1.out)
      (case side5 => repeat (first | exact (Z23 HR0_2.out HB.out) | (with_reducible refine Z20 ?_ _) | (with_reducible refine Z21 ?_ _) | (with_reducible refine Z22 ?_)))
      (case side6 => exact HC0_2.out)
      (case side7 => repeat (first | exact (Z23 HR0_3.out HB.out) | (with_reducible refine Z20 ?_ _) | (with_reducible refine Z21 ?_ _) | (with_reducible refine Z22 ?_)))
      (case side8 => exact HC0_3.out)
      rintro e w45 ⟨v364, v367, v370, v373, rfl, ho0, ho1, ho2, ho3, hb⟩
      refine ⟨_, rfl, ?_⟩
      have n0_ := Aside0.mk (Z12 (Z16 (Z16 (Z16 (Z17 (by (with_reducible repeat (first | apply Z9 | apply Z10 | apply Z11)); exact HO_361000.out) hb) (Kd.R_base ho0)) (Kd.R_base ho1)) (Kd.R_base ho3)) (fun _ h_ => h_.1))
      have n1_ := Aside0.mk (Z12 (Z16 (Z16 (Z16 (Z17 (by (with_reducible repeat (first | apply Z9 | apply Z10 | apply Z11)); exact HO_361001.out) hb) (Kd.R_base ho0)) (Kd.R_base ho1)) (Kd.R_base ho3)) (fun _ h_ => h_.1))
      have n2_ := Aside0.mk (Kd.R_elder' (by (with_reducible repeat (first | apply Z9 | apply Z10 | apply Z11)); exact HO_361002.out) (Kd.R_base ho2) hb)
      have n3_ := Aside0.mk (Z12 (Z16 (Z16 (Z16 (Z17 (by (with_reducible repeat (first | apply Z9 | apply Z10 | apply Z11)); exact HO_361003.out) hb) (Kd.R_base ho0)) (Kd.R_base ho1)) (Kd.R_base ho3)) (fun _ h_ => h_.1))
      have n4_ := Aside0.mk (Kd.R_lower (Kd.R_new' (Kd.R_new' (Kd.R_new' ho0 (Z18 (by (with_reducible repeat (first | apply Z9 | apply Z10 | apply Z11)); exact HO_361000.out))) (Z18 (by (with_reducible repeat (first | apply Z9 | apply Z10 | apply Z11)); exact HO_361001.out))) (Z18 (by (with_reducible repeat (first | apply Z9 | apply Z10 | apply Z11)); exact HO_361003.out))) (Z7 (by repeat (first | (with_reducible first | exact HB.out | apply Z5 | apply Z3 | apply Z4 | refine Z6 ?_ GE332.out | refine Z6 ?_ GE360.out) | exact HB.out))))
      have n5_ := Aside0.mk (Kd.R_lower (Kd.R_new' (Kd.R_new' (Kd.R_new' ho1 (Z18 (by (with_reducible repeat (first | apply Z9 | apply Z10 | apply Z11)); exact HO_361000.out))) (Z18 (by (with_reducible repeat (first | apply Z9 | apply Z10 | apply Z11)); exact HO_361001.out))) (Z18 (by (with_reducible repeat (first | apply Z9 | apply Z10 | apply Z11)); exact HO_361003.out))) (Z7 (by repeat (first | (with_reducible first | exact HB.out | apply Z5 | apply Z3 | apply Z4 | refine Z6 ?_ GE332.out | refine Z6 ?_ GE360.out) | exact HB.out))))
      have n6_ := Aside0.mk (Kd.R_lower (Kd.R_new' ho2 (Z18 (by (with_reducible repeat (first | apply Z9 | apply Z10 | apply Z11)); exact HO_361002.out))) (Z7 (by repeat (first | (with_reducible first | exact HB.out | apply Z5 | apply Z3 | apply Z4 | refine Z6 ?_ GE332.out | refine Z6 ?_ GE360.out) | exact HB.out))))
      have n7_ := Aside0.mk (Kd.R_lower (Kd.R_new' (Kd.R_new' (Kd.R_new' ho3 (Z18 (by (with_reducible repeat (first | apply Z9 | apply Z10 | apply Z11)); exact HO_361000.out))) (Z18 (by (with_reducible repeat (first | apply Z9 | apply Z10 | apply Z11)); exact HO_361001.out))) (Z18 (by (with_reducible repeat (first | apply Z9 | apply Z10 | apply Z11)); exact HO_361003.out))) (Z7 (by repeat (first | (with_reducible first | exact HB.out | apply Z5 | apply Z3 | apply Z4 | refine Z6 ?_ GE332.out | refine Z6 ?_ GE360.out) | exact HB.out))))
      have n8_ := Aside0.mk (Z29 (g := gb332) (o := .cells #[.slice A0_0 l0_0.length c0_0, .slice A0_1 l0_1.length c0_1, .slice A0_2 l0_2.length c0_2, .slice A0_3 l0_3.length c0_3] 25 (0, 0)) (by (with_reducible repeat (first | refine Z26 ?_ _ | refine Z27 ?_ | refine Z28 ?_ _)); exact BK332.out) hb)
      have n9_ := Aside0.mk (Z29 (g := gb360) (o := .cells #[.slice Ao25 t348.length co25, .slice Ao28 t351.length co28, .slice Ao29 t354.length co29, .slice Ao30 t357.length co30] 29 (0, 0)) (by (with_reducible repeat (first | refine Z26 ?_ _ | refine Z27 ?_ | refine Z28 ?_ _)); exact BK360.out) hb)
      have n10_ := Aside0.mk (Z8 (by repeat (first | (with_reducible first | exact HB.out | apply Z5 | apply Z3 | apply Z4 | refine Z6 ?_ GE332.out | refine Z6 ?_ GE360.out) | exact HB.out)) hb)
      clear HO_361000
      clear HO_361001
      clear HO_361002
      clear HO_361003
      clear BK332
      clear BK360
      clear HB
      have HO_361000 := n0_
      have HO_361001 := n1_
      have HO_361002 := n2_
      have HO_361003 := n3_
      have HO365 := n4_
      have HO368 := n5_
      have HO371 := n6_
      have HO374 := n7_
      have BK332 := n8_
      have BK360 := n9_
      have HB := n10_
      clear n0_ n1_ n2_ n3_ n4_ n5_ n6_ n7_ n8_ n9_ n10_
      (try clear hb)
      (try clear hb2)
      (try clear hk)
      (try clear hi)
      (try clear ho0)
      (try clear ho1)
      (try clear ho2)
      (try clear ho3)
      obtain ⟨Ao46, co46, eo46⟩ := Z19 HO365.out
      (first | subst eo46 | (injection eo46 with f1_ f2_ f3_; have f4_ := f1_.symm; have f5_ := f3_.symm; clear f1_ f2_ f3_; subst f4_; subst f5_))
      obtain ⟨Ao47, co47, eo47⟩ := Z19 HO368.out
      (first | subst eo47 | (injection eo47 with f1_ f2_ f3_; have f4_ := f1_.symm; have f5_ := f3_.symm; clear f1_ f2_ f3_; subst f4_; subst f5_))
      obtain ⟨Ao48, co48, eo48⟩ := Z19 HO371.out
      (first | subst eo48 | (injection eo48 with f1_ f2_ f3_; have f4_ := f1_.symm; have f5_ := f3_.symm; clear f1_ f2_ f3_; subst f4_; subst f5_))
      obtain ⟨Ao49, co49, eo49⟩ := Z19 HO374.out
      (first | subst eo49 | (injection eo49 with f1_ f2_ f3_; have f4_ := f1_.symm; have f5_ := f3_.symm; clear f1_ f2_ f3_; subst f4_; subst f5_))
      refine hK.out _ _ ⟨(Z24 BK360.out 0).trans rfl, (Z24 BK360.out 1).trans rfl, (Z24 BK360.out 2).trans rfl, (Z24 BK360.out 3).trans rfl, (Z24 BK332.out 0).trans rfl, (Z24 BK332.out 1).trans rfl, (Z24 BK332.out 2).trans rfl, (Z24 BK332.out 3).trans rfl⟩ (fun hHeld => ?_)
      clear hK K
      refine norm_ (a' := ?_) ?_ ?_
      rotate_left
      ·show Act.put _ (some 37) _ = _
       simp only [Act.put, Z0, Z1, Z2, i64_w, i32_w]
       rfl
      refine one_ (i := 3) (N := some 38) #[true, true, true, true, false] rfl rfl (by kernel_rfl) (by decide) (fun K hK => ?_)
      refine goes_ Try.func16 (by kernel_rfl) rfl #[.agg #[.slice Ao25 t348.length co25, .slice Ao28 t351.length co28, .slice Ao29 t354.length co29, .slice Ao30 t357.length co30], .agg #[.slice Ao46 t363.length co46, .slice Ao47 t366.length co47, .slice Ao48 t369.length co48, .slice Ao49 t372.length co49]] (by rfl) rfl rfl (by (try simp only [Z34, Z35, Z36]); first | done | rfl | (simp only [Z32, Z33]; rfl)) ?_
      with_reducible refine (laws_eqFocus.calls kj10 _ _ t348 _ _ t351 _ _ t354 _ _ t357 _ _ t363 _ _ t366 _ _ t369 _ _ t372 false _ ?side1 ?side2 ?side3 ?side4 ?side5 ?side6 ?side7 ?side8 ?side9 ?side10 ?side11 ?side12 ?side13 ?side14 ?side15 ?side16 A35.out).mono ?_
      (case side1 => repeat (first | exact (Kd.R_reads' HO_361000.out).2.2 | (with_reducible refine Z20 ?_ _) | (with_reducible refine Z21 ?_ _) | (with_reducible refine Z22 ?_)))
      (case side2 => exact (Kd.R_reads' HO_361000.out).2.1)
      (case side3 => repeat (first | exact (Kd.R_reads' HO_361001.out).2.2 | (with_reducible refine Z20 ?_ _) | (with_reducible refine Z21 ?_ _) | (with_reducible refine Z22 ?_)))
      (case side4 => exact (Kd.R_reads' HO_361001.out).2.1)
      (case side5 => repeat (first | exact (Kd.R_reads' HO_361002.out).2.2 | (with_reducible refine Z20 ?_ _) | (with_reducible refine Z21 ?_ _) | (with_reducible refine Z22 ?_)))
      (case side6 => exact (Kd.R_reads' HO_361002.out).2.1)
      (case side7 => repeat (first | exact (Kd.R_reads' HO_361003.out).2.2 | (with_reducible refine Z20 ?_ _) | (with_reducible refine Z21 ?_ _) | (with_reducible refine Z22 ?_)))
      (case side8 => exact (Kd.R_reads' HO_361003.out).2.1)
      (case side9 => repeat (first | exact (Kd.R_reads' HO365.out).2.2 | (with_reducible refine Z20 ?_ _) | (with_reducible refine Z21 ?_ _) | (with_reducible refine Z22 ?_)))
      (case side10 => exact (Kd.R_reads' HO365.out).2.1)
      (case side11 => repeat (first | exact (Kd.R_reads' HO368.out).2.2 | (with_reducible refine Z20 ?_ _) | (with_reducible refine Z21 ?_ _) | (with_reducible refine Z22 ?_)))
      (case side12 => exact (Kd.R_reads' HO368.out).2.1)
      (case side13 => repeat (first | exact (Kd.R_reads' HO371.out).2.2 | (with_reducible refine Z20 ?_ _) | (with_reducible refine Z21 ?_ _) | (with_reducible refine Z22 ?_)))
      (case side14 => exact (Kd.R_reads' HO371.out).2.1)
      (case side15 => repeat (first | exact (Kd.R_reads' HO374.out).2.2 | (with_reducible refine Z20 ?_ _) | (with_reducible refine Z21 ?_ _) | (with_reducible refine Z22 ?_)))
      (case side16 => exact (Kd.R_reads' HO374.out).2.1)
      rintro e w50 ⟨rfl, hb⟩
      refine ⟨_, rfl, ?_⟩
      have n0_ := Aside0.mk (Z14 (by (with_reducible repeat (first | apply Z9 | apply Z10 | apply Z11)); exact HO_361000.out) hb)
      have n1_ := Aside0.mk (Z14 (by (with_reducible repeat (first | apply Z9 | apply Z10 | apply Z11)); exact HO_361001.out) hb)
      have n2_ := Aside0.mk (Z14 (by (with_reducible repeat (first | apply Z9 | apply Z10 | apply Z11)); exact HO_361002.out) hb)
      have n3_ := Aside0.mk (Z14 (by (with_reducible repeat (first | apply Z9 | apply Z10 | apply Z11)); exact HO_361003.out) hb)
      have n4_ := Aside0.mk (Z14 (by (with_reducible repeat (first | apply Z9 | apply Z10 | apply Z11)); exact HO365.out) hb)
      have n5_ := Aside0.mk (Z14 (by (with_reducible repeat (first | apply Z9 | apply Z10 | apply Z11)); exact HO368.out) hb)
      have n6_ := Aside0.mk (Z14 (by (with_reducible repeat (first | apply Z9 | apply Z10 | apply Z11)); exact HO371.out) hb)
      have n7_ := Aside0.mk (Z14 (by (with_reducible repeat (first | apply Z9 | apply Z10 | apply Z11)); exact HO374.out) hb)
      have n8_ := Aside0.mk (Z29 (g := gb332) (o := .cells #[.slice A0_0 l0_0.length c0_0, .slice A0_1 l0_1.length c0_1, .slice A0_2 l0_2.length c0_2, .slice A0_3 l0_3.length c0_3] 25 (0, 0)) (by (with_reducible repeat (first | refine Z26 ?_ _ | refine Z27 ?_ | refine Z28 ?_ _)); exact BK332.out) hb)
      have n9_ := Aside0.mk (Z29 (g := gb360) (o := .cells #[.slice Ao25 t348.length co25, .slice Ao28 t351.length co28, .slice Ao29 t354.length co29, .slice Ao30 t357.length co30] 29 (0, 0)) (by (with_reducible repeat (first | refine Z26 ?_ _ | refine Z27 ?_ | refine Z28 ?_ _)); exact BK360.out) hb)
      have n10_ := Aside0.mk (Z8 (by repeat (first | (with_reducible first | exact HB.out | apply Z5 | apply Z3 | apply Z4 | refine Z6 ?_ GE332.out | refine Z6 ?_ GE360.out) | exact HB.out)) hb)
      clear HO_361000
      clear HO_361001
      clear HO_361002
      clear HO_361003
      clear HO365
      clear HO368
      clear HO371
      clear HO374
      clear BK332
      clear BK360
      clear HB
      have HO_361000 := n0_
      have HO_361001 := n1_
      have HO_361002 := n2_
      have HO_361003 := n3_
      have HO365 := n4_
      have HO368 := n5_
      have HO371 := n6_
      have HO374 := n7_
      have BK332 := n8_
      have BK360 := n9_
      have HB := n10_
      clear n0_ n1_ n2_ n3_ n4_ n5_ n6_ n7_ n8_ n9_ n10_
      (try clear hb)
      (try clear hb2)
      (try clear hk)
      (try clear hi)
      refine hK.out _ _ ⟨(Z24 BK360.out 0).trans rfl, (Z24 BK360.out 1).trans rfl, (Z24 BK360.out 2).trans rfl, (Z24 BK360.out 3).trans rfl, (Z24 BK332.out 0).trans rfl, (Z24 BK332.out 1).trans rfl, (Z24 BK332.out 2).trans rfl, (Z24 BK332.out 3).trans rfl⟩ (fun hHeld => ?_)
      clear hK K
      refine norm_ (a' := ?_) ?_ ?_
      rotate_left
      ·show Act.put _ (some 38) _ = _
       simp only [Act.put, Z0, Z1, Z2, i64_w, i32_w]
       rfl
      refine pure_ (i := 4) (N := some 39) (v := ?_) (a' := ?_) #[true, true, true, true, true] rfl rfl (by kernel_rfl) (fun _ _ _ h => h) (Or.inl ⟨by rfl, ?_⟩) ?_ ?_
      rotate_left
      ·intro w'
       go_simp
       with_reducible rfl
      rotate_left
      ·simp only [Act.put, Z0, Z1, Z2, i64_w, i32_w]
       rfl
      refine done_ (by kernel_rfl) ?_
      try go_wp2
      go_ret
      exact ⟨by first | rfl | (simp [errW_none, errW_some] <;> rfl) | (simp [*, errW_none, errW_some] <;> rfl), by repeat (first | (with_reducible first | exact HB.out | apply Z5 | apply Z3 | apply Z4 | refine Z6 ?_ GE332.out | refine Z6 ?_ GE360.out) | exact HB.out)⟩
end Go.Proofs.Ytedijkelbdpcdaa.MFnExactFocusRank
