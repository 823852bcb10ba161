import Derived.Test.YtapbbmicfkbafaaMFnFocusStepsx0
import Derived.Test.YtapbbmicfkbafaaMFnFocusStepsx1
import Derived.Test.YtapbbmicfkbafaaMFnFocusStepsx2
import Derived.Test.YtapbbmicfkbafaaMFnFocusStepsx5
import Derived.Test.YtapbbmicfkbafaaMFnFocusStepsx8
namespace Go.Proofs.Ytapbbmicfkbafaa.MFnFocusSteps
open Go.RowKit Go.Proofs.YtapbbmicfkbafaaW.PrintWords Go.Proofs.YtapbbmicfkbafaaW.PrintLast Go.Proofs.YtapbbmicfkbafaaW.PrintMore
attribute [local go_sem] max2_int min2_int max_two min_two max_three min_three max_four min_four   
set_option linter.unusedVariables false
set_option linter.unusedSimpArgs false
def spec_StepFocus.f (k : Nat) (l0_0 : List Int) (l0_1 : List Int) (l0_2 : List Bool) (l0_3 : List Int) : Option (List Int × List Int × List Bool × List Int × Int × Bool) := (spec_foGood.f k l0_0 l0_1 l0_2 l0_3).bind fun t498 => (if t498 = true then ((spec_foStep.f l0_0 l0_1 l0_2 l0_3).bind fun bt499 => (if bt499.2.2.2.2 < 0 then (some (([] : List Int), ([] : List Int), ([] : List Bool), ([] : List Int), 0, false)) else (some (bt499.1, bt499.2.1, bt499.2.2.1, bt499.2.2.2.1, bt499.2.2.2.2, true)))) else (some (([] : List Int), ([] : List Int), ([] : List Bool), ([] : List Int), 0, false)))
theorem spec_StepFocus.mono : ∀ a0 a1 a2 a3 k, LeO (spec_StepFocus.f k a0 a1 a2 a3) (spec_StepFocus.f (k + 1) a0 a1 a2 a3) := by
 intro a0 a1 a2 a3 k
 unfold spec_StepFocus.f
 repeat' first
   | (with_reducible exact spec_foGood.mono _ _ _ _ _)
   | (with_reducible exact LeO.refl _)
   | (with_reducible exact LeO.none _)
   | (with_reducible refine LeO.ite ?_ ?_)
   | (with_reducible refine LeO.bind ?_ (fun _ => ?_))
   | exact spec_foGood.mono _ _ _ _ _
   | exact LeO.none _
   | refine LeO.ite ?_ ?_
   | refine LeO.bind ?_ (fun _ => ?_)
set_option maxHeartbeats 8000000 in
set_option maxRecDepth 100000 in
theorem spec_StepFocus.calls (k : Nat) (A0_0 : Option Addr) (c0_0 : Nat) (l0_0 : List Int) (A0_1 : Option Addr) (c0_1 : Nat) (l0_1 : List Int) (A0_2 : Option Addr) (c0_2 : Nat) (l0_2 : List Bool) (A0_3 : Option Addr) (c0_3 : Nat) (l0_3 : List Int) (r1 : List Int) (r2 : List Int) (r3 : List Bool) (r4 : List Int) (r5 : Int) (r6 : Bool) (w : World) (hr0_0 : Kd.C (Kd.int .i64) w A0_0 l0_0.length l0_0) (hc0_0 : l0_0.length ≤ c0_0) (hr0_1 : Kd.C (Kd.int .i64) w A0_1 l0_1.length l0_1) (hc0_1 : l0_1.length ≤ c0_1) (hr0_2 : Kd.C Kd.bool w A0_2 l0_2.length l0_2) (hc0_2 : l0_2.length ≤ c0_2) (hr0_3 : Kd.C (Kd.int .i64) w A0_3 l0_3.length l0_3) (hc0_3 : l0_3.length ≤ c0_3) (h : spec_StepFocus.f k l0_0 l0_1 l0_2 l0_3 = some (r1, r2, r3, r4, r5, r6)) :
  Calls Try.prog 21 #[.agg #[.slice A0_0 l0_0.length c0_0, .slice A0_1 l0_1.length c0_1, .slice A0_2 l0_2.length c0_2, .slice A0_3 l0_3.length c0_3]] w fun e w' => ∃ v0_ v1_ v2_ v3_ : Value, e = .returned (.tuple #[.agg #[v0_, v1_, v2_, v3_], .int .i64 r5, .bool r6]) ∧ Kd.R (Kd.int .i64) 3 w' w.heap.size (fun k_ => some k_ ≠ (v1_ : Value).ownBlock ∧ some k_ ≠ (v3_ : Value).ownBlock) v0_ r1 ∧ Kd.R (Kd.int .i64) 3 w' w.heap.size (fun k_ => some k_ ≠ (v0_ : Value).ownBlock ∧ some k_ ≠ (v3_ : Value).ownBlock) v1_ r2 ∧ Kd.R Kd.bool 4 w' w.heap.size (fun _ => True) v2_ r3 ∧ Kd.R (Kd.int .i64) 3 w' w.heap.size (fun k_ => some k_ ≠ (v0_ : Value).ownBlock ∧ some k_ ≠ (v1_ : Value).ownBlock) v3_ r4 ∧ Below w.heap.size w w' := by
 have hu33 := Try.underlying33
 have HR0_0 := Ya hr0_0
 have HC0_0 := Ya hc0_0
 clear hr0_0 hc0_0
 have HR0_1 := Ya hr0_1
 have HC0_1 := Ya hc0_1
 clear hr0_1 hc0_1
 have HR0_2 := Ya hr0_2
 have HC0_2 := Ya hc0_2
 clear hr0_2 hc0_2
 have HR0_3 := Ya hr0_3
 have HC0_3 := Ya hc0_3
 clear hr0_3 hc0_3
 have HB := Ya (Below.refl w.heap.size w)
 have H : ((spec_foGood.f k l0_0 l0_1 l0_2 l0_3).bind fun t498 => (if t498 = true then ((spec_foStep.f l0_0 l0_1 l0_2 l0_3).bind fun bt499 => (if bt499.2.2.2.2 < 0 then (some (([] : List Int), ([] : List Int), ([] : List Bool), ([] : List Int), 0, false)) else (some (bt499.1, bt499.2.1, bt499.2.2.1, bt499.2.2.2.1, bt499.2.2.2.2, true)))) else (some (([] : List Int), ([] : List Int), ([] : List Bool), ([] : List Int), 0, false)))) = some (r1, r2, r3, r4, r5, r6) := h
 clear h
 replace H := Z37.mp H
 obtain ⟨t498, A20, H⟩ := H
 replace H : (if t498 = true then ((spec_foStep.f l0_0 l0_1 l0_2 l0_3).bind fun bt499 => (if bt499.2.2.2.2 < 0 then (some (([] : List Int), ([] : List Int), ([] : List Bool), ([] : List Int), 0, false)) else (some (bt499.1, bt499.2.1, bt499.2.2.1, bt499.2.2.2.1, bt499.2.2.2.2, true)))) else (some (([] : List Int), ([] : List Int), ([] : List Bool), ([] : List Int), 0, false))) = some (r1, r2, r3, r4, r5, r6) := H
 have A2 := Ya A20
 clear A20
 by_cases c3 : t498 = true
 ·subst c3
  have H1 : ((spec_foStep.f l0_0 l0_1 l0_2 l0_3).bind fun bt499 => (if bt499.2.2.2.2 < 0 then (some (([] : List Int), ([] : List Int), ([] : List Bool), ([] : List Int), 0, false)) else (some (bt499.1, bt499.2.1, bt499.2.2.1, bt499.2.2.2.1, bt499.2.2.2.2, true)))) = some (r1, r2, r3, r4, r5, r6) := by rw [if_pos rfl] at H; exact H
  clear H
  have H := H1
  clear H1
  replace H := Z37.mp H
  obtain ⟨⟨t499, t502, t505, t508, t511⟩, A40, H⟩ := H
  replace H : (if t511 < 0 then (some (([] : List Int), ([] : List Int), ([] : List Bool), ([] : List Int), 0, false)) else (some (t499, t502, t505, t508, t511, true))) = some (r1, r2, r3, r4, r5, r6) := H
  have A4 := Ya A40
  clear A40
  by_cases c5 : t511 < 0
  ·rw [if_pos c5] at H
   have c5b0 := Z39 c5
   clear c5
   simp only [Option.some.injEq, Prod.mk.injEq] at H
   obtain ⟨rfl, rfl, rfl, rfl, rfl, rfl⟩ := H
   go_enter Try.func21, Try.ntmps21
   go_wp2_with (first | ((with_reducible refine gate_dst (N := 1) rfl ?_); refine Yx 1 #[.slice A0_0 l0_0.length c0_0, .slice A0_1 l0_1.length c0_1, .slice A0_2 l0_2.length c0_2, .slice A0_3 l0_3.length c0_3] 33 ?_; intro gb496 hg w6 hbox hb; have BK496 := Ya hbox; have GE496 := Yg hg; replace HB := Yh hb; clear hb hbox hg) | ((with_reducible refine gate_dst (N := 2) rfl ?_); refine Yx 2 YN4 33 ?_; intro gb497 hg w7 hbox hb; have BK497 := Ya hbox; have GE497 := Yg hg; replace HB := Yh hb; have NB496_497 := Yn BK496 hg; have NB497_496 := Ym BK496 hg; replace BK496 := Yb BK496 hb; clear hb hbox hg; have hnb8 := NB496_497.out; have hnc8 := NB497_496.out; have hz9 := Y4 BK496.out) | ((with_reducible refine gate_callee (f := 49) rfl ?_); refine Yz 8 Try.func49 #[.agg #[.slice A0_0 l0_0.length c0_0, .slice A0_1 l0_1.length c0_1, .slice A0_2 l0_2.length c0_2, .slice A0_3 l0_3.length c0_3]] ?_; (with_reducible refine (spec_foGood.calls k _ _ l0_0 _ _ l0_1 _ _ l0_2 _ _ l0_3 true _ (Yc (Z23 HR0_0.out HB.out)) HC0_0.out (Yc (Z23 HR0_1.out HB.out)) HC0_1.out (Yc (Z23 HR0_2.out HB.out)) HC0_2.out (Yc (Z23 HR0_3.out HB.out)) HC0_3.out A2.out).mono ?_); rintro e w10 ⟨rfl, hb⟩; refine ⟨_, rfl, ?_⟩; replace BK496 := Yb BK496 hb; replace BK497 := Yb BK497 hb; replace HB := Yh hb; (try clear hb); obtain ⟨hcz11_0, hcz11_1, hcz11_2, hcz11_3, hfz11_0, hfz11_1, hfz11_2, hfz11_3⟩ := Y4 BK496.out) | ((with_reducible refine gate_callee (f := 50) rfl ?_); refine Yz 13 Try.func50 #[.agg #[.slice A0_0 l0_0.length c0_0, .slice A0_1 l0_1.length c0_1, .slice A0_2 l0_2.length c0_2, .slice A0_3 l0_3.length c0_3]] ?_; (with_reducible refine (spec_foStep.calls _ _ l0_0 _ _ l0_1 _ _ l0_2 _ _ l0_3 t499 t502 t505 t508 t511 _ (Yc (Z23 HR0_0.out HB.out)) HC0_0.out (Yc (Z23 HR0_1.out HB.out)) HC0_1.out (Yc (Z23 HR0_2.out HB.out)) HC0_2.out (Yc (Z23 HR0_3.out HB.out)) HC0_3.out A4.out).mono ?_); rintro e w12 ⟨v500, v503, v506, v509, rfl, ho0, ho1, ho2, ho3, hb⟩; refine ⟨_, rfl, ?_⟩; have HO501 := Yl ho0; have HO504 := Yl ho1; have HO507 := Yl ho2; have HO510 := Yl ho3; replace BK496 := Yb BK496 hb; replace BK497 := Yb BK497 hb; replace HB := Yh hb; (try clear hb ho0 ho1 ho2 ho3)) | ((with_reducible refine gate_dst (N := 5) rfl ?_); refine Yx 5 YN4 33 ?_; intro gb512 hg w13 hbox hb; replace HO501 := Yw HO501 hb; replace HO504 := Yw HO504 hb; replace HO507 := Yw HO507 hb; replace HO510 := Yw HO510 hb; have BK512 := Ya hbox; have GE512 := Yg hg; replace HB := Yh hb; have NB496_512 := Yn BK496 hg; have NB512_496 := Ym BK496 hg; replace BK496 := Yb BK496 hb; have NB497_512 := Yn BK497 hg; have NB512_497 := Ym BK497 hg; replace BK497 := Yb BK497 hb; clear hb hbox hg; obtain ⟨Ao14, co14, rfl⟩ := Z19 HO501.out; have hnb15 := NB512_496.out; have hnc15 := NB496_512.out; have hnb16 := NB512_497.out; have hnc16 := NB497_512.out; have hz17 := Y4 BK512.out; obtain ⟨Ao18, co18, rfl⟩ := Z19 HO504.out; obtain ⟨Ao19, co19, rfl⟩ := Z19 HO507.out; obtain ⟨Ao20, co20, rfl⟩ := Z19 HO510.out; have hz21 := Y4 BK497.out))
   refine bodyPost_ret (results_ctt rfl _ _ gb497 33 YN4 (0, 0) _ rfl (Yk (Yv4 (Yo4 BK497.out NB497_512.out))) Try.underlying33 rfl (by kernel_rfl)) rfl ?_
   exact ⟨_, _, _, _, Q1, Q14, Q14, Q14, Q14, Q12⟩
  ·rw [if_neg c5] at H
   have c5b0 := Z38 c5
   clear c5
   simp only [Option.some.injEq, Prod.mk.injEq] at H
   obtain ⟨rfl, rfl, rfl, rfl, rfl, rfl⟩ := H
   go_enter Try.func21, Try.ntmps21
   go_wp2_with (first | ((with_reducible refine gate_dst (N := 1) rfl ?_); refine Yx 1 #[.slice A0_0 l0_0.length c0_0, .slice A0_1 l0_1.length c0_1, .slice A0_2 l0_2.length c0_2, .slice A0_3 l0_3.length c0_3] 33 ?_; intro gb496 hg w22 hbox hb; have BK496 := Ya hbox; have GE496 := Yg hg; replace HB := Yh hb; clear hb hbox hg) | ((with_reducible refine gate_dst (N := 2) rfl ?_); refine Yx 2 YN4 33 ?_; intro gb497 hg w23 hbox hb; have BK497 := Ya hbox; have GE497 := Yg hg; replace HB := Yh hb; have NB496_497 := Yn BK496 hg; have NB497_496 := Ym BK496 hg; replace BK496 := Yb BK496 hb; clear hb hbox hg; have hnb24 := NB496_497.out; have hnc24 := NB497_496.out; have hz25 := Y4 BK496.out) | ((with_reducible refine gate_callee (f := 49) rfl ?_); refine Yz 8 Try.func49 #[.agg #[.slice A0_0 l0_0.length c0_0, .slice A0_1 l0_1.length c0_1, .slice A0_2 l0_2.length c0_2, .slice A0_3 l0_3.length c0_3]] ?_; (with_reducible refine (spec_foGood.calls k _ _ l0_0 _ _ l0_1 _ _ l0_2 _ _ l0_3 true _ (Yc (Z23 HR0_0.out HB.out)) HC0_0.out (Yc (Z23 HR0_1.out HB.out)) HC0_1.out (Yc (Z23 HR0_2.out HB.out)) HC0_2.out (Yc (Z23 HR0_3.out HB.out)) HC0_3.out A2.out).mono ?_); rintro e w26 ⟨rfl, hb⟩; refine ⟨_, rfl, ?_⟩; replace BK496 := Yb BK496 hb; replace BK497 := Yb BK497 hb; replace HB := Yh hb; (try clear hb); have hz27 := Y4 BK496.out) | ((with_reducible refine gate_callee (f := 50) rfl ?_); refine Yz 13 Try.func50 #[.agg #[.slice A0_0 l0_0.length c0_0, .slice A0_1 l0_1.length c0_1, .slice A0_2 l0_2.length c0_2, .slice A0_3 l0_3.length c0_3]] ?_; (with_reducible refine (spec_foStep.calls _ _ l0_0 _ _ l0_1 _ _ l0_2 _ _ l0_3 t499 t502 t505 t508 t511 _ (Yc (Z23 HR0_0.out HB.out)) HC0_0.out (Yc (Z23 HR0_1.out HB.out)) HC0_1.out (Yc (Z23 HR0_2.out HB.out)) HC0_2.out (Yc (Z23 HR0_3.out HB.out)) HC0_3.out A4.out).mono ?_); rintro e w28 ⟨v500, v503, v506, v509, rfl, ho0, ho1, ho2, ho3, hb⟩; refine ⟨_, rfl, ?_⟩; have HO501 := Yl ho0; have HO504 := Yl ho1; have HO507 := Yl ho2; have HO510 := Yl ho3; replace BK496 := Yb BK496 hb; replace BK497 := Yb BK497 hb; replace HB := Yh hb; (try clear hb ho0 ho1 ho2 ho3)) | ((with_reducible refine gate_dst (N := 5) rfl ?_); refine Yx 5 YN4 33 ?_; intro gb512 hg w29 hbox hb; replace HO501 := Yw HO501 hb; replace HO504 := Yw HO504 hb; replace HO507 := Yw HO507 hb; replace HO510 := Yw HO510 hb; have BK512 := Ya hbox; have GE512 := Yg hg; replace HB := Yh hb; have NB496_512 := Yn BK496 hg; have NB512_496 := Ym BK496 hg; replace BK496 := Yb BK496 hb; have NB497_512 := Yn BK497 hg; have NB512_497 := Ym BK497 hg; replace BK497 := Yb BK497 hb; clear hb hbox hg; obtain ⟨Ao30, co30, rfl⟩ := Z19 HO501.out; have hnb31 := NB512_496.out; have hnc31 := NB496_512.out; have hnb32 := NB512_497.out; have hnc32 := NB497_512.out; have hz33 := Y4 BK512.out; obtain ⟨Ao34, co34, rfl⟩ := Z19 HO504.out; obtain ⟨Ao35, co35, rfl⟩ := Z19 HO507.out; obtain ⟨Ao36, co36, rfl⟩ := Z19 HO510.out; have hz37 := Y4 BK497.out))
   refine bodyPost_ret (results_ctt rfl _ _ gb497 33 #[.slice Ao30 t499.length co30, .slice Ao34 t502.length co34, .slice Ao35 t505.length co35, .slice Ao36 t508.length co36] (0, 0) _ rfl (Yk (Yv4 (Yo4 BK497.out NB497_512.out))) Try.underlying33 rfl (by kernel_rfl)) rfl ?_
   exact ⟨_, _, _, _, Q1, Yj (Yd4 HO501.out BK512.out BK497.out) (fun _ hk => ⟨hk.1.1.1, hk.1.1.2⟩), Yj (Yd4 HO504.out BK512.out BK497.out) (fun _ hk => ⟨hk.1.1.1, hk.1.1.2⟩), Yj (Yd4 HO507.out BK512.out BK497.out) (fun _ hk => trivial), Yj (Yd4 HO510.out BK512.out BK497.out) (fun _ hk => ⟨hk.1.1.1, hk.1.1.2⟩), Q12⟩
 ·replace c3 := Bool.eq_false_iff.mpr c3
  subst c3
  have H1 : (some (([] : List Int), ([] : List Int), ([] : List Bool), ([] : List Int), 0, false)) = some (r1, r2, r3, r4, r5, r6) := by rw [if_neg (show ¬ (false = true) by decide)] at H; exact H
  clear H
  have H := H1
  clear H1
  simp only [Option.some.injEq, Prod.mk.injEq] at H
  obtain ⟨rfl, rfl, rfl, rfl, rfl, rfl⟩ := H
  go_enter Try.func21, Try.ntmps21
  go_wp2_with (first | ((with_reducible refine gate_dst (N := 1) rfl ?_); refine Yx 1 #[.slice A0_0 l0_0.length c0_0, .slice A0_1 l0_1.length c0_1, .slice A0_2 l0_2.length c0_2, .slice A0_3 l0_3.length c0_3] 33 ?_; intro gb496 hg w38 hbox hb; have BK496 := Ya hbox; have GE496 := Yg hg; replace HB := Yh hb; clear hb hbox hg) | ((with_reducible refine gate_dst (N := 2) rfl ?_); refine Yx 2 YN4 33 ?_; intro gb497 hg w39 hbox hb; have BK497 := Ya hbox; have GE497 := Yg hg; replace HB := Yh hb; have NB496_497 := Yn BK496 hg; have NB497_496 := Ym BK496 hg; replace BK496 := Yb BK496 hb; clear hb hbox hg; have hnb40 := NB496_497.out; have hnc40 := NB497_496.out; have hz41 := Y4 BK496.out) | ((with_reducible refine gate_callee (f := 49) rfl ?_); refine Yz 8 Try.func49 #[.agg #[.slice A0_0 l0_0.length c0_0, .slice A0_1 l0_1.length c0_1, .slice A0_2 l0_2.length c0_2, .slice A0_3 l0_3.length c0_3]] ?_; (with_reducible refine (spec_foGood.calls k _ _ l0_0 _ _ l0_1 _ _ l0_2 _ _ l0_3 false _ (Yc (Z23 HR0_0.out HB.out)) HC0_0.out (Yc (Z23 HR0_1.out HB.out)) HC0_1.out (Yc (Z23 HR0_2.out HB.out)) HC0_2.out (Yc (Z23 HR0_3.out HB.out)) HC0_3.out A2.out).mono ?_); rintro e w42 ⟨rfl, hb⟩; refine ⟨_, rfl, ?_⟩; replace BK496 := Yb BK496 hb; replace BK497 := Yb BK497 hb; replace HB := Yh hb; (try clear hb); have hz43 := Y4 BK497.out))
  refine bodyPost_ret (results_ctt rfl _ _ gb497 33 YN4 (0, 0) _ rfl (Yk (Yv4 BK497.out)) Try.underlying33 rfl (by kernel_rfl)) rfl ?_
  exact ⟨_, _, _, _, Q1, Q14, Q14, Q14, Q14, Q12⟩
def impl_Focus_isLast.f (l0_0 : List Int) (l0_1 : List Int) (l0_2 : List Bool) (l0_3 : List Int) : Option (Bool) := if 0 < (l0_3.length : Int) then (some ((rd l0_3 0) == (l0_0.length : Int))) else (none)
set_option maxHeartbeats 8000000 in
set_option maxRecDepth 100000 in
theorem impl_Focus_isLast.calls (A0_0 : Option Addr) (c0_0 : Nat) (l0_0 : List Int) (A0_1 : Option Addr) (c0_1 : Nat) (l0_1 : List Int) (A0_2 : Option Addr) (c0_2 : Nat) (l0_2 : List Bool) (A0_3 : Option Addr) (c0_3 : Nat) (l0_3 : List Int) (r : Bool) (w : World) (hr0_0 : Kd.C (Kd.int .i64) w A0_0 l0_0.length l0_0) (hc0_0 : l0_0.length ≤ c0_0) (hr0_1 : Kd.C (Kd.int .i64) w A0_1 l0_1.length l0_1) (hc0_1 : l0_1.length ≤ c0_1) (hr0_2 : Kd.C Kd.bool w A0_2 l0_2.length l0_2) (hc0_2 : l0_2.length ≤ c0_2) (hr0_3 : Kd.C (Kd.int .i64) w A0_3 l0_3.length l0_3) (hc0_3 : l0_3.length ≤ c0_3) (h : impl_Focus_isLast.f l0_0 l0_1 l0_2 l0_3 = some r) :
  Calls Try.prog 51 #[.agg #[.slice A0_0 l0_0.length c0_0, .slice A0_1 l0_1.length c0_1, .slice A0_2 l0_2.length c0_2, .slice A0_3 l0_3.length c0_3]] w fun e w' => e = .returned (.bool r) ∧ Below w.heap.size w w' := by
 have hu33 := Try.underlying33
 have HR0_0 := Ya hr0_0
 have HC0_0 := Ya hc0_0
 clear hr0_0 hc0_0
 have HR0_1 := Ya hr0_1
 have HC0_1 := Ya hc0_1
 clear hr0_1 hc0_1
 have HR0_2 := Ya hr0_2
 have HC0_2 := Ya hc0_2
 clear hr0_2 hc0_2
 have HR0_3 := Ya hr0_3
 have HC0_3 := Ya hc0_3
 clear hr0_3 hc0_3
 have HB := Ya (Below.refl w.heap.size w)
 have H : (if 0 < (l0_3.length : Int) then (some ((rd l0_3 0) == (l0_0.length : Int))) else (none)) = some r := h
 clear h
 by_cases c2 : 0 < (l0_3.length : Int)
 ·rw [if_pos c2] at H
  have c2b0 := Z39 c2
  have c2b1 : decide (0 < l0_3.length) = true := Z39 (by omega)
  clear c2
  obtain rfl := Option.some.inj H
  go_enter Try.func51, Try.ntmps51
  go_wp2_with (first | ((with_reducible refine gate_dst (N := 1) rfl ?_); refine Yx 1 #[.slice A0_0 l0_0.length c0_0, .slice A0_1 l0_1.length c0_1, .slice A0_2 l0_2.length c0_2, .slice A0_3 l0_3.length c0_3] 33 ?_; intro gb513 hg w3 hbox hb; have BK513 := Ya hbox; have GE513 := Yg hg; replace HB := Yh hb; clear hb hbox hg; obtain ⟨hcz4_0, hcz4_1, hcz4_2, hcz4_3, hfz4_0, hfz4_1, hfz4_2, hfz4_3⟩ := Y4 BK513.out; have p514 : 0 ≤ (0 : Int) := (by omega); have q514 : 0 < (l0_3.length : Int) := Z31 Q2; obtain ⟨ad514, e514, hx514_0⟩ := Kd.at_int HR0_3.out 0 p514 q514; cases e514; have qi514 : (0 < l0_3.length) = True := eq_true (by omega); (try rw [show ((0 : Int)).toNat = 0 from rfl] at hx514_0); (try rw [Addr.add_zero'] at hx514_0); try replace hx514_0 := (HB.out.cell (World.block_lt_of_cell? w _ hx514_0)).trans hx514_0; replace p514 := eq_true p514; replace q514 := eq_true q514))
  repeat (go_quiet (first | ((with_reducible refine gate_dst (N := 1) rfl ?_); refine Yx 1 #[.slice A0_0 l0_0.length c0_0, .slice A0_1 l0_1.length c0_1, .slice A0_2 l0_2.length c0_2, .slice A0_3 l0_3.length c0_3] 33 ?_; intro gb513 hg w3 hbox hb; have BK513 := Ya hbox; have GE513 := Yg hg; replace HB := Yh hb; clear hb hbox hg; obtain ⟨hcz4_0, hcz4_1, hcz4_2, hcz4_3, hfz4_0, hfz4_1, hfz4_2, hfz4_3⟩ := Y4 BK513.out; have p514 : 0 ≤ (0 : Int) := (by omega); have q514 : 0 < (l0_3.length : Int) := Z31 Q2; obtain ⟨ad514, e514, hx514_0⟩ := Kd.at_int HR0_3.out 0 p514 q514; cases e514; have qi514 : (0 < l0_3.length) = True := eq_true (by omega); (try rw [show ((0 : Int)).toNat = 0 from rfl] at hx514_0); (try rw [Addr.add_zero'] at hx514_0); try replace hx514_0 := (HB.out.cell (World.block_lt_of_cell? w _ hx514_0)).trans hx514_0; replace p514 := eq_true p514; replace q514 := eq_true q514)); try go_wp2_with (first | ((with_reducible refine gate_dst (N := 1) rfl ?_); refine Yx 1 #[.slice A0_0 l0_0.length c0_0, .slice A0_1 l0_1.length c0_1, .slice A0_2 l0_2.length c0_2, .slice A0_3 l0_3.length c0_3] 33 ?_; intro gb513 hg w3 hbox hb; have BK513 := Ya hbox; have GE513 := Yg hg; replace HB := Yh hb; clear hb hbox hg; obtain ⟨hcz4_0, hcz4_1, hcz4_2, hcz4_3, hfz4_0, hfz4_1, hfz4_2, hfz4_3⟩ := Y4 BK513.out; have p514 : 0 ≤ (0 : Int) := (by omega); have q514 : 0 < (l0_3.length : Int) := Z31 Q2; obtain ⟨ad514, e514, hx514_0⟩ := Kd.at_int HR0_3.out 0 p514 q514; cases e514; have qi514 : (0 < l0_3.length) = True := eq_true (by omega); (try rw [show ((0 : Int)).toNat = 0 from rfl] at hx514_0); (try rw [Addr.add_zero'] at hx514_0); try replace hx514_0 := (HB.out.cell (World.block_lt_of_cell? w _ hx514_0)).trans hx514_0; replace p514 := eq_true p514; replace q514 := eq_true q514)))
  go_ret
  exact ⟨Q1, Q12⟩
 ·rw [if_neg c2] at H
  exact absurd H (by simp)
def impl_IsLastFocus.f (k : Nat) (l0_0 : List Int) (l0_1 : List Int) (l0_2 : List Bool) (l0_3 : List Int) : Option (Bool × Bool) := (impl_IsFocus.f k l0_0 l0_1 l0_2 l0_3).bind fun t516 => (if t516 = true then ((impl_Focus_isLast.f l0_0 l0_1 l0_2 l0_3).bind fun t517 => (some (t517, true))) else (some (false, false)))
theorem impl_IsLastFocus.mono : ∀ a0 a1 a2 a3 k, LeO (impl_IsLastFocus.f k a0 a1 a2 a3) (impl_IsLastFocus.f (k + 1) a0 a1 a2 a3) := by
 intro a0 a1 a2 a3 k
 unfold impl_IsLastFocus.f
 repeat' first
   | (with_reducible exact impl_IsFocus.mono _ _ _ _ _)
   | (with_reducible exact LeO.refl _)
   | (with_reducible exact LeO.none _)
   | (with_reducible refine LeO.ite ?_ ?_)
   | (with_reducible refine LeO.bind ?_ (fun _ => ?_))
   | exact impl_IsFocus.mono _ _ _ _ _
   | exact LeO.none _
   | refine LeO.ite ?_ ?_
   | refine LeO.bind ?_ (fun _ => ?_)
set_option maxHeartbeats 8000000 in
set_option maxRecDepth 100000 in
theorem impl_IsLastFocus.calls (k : Nat) (A0_0 : Option Addr) (c0_0 : Nat) (l0_0 : List Int) (A0_1 : Option Addr) (c0_1 : Nat) (l0_1 : List Int) (A0_2 : Option Addr) (c0_2 : Nat) (l0_2 : List Bool) (A0_3 : Option Addr) (c0_3 : Nat) (l0_3 : List Int) (r1 : Bool) (r2 : Bool) (w : World) (hr0_0 : Kd.C (Kd.int .i64) w A0_0 l0_0.length l0_0) (hc0_0 : l0_0.length ≤ c0_0) (hr0_1 : Kd.C (Kd.int .i64) w A0_1 l0_1.length l0_1) (hc0_1 : l0_1.length ≤ c0_1) (hr0_2 : Kd.C Kd.bool w A0_2 l0_2.length l0_2) (hc0_2 : l0_2.length ≤ c0_2) (hr0_3 : Kd.C (Kd.int .i64) w A0_3 l0_3.length l0_3) (hc0_3 : l0_3.length ≤ c0_3) (h : impl_IsLastFocus.f k l0_0 l0_1 l0_2 l0_3 = some (r1, r2)) :
  Calls Try.prog 22 #[.agg #[.slice A0_0 l0_0.length c0_0, .slice A0_1 l0_1.length c0_1, .slice A0_2 l0_2.length c0_2, .slice A0_3 l0_3.length c0_3]] w fun e w' => e = .returned (.tuple #[.bool r1, .bool r2]) ∧ Below w.heap.size w w' := by
 have hu33 := Try.underlying33
 have HR0_0 := Ya hr0_0
 have HC0_0 := Ya hc0_0
 clear hr0_0 hc0_0
 have HR0_1 := Ya hr0_1
 have HC0_1 := Ya hc0_1
 clear hr0_1 hc0_1
 have HR0_2 := Ya hr0_2
 have HC0_2 := Ya hc0_2
 clear hr0_2 hc0_2
 have HR0_3 := Ya hr0_3
 have HC0_3 := Ya hc0_3
 clear hr0_3 hc0_3
 have HB := Ya (Below.refl w.heap.size w)
 have H : ((impl_IsFocus.f k l0_0 l0_1 l0_2 l0_3).bind fun t516 => (if t516 = true then ((impl_Focus_isLast.f l0_0 l0_1 l0_2 l0_3).bind fun t517 => (some (t517, true))) else (some (false, false)))) = some (r1, r2) := h
 clear h
 replace H := Z37.mp H
 obtain ⟨t516, A20, H⟩ := H
 replace H : (if t516 = true then ((impl_Focus_isLast.f l0_0 l0_1 l0_2 l0_3).bind fun t517 => (some (t517, true))) else (some (false, false))) = some (r1, r2) := H
 have A2 := Ya A20
 clear A20
 by_cases c3 : t516 = true
 ·subst c3
  have H1 : ((impl_Focus_isLast.f l0_0 l0_1 l0_2 l0_3).bind fun t517 => (some (t517, true))) = some (r1, r2) := by rw [if_pos rfl] at H; exact H
  clear H
  have H := H1
  clear H1
  replace H := Z37.mp H
  obtain ⟨t517, A40, H⟩ := H
  replace H : (some (t517, true)) = some (r1, r2) := H
  have A4 := Ya A40
  clear A40
  simp only [Option.some.injEq, Prod.mk.injEq] at H
  obtain ⟨rfl, rfl⟩ := H
  go_enter Try.func22, Try.ntmps22
  go_wp2_with (first | ((with_reducible refine gate_dst (N := 1) rfl ?_); refine Yx 1 #[.slice A0_0 l0_0.length c0_0, .slice A0_1 l0_1.length c0_1, .slice A0_2 l0_2.length c0_2, .slice A0_3 l0_3.length c0_3] 33 ?_; intro gb515 hg w5 hbox hb; have BK515 := Ya hbox; have GE515 := Yg hg; replace HB := Yh hb; clear hb hbox hg; obtain ⟨hcz6_0, hcz6_1, hcz6_2, hcz6_3, hfz6_0, hfz6_1, hfz6_2, hfz6_3⟩ := Y4 BK515.out) | ((with_reducible refine gate_callee (f := 24) rfl ?_); refine Yz 5 Try.func24 #[.agg #[.slice A0_0 l0_0.length c0_0, .slice A0_1 l0_1.length c0_1, .slice A0_2 l0_2.length c0_2, .slice A0_3 l0_3.length c0_3]] ?_; (with_reducible refine (impl_IsFocus.calls k _ _ l0_0 _ _ l0_1 _ _ l0_2 _ _ l0_3 true _ (Yc (Z23 HR0_0.out HB.out)) HC0_0.out (Yc (Z23 HR0_1.out HB.out)) HC0_1.out (Yc (Z23 HR0_2.out HB.out)) HC0_2.out (Yc (Z23 HR0_3.out HB.out)) HC0_3.out A2.out).mono ?_); rintro e w7 ⟨rfl, hb⟩; refine ⟨_, rfl, ?_⟩; replace BK515 := Yb BK515 hb; replace HB := Yh hb; (try clear hb); obtain ⟨hcz8_0, hcz8_1, hcz8_2, hcz8_3, hfz8_0, hfz8_1, hfz8_2, hfz8_3⟩ := Y4 BK515.out) | ((with_reducible refine gate_callee (f := 51) rfl ?_); refine Yz 8 Try.func51 #[.agg #[.slice A0_0 l0_0.length c0_0, .slice A0_1 l0_1.length c0_1, .slice A0_2 l0_2.length c0_2, .slice A0_3 l0_3.length c0_3]] ?_; (with_reducible refine (impl_Focus_isLast.calls _ _ l0_0 _ _ l0_1 _ _ l0_2 _ _ l0_3 t517 _ (Yc (Z23 HR0_0.out HB.out)) HC0_0.out (Yc (Z23 HR0_1.out HB.out)) HC0_1.out (Yc (Z23 HR0_2.out HB.out)) HC0_2.out (Yc (Z23 HR0_3.out HB.out)) HC0_3.out A4.out).mono ?_); rintro e w9 ⟨rfl, hb⟩; refine ⟨_, rfl, ?_⟩; replace BK515 := Yb BK515 hb; replace HB := Yh hb; (try clear hb)))
  go_ret2
  exact ⟨Q1, Q12⟩
 ·replace c3 := Bool.eq_false_iff.mpr c3
  subst c3
  have H1 : (some (false, false)) = some (r1, r2) := by rw [if_neg (show ¬ (false = true) by decide)] at H; exact H
  clear H
  have H := H1
  clear H1
  simp only [Option.some.injEq, Prod.mk.injEq] at H
  obtain ⟨rfl, rfl⟩ := H
  go_enter Try.func22, Try.ntmps22
  go_wp2_with (first | ((with_reducible refine gate_dst (N := 1) rfl ?_); refine Yx 1 #[.slice A0_0 l0_0.length c0_0, .slice A0_1 l0_1.length c0_1, .slice A0_2 l0_2.length c0_2, .slice A0_3 l0_3.length c0_3] 33 ?_; intro gb515 hg w10 hbox hb; have BK515 := Ya hbox; have GE515 := Yg hg; replace HB := Yh hb; clear hb hbox hg; obtain ⟨hcz11_0, hcz11_1, hcz11_2, hcz11_3, hfz11_0, hfz11_1, hfz11_2, hfz11_3⟩ := Y4 BK515.out) | ((with_reducible refine gate_callee (f := 24) rfl ?_); refine Yz 5 Try.func24 #[.agg #[.slice A0_0 l0_0.length c0_0, .slice A0_1 l0_1.length c0_1, .slice A0_2 l0_2.length c0_2, .slice A0_3 l0_3.length c0_3]] ?_; (with_reducible refine (impl_IsFocus.calls k _ _ l0_0 _ _ l0_1 _ _ l0_2 _ _ l0_3 false _ (Yc (Z23 HR0_0.out HB.out)) HC0_0.out (Yc (Z23 HR0_1.out HB.out)) HC0_1.out (Yc (Z23 HR0_2.out HB.out)) HC0_2.out (Yc (Z23 HR0_3.out HB.out)) HC0_3.out A2.out).mono ?_); rintro e w12 ⟨rfl, hb⟩; refine ⟨_, rfl, ?_⟩; replace BK515 := Yb BK515 hb; replace HB := Yh hb; (try clear hb)))
  go_ret2
  exact ⟨Q1, Q12⟩
def spec_IsLastFocus.f (k : Nat) (l0_0 : List Int) (l0_1 : List Int) (l0_2 : List Bool) (l0_3 : List Int) : Option (Bool × Bool) := (spec_foGood.f k l0_0 l0_1 l0_2 l0_3).bind fun t519 => (if t519 = true then ((spec_foStep.f l0_0 l0_1 l0_2 l0_3).bind fun bt520 => (some (decide (bt520.2.2.2.2 < 0), true))) else (some (false, false)))
theorem spec_IsLastFocus.mono : ∀ a0 a1 a2 a3 k, LeO (spec_IsLastFocus.f k a0 a1 a2 a3) (spec_IsLastFocus.f (k + 1) a0 a1 a2 a3) := by
 intro a0 a1 a2 a3 k
 unfold spec_IsLastFocus.f
 repeat' first
   | (with_reducible exact spec_foGood.mono _ _ _ _ _)
   | (with_reducible exact LeO.refl _)
   | (with_reducible exact LeO.none _)
   | (with_reducible refine LeO.ite ?_ ?_)
   | (with_reducible refine LeO.bind ?_ (fun _ => ?_))
   | exact spec_foGood.mono _ _ _ _ _
   | exact LeO.none _
   | refine LeO.ite ?_ ?_
   | refine LeO.bind ?_ (fun _ => ?_)
set_option maxHeartbeats 8000000 in
set_option maxRecDepth 100000 in
theorem spec_IsLastFocus.calls (k : Nat) (A0_0 : Option Addr) (c0_0 : Nat) (l0_0 : List Int) (A0_1 : Option Addr) (c0_1 : Nat) (l0_1 : List Int) (A0_2 : Option Addr) (c0_2 : Nat) (l0_2 : List Bool) (A0_3 : Option Addr) (c0_3 : Nat) (l0_3 : List Int) (r1 : Bool) (r2 : Bool) (w : World) (hr0_0 : Kd.C (Kd.int .i64) w A0_0 l0_0.length l0_0) (hc0_0 : l0_0.length ≤ c0_0) (hr0_1 : Kd.C (Kd.int .i64) w A0_1 l0_1.length l0_1) (hc0_1 : l0_1.length ≤ c0_1) (hr0_2 : Kd.C Kd.bool w A0_2 l0_2.length l0_2) (hc0_2 : l0_2.length ≤ c0_2) (hr0_3 : Kd.C (Kd.int .i64) w A0_3 l0_3.length l0_3) (hc0_3 : l0_3.length ≤ c0_3) (h : spec_IsLastFocus.f k l0_0 l0_1 l0_2 l0_3 = some (r1, r2)) :
  Calls Try.prog 23 #[.agg #[.slice A0_0 l0_0.length c0_0, .slice A0_1 l0_1.length c0_1, .slice A0_2 l0_2.length c0_2, .slice A0_3 l0_3.length c0_3]] w fun e w' => e = .returned (.tuple #[.bool r1, .bool r2]) ∧ Below w.heap.size w w' := by
 have hu33 := Try.underlying33
 have HR0_0 := Ya hr0_0
 have HC0_0 := Ya hc0_0
 clear hr0_0 hc0_0
 have HR0_1 := Ya hr0_1
 have HC0_1 := Ya hc0_1
 clear hr0_1 hc0_1
 have HR0_2 := Ya hr0_2
 have HC0_2 := Ya hc0_2
 clear hr0_2 hc0_2
 have HR0_3 := Ya hr0_3
 have HC0_3 := Ya hc0_3
 clear hr0_3 hc0_3
 have HB := Ya (Below.refl w.heap.size w)
 have H : ((spec_foGood.f k l0_0 l0_1 l0_2 l0_3).bind fun t519 => (if t519 = true then ((spec_foStep.f l0_0 l0_1 l0_2 l0_3).bind fun bt520 => (some (decide (bt520.2.2.2.2 < 0), true))) else (some (false, false)))) = some (r1, r2) := h
 clear h
 replace H := Z37.mp H
 obtain ⟨t519, A20, H⟩ := H
 replace H : (if t519 = true then ((spec_foStep.f l0_0 l0_1 l0_2 l0_3).bind fun bt520 => (some (decide (bt520.2.2.2.2 < 0), true))) else (some (false, false))) = some (r1, r2) := H
 have A2 := Ya A20
 clear A20
 by_cases c3 : t519 = true
 ·subst c3
  have H1 : ((spec_foStep.f l0_0 l0_1 l0_2 l0_3).bind fun bt520 => (some (decide (bt520.2.2.2.2 < 0), true))) = some (r1, r2) := by rw [if_pos rfl] at H; exact H
  clear H
  have H := H1
  clear H1
  replace H := Z37.mp H
  obtain ⟨⟨t520, t523, t526, t529, t532⟩, A40, H⟩ := H
  replace H : (some (decide (t532 < 0), true)) = some (r1, r2) := H
  have A4 := Ya A40
  clear A40
  simp only [Option.some.injEq, Prod.mk.injEq] at H
  obtain ⟨rfl, rfl⟩ := H
  go_enter Try.func23, Try.ntmps23
  go_wp2_with (first | ((with_reducible refine gate_dst (N := 1) rfl ?_); refine Yx 1 #[.slice A0_0 l0_0.length c0_0, .slice A0_1 l0_1.length c0_1, .slice A0_2 l0_2.length c0_2, .slice A0_3 l0_3.length c0_3] 33 ?_; intro gb518 hg w5 hbox hb; have BK518 := Ya hbox; have GE518 := Yg hg; replace HB := Yh hb; clear hb hbox hg; obtain ⟨hcz6_0, hcz6_1, hcz6_2, hcz6_3, hfz6_0, hfz6_1, hfz6_2, hfz6_3⟩ := Y4 BK518.out) | ((with_reducible refine gate_callee (f := 49) rfl ?_); refine Yz 7 Try.func49 #[.agg #[.slice A0_0 l0_0.length c0_0, .slice A0_1 l0_1.length c0_1, .slice A0_2 l0_2.length c0_2, .slice A0_3 l0_3.length c0_3]] ?_; (with_reducible refine (spec_foGood.calls k _ _ l0_0 _ _ l0_1 _ _ l0_2 _ _ l0_3 true _ (Yc (Z23 HR0_0.out HB.out)) HC0_0.out (Yc (Z23 HR0_1.out HB.out)) HC0_1.out (Yc (Z23 HR0_2.out HB.out)) HC0_2.out (Yc (Z23 HR0_3.out HB.out)) HC0_3.out A2.out).mono ?_); rintro e w7 ⟨rfl, hb⟩; refine ⟨_, rfl, ?_⟩; replace BK518 := Yb BK518 hb; replace HB := Yh hb; (try clear hb); obtain ⟨hcz8_0, hcz8_1, hcz8_2, hcz8_3, hfz8_0, hfz8_1, hfz8_2, hfz8_3⟩ := Y4 BK518.out) | ((with_reducible refine gate_callee (f := 50) rfl ?_); refine Yz 11 Try.func50 #[.agg #[.slice A0_0 l0_0.length c0_0, .slice A0_1 l0_1.length c0_1, .slice A0_2 l0_2.length c0_2, .slice A0_3 l0_3.length c0_3]] ?_; (with_reducible refine (spec_foStep.calls _ _ l0_0 _ _ l0_1 _ _ l0_2 _ _ l0_3 t520 t523 t526 t529 t532 _ (Yc (Z23 HR0_0.out HB.out)) HC0_0.out (Yc (Z23 HR0_1.out HB.out)) HC0_1.out (Yc (Z23 HR0_2.out HB.out)) HC0_2.out (Yc (Z23 HR0_3.out HB.out)) HC0_3.out A4.out).mono ?_); rintro e w9 ⟨v521, v524, v527, v530, rfl, ho0, ho1, ho2, ho3, hb⟩; refine ⟨_, rfl, ?_⟩; have HO522 := Yl ho0; have HO525 := Yl ho1; have HO528 := Yl ho2; have HO531 := Yl ho3; replace BK518 := Yb BK518 hb; replace HB := Yh hb; (try clear hb ho0 ho1 ho2 ho3)) | ((with_reducible refine gate_dst (N := 4) rfl ?_); refine Yx 4 YN4 33 ?_; intro gb533 hg w10 hbox hb; replace HO522 := Yw HO522 hb; replace HO525 := Yw HO525 hb; replace HO528 := Yw HO528 hb; replace HO531 := Yw HO531 hb; have BK533 := Ya hbox; have GE533 := Yg hg; replace HB := Yh hb; have NB518_533 := Yn BK518 hg; have NB533_518 := Ym BK518 hg; replace BK518 := Yb BK518 hb; clear hb hbox hg; obtain ⟨Ao11, co11, rfl⟩ := Z19 HO522.out; have hnb12 := NB533_518.out; have hnc12 := NB518_533.out; have hz13 := Y4 BK533.out; obtain ⟨Ao14, co14, rfl⟩ := Z19 HO525.out; obtain ⟨Ao15, co15, rfl⟩ := Z19 HO528.out; obtain ⟨Ao16, co16, rfl⟩ := Z19 HO531.out))
  go_ret2
  exact ⟨Q1, Q12⟩
 ·replace c3 := Bool.eq_false_iff.mpr c3
  subst c3
  have H1 : (some (false, false)) = some (r1, r2) := by rw [if_neg (show ¬ (false = true) by decide)] at H; exact H
  clear H
  have H := H1
  clear H1
  simp only [Option.some.injEq, Prod.mk.injEq] at H
  obtain ⟨rfl, rfl⟩ := H
  go_enter Try.func23, Try.ntmps23
  go_wp2_with (first | ((with_reducible refine gate_dst (N := 1) rfl ?_); refine Yx 1 #[.slice A0_0 l0_0.length c0_0, .slice A0_1 l0_1.length c0_1, .slice A0_2 l0_2.length c0_2, .slice A0_3 l0_3.length c0_3] 33 ?_; intro gb518 hg w17 hbox hb; have BK518 := Ya hbox; have GE518 := Yg hg; replace HB := Yh hb; clear hb hbox hg; have hz18 := Y4 BK518.out) | ((with_reducible refine gate_callee (f := 49) rfl ?_); refine Yz 7 Try.func49 #[.agg #[.slice A0_0 l0_0.length c0_0, .slice A0_1 l0_1.length c0_1, .slice A0_2 l0_2.length c0_2, .slice A0_3 l0_3.length c0_3]] ?_; (with_reducible refine (spec_foGood.calls k _ _ l0_0 _ _ l0_1 _ _ l0_2 _ _ l0_3 false _ (Yc (Z23 HR0_0.out HB.out)) HC0_0.out (Yc (Z23 HR0_1.out HB.out)) HC0_1.out (Yc (Z23 HR0_2.out HB.out)) HC0_2.out (Yc (Z23 HR0_3.out HB.out)) HC0_3.out A2.out).mono ?_); rintro e w19 ⟨rfl, hb⟩; refine ⟨_, rfl, ?_⟩; replace BK518 := Yb BK518 hb; replace HB := Yh hb; (try clear hb)))
  go_ret2
  exact ⟨Q1, Q12⟩
def impl_MixedRank.f (k : Nat) (l0 : List Int) (l1 : List Int) : Option (Int × Bool) := (impl_areBases.f k l0).bind fun t534 => (if t534 = true then ((impl_areDigits.f k l0 l1).bind fun t535 => (if t535 = true then ((impl_mixedRank.f k l0 l1).bind fun t536 => (some (t536, true))) else (some (0, false)))) else (some (0, false)))
theorem impl_MixedRank.mono : ∀ a0 a1 k, LeO (impl_MixedRank.f k a0 a1) (impl_MixedRank.f (k + 1) a0 a1) := by
 intro a0 a1 k
 unfold impl_MixedRank.f
 repeat' first
   | (with_reducible exact impl_areBases.mono _ _)
   | (with_reducible exact impl_areDigits.mono _ _ _)
   | (with_reducible exact impl_mixedRank.mono _ _ _)
   | (with_reducible exact LeO.refl _)
   | (with_reducible exact LeO.none _)
   | (with_reducible refine LeO.ite ?_ ?_)
   | (with_reducible refine LeO.bind ?_ (fun _ => ?_))
   | exact impl_areBases.mono _ _
   | exact impl_areDigits.mono _ _ _
   | exact impl_mixedRank.mono _ _ _
   | exact LeO.none _
   | refine LeO.ite ?_ ?_
   | refine LeO.bind ?_ (fun _ => ?_)
set_option maxHeartbeats 8000000 in
set_option maxRecDepth 100000 in
theorem impl_MixedRank.calls (k : Nat) (A0 : Option Addr) (c0 : Nat) (l0 : List Int) (A1 : Option Addr) (c1 : Nat) (l1 : List Int) (r1 : Int) (r2 : Bool) (w : World) (hr0 : Kd.C (Kd.int .i64) w A0 l0.length l0) (hc0 : l0.length ≤ c0) (hr1 : Kd.C (Kd.int .i64) w A1 l1.length l1) (hc1 : l1.length ≤ c1) (h : impl_MixedRank.f k l0 l1 = some (r1, r2)) :
  Calls Try.prog 25 #[.slice A0 l0.length c0, .slice A1 l1.length c1] w fun e w' => e = .returned (.tuple #[.int .i64 r1, .bool r2]) ∧ Below w.heap.size w w' := by
 have HR0 := Ya hr0
 have HC0 := Ya hc0
 clear hr0 hc0
 have HR1 := Ya hr1
 have HC1 := Ya hc1
 clear hr1 hc1
 have HB := Ya (Below.refl w.heap.size w)
 have H : ((impl_areBases.f k l0).bind fun t534 => (if t534 = true then ((impl_areDigits.f k l0 l1).bind fun t535 => (if t535 = true then ((impl_mixedRank.f k l0 l1).bind fun t536 => (some (t536, true))) else (some (0, false)))) else (some (0, false)))) = some (r1, r2) := h
 clear h
 replace H := Z37.mp H
 obtain ⟨t534, A30, H⟩ := H
 replace H : (if t534 = true then ((impl_areDigits.f k l0 l1).bind fun t535 => (if t535 = true then ((impl_mixedRank.f k l0 l1).bind fun t536 => (some (t536, true))) else (some (0, false)))) else (some (0, false))) = some (r1, r2) := H
 have A3 := Ya A30
 clear A30
 by_cases c4 : t534 = true
 ·subst c4
  have H1 : ((impl_areDigits.f k l0 l1).bind fun t535 => (if t535 = true then ((impl_mixedRank.f k l0 l1).bind fun t536 => (some (t536, true))) else (some (0, false)))) = some (r1, r2) := by rw [if_pos rfl] at H; exact H
  clear H
  have H := H1
  clear H1
  replace H := Z37.mp H
  obtain ⟨t535, A50, H⟩ := H
  replace H : (if t535 = true then ((impl_mixedRank.f k l0 l1).bind fun t536 => (some (t536, true))) else (some (0, false))) = some (r1, r2) := H
  have A5 := Ya A50
  clear A50
  by_cases c6 : t535 = true
  ·subst c6
   have H1 : ((impl_mixedRank.f k l0 l1).bind fun t536 => (some (t536, true))) = some (r1, r2) := by rw [if_pos rfl] at H; exact H
   clear H
   have H := H1
   clear H1
   replace H := Z37.mp H
   obtain ⟨t536, A70, H⟩ := H
   replace H : (some (t536, true)) = some (r1, r2) := H
   have A7 := Ya A70
   clear A70
   simp only [Option.some.injEq, Prod.mk.injEq] at H
   obtain ⟨rfl, rfl⟩ := H
   go_enter Try.func25, Try.ntmps25
   go_wp2_with (first | ((with_reducible refine gate_callee (f := 45) rfl ?_); refine Yz 7 Try.func45 #[.slice A0 l0.length c0] ?_; (with_reducible refine (impl_areBases.calls k _ _ l0 true _ (Yc HR0.out) HC0.out A3.out).mono ?_); rintro e w8 ⟨rfl, hb⟩; refine ⟨_, rfl, ?_⟩; replace HB := Yh hb; (try clear hb)) | (go_at_call 52; (with_reducible refine (impl_areDigits.calls k _ _ l0 _ _ l1 true _ (Yc (Z23 HR0.out HB.out)) HC0.out (Yc (Z23 HR1.out HB.out)) HC1.out A5.out).mono ?_); rintro e w' ⟨rfl, ⟨nd, rfl⟩⟩) | ((with_reducible refine gate_callee (f := 47) rfl ?_); refine Yz 17 Try.func47 #[.slice A0 l0.length c0, .slice A1 l1.length c1] ?_; (with_reducible refine (impl_mixedRank.calls k _ _ l0 _ _ l1 t536 _ ?side1 HC0.out ?side3 HC1.out A7.out).mono ?_); (case side1 => exact Yc (Z23 HR0.out Q0)); (case side3 => exact Yc (Z23 HR1.out Q0)); rintro e w9 ⟨rfl, hb⟩; refine ⟨_, rfl, ?_⟩; replace HB := Yh hb; (try clear hb)))
   go_ret2
   exact ⟨Q1, Q12⟩
  ·replace c6 := Bool.eq_false_iff.mpr c6
   subst c6
   have H1 : (some (0, false)) = some (r1, r2) := by rw [if_neg (show ¬ (false = true) by decide)] at H; exact H
   clear H
   have H := H1
   clear H1
   simp only [Option.some.injEq, Prod.mk.injEq] at H
   obtain ⟨rfl, rfl⟩ := H
   go_enter Try.func25, Try.ntmps25
   go_wp2_with (first | ((with_reducible refine gate_callee (f := 45) rfl ?_); refine Yz 7 Try.func45 #[.slice A0 l0.length c0] ?_; (with_reducible refine (impl_areBases.calls k _ _ l0 true _ (Yc HR0.out) HC0.out A3.out).mono ?_); rintro e w10 ⟨rfl, hb⟩; refine ⟨_, rfl, ?_⟩; replace HB := Yh hb; (try clear hb)) | (go_at_call 52; (with_reducible refine (impl_areDigits.calls k _ _ l0 _ _ l1 false _ (Yc (Z23 HR0.out HB.out)) HC0.out (Yc (Z23 HR1.out HB.out)) HC1.out A5.out).mono ?_); rintro e w' ⟨rfl, ⟨nd, rfl⟩⟩))
   go_ret2
   exact ⟨Q1, Q12⟩
 ·replace c4 := Bool.eq_false_iff.mpr c4
  subst c4
  have H1 : (some (0, false)) = some (r1, r2) := by rw [if_neg (show ¬ (false = true) by decide)] at H; exact H
  clear H
  have H := H1
  clear H1
  simp only [Option.some.injEq, Prod.mk.injEq] at H
  obtain ⟨rfl, rfl⟩ := H
  go_enter Try.func25, Try.ntmps25
  go_wp2_with (first | ((with_reducible refine gate_callee (f := 45) rfl ?_); refine Yz 7 Try.func45 #[.slice A0 l0.length c0] ?_; (with_reducible refine (impl_areBases.calls k _ _ l0 false _ (Yc HR0.out) HC0.out A3.out).mono ?_); rintro e w11 ⟨rfl, hb⟩; refine ⟨_, rfl, ?_⟩; replace HB := Yh hb; (try clear hb)))
  go_ret2
  exact ⟨Q1, Q12⟩
def impl_mixedAt.l0 : Nat → List Int → Int → List Int → List Int → Int → Int → Option (List Int)
 | 0, _, _, _, _, _, _ => none
 | k + 1, x0, x1, x5, x11, x12, x13 => if x13 < x12 then (if 0 ≤ x13 then (if x13 < (x11.length : Int) then (if 0 ≤ (wrap64 (x13 + 1)) then (if (wrap64 (x13 + 1)) ≤ (x0.length : Int) then ((impl_size.f k (x0.drop ((wrap64 (x13 + 1)) : Int).toNat)).bind fun t542 => (if t542 = 0 then (none) else (if (Int.tmod (wrap64 (Int.tdiv x1 t542)) 2) = 1 then (if x5.length < 17592186044416 then (impl_mixedAt.l0 k x0 (wrap64 ((wrap64 (t542 - 1)) - (Int.tmod x1 t542))) (x5 ++ [mn (wrap64 (Int.tdiv x1 t542)) (wrap64 ((rd x11 x13) - 1))]) x11 x12 (wrap64 (x13 + 1))) else (none)) else (if x5.length < 17592186044416 then (impl_mixedAt.l0 k x0 (Int.tmod x1 t542) (x5 ++ [mn (wrap64 (Int.tdiv x1 t542)) (wrap64 ((rd x11 x13) - 1))]) x11 x12 (wrap64 (x13 + 1))) else (none))))) else (none)) else (none)) else (none)) else (none)) else (some x5)
def impl_mixedAt.f (k : Nat) (l0 : List Int) (a1 : Int) : Option (List Int) := impl_mixedAt.l0 k l0 a1 (([] : List Int)) l0 (l0.length : Int) 0
theorem impl_mixedAt.mono_l : ∀ k, (∀ y0 y1 y2 y3 y4 y5, LeO (impl_mixedAt.l0 k y0 y1 y2 y3 y4 y5) (impl_mixedAt.l0 (k + 1) y0 y1 y2 y3 y4 y5))
 | 0 => fun _ _ _ _ _ _ r h => by simp [impl_mixedAt.l0] at h
 | k + 1 => by
  have ih0 := impl_mixedAt.mono_l k
  ·intro y0 y1 y2 y3 y4 y5
   unfold impl_mixedAt.l0
   repeat' first
   | (with_reducible exact ih0 _ _ _ _ _ _)
   | (with_reducible exact impl_size.mono _ _)
   | (with_reducible exact LeO.refl _)
   | (with_reducible exact LeO.none _)
   | (with_reducible refine LeO.ite ?_ ?_)
   | (with_reducible refine LeO.bind ?_ (fun _ => ?_))
   | exact ih0 _ _ _ _ _ _
   | exact impl_size.mono _ _
   | exact LeO.none _
   | refine LeO.ite ?_ ?_
   | refine LeO.bind ?_ (fun _ => ?_)
theorem impl_mixedAt.mono : ∀ a0 a1 k, LeO (impl_mixedAt.f k a0 a1) (impl_mixedAt.f (k + 1) a0 a1) := by
 intro a0 a1 k
 have ih0 := impl_mixedAt.mono_l k
 unfold impl_mixedAt.f
 repeat' first
   | (with_reducible exact ih0 _ _ _ _ _ _)
   | (with_reducible exact impl_size.mono _ _)
   | (with_reducible exact LeO.refl _)
   | (with_reducible exact LeO.none _)
   | (with_reducible refine LeO.ite ?_ ?_)
   | (with_reducible refine LeO.bind ?_ (fun _ => ?_))
   | exact ih0 _ _ _ _ _ _
   | exact impl_size.mono _ _
   | exact LeO.none _
   | refine LeO.ite ?_ ?_
   | refine LeO.bind ?_ (fun _ => ?_)
set_option maxHeartbeats 8000000 in
set_option maxRecDepth 100000 in
theorem impl_mixedAt.calls (k : Nat) (A0 : Option Addr) (c0 : Nat) (l0 : List Int) (a1 : Int) (r : List Int) (w : World) (hr0 : Kd.C (Kd.int .i64) w A0 l0.length l0) (hc0 : l0.length ≤ c0) (h : impl_mixedAt.f k l0 a1 = some r) :
  Calls Try.prog 46 #[.slice A0 l0.length c0, .int .i64 a1] w fun e w' => ∃ v0_ : Value, e = .returned (v0_) ∧ Kd.R (Kd.int .i64) 3 w' w.heap.size (fun _ => True) v0_ r ∧ Below w.heap.size w w' := by
 have HR0 := Ya hr0
 have HC0 := Ya hc0
 clear hr0 hc0
 have HB := Ya (Below.refl w.heap.size w)
 have H : (impl_mixedAt.l0 k l0 a1 (([] : List Int)) l0 (l0.length : Int) 0) = some r := h
 clear h
 obtain ⟨y537, hy537⟩ : ∃ y_ : List Int, y_ = (([] : List Int)) := ⟨_, rfl⟩
 replace H : (impl_mixedAt.l0 k l0 a1 y537 l0 (l0.length : Int) 0) = some r := by first | (rw [hy537]; with_reducible exact H) | (have H2_ := (Option.bind_some _ _).symm.trans H; rw [hy537]; with_reducible exact H2_) | (have H2_ := (Option.bind_some _ _).symm.trans H; with_reducible exact H2_) | with_reducible exact H | (rw [hy537]; exact H) | exact H
 have Ny537 := Ya hy537
 clear hy537
 have H' := Ya H
 clear H
 go_enter Try.func46, Try.ntmps46
 go_wp2_with (first | ((with_reducible refine gate_dst (N := 10) rfl ?_); refine Kd.R_lit (Kd.int .i64) _ 3 ?hg (N := 10) ?hd (xs := ([] : List Int)) (inner := []) (ok := fun _ => True) (okp := fun _ => True) ?hr ?hp (fun _ hk => hk) trivial (Below.refl _ _) (Nat.le_refl _) (by simp) ?_; (case hd => rfl); (case hg => rfl); (case hr => first | (go_simp; done) | (go_simp; rfl)); (case hp => exact (Reps.none _ _)); intro v538 w3 ho4 hb hg_ hnew_; clear hg_ hnew_; (first | rw [← Ny537.out] at ho4 | (simp only [Int.reduceToNat] at ho4; rw [← Ny537.out] at ho4)); have HO539 := Yl ho4; replace HB := Yh hb; clear hb ho4))
 go_loopg [1, 5, 13] k (fun kq v1 v5 v13 w' => ∃ (x1_1 : Int) (x5_1 : List Int) (x13_1 : Int), v1 = .int .i64 x1_1 ∧ v13 = .int .i64 x13_1 ∧ Aside0 (impl_mixedAt.l0 kq l0 x1_1 x5_1 l0 (l0.length : Int) x13_1 = some r) ∧ Aside0 (kq ≤ k) ∧ Aside0 (Kd.R (Kd.int .i64) 3 w' w.heap.size (fun _ => True) v5 x5_1) ∧ Aside0 (Below w.heap.size w w'))
 case atStart => exact ⟨(a1), (y537), (0), Q9, Q9, H', ⟨Nat.le_refl _⟩, ⟨by (with_reducible repeat (first | apply Z9 | apply Z10 | apply Z11)); exact HO539.out⟩, ⟨Q12⟩⟩
 case round =>
  clear H'
  try clear p2
  try clear c4
  obtain ⟨x1_1, x5_1, x13_1, rfl, rfl, HA, HK1, HO_5, HB⟩ := hrel
  cases gk with
  | zero => exact absurd HA.out (by simp [impl_mixedAt.l0])
  | succ k1 =>
   have H := HA.out
   clear HA
   simp only [impl_mixedAt.l0] at H
   by_cases c5 : x13_1 < (l0.length : Int)
   ·rw [if_pos c5] at H
    have c5b0 := Z39 c5
    clear c5
    by_cases c6 : 0 ≤ x13_1
    ·rw [if_pos c6] at H
     have c6b0 := Z39 c6
     clear c6
     by_cases c7 : x13_1 < (l0.length : Int)
     ·rw [if_pos c7] at H
      have c7b0 := Z39 c7
      clear c7
      obtain ⟨ji8, hji8⟩ : ∃ j_ : Int, (wrap64 (x13_1 + 1)) = j_ := ⟨_, rfl⟩
      replace H : (if 0 ≤ (ji8) then (if (ji8) ≤ (l0.length : Int) then ((impl_size.f k1 (l0.drop ((ji8) : Int).toNat)).bind fun t542 => (if t542 = 0 then (none) else (if (Int.tmod (wrap64 (Int.tdiv x1_1 t542)) 2) = 1 then (if x5_1.length < 17592186044416 then (impl_mixedAt.l0 k1 l0 (wrap64 ((wrap64 (t542 - 1)) - (Int.tmod x1_1 t542))) (x5_1 ++ [mn (wrap64 (Int.tdiv x1_1 t542)) (wrap64 ((rd l0 x13_1) - 1))]) l0 (l0.length : Int) ji8) else (none)) else (if x5_1.length < 17592186044416 then (impl_mixedAt.l0 k1 l0 (Int.tmod x1_1 t542) (x5_1 ++ [mn (wrap64 (Int.tdiv x1_1 t542)) (wrap64 ((rd l0 x13_1) - 1))]) l0 (l0.length : Int) ji8) else (none))))) else (none)) else (none)) = some r := by first | (rw [hji8] at H; exact H) | (simp only [hji8] at H ⊢; exact H)
      have hji8w : (IntKind.i64.wrap (x13_1 + 1)) = ji8 := (i64_w _).trans hji8
      by_cases c9 : 0 ≤ (ji8)
      ·rw [if_pos c9] at H
       have c9b0 := eq_true c9
       have c9b1 := Z39 c9
       clear c9
       by_cases c10 : (ji8) ≤ (l0.length : Int)
       ·rw [if_pos c10] at H
        have c10b0 := eq_true c10
        have c10b1 := Z39 c10
        clear c10
        replace H := Z37.mp H
        obtain ⟨t542, A110, H⟩ := H
        replace H : (if t542 = 0 then (none) else (if (Int.tmod (wrap64 (Int.tdiv x1_1 t542)) 2) = 1 then (if x5_1.length < 17592186044416 then (impl_mixedAt.l0 k1 l0 (wrap64 ((wrap64 (t542 - 1)) - (Int.tmod x1_1 t542))) (x5_1 ++ [mn (wrap64 (Int.tdiv x1_1 t542)) (wrap64 ((rd l0 x13_1) - 1))]) l0 (l0.length : Int) ji8) else (none)) else (if x5_1.length < 17592186044416 then (impl_mixedAt.l0 k1 l0 (Int.tmod x1_1 t542) (x5_1 ++ [mn (wrap64 (Int.tdiv x1_1 t542)) (wrap64 ((rd l0 x13_1) - 1))]) l0 (l0.length : Int) ji8) else (none)))) = some r := H
        have A11 := Ya A110
        clear A110
        by_cases c12 : t542 = 0
        ·rw [if_pos c12] at H
         exact absurd H (by simp)
        ·rw [if_neg c12] at H
         have c12b0 : (t542 == 0) = false := beq_eq_false_iff_ne.mpr c12
         have c12b1 : (t542 != 0) = true := bne_iff_ne.mpr c12
         by_cases c13 : (Int.tmod (wrap64 (Int.tdiv x1_1 t542)) 2) = 1
         ·rw [if_pos c13] at H
          have c13b0 : ((Int.tmod (wrap64 (Int.tdiv x1_1 t542)) 2) == 1) = true := beq_iff_eq.mpr c13
          have c13b1 : ((Int.tmod (wrap64 (Int.tdiv x1_1 t542)) 2) != 1) = false := bne_eq_false_iff_eq.mpr c13
          clear c13
          obtain ⟨ji14, hji14⟩ : ∃ j_ : Int, (mn (wrap64 (Int.tdiv x1_1 t542)) (wrap64 ((rd l0 x13_1) - 1))) = j_ := ⟨_, rfl⟩
          replace H : (if x5_1.length < 17592186044416 then (impl_mixedAt.l0 k1 l0 (wrap64 ((wrap64 (t542 - 1)) - (Int.tmod x1_1 t542))) (x5_1 ++ [ji14]) l0 (l0.length : Int) ji8) else (none)) = some r := by first | (rw [hji14] at H; exact H) | (simp only [hji14] at H ⊢; exact H)
          (try rw [hji14] at A11)
          have hji14_ : (if (wrap64 ((rd l0 x13_1) - 1)) < (wrap64 (Int.tdiv x1_1 t542)) then (wrap64 ((rd l0 x13_1) - 1)) else (wrap64 (Int.tdiv x1_1 t542))) = ji14 := hji14
          by_cases c15 : x5_1.length < 17592186044416
          ·rw [if_pos c15] at H
           have LMc15 := Ya c15
           clear c15
           obtain ⟨y543, hy543⟩ : ∃ y_ : List Int, y_ = (x5_1 ++ [ji14]) := ⟨_, rfl⟩
           replace H : (impl_mixedAt.l0 k1 l0 (wrap64 ((wrap64 (t542 - 1)) - (Int.tmod x1_1 t542))) y543 l0 (l0.length : Int) ji8) = some r := by first | (rw [hy543]; with_reducible exact H) | (have H2_ := (Option.bind_some _ _).symm.trans H; rw [hy543]; with_reducible exact H2_) | (have H2_ := (Option.bind_some _ _).symm.trans H; with_reducible exact H2_) | with_reducible exact H | (rw [hy543]; exact H) | exact H
           have Ny543 := Ya hy543
           clear hy543
           have H' := Ya H
           clear H
           have p540 : 0 ≤ (x13_1 : Int) := Z31 Q2
           have q540 : x13_1 < (l0.length : Int) := Z31 Q2
           obtain ⟨ad540, e540, hx540_0⟩ := Kd.at_int HR0.out x13_1 p540 q540
           cases e540
           try replace hx540_0 := (HB.out.cell (World.block_lt_of_cell? w _ hx540_0)).trans hx540_0
           replace p540 := eq_true p540
           replace q540 := eq_true q540
           obtain ⟨i016, hi016, _, hsz16, _⟩ := info_parts info3
           obtain ⟨A16, hcut16, hA16, hC16⟩ := print_drop_of (P := Try.prog) (Value.int .i64) 0 24 3 .i64 Try.underlying24 hi016 hsz16 (some ad540) c0 l0 (ji8) (Z31 Q2) (Z31 Q2) HC0.out
           have HR541 := Ya (Kd.C_of_reads (h1 := fun _ => rfl) (hA16 _ (Kd.reads_of_C HR0.out)))
           have HC541 := Ya hC16
           clear hA16 hC16 hi016 hsz16
           go_wp2_with (first | ((with_reducible refine gate_callee (f := 41) rfl ?_); refine Yz 22 Try.func41 #[.slice A16 (l0.drop ((ji8) : Int).toNat).length (c0 - (ji8).toNat)] ?_ (hargs := Q67); (with_reducible refine (impl_size.calls k1 _ _ (l0.drop ((ji8) : Int).toNat) t542 _ ?side1 ?side2 A11.out).mono ?_); (case side1 => exact Yc (Z23 HR541.out HB.out)); (case side2 => exact HC541.out); rintro e w17 ⟨rfl, hb⟩; refine ⟨_, rfl, ?_⟩; replace HO_5 := Yw HO_5 hb; replace HB := Yh hb; (try clear hb)) | ((with_reducible refine gate_builtin (b := .append) (xs := #[.tmp 36, .tmp 41]) rfl ?_); at_builtin; refine Kd.R_append (Kd.int .i64) (w0 := w) w.heap.size rfl (.tmp 36) (.tmp 41) 24 3 (.int .i64 0) 8 rfl Try.underlying24 info3 rfl (by decide) (by omega) u5 x5_1 ji14 [.int .i64 ji14] (fun _ => True) (fun _ => False) rfl rfl ?aP (fun _ hk => hk.elim) ?aF ?aO ?aB ?aS ?aL ?_; (case aP => exact rfl); (case aB => exact Q0); (case aF => exact (fun _ _ => trivial)); (case aO => exact (Yr HO_5.out)); (case aS => exact (Z7 Q0)); (case aL => have := LMc15.out; omega); intro v544 w18 ho hb hg hat; rw [← Ny543.out] at ho; replace HB := Ya hb; have HO545 := Ya ho; clear HO_5; clear ho hb hg hat))
           go_roundg k1
           case measure => have := HK1.out; omega
           case rel => exact ⟨(wrap64 ((wrap64 (t542 - 1)) - (Int.tmod x1_1 t542))), (y543), (ji8), Q9, (by first | rfl | (simp; done) | (simp only [← hji8] <;> (first | rfl | simp)) | (simp [*]; done)), H', ⟨Q45⟩, ⟨by (with_reducible repeat (first | apply Z9 | apply Z10 | apply Z11)); exact HO545.out⟩, ⟨Q12⟩⟩
          ·rw [if_neg c15] at H
           exact absurd H (by simp)
         ·rw [if_neg c13] at H
          have c13b0 : ((Int.tmod (wrap64 (Int.tdiv x1_1 t542)) 2) == 1) = false := beq_eq_false_iff_ne.mpr c13
          have c13b1 : ((Int.tmod (wrap64 (Int.tdiv x1_1 t542)) 2) != 1) = true := bne_iff_ne.mpr c13
          obtain ⟨ji19, hji19⟩ : ∃ j_ : Int, (mn (wrap64 (Int.tdiv x1_1 t542)) (wrap64 ((rd l0 x13_1) - 1))) = j_ := ⟨_, rfl⟩
          replace H : (if x5_1.length < 17592186044416 then (impl_mixedAt.l0 k1 l0 (Int.tmod x1_1 t542) (x5_1 ++ [ji19]) l0 (l0.length : Int) ji8) else (none)) = some r := by first | (rw [hji19] at H; exact H) | (simp only [hji19] at H ⊢; exact H)
          (try rw [hji19] at A11)
          have hji19_ : (if (wrap64 ((rd l0 x13_1) - 1)) < (wrap64 (Int.tdiv x1_1 t542)) then (wrap64 ((rd l0 x13_1) - 1)) else (wrap64 (Int.tdiv x1_1 t542))) = ji19 := hji19
          by_cases c20 : x5_1.length < 17592186044416
          ·rw [if_pos c20] at H
           have LMc20 := Ya c20
           clear c20
           obtain ⟨y546, hy546⟩ : ∃ y_ : List Int, y_ = (x5_1 ++ [ji19]) := ⟨_, rfl⟩
           replace H : (impl_mixedAt.l0 k1 l0 (Int.tmod x1_1 t542) y546 l0 (l0.length : Int) ji8) = some r := by first | (rw [hy546]; with_reducible exact H) | (have H2_ := (Option.bind_some _ _).symm.trans H; rw [hy546]; with_reducible exact H2_) | (have H2_ := (Option.bind_some _ _).symm.trans H; with_reducible exact H2_) | with_reducible exact H | (rw [hy546]; exact H) | exact H
           have Ny546 := Ya hy546
           clear hy546
           have H' := Ya H
           clear H
           have p540 : 0 ≤ (x13_1 : Int) := Z31 Q2
           have q540 : x13_1 < (l0.length : Int) := Z31 Q2
           obtain ⟨ad540, e540, hx540_0⟩ := Kd.at_int HR0.out x13_1 p540 q540
           cases e540
           try replace hx540_0 := (HB.out.cell (World.block_lt_of_cell? w _ hx540_0)).trans hx540_0
           replace p540 := eq_true p540
           replace q540 := eq_true q540
           obtain ⟨i021, hi021, _, hsz21, _⟩ := info_parts info3
           obtain ⟨A21, hcut21, hA21, hC21⟩ := print_drop_of (P := Try.prog) (Value.int .i64) 0 24 3 .i64 Try.underlying24 hi021 hsz21 (some ad540) c0 l0 (ji8) (Z31 Q2) (Z31 Q2) HC0.out
           have HR541 := Ya (Kd.C_of_reads (h1 := fun _ => rfl) (hA21 _ (Kd.reads_of_C HR0.out)))
           have HC541 := Ya hC21
           clear hA21 hC21 hi021 hsz21
           go_wp2_with (first | ((with_reducible refine gate_callee (f := 41) rfl ?_); refine Yz 22 Try.func41 #[.slice A21 (l0.drop ((ji8) : Int).toNat).length (c0 - (ji8).toNat)] ?_ (hargs := Q67); (with_reducible refine (impl_size.calls k1 _ _ (l0.drop ((ji8) : Int).toNat) t542 _ ?side1 ?side2 A11.out).mono ?_); (case side1 => exact Yc (Z23 HR541.out HB.out)); (case side2 => exact HC541.out); rintro e w22 ⟨rfl, hb⟩; refine ⟨_, rfl, ?_⟩; replace HO_5 := Yw HO_5 hb; replace HB := Yh hb; (try clear hb)) | ((with_reducible refine gate_builtin (b := .append) (xs := #[.tmp 36, .tmp 41]) rfl ?_); at_builtin; refine Kd.R_append (Kd.int .i64) (w0 := w) w.heap.size rfl (.tmp 36) (.tmp 41) 24 3 (.int .i64 0) 8 rfl Try.underlying24 info3 rfl (by decide) (by omega) u5 x5_1 ji19 [.int .i64 ji19] (fun _ => True) (fun _ => False) rfl rfl ?aP (fun _ hk => hk.elim) ?aF ?aO ?aB ?aS ?aL ?_; (case aP => exact rfl); (case aB => exact Q0); (case aF => exact (fun _ _ => trivial)); (case aO => exact (Yr HO_5.out)); (case aS => exact (Z7 Q0)); (case aL => have := LMc20.out; omega); intro v547 w23 ho hb hg hat; rw [← Ny546.out] at ho; replace HB := Ya hb; have HO548 := Ya ho; clear HO_5; clear ho hb hg hat))
           go_roundg k1
           case measure => have := HK1.out; omega
           case rel => exact ⟨(Int.tmod x1_1 t542), (y546), (ji8), Q9, (by first | rfl | (simp; done) | (simp only [← hji8] <;> (first | rfl | simp)) | (simp [*]; done)), H', ⟨Q45⟩, ⟨by (with_reducible repeat (first | apply Z9 | apply Z10 | apply Z11)); exact HO548.out⟩, ⟨Q12⟩⟩
          ·rw [if_neg c20] at H
           exact absurd H (by simp)
       ·rw [if_neg c10] at H
        exact absurd H (by simp)
      ·rw [if_neg c9] at H
       exact absurd H (by simp)
     ·rw [if_neg c7] at H
      exact absurd H (by simp)
    ·rw [if_neg c6] at H
     exact absurd H (by simp)
   ·rw [if_neg c5] at H
    have c5b0 := Z38 c5
    clear c5
    obtain rfl := Option.some.inj H
    go_wp2
    go_ret
    exact ⟨_, Q1, Q63, Q12⟩
mutual
def impl_NextMixed.j0 : Nat → List Int → List Int → Int → Bool → Option (List Int × Int × Bool)
 | 0, _, _, _, _ => none
 | k + 1, x0, x1, x7, x26 => if x26 = true then (some (([] : List Int), 0, false)) else ((impl_mixedAt.f k x0 (wrap64 (x7 + 1))).bind fun t552 => (impl_NextMixed.l0 k x1 t552 t552 (t552.length : Int) 0))
def impl_NextMixed.l0 : Nat → List Int → List Int → List Int → Int → Int → Option (List Int × Int × Bool)
 | 0, _, _, _, _, _ => none
 | k + 1, x1, x9, x31, x32, x33 => if x33 < x32 then (if 0 ≤ x33 then (if x33 < (x31.length : Int) then (if x33 < (x1.length : Int) then (if (rd x31 x33) = (rd x1 x33) then (impl_NextMixed.l0 k x1 x9 x31 x32 (wrap64 (x33 + 1))) else (some (x9, x33, true))) else (none)) else (none)) else (none)) else (some (([] : List Int), 0, false))
end
def impl_NextMixed.f (k : Nat) (l0 : List Int) (l1 : List Int) : Option (List Int × Int × Bool) := (impl_MixedRank.f k l0 l1).bind fun bt549 => (if bt549.2 = true then ((impl_size.f k l0).bind fun t551 => (impl_NextMixed.j0 k l0 l1 bt549.1 ((wrap64 (bt549.1 + 1)) == t551))) else (impl_NextMixed.j0 k l0 l1 bt549.1 true))
theorem impl_NextMixed.mono_l : ∀ k, (∀ y0 y1 y2 y3, LeO (impl_NextMixed.j0 k y0 y1 y2 y3) (impl_NextMixed.j0 (k + 1) y0 y1 y2 y3)) ∧ (∀ y0 y1 y2 y3 y4, LeO (impl_NextMixed.l0 k y0 y1 y2 y3 y4) (impl_NextMixed.l0 (k + 1) y0 y1 y2 y3 y4))
 | 0 => ⟨fun _ _ _ _ r h => by simp [impl_NextMixed.j0] at h, fun _ _ _ _ _ r h => by simp [impl_NextMixed.l0] at h⟩
 | k + 1 => by
  obtain ⟨ih0, ih1⟩ := impl_NextMixed.mono_l k
  refine ⟨?_, ?_⟩
  ·intro y0 y1 y2 y3
   unfold impl_NextMixed.j0
   repeat' first
   | (with_reducible exact ih0 _ _ _ _)
   | (with_reducible exact ih1 _ _ _ _ _)
   | (with_reducible exact impl_MixedRank.mono _ _ _)
   | (with_reducible exact impl_mixedAt.mono _ _ _)
   | (with_reducible exact impl_size.mono _ _)
   | (with_reducible exact LeO.refl _)
   | (with_reducible exact LeO.none _)
   | (with_reducible refine LeO.ite ?_ ?_)
   | (with_reducible refine LeO.bind ?_ (fun _ => ?_))
   | exact ih0 _ _ _ _
   | exact ih1 _ _ _ _ _
   | exact impl_MixedRank.mono _ _ _
   | exact impl_mixedAt.mono _ _ _
   | exact impl_size.mono _ _
   | exact LeO.none _
   | refine LeO.ite ?_ ?_
   | refine LeO.bind ?_ (fun _ => ?_)
  ·intro y0 y1 y2 y3 y4
   unfold impl_NextMixed.l0
   repeat' first
   | (with_reducible exact ih0 _ _ _ _)
   | (with_reducible exact ih1 _ _ _ _ _)
   | (with_reducible exact impl_MixedRank.mono _ _ _)
   | (with_reducible exact impl_mixedAt.mono _ _ _)
   | (with_reducible exact impl_size.mono _ _)
   | (with_reducible exact LeO.refl _)
   | (with_reducible exact LeO.none _)
   | (with_reducible refine LeO.ite ?_ ?_)
   | (with_reducible refine LeO.bind ?_ (fun _ => ?_))
   | exact ih0 _ _ _ _
   | exact ih1 _ _ _ _ _
   | exact impl_MixedRank.mono _ _ _
   | exact impl_mixedAt.mono _ _ _
   | exact impl_size.mono _ _
   | exact LeO.none _
   | refine LeO.ite ?_ ?_
   | refine LeO.bind ?_ (fun _ => ?_)
theorem impl_NextMixed.mono : ∀ a0 a1 k, LeO (impl_NextMixed.f k a0 a1) (impl_NextMixed.f (k + 1) a0 a1) := by
 intro a0 a1 k
 obtain ⟨ih0, ih1⟩ := impl_NextMixed.mono_l k
 unfold impl_NextMixed.f
 repeat' first
   | (with_reducible exact ih0 _ _ _ _)
   | (with_reducible exact ih1 _ _ _ _ _)
   | (with_reducible exact impl_MixedRank.mono _ _ _)
   | (with_reducible exact impl_mixedAt.mono _ _ _)
   | (with_reducible exact impl_size.mono _ _)
   | (with_reducible exact LeO.refl _)
   | (with_reducible exact LeO.none _)
   | (with_reducible refine LeO.ite ?_ ?_)
   | (with_reducible refine LeO.bind ?_ (fun _ => ?_))
   | exact ih0 _ _ _ _
   | exact ih1 _ _ _ _ _
   | exact impl_MixedRank.mono _ _ _
   | exact impl_mixedAt.mono _ _ _
   | exact impl_size.mono _ _
   | exact LeO.none _
   | refine LeO.ite ?_ ?_
   | refine LeO.bind ?_ (fun _ => ?_)
set_option maxHeartbeats 8000000 in
set_option maxRecDepth 100000 in
theorem impl_NextMixed.calls (k : Nat) (A0 : Option Addr) (c0 : Nat) (l0 : List Int) (A1 : Option Addr) (c1 : Nat) (l1 : List Int) (r1 : List Int) (r2 : Int) (r3 : Bool) (w : World) (hr0 : Kd.C (Kd.int .i64) w A0 l0.length l0) (hc0 : l0.length ≤ c0) (hr1 : Kd.C (Kd.int .i64) w A1 l1.length l1) (hc1 : l1.length ≤ c1) (h : impl_NextMixed.f k l0 l1 = some (r1, r2, r3)) :
  Calls Try.prog 26 #[.slice A0 l0.length c0, .slice A1 l1.length c1] w fun e w' => ∃ v0_ : Value, e = .returned (.tuple #[v0_, .int .i64 r2, .bool r3]) ∧ Kd.R (Kd.int .i64) 3 w' w.heap.size (fun _ => True) v0_ r1 ∧ Below w.heap.size w w' := by
 have HR0 := Ya hr0
 have HC0 := Ya hc0
 clear hr0 hc0
 have HR1 := Ya hr1
 have HC1 := Ya hc1
 clear hr1 hc1
 have HB := Ya (Below.refl w.heap.size w)
 have H : ((impl_MixedRank.f k l0 l1).bind fun bt549 => (if bt549.2 = true then ((impl_size.f k l0).bind fun t551 => (impl_NextMixed.j0 k l0 l1 bt549.1 ((wrap64 (bt549.1 + 1)) == t551))) else (impl_NextMixed.j0 k l0 l1 bt549.1 true))) = some (r1, r2, r3) := h
 clear h
 replace H := Z37.mp H
 obtain ⟨⟨t549, t550⟩, A30, H⟩ := H
 replace H : (if t550 = true then ((impl_size.f k l0).bind fun t551 => (impl_NextMixed.j0 k l0 l1 t549 ((wrap64 (t549 + 1)) == t551))) else (impl_NextMixed.j0 k l0 l1 t549 true)) = some (r1, r2, r3) := H
 have A3 := Ya A30
 clear A30
 have HC4 := Ya H
 clear H
 go_enter Try.func26, Try.ntmps26
 go_upto_region 2 with (first | ((with_reducible refine gate_callee (f := 25) rfl ?_); refine Yz 15 Try.func25 #[.slice A0 l0.length c0, .slice A1 l1.length c1] ?_; (with_reducible refine (impl_MixedRank.calls k _ _ l0 _ _ l1 t549 t550 _ (Yc HR0.out) HC0.out (Yc HR1.out) HC1.out A3.out).mono ?_); rintro e w5 ⟨rfl, hb⟩; refine ⟨_, rfl, ?_⟩; replace HB := Yh hb; (try clear hb)))
 (try simp only [Act.put, Z0, Z1, Z2])
 go_cut [26] (fun v26 wc => ∃ (kq : Nat) (x26_3 : Bool), v26 = .bool x26_3 ∧ Aside0 (impl_NextMixed.j0 kq l0 l1 t549 x26_3 = some (r1, r2, r3)) ∧ Aside0 (kq ≤ k) ∧ Aside0 (Below w.heap.size w wc))
 case first =>
  have H := HC4.out
  clear HC4
  by_cases c6 : t550 = true
  ·subst c6
   have H1 : ((impl_size.f k l0).bind fun t551 => (impl_NextMixed.j0 k l0 l1 t549 ((wrap64 (t549 + 1)) == t551))) = some (r1, r2, r3) := by rw [if_pos rfl] at H; exact H
   clear H
   have H := H1
   clear H1
   replace H := Z37.mp H
   obtain ⟨t551, A70, H⟩ := H
   replace H : (impl_NextMixed.j0 k l0 l1 t549 ((wrap64 (t549 + 1)) == t551)) = some (r1, r2, r3) := H
   have A7 := Ya A70
   clear A70
   have H' := Ya H
   clear H
   go_wp2_with (first | (go_at_call 41; (with_reducible refine (impl_size.calls k _ _ l0 t551 _ (Yc (Z23 HR0.out HB.out)) HC0.out A7.out).mono ?_); rintro e w8 ⟨rfl, hb⟩; replace HB := Yh hb; (try clear hb)))
   go_meet
   case rel => exact ⟨_, (((wrap64 (t549 + 1)) == t551)), Q9, H', ⟨Q46⟩, ⟨Q12⟩⟩
  ·replace c6 := Bool.eq_false_iff.mpr c6
   subst c6
   have H1 : (impl_NextMixed.j0 k l0 l1 t549 true) = some (r1, r2, r3) := by rw [if_neg (show ¬ (false = true) by decide)] at H; exact H
   clear H
   have H := H1
   clear H1
   have H' := Ya H
   clear H
   go_wp2
   go_meet
   case rel => exact ⟨_, (true), Q9, H', ⟨Q46⟩, ⟨Q12⟩⟩
 case rest =>
  clear HC4
  try clear c1
  try clear c2
  try clear p2
  try clear c6
  try clear p6
  obtain ⟨kq, x26_3, rfl, HA, HJ3, HB⟩ := hcut
  cases kq with
  | zero => exact absurd HA.out (by simp [impl_NextMixed.j0])
  | succ kj3 =>
   have H := HA.out
   clear HA
   simp only [impl_NextMixed.j0] at H
   by_cases c9 : x26_3 = true
   ·subst c9
    have H1 : (some (([] : List Int), 0, false)) = some (r1, r2, r3) := by rw [if_pos rfl] at H; exact H
    clear H
    have H := H1
    clear H1
    simp only [Option.some.injEq, Prod.mk.injEq] at H
    obtain ⟨rfl, rfl, rfl⟩ := H
    go_wp2
    go_ret3
    exact ⟨_, Q1, Q14, Q12⟩
   ·replace c9 := Bool.eq_false_iff.mpr c9
    subst c9
    have H1 : ((impl_mixedAt.f kj3 l0 (wrap64 (t549 + 1))).bind fun t552 => (impl_NextMixed.l0 kj3 l1 t552 t552 (t552.length : Int) 0)) = some (r1, r2, r3) := by rw [if_neg (show ¬ (false = true) by decide)] at H; exact H
    clear H
    have H := H1
    clear H1
    replace H := Z37.mp H
    obtain ⟨t552, A100, H⟩ := H
    replace H : (impl_NextMixed.l0 kj3 l1 t552 t552 (t552.length : Int) 0) = some (r1, r2, r3) := H
    have A10 := Ya A100
    clear A100
    have H' := Ya H
    clear H
    go_wp2_with (first | ((with_reducible refine gate_callee (f := 46) rfl ?_); refine Yz 30 Try.func46 #[.slice A0 l0.length c0, .int .i64 (wrap64 (t549 + 1))] ?_; (with_reducible refine (impl_mixedAt.calls kj3 _ _ l0 (wrap64 (t549 + 1)) t552 _ (Yc (Z23 HR0.out HB.out)) HC0.out A10.out).mono ?_); rintro e w11 ⟨v553, rfl, ho0, hb⟩; refine ⟨_, rfl, ?_⟩; have HO554 := Yl ho0; replace HB := Yh hb; (try clear hb ho0); obtain ⟨Ao12, co12, rfl⟩ := Z19 HO554.out))
    go_loopg [33] kj3 (fun kq v33 w' => ∃ (x33_2 : Int), v33 = .int .i64 x33_2 ∧ Aside0 (impl_NextMixed.l0 kq l1 t552 t552 (t552.length : Int) x33_2 = some (r1, r2, r3)) ∧ Aside0 (kq ≤ kj3) ∧ Aside0 (Kd.R (Kd.int .i64) 3 w' w.heap.size (fun _ => True) (.slice Ao12 t552.length co12) t552) ∧ Aside0 (Kd.R (Kd.int .i64) 3 w' w.heap.size (fun _ => True) (.slice Ao12 t552.length co12) t552) ∧ Aside0 (Below w.heap.size w w'))
    case atStart => exact ⟨(0), Q9, H', ⟨Nat.le_refl _⟩, ⟨by (with_reducible repeat (first | apply Z9 | apply Z10 | apply Z11)); exact HO554.out⟩, ⟨by (with_reducible repeat (first | apply Z9 | apply Z10 | apply Z11)); exact HO554.out⟩, ⟨Q12⟩⟩
    case round =>
     clear H'
     try clear c1
     try clear c2
     try clear p2
     try clear c4
     try clear c6
     try clear p6
     try clear c9
     try clear p2
     try clear p6
     obtain ⟨x33_2, rfl, HA, HK2, HO_9, HO_31, HB⟩ := hrel
     cases gk with
     | zero => exact absurd HA.out (by simp [impl_NextMixed.l0])
     | succ k2 =>
      have H := HA.out
      clear HA
      simp only [impl_NextMixed.l0] at H
      by_cases c13 : x33_2 < (t552.length : Int)
      ·rw [if_pos c13] at H
       have c13b0 := Z39 c13
       clear c13
       by_cases c14 : 0 ≤ x33_2
       ·rw [if_pos c14] at H
        have c14b0 := Z39 c14
        clear c14
        by_cases c15 : x33_2 < (t552.length : Int)
        ·rw [if_pos c15] at H
         have c15b0 := Z39 c15
         clear c15
         by_cases c16 : x33_2 < (l1.length : Int)
         ·rw [if_pos c16] at H
          have c16b0 := Z39 c16
          clear c16
          by_cases c17 : (rd t552 x33_2) = (rd l1 x33_2)
          ·rw [if_pos c17] at H
           have c17b0 : ((rd t552 x33_2) == (rd l1 x33_2)) = true := beq_iff_eq.mpr c17
           have c17b1 : ((rd t552 x33_2) != (rd l1 x33_2)) = false := bne_eq_false_iff_eq.mpr c17
           clear c17
           have H' := Ya H
           clear H
           have p555 : 0 ≤ (x33_2 : Int) := Z31 Q2
           have q555 : x33_2 < (t552.length : Int) := Z31 Q2
           obtain ⟨ad555, e555, hx555_0⟩ := Kd.at_int (Kd.R_reads' HO_31.out).2.2 x33_2 p555 q555
           cases e555
           replace p555 := eq_true p555
           replace q555 := eq_true q555
           have p556 : 0 ≤ (x33_2 : Int) := Z31 Q2
           have q556 : x33_2 < (l1.length : Int) := Z31 Q2
           obtain ⟨ad556, e556, hx556_0⟩ := Kd.at_int HR1.out x33_2 p556 q556
           cases e556
           try replace hx556_0 := (HB.out.cell (World.block_lt_of_cell? w _ hx556_0)).trans hx556_0
           replace p556 := eq_true p556
           replace q556 := eq_true q556
           go_wp2
           go_roundg k2
           case measure => have := HJ3.out; have := HK2.out; omega
           case rel => exact ⟨(wrap64 (x33_2 + 1)), Q9, H', ⟨by have := HJ3.out; have := HK2.out; omega⟩, ⟨by (with_reducible repeat (first | apply Z9 | apply Z10 | apply Z11)); exact HO_9.out⟩, ⟨by (with_reducible repeat (first | apply Z9 | apply Z10 | apply Z11)); exact HO_31.out⟩, ⟨Q12⟩⟩
          ·rw [if_neg c17] at H
           have c17b0 : ((rd t552 x33_2) == (rd l1 x33_2)) = false := beq_eq_false_iff_ne.mpr c17
           have c17b1 : ((rd t552 x33_2) != (rd l1 x33_2)) = true := bne_iff_ne.mpr c17
           simp only [Option.some.injEq, Prod.mk.injEq] at H
           obtain ⟨rfl, rfl, rfl⟩ := H
           have p555 : 0 ≤ (x33_2 : Int) := Z31 Q2
           have q555 : x33_2 < (t552.length : Int) := Z31 Q2
           obtain ⟨ad555, e555, hx555_0⟩ := Kd.at_int (Kd.R_reads' HO_31.out).2.2 x33_2 p555 q555
           cases e555
           replace p555 := eq_true p555
           replace q555 := eq_true q555
           have p556 : 0 ≤ (x33_2 : Int) := Z31 Q2
           have q556 : x33_2 < (l1.length : Int) := Z31 Q2
           obtain ⟨ad556, e556, hx556_0⟩ := Kd.at_int HR1.out x33_2 p556 q556
           cases e556
           try replace hx556_0 := (HB.out.cell (World.block_lt_of_cell? w _ hx556_0)).trans hx556_0
           replace p556 := eq_true p556
           replace q556 := eq_true q556
           go_wp2
           go_ret3
           exact ⟨_, Q1, by (with_reducible repeat (first | apply Z9 | apply Z10 | apply Z11)); exact HO_9.out, Q12⟩
         ·rw [if_neg c16] at H
          exact absurd H (by simp)
        ·rw [if_neg c15] at H
         exact absurd H (by simp)
       ·rw [if_neg c14] at H
        exact absurd H (by simp)
      ·rw [if_neg c13] at H
       have c13b0 := Z38 c13
       clear c13
       simp only [Option.some.injEq, Prod.mk.injEq] at H
       obtain ⟨rfl, rfl, rfl⟩ := H
       go_wp2
       go_ret3
       exact ⟨_, Q1, Q14, Q12⟩
end Go.Proofs.Ytapbbmicfkbafaa.MFnFocusSteps
