import Derived.Test.YtapbbmicfkbafaaMFnFocusStepsx0
import Derived.Test.YtapbbmicfkbafaaMFnFocusStepsx1
import Derived.Test.YtapbbmicfkbafaaMFnFocusStepsx2
import Derived.Test.YtapbbmicfkbafaaMFnFocusStepsx3
import Derived.Test.YtapbbmicfkbafaaMFnFocusStepsx8
import Derived.Test.YtapbbmicfkbafaaMFnFocusStepsx9
namespace Go.Proofs.Ytapbbmicfkbafaa.MFnFocusSteps
open Go.RowKit Go.Proofs.YtapbbmicfkbafaaW.PrintWords Go.Proofs.YtapbbmicfkbafaaW.PrintLast Go.Proofs.YtapbbmicfkbafaaW.PrintMore
attribute [local go_sem] max2_int min2_int max_two min_two max_three min_three max_four min_four   
set_option linter.unusedVariables false
set_option linter.unusedSimpArgs false
mutual
def laws_FnFocusSteps.j0 : Nat → Int → Bool → Bool → List Int → List Int → List Bool → List Int → List Int → List Int → List Bool → List Int → Option (Bool)
 | 0, _, _, _, _, _, _, _, _, _, _, _ => none
 | k + 1, x7, x8, x53, x571000, x571001, x571002, x571003, x586000, x586001, x586002, x586003 => if x53 = true then (some false) else ((impl_IsLastFocus.f k x571000 x571001 x571002 x571003).bind fun bt602 => ((spec_IsLastFocus.f k x571000 x571001 x571002 x571003).bind fun bt604 => (if (bt602.2 != bt604.2) = true then (laws_FnFocusSteps.j1 k x7 x8 bt602.2 true x571000 x571001 x571002 x571003 x586000 x586001 x586002 x586003) else (if (bt602.1 != bt604.1) = true then (laws_FnFocusSteps.j1 k x7 x8 bt602.2 true x571000 x571001 x571002 x571003 x586000 x586001 x586002 x586003) else ((impl_IsFocus.f k x571000 x571001 x571002 x571003).bind fun t606 => (if (bt602.2 != t606) = true then (laws_FnFocusSteps.j1 k x7 x8 bt602.2 true x571000 x571001 x571002 x571003 x586000 x586001 x586002 x586003) else (if bt602.2 = true then (laws_FnFocusSteps.j1 k x7 x8 bt602.2 (x8 != (!bt602.1)) x571000 x571001 x571002 x571003 x586000 x586001 x586002 x586003) else (laws_FnFocusSteps.j1 k x7 x8 bt602.2 (x8 != false) x571000 x571001 x571002 x571003 x586000 x586001 x586002 x586003))))))))
def laws_FnFocusSteps.j1 : Nat → Int → Bool → Bool → Bool → List Int → List Int → List Bool → List Int → List Int → List Int → List Bool → List Int → Option (Bool)
 | 0, _, _, _, _, _, _, _, _, _, _, _, _ => none
 | k + 1, x7, x8, x13, x86, x571000, x571001, x571002, x571003, x586000, x586001, x586002, x586003 => if x86 = true then (some false) else (if x13 = true then ((impl_FocusRank.f k x571000 x571001 x571002 x571003).bind fun bt607 => ((impl_MixedRank.f k x571000 x571001).bind fun bt609 => ((impl_NextMixed.f k x571000 x571001).bind fun bt611 => (if bt607.2 = true then (if bt609.2 = true then (if bt607.1 = bt609.1 then (laws_FnFocusSteps.j2 k x7 x8 bt611.1 bt611.2.1 (bt611.2.2 != x8) x586000 x586001 x586002 x586003) else (laws_FnFocusSteps.j2 k x7 x8 bt611.1 bt611.2.1 true x586000 x586001 x586002 x586003)) else (laws_FnFocusSteps.j2 k x7 x8 bt611.1 bt611.2.1 true x586000 x586001 x586002 x586003)) else (laws_FnFocusSteps.j2 k x7 x8 bt611.1 bt611.2.1 true x586000 x586001 x586002 x586003))))) else (some true))
def laws_FnFocusSteps.j2 : Nat → Int → Bool → List Int → Int → Bool → List Int → List Int → List Bool → List Int → Option (Bool)
 | 0, _, _, _, _, _, _, _, _, _ => none
 | k + 1, x7, x8, x20, x21, x126, x586000, x586001, x586002, x586003 => if x126 = true then (some false) else (if x8 = true then ((laws_uSame.f k x586001 x20).bind fun t616 => (if t616 = true then (if x21 = x7 then ((impl_IsFocus.f k x586000 x586001 x586002 x586003).bind fun t617 => (some t617)) else (some false)) else (some false))) else (some true))
end
def laws_FnFocusSteps.f (k : Nat) (l0 : List Int) (l1 : List Int) : Option (Bool) := (laws_big.f l0 l1).bind fun t557 => (if t557 = true then (some true) else ((spec_DrawStepFocus.f k l0).bind fun bt558 => ((impl_StepFocus.f k bt558.1 bt558.2.1 bt558.2.2.1 bt558.2.2.2).bind fun bt571 => ((spec_StepFocus.f k bt558.1 bt558.2.1 bt558.2.2.1 bt558.2.2.2).bind fun bt586 => (if (bt571.2.2.2.2.2 != bt586.2.2.2.2.2) = true then (laws_FnFocusSteps.j0 k bt571.2.2.2.2.1 bt571.2.2.2.2.2 true bt558.1 bt558.2.1 bt558.2.2.1 bt558.2.2.2 bt571.1 bt571.2.1 bt571.2.2.1 bt571.2.2.2.1) else ((laws_uFocus.f k bt571.1 bt571.2.1 bt571.2.2.1 bt571.2.2.2.1 bt586.1 bt586.2.1 bt586.2.2.1 bt586.2.2.2.1).bind fun t601 => (if t601 = true then (laws_FnFocusSteps.j0 k bt571.2.2.2.2.1 bt571.2.2.2.2.2 (bt571.2.2.2.2.1 != bt586.2.2.2.2.1) bt558.1 bt558.2.1 bt558.2.2.1 bt558.2.2.2 bt571.1 bt571.2.1 bt571.2.2.1 bt571.2.2.2.1) else (laws_FnFocusSteps.j0 k bt571.2.2.2.2.1 bt571.2.2.2.2.2 true bt558.1 bt558.2.1 bt558.2.2.1 bt558.2.2.2 bt571.1 bt571.2.1 bt571.2.2.1 bt571.2.2.2.1))))))))
theorem laws_FnFocusSteps.mono_l : ∀ k, (∀ y0 y1 y2 y3 y4 y5 y6 y7 y8 y9 y10, LeO (laws_FnFocusSteps.j0 k y0 y1 y2 y3 y4 y5 y6 y7 y8 y9 y10) (laws_FnFocusSteps.j0 (k + 1) y0 y1 y2 y3 y4 y5 y6 y7 y8 y9 y10)) ∧ (∀ y0 y1 y2 y3 y4 y5 y6 y7 y8 y9 y10 y11, LeO (laws_FnFocusSteps.j1 k y0 y1 y2 y3 y4 y5 y6 y7 y8 y9 y10 y11) (laws_FnFocusSteps.j1 (k + 1) y0 y1 y2 y3 y4 y5 y6 y7 y8 y9 y10 y11)) ∧ (∀ y0 y1 y2 y3 y4 y5 y6 y7 y8, LeO (laws_FnFocusSteps.j2 k y0 y1 y2 y3 y4 y5 y6 y7 y8) (laws_FnFocusSteps.j2 (k + 1) y0 y1 y2 y3 y4 y5 y6 y7 y8))
 | 0 => ⟨fun _ _ _ _ _ _ _ _ _ _ _ r h => by simp [laws_FnFocusSteps.j0] at h, fun _ _ _ _ _ _ _ _ _ _ _ _ r h => by simp [laws_FnFocusSteps.j1] at h, fun _ _ _ _ _ _ _ _ _ r h => by simp [laws_FnFocusSteps.j2] at h⟩
 | k + 1 => by
  obtain ⟨ih0, ih1, ih2⟩ := laws_FnFocusSteps.mono_l k
  refine ⟨?_, ?_, ?_⟩
  ·intro y0 y1 y2 y3 y4 y5 y6 y7 y8 y9 y10
   unfold laws_FnFocusSteps.j0
   repeat' first
   | (with_reducible exact ih0 _ _ _ _ _ _ _ _ _ _ _)
   | (with_reducible exact ih1 _ _ _ _ _ _ _ _ _ _ _ _)
   | (with_reducible exact ih2 _ _ _ _ _ _ _ _ _)
   | (with_reducible exact impl_FocusRank.mono _ _ _ _ _)
   | (with_reducible exact impl_IsFocus.mono _ _ _ _ _)
   | (with_reducible exact impl_IsLastFocus.mono _ _ _ _ _)
   | (with_reducible exact impl_MixedRank.mono _ _ _)
   | (with_reducible exact impl_NextMixed.mono _ _ _)
   | (with_reducible exact impl_StepFocus.mono _ _ _ _ _)
   | (with_reducible exact laws_uFocus.mono _ _ _ _ _ _ _ _ _)
   | (with_reducible exact laws_uSame.mono _ _ _)
   | (with_reducible exact spec_DrawStepFocus.mono _ _)
   | (with_reducible exact spec_IsLastFocus.mono _ _ _ _ _)
   | (with_reducible exact spec_StepFocus.mono _ _ _ _ _)
   | (with_reducible exact LeO.refl _)
   | (with_reducible exact LeO.none _)
   | (with_reducible refine LeO.ite ?_ ?_)
   | (with_reducible refine LeO.bind ?_ (fun _ => ?_))
   | exact ih0 _ _ _ _ _ _ _ _ _ _ _
   | exact ih1 _ _ _ _ _ _ _ _ _ _ _ _
   | exact ih2 _ _ _ _ _ _ _ _ _
   | exact impl_FocusRank.mono _ _ _ _ _
   | exact impl_IsFocus.mono _ _ _ _ _
   | exact impl_IsLastFocus.mono _ _ _ _ _
   | exact impl_MixedRank.mono _ _ _
   | exact impl_NextMixed.mono _ _ _
   | exact impl_StepFocus.mono _ _ _ _ _
   | exact laws_uFocus.mono _ _ _ _ _ _ _ _ _
   | exact laws_uSame.mono _ _ _
   | exact spec_DrawStepFocus.mono _ _
   | exact spec_IsLastFocus.mono _ _ _ _ _
   | exact spec_StepFocus.mono _ _ _ _ _
   | exact LeO.none _
   | refine LeO.ite ?_ ?_
   | refine LeO.bind ?_ (fun _ => ?_)
  ·intro y0 y1 y2 y3 y4 y5 y6 y7 y8 y9 y10 y11
   unfold laws_FnFocusSteps.j1
   repeat' first
   | (with_reducible exact ih0 _ _ _ _ _ _ _ _ _ _ _)
   | (with_reducible exact ih1 _ _ _ _ _ _ _ _ _ _ _ _)
   | (with_reducible exact ih2 _ _ _ _ _ _ _ _ _)
   | (with_reducible exact impl_FocusRank.mono _ _ _ _ _)
   | (with_reducible exact impl_IsFocus.mono _ _ _ _ _)
   | (with_reducible exact impl_IsLastFocus.mono _ _ _ _ _)
   | (with_reducible exact impl_MixedRank.mono _ _ _)
   | (with_reducible exact impl_NextMixed.mono _ _ _)
   | (with_reducible exact impl_StepFocus.mono _ _ _ _ _)
   | (with_reducible exact laws_uFocus.mono _ _ _ _ _ _ _ _ _)
   | (with_reducible exact laws_uSame.mono _ _ _)
   | (with_reducible exact spec_DrawStepFocus.mono _ _)
   | (with_reducible exact spec_IsLastFocus.mono _ _ _ _ _)
   | (with_reducible exact spec_StepFocus.mono _ _ _ _ _)
   | (with_reducible exact LeO.refl _)
   | (with_reducible exact LeO.none _)
   | (with_reducible refine LeO.ite ?_ ?_)
   | (with_reducible refine LeO.bind ?_ (fun _ => ?_))
   | exact ih0 _ _ _ _ _ _ _ _ _ _ _
   | exact ih1 _ _ _ _ _ _ _ _ _ _ _ _
   | exact ih2 _ _ _ _ _ _ _ _ _
   | exact impl_FocusRank.mono _ _ _ _ _
   | exact impl_IsFocus.mono _ _ _ _ _
   | exact impl_IsLastFocus.mono _ _ _ _ _
   | exact impl_MixedRank.mono _ _ _
   | exact impl_NextMixed.mono _ _ _
   | exact impl_StepFocus.mono _ _ _ _ _
   | exact laws_uFocus.mono _ _ _ _ _ _ _ _ _
   | exact laws_uSame.mono _ _ _
   | exact spec_DrawStepFocus.mono _ _
   | exact spec_IsLastFocus.mono _ _ _ _ _
   | exact spec_StepFocus.mono _ _ _ _ _
   | exact LeO.none _
   | refine LeO.ite ?_ ?_
   | refine LeO.bind ?_ (fun _ => ?_)
  ·intro y0 y1 y2 y3 y4 y5 y6 y7 y8
   unfold laws_FnFocusSteps.j2
   repeat' first
   | (with_reducible exact ih0 _ _ _ _ _ _ _ _ _ _ _)
   | (with_reducible exact ih1 _ _ _ _ _ _ _ _ _ _ _ _)
   | (with_reducible exact ih2 _ _ _ _ _ _ _ _ _)
   | (with_reducible exact impl_FocusRank.mono _ _ _ _ _)
   | (with_reducible exact impl_IsFocus.mono _ _ _ _ _)
   | (with_reducible exact impl_IsLastFocus.mono _ _ _ _ _)
   | (with_reducible exact impl_MixedRank.mono _ _ _)
   | (with_reducible exact impl_NextMixed.mono _ _ _)
   | (with_reducible exact impl_StepFocus.mono _ _ _ _ _)
   | (with_reducible exact laws_uFocus.mono _ _ _ _ _ _ _ _ _)
   | (with_reducible exact laws_uSame.mono _ _ _)
   | (with_reducible exact spec_DrawStepFocus.mono _ _)
   | (with_reducible exact spec_IsLastFocus.mono _ _ _ _ _)
   | (with_reducible exact spec_StepFocus.mono _ _ _ _ _)
   | (with_reducible exact LeO.refl _)
   | (with_reducible exact LeO.none _)
   | (with_reducible refine LeO.ite ?_ ?_)
   | (with_reducible refine LeO.bind ?_ (fun _ => ?_))
   | exact ih0 _ _ _ _ _ _ _ _ _ _ _
   | exact ih1 _ _ _ _ _ _ _ _ _ _ _ _
   | exact ih2 _ _ _ _ _ _ _ _ _
   | exact impl_FocusRank.mono _ _ _ _ _
   | exact impl_IsFocus.mono _ _ _ _ _
   | exact impl_IsLastFocus.mono _ _ _ _ _
   | exact impl_MixedRank.mono _ _ _
   | exact impl_NextMixed.mono _ _ _
   | exact impl_StepFocus.mono _ _ _ _ _
   | exact laws_uFocus.mono _ _ _ _ _ _ _ _ _
   | exact laws_uSame.mono _ _ _
   | exact spec_DrawStepFocus.mono _ _
   | exact spec_IsLastFocus.mono _ _ _ _ _
   | exact spec_StepFocus.mono _ _ _ _ _
   | exact LeO.none _
   | refine LeO.ite ?_ ?_
   | refine LeO.bind ?_ (fun _ => ?_)
theorem laws_FnFocusSteps.mono : ∀ a0 a1 k, LeO (laws_FnFocusSteps.f k a0 a1) (laws_FnFocusSteps.f (k + 1) a0 a1) := by
 intro a0 a1 k
 obtain ⟨ih0, ih1, ih2⟩ := laws_FnFocusSteps.mono_l k
 unfold laws_FnFocusSteps.f
 repeat' first
   | (with_reducible exact ih0 _ _ _ _ _ _ _ _ _ _ _)
   | (with_reducible exact ih1 _ _ _ _ _ _ _ _ _ _ _ _)
   | (with_reducible exact ih2 _ _ _ _ _ _ _ _ _)
   | (with_reducible exact impl_FocusRank.mono _ _ _ _ _)
   | (with_reducible exact impl_IsFocus.mono _ _ _ _ _)
   | (with_reducible exact impl_IsLastFocus.mono _ _ _ _ _)
   | (with_reducible exact impl_MixedRank.mono _ _ _)
   | (with_reducible exact impl_NextMixed.mono _ _ _)
   | (with_reducible exact impl_StepFocus.mono _ _ _ _ _)
   | (with_reducible exact laws_uFocus.mono _ _ _ _ _ _ _ _ _)
   | (with_reducible exact laws_uSame.mono _ _ _)
   | (with_reducible exact spec_DrawStepFocus.mono _ _)
   | (with_reducible exact spec_IsLastFocus.mono _ _ _ _ _)
   | (with_reducible exact spec_StepFocus.mono _ _ _ _ _)
   | (with_reducible exact LeO.refl _)
   | (with_reducible exact LeO.none _)
   | (with_reducible refine LeO.ite ?_ ?_)
   | (with_reducible refine LeO.bind ?_ (fun _ => ?_))
   | exact ih0 _ _ _ _ _ _ _ _ _ _ _
   | exact ih1 _ _ _ _ _ _ _ _ _ _ _ _
   | exact ih2 _ _ _ _ _ _ _ _ _
   | exact impl_FocusRank.mono _ _ _ _ _
   | exact impl_IsFocus.mono _ _ _ _ _
   | exact impl_IsLastFocus.mono _ _ _ _ _
   | exact impl_MixedRank.mono _ _ _
   | exact impl_NextMixed.mono _ _ _
   | exact impl_StepFocus.mono _ _ _ _ _
   | exact laws_uFocus.mono _ _ _ _ _ _ _ _ _
   | exact laws_uSame.mono _ _ _
   | exact spec_DrawStepFocus.mono _ _
   | exact spec_IsLastFocus.mono _ _ _ _ _
   | exact spec_StepFocus.mono _ _ _ _ _
   | exact LeO.none _
   | refine LeO.ite ?_ ?_
   | refine LeO.bind ?_ (fun _ => ?_)
set_option maxHeartbeats 8000000 in
set_option maxRecDepth 100000 in
theorem laws_FnFocusSteps.calls (k : Nat) (A0 : Option Addr) (c0 : Nat) (l0 : List Int) (A1 : Option Addr) (c1 : Nat) (l1 : List Int) (r : Bool) (w : World) (hr0 : Kd.C (Kd.int .u8) w A0 l0.length l0) (hc0 : l0.length ≤ c0) (hr1 : Kd.C (Kd.int .u8) w A1 l1.length l1) (hc1 : l1.length ≤ c1) (h : laws_FnFocusSteps.f k l0 l1 = some r) :
  Calls Try.prog 4 #[.slice A0 l0.length c0, .slice A1 l1.length c1] w fun e w' => e = .returned (.bool r) ∧ Below w.heap.size w w' := by
 have hu33 := Try.underlying33
 have HR0 := Ya hr0
 have HC0 := Ya hc0
 clear hr0 hc0
 have HR1 := Ya hr1
 have HC1 := Ya hc1
 clear hr1 hc1
 have HB := Ya (Below.refl w.heap.size w)
 have H : ((laws_big.f l0 l1).bind fun t557 => (if t557 = true then (some true) else ((spec_DrawStepFocus.f k l0).bind fun bt558 => ((impl_StepFocus.f k bt558.1 bt558.2.1 bt558.2.2.1 bt558.2.2.2).bind fun bt571 => ((spec_StepFocus.f k bt558.1 bt558.2.1 bt558.2.2.1 bt558.2.2.2).bind fun bt586 => (if (bt571.2.2.2.2.2 != bt586.2.2.2.2.2) = true then (laws_FnFocusSteps.j0 k bt571.2.2.2.2.1 bt571.2.2.2.2.2 true bt558.1 bt558.2.1 bt558.2.2.1 bt558.2.2.2 bt571.1 bt571.2.1 bt571.2.2.1 bt571.2.2.2.1) else ((laws_uFocus.f k bt571.1 bt571.2.1 bt571.2.2.1 bt571.2.2.2.1 bt586.1 bt586.2.1 bt586.2.2.1 bt586.2.2.2.1).bind fun t601 => (if t601 = true then (laws_FnFocusSteps.j0 k bt571.2.2.2.2.1 bt571.2.2.2.2.2 (bt571.2.2.2.2.1 != bt586.2.2.2.2.1) bt558.1 bt558.2.1 bt558.2.2.1 bt558.2.2.2 bt571.1 bt571.2.1 bt571.2.2.1 bt571.2.2.2.1) else (laws_FnFocusSteps.j0 k bt571.2.2.2.2.1 bt571.2.2.2.2.2 true bt558.1 bt558.2.1 bt558.2.2.1 bt558.2.2.2 bt571.1 bt571.2.1 bt571.2.2.1 bt571.2.2.2.1))))))))) = some r := h
 clear h
 replace H := Z37.mp H
 obtain ⟨t557, A30, H⟩ := H
 replace H : (if t557 = true then (some true) else ((spec_DrawStepFocus.f k l0).bind fun bt558 => ((impl_StepFocus.f k bt558.1 bt558.2.1 bt558.2.2.1 bt558.2.2.2).bind fun bt571 => ((spec_StepFocus.f k bt558.1 bt558.2.1 bt558.2.2.1 bt558.2.2.2).bind fun bt586 => (if (bt571.2.2.2.2.2 != bt586.2.2.2.2.2) = true then (laws_FnFocusSteps.j0 k bt571.2.2.2.2.1 bt571.2.2.2.2.2 true bt558.1 bt558.2.1 bt558.2.2.1 bt558.2.2.2 bt571.1 bt571.2.1 bt571.2.2.1 bt571.2.2.2.1) else ((laws_uFocus.f k bt571.1 bt571.2.1 bt571.2.2.1 bt571.2.2.2.1 bt586.1 bt586.2.1 bt586.2.2.1 bt586.2.2.2.1).bind fun t601 => (if t601 = true then (laws_FnFocusSteps.j0 k bt571.2.2.2.2.1 bt571.2.2.2.2.2 (bt571.2.2.2.2.1 != bt586.2.2.2.2.1) bt558.1 bt558.2.1 bt558.2.2.1 bt558.2.2.2 bt571.1 bt571.2.1 bt571.2.2.1 bt571.2.2.2.1) else (laws_FnFocusSteps.j0 k bt571.2.2.2.2.1 bt571.2.2.2.2.2 true bt558.1 bt558.2.1 bt558.2.2.1 bt558.2.2.2 bt571.1 bt571.2.1 bt571.2.2.1 bt571.2.2.2.1)))))))) = some r := H
 have A3 := Ya A30
 clear A30
 by_cases c4 : t557 = true
 ·subst c4
  have H1 : (some true) = some r := by rw [if_pos rfl] at H; exact H
  clear H
  have H := H1
  clear H1
  obtain rfl := Option.some.inj H
  go_enter Try.func4, Try.ntmps4
  go_wp2_with (first | ((with_reducible refine gate_callee (f := 5) rfl ?_); refine Yz 25 Try.func5 #[.slice A0 l0.length c0, .slice A1 l1.length c1] ?_; (with_reducible refine (laws_big.calls _ _ l0 _ _ l1 true _ (Yc HR0.out) HC0.out (Yc HR1.out) HC1.out A3.out).mono ?_); rintro e w' ⟨rfl, ⟨nd, rfl⟩⟩; refine ⟨_, rfl, ?_⟩))
  go_ret
  exact ⟨Q1, Q12⟩
 ·replace c4 := Bool.eq_false_iff.mpr c4
  subst c4
  have H1 : ((spec_DrawStepFocus.f k l0).bind fun bt558 => ((impl_StepFocus.f k bt558.1 bt558.2.1 bt558.2.2.1 bt558.2.2.2).bind fun bt571 => ((spec_StepFocus.f k bt558.1 bt558.2.1 bt558.2.2.1 bt558.2.2.2).bind fun bt586 => (if (bt571.2.2.2.2.2 != bt586.2.2.2.2.2) = true then (laws_FnFocusSteps.j0 k bt571.2.2.2.2.1 bt571.2.2.2.2.2 true bt558.1 bt558.2.1 bt558.2.2.1 bt558.2.2.2 bt571.1 bt571.2.1 bt571.2.2.1 bt571.2.2.2.1) else ((laws_uFocus.f k bt571.1 bt571.2.1 bt571.2.2.1 bt571.2.2.2.1 bt586.1 bt586.2.1 bt586.2.2.1 bt586.2.2.2.1).bind fun t601 => (if t601 = true then (laws_FnFocusSteps.j0 k bt571.2.2.2.2.1 bt571.2.2.2.2.2 (bt571.2.2.2.2.1 != bt586.2.2.2.2.1) bt558.1 bt558.2.1 bt558.2.2.1 bt558.2.2.2 bt571.1 bt571.2.1 bt571.2.2.1 bt571.2.2.2.1) else (laws_FnFocusSteps.j0 k bt571.2.2.2.2.1 bt571.2.2.2.2.2 true bt558.1 bt558.2.1 bt558.2.2.1 bt558.2.2.2 bt571.1 bt571.2.1 bt571.2.2.1 bt571.2.2.2.1))))))) = some r := by rw [if_neg (show ¬ (false = true) by decide)] at H; exact H
  clear H
  have H := H1
  clear H1
  replace H := Z37.mp H
  obtain ⟨⟨t558, t561, t564, t567⟩, A50, H⟩ := H
  replace H : ((impl_StepFocus.f k t558 t561 t564 t567).bind fun bt571 => ((spec_StepFocus.f k t558 t561 t564 t567).bind fun bt586 => (if (bt571.2.2.2.2.2 != bt586.2.2.2.2.2) = true then (laws_FnFocusSteps.j0 k bt571.2.2.2.2.1 bt571.2.2.2.2.2 true t558 t561 t564 t567 bt571.1 bt571.2.1 bt571.2.2.1 bt571.2.2.2.1) else ((laws_uFocus.f k bt571.1 bt571.2.1 bt571.2.2.1 bt571.2.2.2.1 bt586.1 bt586.2.1 bt586.2.2.1 bt586.2.2.2.1).bind fun t601 => (if t601 = true then (laws_FnFocusSteps.j0 k bt571.2.2.2.2.1 bt571.2.2.2.2.2 (bt571.2.2.2.2.1 != bt586.2.2.2.2.1) t558 t561 t564 t567 bt571.1 bt571.2.1 bt571.2.2.1 bt571.2.2.2.1) else (laws_FnFocusSteps.j0 k bt571.2.2.2.2.1 bt571.2.2.2.2.2 true t558 t561 t564 t567 bt571.1 bt571.2.1 bt571.2.2.1 bt571.2.2.2.1)))))) = some r := H
  have A5 := Ya A50
  clear A50
  replace H := Z37.mp H
  obtain ⟨⟨t571, t574, t577, t580, t583, t584⟩, A60, H⟩ := H
  replace H : ((spec_StepFocus.f k t558 t561 t564 t567).bind fun bt586 => (if (t584 != bt586.2.2.2.2.2) = true then (laws_FnFocusSteps.j0 k t583 t584 true t558 t561 t564 t567 t571 t574 t577 t580) else ((laws_uFocus.f k t571 t574 t577 t580 bt586.1 bt586.2.1 bt586.2.2.1 bt586.2.2.2.1).bind fun t601 => (if t601 = true then (laws_FnFocusSteps.j0 k t583 t584 (t583 != bt586.2.2.2.2.1) t558 t561 t564 t567 t571 t574 t577 t580) else (laws_FnFocusSteps.j0 k t583 t584 true t558 t561 t564 t567 t571 t574 t577 t580))))) = some r := H
  have A6 := Ya A60
  clear A60
  replace H := Z37.mp H
  obtain ⟨⟨t586, t589, t592, t595, t598, t599⟩, A70, H⟩ := H
  replace H : (if (t584 != t599) = true then (laws_FnFocusSteps.j0 k t583 t584 true t558 t561 t564 t567 t571 t574 t577 t580) else ((laws_uFocus.f k t571 t574 t577 t580 t586 t589 t592 t595).bind fun t601 => (if t601 = true then (laws_FnFocusSteps.j0 k t583 t584 (t583 != t598) t558 t561 t564 t567 t571 t574 t577 t580) else (laws_FnFocusSteps.j0 k t583 t584 true t558 t561 t564 t567 t571 t574 t577 t580)))) = some r := H
  have A7 := Ya A70
  clear A70
  have HC8 := Ya H
  clear H
  go_enter Try.func4, Try.ntmps4
  go_upto_region 6 with (first | ((with_reducible refine gate_callee (f := 5) rfl ?_); refine Yz 25 Try.func5 #[.slice A0 l0.length c0, .slice A1 l1.length c1] ?_; (with_reducible refine (laws_big.calls _ _ l0 _ _ l1 false _ (Yc HR0.out) HC0.out (Yc HR1.out) HC1.out A3.out).mono ?_); rintro e w' ⟨rfl, ⟨nd, rfl⟩⟩; refine ⟨_, rfl, ?_⟩) | ((with_reducible refine gate_callee (f := 20) rfl ?_); refine Yz 27 Try.func20 #[.slice A0 l0.length c0] ?_; (with_reducible refine (spec_DrawStepFocus.calls k _ _ l0 t558 t561 t564 t567 _ (Yc HR0.out) HC0.out A5.out).mono ?_); rintro e w9 ⟨v559, v562, v565, v568, rfl, ho0, ho1, ho2, ho3, hb⟩; refine ⟨_, rfl, ?_⟩; have HO560 := Yl ho0; have HO563 := Yl ho1; have HO566 := Yl ho2; have HO569 := Yl ho3; replace HB := Yh hb; (try clear hb ho0 ho1 ho2 ho3)) | ((with_reducible refine gate_dst (N := 5) rfl ?_); refine Yx 5 YN4 33 ?_; intro gb570 hg w10 hbox hb; replace HO560 := Yw HO560 hb; replace HO563 := Yw HO563 hb; replace HO566 := Yw HO566 hb; replace HO569 := Yw HO569 hb; have BK570 := Ya hbox; have GE570 := Yg hg; replace HB := Yh hb; clear hb hbox hg; obtain ⟨Ao11, co11, rfl⟩ := Z19 HO560.out; obtain ⟨hcz12_0, hcz12_1, hcz12_2, hcz12_3, hfz12_0, hfz12_1, hfz12_2, hfz12_3⟩ := Y4 BK570.out; obtain ⟨Ao13, co13, rfl⟩ := Z19 HO563.out; obtain ⟨Ao14, co14, rfl⟩ := Z19 HO566.out; obtain ⟨Ao15, co15, rfl⟩ := Z19 HO569.out) | ((with_reducible refine gate_callee (f := 13) rfl ?_); refine Yz 30 Try.func13 #[.agg #[.slice Ao11 t558.length co11, .slice Ao13 t561.length co13, .slice Ao14 t564.length co14, .slice Ao15 t567.length co15]] ?_; (with_reducible refine (impl_StepFocus.calls k _ _ t558 _ _ t561 _ _ t564 _ _ t567 t571 t574 t577 t580 t583 t584 _ ?side1 ((Kd.R_reads' HO560.out).2.1) ?side3 ((Kd.R_reads' HO563.out).2.1) ?side5 ((Kd.R_reads' HO566.out).2.1) ?side7 ((Kd.R_reads' HO569.out).2.1) A6.out).mono ?_); (case side1 => refine (Kd.R_reads' (e := 3) (base := w.heap.size) (ok := fun k_ => (some k_ ≠ (.slice Ao13 t561.length co13 : Value).ownBlock ∧ some k_ ≠ (.slice Ao15 t567.length co15 : Value).ownBlock)) (n := t558.length) (c := co11) ?_).2.2; exact (Yj (Yf4 HO560.out BK570.out) (fun _ h_ => h_.1))); (case side3 => refine (Kd.R_reads' (e := 3) (base := w.heap.size) (ok := fun k_ => (some k_ ≠ (.slice Ao11 t558.length co11 : Value).ownBlock ∧ some k_ ≠ (.slice Ao15 t567.length co15 : Value).ownBlock)) (n := t561.length) (c := co13) ?_).2.2; exact (Yj (Yf4 HO563.out BK570.out) (fun _ h_ => h_.1))); (case side5 => refine (Kd.R_reads' (e := 4) (base := w.heap.size) (ok := fun k_ => True) (n := t564.length) (c := co14) ?_).2.2; exact (Yj (Yf4 HO566.out BK570.out) (fun _ h_ => h_.1))); (case side7 => refine (Kd.R_reads' (e := 3) (base := w.heap.size) (ok := fun k_ => (some k_ ≠ (.slice Ao11 t558.length co11 : Value).ownBlock ∧ some k_ ≠ (.slice Ao13 t561.length co13 : Value).ownBlock)) (n := t567.length) (c := co15) ?_).2.2; exact (Yj (Yf4 HO569.out BK570.out) (fun _ h_ => h_.1))); rintro e w16 ⟨v572, v575, v578, v581, rfl, ho0, ho1, ho2, ho3, hb⟩; refine ⟨_, rfl, ?_⟩; have HO573 := Yl (Kd.R_new' (Kd.R_new' (Kd.R_new' ho0 (Z18 (Yj (Yf4 HO560.out BK570.out) (fun _ h_ => h_.1)))) (Z18 (Yj (Yf4 HO563.out BK570.out) (fun _ h_ => h_.1)))) (Z18 (Yj (Yf4 HO569.out BK570.out) (fun _ h_ => h_.1)))); have HO576 := Yl (Kd.R_new' (Kd.R_new' (Kd.R_new' ho1 (Z18 (Yj (Yf4 HO560.out BK570.out) (fun _ h_ => h_.1)))) (Z18 (Yj (Yf4 HO563.out BK570.out) (fun _ h_ => h_.1)))) (Z18 (Yj (Yf4 HO569.out BK570.out) (fun _ h_ => h_.1)))); have HO579 := Yl (Kd.R_new' ho2 (Z18 (Yj (Yf4 HO566.out BK570.out) (fun _ h_ => h_.1)))); replace HO566 := Ya (Kd.R_elder' (Yj (Yf4 HO566.out BK570.out) (fun _ h_ => h_.1)) (Kd.R_base ho2) hb); have HO582 := Yl (Kd.R_new' (Kd.R_new' (Kd.R_new' ho3 (Z18 (Yj (Yf4 HO560.out BK570.out) (fun _ h_ => h_.1)))) (Z18 (Yj (Yf4 HO563.out BK570.out) (fun _ h_ => h_.1)))) (Z18 (Yj (Yf4 HO569.out BK570.out) (fun _ h_ => h_.1)))); replace HO560 := Ya (Z12 (Z16 (Z16 (Z16 (Z17 (Yj (Yf4 HO560.out BK570.out) (fun _ h_ => h_.1)) hb) (Kd.R_base ho0)) (Kd.R_base ho1)) (Kd.R_base ho3)) (fun _ h_ => h_.1)); replace HO563 := Ya (Z12 (Z16 (Z16 (Z16 (Z17 (Yj (Yf4 HO563.out BK570.out) (fun _ h_ => h_.1)) hb) (Kd.R_base ho0)) (Kd.R_base ho1)) (Kd.R_base ho3)) (fun _ h_ => h_.1)); replace HO569 := Ya (Z12 (Z16 (Z16 (Z16 (Z17 (Yj (Yf4 HO569.out BK570.out) (fun _ h_ => h_.1)) hb) (Kd.R_base ho0)) (Kd.R_base ho1)) (Kd.R_base ho3)) (fun _ h_ => h_.1)); replace BK570 := Yb ⟨Yv4 BK570.out⟩ hb; replace HB := Yh hb; (try clear hb ho0 ho1 ho2 ho3)) | ((with_reducible refine gate_dst (N := 6) rfl ?_); refine Yx 6 YN4 33 ?_; intro gb585 hg w17 hbox hb; replace HO560 := Yw HO560 hb; replace HO563 := Yw HO563 hb; replace HO566 := Yw HO566 hb; replace HO569 := Yw HO569 hb; replace HO573 := Yw HO573 hb; replace HO576 := Yw HO576 hb; replace HO579 := Yw HO579 hb; replace HO582 := Yw HO582 hb; have BK585 := Ya hbox; have GE585 := Yg hg; replace HB := Yh hb; have NB570_585 := Yn BK570 hg; have NB585_570 := Ym BK570 hg; replace BK570 := Yb BK570 hb; clear hb hbox hg; obtain ⟨Ao18, co18, rfl⟩ := Z19 HO573.out; have hnb19 := NB585_570.out; have hnc19 := NB570_585.out; obtain ⟨hcz20_0, hcz20_1, hcz20_2, hcz20_3, hfz20_0, hfz20_1, hfz20_2, hfz20_3⟩ := Y4 BK585.out; obtain ⟨Ao21, co21, rfl⟩ := Z19 HO576.out; obtain ⟨Ao22, co22, rfl⟩ := Z19 HO579.out; obtain ⟨Ao23, co23, rfl⟩ := Z19 HO582.out; obtain ⟨hcz24_0, hcz24_1, hcz24_2, hcz24_3, hfz24_0, hfz24_1, hfz24_2, hfz24_3⟩ := Y4 BK570.out) | ((with_reducible refine gate_callee (f := 21) rfl ?_); refine Yz 36 Try.func21 #[.agg #[.slice Ao11 t558.length co11, .slice Ao13 t561.length co13, .slice Ao14 t564.length co14, .slice Ao15 t567.length co15]] ?_; (with_reducible refine (spec_StepFocus.calls k _ _ t558 _ _ t561 _ _ t564 _ _ t567 t586 t589 t592 t595 t598 t599 _ ?side1 ((Kd.R_reads' HO560.out).2.1) ?side3 ((Kd.R_reads' HO563.out).2.1) ?side5 ((Kd.R_reads' HO566.out).2.1) ?side7 ((Kd.R_reads' HO569.out).2.1) A7.out).mono ?_); (case side1 => refine (Kd.R_reads' (e := 3) (base := w.heap.size) (ok := fun k_ => ((((some k_ ≠ (.slice Ao13 t561.length co13 : Value).ownBlock ∧ some k_ ≠ (.slice Ao15 t567.length co15 : Value).ownBlock) ∧ some k_ ≠ (.slice Ao18 t571.length co18 : Value).ownBlock) ∧ some k_ ≠ (.slice Ao21 t574.length co21 : Value).ownBlock) ∧ some k_ ≠ (.slice Ao23 t580.length co23 : Value).ownBlock)) (n := t558.length) (c := co11) ?_).2.2; exact (Yj (Yf4 HO560.out BK585.out) (fun _ h_ => h_.1))); (case side3 => refine (Kd.R_reads' (e := 3) (base := w.heap.size) (ok := fun k_ => ((((some k_ ≠ (.slice Ao11 t558.length co11 : Value).ownBlock ∧ some k_ ≠ (.slice Ao15 t567.length co15 : Value).ownBlock) ∧ some k_ ≠ (.slice Ao18 t571.length co18 : Value).ownBlock) ∧ some k_ ≠ (.slice Ao21 t574.length co21 : Value).ownBlock) ∧ some k_ ≠ (.slice Ao23 t580.length co23 : Value).ownBlock)) (n := t561.length) (c := co13) ?_).2.2; exact (Yj (Yf4 HO563.out BK585.out) (fun _ h_ => h_.1))); (case side5 => refine (Kd.R_reads' (e := 4) (base := w.heap.size) (ok := fun k_ => (True ∧ some k_ ≠ (.slice Ao22 t577.length co22 : Value).ownBlock)) (n := t564.length) (c := co14) ?_).2.2; exact (Yj (Yf4 HO566.out BK585.out) (fun _ h_ => h_.1))); (case side7 => refine (Kd.R_reads' (e := 3) (base := w.heap.size) (ok := fun k_ => ((((some k_ ≠ (.slice Ao11 t558.length co11 : Value).ownBlock ∧ some k_ ≠ (.slice Ao13 t561.length co13 : Value).ownBlock) ∧ some k_ ≠ (.slice Ao18 t571.length co18 : Value).ownBlock) ∧ some k_ ≠ (.slice Ao21 t574.length co21 : Value).ownBlock) ∧ some k_ ≠ (.slice Ao23 t580.length co23 : Value).ownBlock)) (n := t567.length) (c := co15) ?_).2.2; exact (Yj (Yf4 HO569.out BK585.out) (fun _ h_ => h_.1))); rintro e w25 ⟨v587, v590, v593, v596, rfl, ho0, ho1, ho2, ho3, hb⟩; refine ⟨_, rfl, ?_⟩; have HO588 := Yl (Kd.R_new' (Kd.R_new' (Kd.R_new' (Kd.R_new' (Kd.R_new' (Kd.R_new' ho0 (Z18 (Yj (Yf4 HO560.out BK585.out) (fun _ h_ => h_.1)))) (Z18 (Yj (Yf4 HO563.out BK585.out) (fun _ h_ => h_.1)))) (Z18 (Yj (Yf4 HO569.out BK585.out) (fun _ h_ => h_.1)))) (Z18 (Yj (Yf4 HO573.out BK585.out) (fun _ h_ => h_.1)))) (Z18 (Yj (Yf4 HO576.out BK585.out) (fun _ h_ => h_.1)))) (Z18 (Yj (Yf4 HO582.out BK585.out) (fun _ h_ => h_.1)))); have HO591 := Yl (Kd.R_new' (Kd.R_new' (Kd.R_new' (Kd.R_new' (Kd.R_new' (Kd.R_new' ho1 (Z18 (Yj (Yf4 HO560.out BK585.out) (fun _ h_ => h_.1)))) (Z18 (Yj (Yf4 HO563.out BK585.out) (fun _ h_ => h_.1)))) (Z18 (Yj (Yf4 HO569.out BK585.out) (fun _ h_ => h_.1)))) (Z18 (Yj (Yf4 HO573.out BK585.out) (fun _ h_ => h_.1)))) (Z18 (Yj (Yf4 HO576.out BK585.out) (fun _ h_ => h_.1)))) (Z18 (Yj (Yf4 HO582.out BK585.out) (fun _ h_ => h_.1)))); have HO594 := Yl (Kd.R_new' (Kd.R_new' ho2 (Z18 (Yj (Yf4 HO566.out BK585.out) (fun _ h_ => h_.1)))) (Z18 (Yj (Yf4 HO579.out BK585.out) (fun _ h_ => h_.1)))); replace HO566 := Ya (Kd.R_elder' (Yj (Yf4 HO566.out BK585.out) (fun _ h_ => h_.1)) (Kd.R_base ho2) hb); replace HO579 := Ya (Kd.R_elder' (Yj (Yf4 HO579.out BK585.out) (fun _ h_ => h_.1)) (Kd.R_base ho2) hb); have HO597 := Yl (Kd.R_new' (Kd.R_new' (Kd.R_new' (Kd.R_new' (Kd.R_new' (Kd.R_new' ho3 (Z18 (Yj (Yf4 HO560.out BK585.out) (fun _ h_ => h_.1)))) (Z18 (Yj (Yf4 HO563.out BK585.out) (fun _ h_ => h_.1)))) (Z18 (Yj (Yf4 HO569.out BK585.out) (fun _ h_ => h_.1)))) (Z18 (Yj (Yf4 HO573.out BK585.out) (fun _ h_ => h_.1)))) (Z18 (Yj (Yf4 HO576.out BK585.out) (fun _ h_ => h_.1)))) (Z18 (Yj (Yf4 HO582.out BK585.out) (fun _ h_ => h_.1)))); replace HO560 := Ya (Z12 (Z16 (Z16 (Z16 (Z17 (Yj (Yf4 HO560.out BK585.out) (fun _ h_ => h_.1)) hb) (Kd.R_base ho0)) (Kd.R_base ho1)) (Kd.R_base ho3)) (fun _ h_ => h_.1)); replace HO563 := Ya (Z12 (Z16 (Z16 (Z16 (Z17 (Yj (Yf4 HO563.out BK585.out) (fun _ h_ => h_.1)) hb) (Kd.R_base ho0)) (Kd.R_base ho1)) (Kd.R_base ho3)) (fun _ h_ => h_.1)); replace HO569 := Ya (Z12 (Z16 (Z16 (Z16 (Z17 (Yj (Yf4 HO569.out BK585.out) (fun _ h_ => h_.1)) hb) (Kd.R_base ho0)) (Kd.R_base ho1)) (Kd.R_base ho3)) (fun _ h_ => h_.1)); replace HO573 := Ya (Z12 (Z16 (Z16 (Z16 (Z17 (Yj (Yf4 HO573.out BK585.out) (fun _ h_ => h_.1)) hb) (Kd.R_base ho0)) (Kd.R_base ho1)) (Kd.R_base ho3)) (fun _ h_ => h_.1)); replace HO576 := Ya (Z12 (Z16 (Z16 (Z16 (Z17 (Yj (Yf4 HO576.out BK585.out) (fun _ h_ => h_.1)) hb) (Kd.R_base ho0)) (Kd.R_base ho1)) (Kd.R_base ho3)) (fun _ h_ => h_.1)); replace HO582 := Ya (Z12 (Z16 (Z16 (Z16 (Z17 (Yj (Yf4 HO582.out BK585.out) (fun _ h_ => h_.1)) hb) (Kd.R_base ho0)) (Kd.R_base ho1)) (Kd.R_base ho3)) (fun _ h_ => h_.1)); replace BK570 := Yb ⟨Yo4 BK570.out NB570_585.out⟩ hb; replace BK585 := Yb ⟨Yv4 BK585.out⟩ hb; replace HB := Yh hb) | ((with_reducible refine gate_dst (N := 9) rfl ?_); refine Yx 9 YN4 33 ?_; intro gb600 hg w26 hbox hb; replace HO560 := Yw HO560 hb; replace HO563 := Yw HO563 hb; replace HO566 := Yw HO566 hb; replace HO569 := Yw HO569 hb; replace HO573 := Yw HO573 hb; replace HO576 := Yw HO576 hb; replace HO579 := Yw HO579 hb; replace HO582 := Yw HO582 hb; replace HO588 := Yw HO588 hb; replace HO591 := Yw HO591 hb; replace HO594 := Yw HO594 hb; replace HO597 := Yw HO597 hb; have BK600 := Ya hbox; have GE600 := Yg hg; replace HB := Yh hb; have NB570_600 := Yn BK570 hg; have NB600_570 := Ym BK570 hg; replace BK570 := Yb BK570 hb; have NB585_600 := Yn BK585 hg; have NB600_585 := Ym BK585 hg; replace BK585 := Yb BK585 hb; clear hb hbox hg; obtain ⟨Ao27, co27, rfl⟩ := Z19 HO588.out; have hnb28 := NB600_570.out; have hnc28 := NB570_600.out; have hnb29 := NB600_585.out; have hnc29 := NB585_600.out; obtain ⟨hcz30_0, hcz30_1, hcz30_2, hcz30_3, hfz30_0, hfz30_1, hfz30_2, hfz30_3⟩ := Y4 BK600.out; obtain ⟨Ao31, co31, rfl⟩ := Z19 HO591.out; obtain ⟨Ao32, co32, rfl⟩ := Z19 HO594.out; obtain ⟨Ao33, co33, rfl⟩ := Z19 HO597.out))
  (try simp only [Act.put, Z0, Z1, Z2])
  go_cut [53] (fun v53 wc => ∃ (kq : Nat) (x53_7 : Bool), v53 = .bool x53_7 ∧ Aside0 (laws_FnFocusSteps.j0 kq t583 t584 x53_7 t558 t561 t564 t567 t571 t574 t577 t580 = some r) ∧ Aside0 (kq ≤ k) ∧ Aside0 (Kd.R (Kd.int .i64) 3 wc w.heap.size (fun k_ => some k_ ≠ ((.slice Ao13 t561.length co13) : Value).ownBlock ∧ some k_ ≠ ((.slice Ao15 t567.length co15) : Value).ownBlock ∧ some k_ ≠ ((.slice Ao18 t571.length co18) : Value).ownBlock ∧ some k_ ≠ ((.slice Ao21 t574.length co21) : Value).ownBlock ∧ some k_ ≠ ((.slice Ao23 t580.length co23) : Value).ownBlock ∧ some k_ ≠ ((.slice Ao27 t586.length co27) : Value).ownBlock ∧ some k_ ≠ ((.slice Ao31 t589.length co31) : Value).ownBlock ∧ some k_ ≠ ((.slice Ao33 t595.length co33) : Value).ownBlock) (.slice Ao11 t558.length co11) t558) ∧ Aside0 (Kd.R (Kd.int .i64) 3 wc w.heap.size (fun k_ => some k_ ≠ ((.slice Ao11 t558.length co11) : Value).ownBlock ∧ some k_ ≠ ((.slice Ao15 t567.length co15) : Value).ownBlock ∧ some k_ ≠ ((.slice Ao18 t571.length co18) : Value).ownBlock ∧ some k_ ≠ ((.slice Ao21 t574.length co21) : Value).ownBlock ∧ some k_ ≠ ((.slice Ao23 t580.length co23) : Value).ownBlock ∧ some k_ ≠ ((.slice Ao27 t586.length co27) : Value).ownBlock ∧ some k_ ≠ ((.slice Ao31 t589.length co31) : Value).ownBlock ∧ some k_ ≠ ((.slice Ao33 t595.length co33) : Value).ownBlock) (.slice Ao13 t561.length co13) t561) ∧ Aside0 (Kd.R Kd.bool 4 wc w.heap.size (fun k_ => some k_ ≠ ((.slice Ao22 t577.length co22) : Value).ownBlock ∧ some k_ ≠ ((.slice Ao32 t592.length co32) : Value).ownBlock) (.slice Ao14 t564.length co14) t564) ∧ Aside0 (Kd.R (Kd.int .i64) 3 wc w.heap.size (fun k_ => some k_ ≠ ((.slice Ao11 t558.length co11) : Value).ownBlock ∧ some k_ ≠ ((.slice Ao13 t561.length co13) : Value).ownBlock ∧ some k_ ≠ ((.slice Ao18 t571.length co18) : Value).ownBlock ∧ some k_ ≠ ((.slice Ao21 t574.length co21) : Value).ownBlock ∧ some k_ ≠ ((.slice Ao23 t580.length co23) : Value).ownBlock ∧ some k_ ≠ ((.slice Ao27 t586.length co27) : Value).ownBlock ∧ some k_ ≠ ((.slice Ao31 t589.length co31) : Value).ownBlock ∧ some k_ ≠ ((.slice Ao33 t595.length co33) : Value).ownBlock) (.slice Ao15 t567.length co15) t567) ∧ Aside0 (Kd.R (Kd.int .i64) 3 wc w.heap.size (fun k_ => some k_ ≠ ((.slice Ao11 t558.length co11) : Value).ownBlock ∧ some k_ ≠ ((.slice Ao13 t561.length co13) : Value).ownBlock ∧ some k_ ≠ ((.slice Ao15 t567.length co15) : Value).ownBlock ∧ some k_ ≠ ((.slice Ao21 t574.length co21) : Value).ownBlock ∧ some k_ ≠ ((.slice Ao23 t580.length co23) : Value).ownBlock ∧ some k_ ≠ ((.slice Ao27 t586.length co27) : Value).ownBlock ∧ some k_ ≠ ((.slice Ao31 t589.length co31) : Value).ownBlock ∧ some k_ ≠ ((.slice Ao33 t595.length co33) : Value).ownBlock) (.slice Ao18 t571.length co18) t571) ∧ Aside0 (Kd.R (Kd.int .i64) 3 wc w.heap.size (fun k_ => some k_ ≠ ((.slice Ao11 t558.length co11) : Value).ownBlock ∧ some k_ ≠ ((.slice Ao13 t561.length co13) : Value).ownBlock ∧ some k_ ≠ ((.slice Ao15 t567.length co15) : Value).ownBlock ∧ some k_ ≠ ((.slice Ao18 t571.length co18) : Value).ownBlock ∧ some k_ ≠ ((.slice Ao23 t580.length co23) : Value).ownBlock ∧ some k_ ≠ ((.slice Ao27 t586.length co27) : Value).ownBlock ∧ some k_ ≠ ((.slice Ao31 t589.length co31) : Value).ownBlock ∧ some k_ ≠ ((.slice Ao33 t595.length co33) : Value).ownBlock) (.slice Ao21 t574.length co21) t574) ∧ Aside0 (Kd.R Kd.bool 4 wc w.heap.size (fun k_ => some k_ ≠ ((.slice Ao14 t564.length co14) : Value).ownBlock ∧ some k_ ≠ ((.slice Ao32 t592.length co32) : Value).ownBlock) (.slice Ao22 t577.length co22) t577) ∧ Aside0 (Kd.R (Kd.int .i64) 3 wc w.heap.size (fun k_ => some k_ ≠ ((.slice Ao11 t558.length co11) : Value).ownBlock ∧ some k_ ≠ ((.slice Ao13 t561.length co13) : Value).ownBlock ∧ some k_ ≠ ((.slice Ao15 t567.length co15) : Value).ownBlock ∧ some k_ ≠ ((.slice Ao18 t571.length co18) : Value).ownBlock ∧ some k_ ≠ ((.slice Ao21 t574.length co21) : Value).ownBlock ∧ some k_ ≠ ((.slice Ao27 t586.length co27) : Value).ownBlock ∧ some k_ ≠ ((.slice Ao31 t589.length co31) : Value).ownBlock ∧ some k_ ≠ ((.slice Ao33 t595.length co33) : Value).ownBlock) (.slice Ao23 t580.length co23) t580) ∧ Aside0 (Kd.R (Kd.int .i64) 3 wc w.heap.size (fun k_ => some k_ ≠ ((.slice Ao11 t558.length co11) : Value).ownBlock ∧ some k_ ≠ ((.slice Ao13 t561.length co13) : Value).ownBlock ∧ some k_ ≠ ((.slice Ao15 t567.length co15) : Value).ownBlock ∧ some k_ ≠ ((.slice Ao18 t571.length co18) : Value).ownBlock ∧ some k_ ≠ ((.slice Ao21 t574.length co21) : Value).ownBlock ∧ some k_ ≠ ((.slice Ao23 t580.length co23) : Value).ownBlock ∧ some k_ ≠ ((.slice Ao31 t589.length co31) : Value).ownBlock ∧ some k_ ≠ ((.slice Ao33 t595.length co33) : Value).ownBlock) (.slice Ao27 t586.length co27) t586) ∧ Aside0 (Kd.R (Kd.int .i64) 3 wc w.heap.size (fun k_ => some k_ ≠ ((.slice Ao11 t558.length co11) : Value).ownBlock ∧ some k_ ≠ ((.slice Ao13 t561.length co13) : Value).ownBlock ∧ some k_ ≠ ((.slice Ao15 t567.length co15) : Value).ownBlock ∧ some k_ ≠ ((.slice Ao18 t571.length co18) : Value).ownBlock ∧ some k_ ≠ ((.slice Ao21 t574.length co21) : Value).ownBlock ∧ some k_ ≠ ((.slice Ao23 t580.length co23) : Value).ownBlock ∧ some k_ ≠ ((.slice Ao27 t586.length co27) : Value).ownBlock ∧ some k_ ≠ ((.slice Ao33 t595.length co33) : Value).ownBlock) (.slice Ao31 t589.length co31) t589) ∧ Aside0 (Kd.R Kd.bool 4 wc w.heap.size (fun k_ => some k_ ≠ ((.slice Ao14 t564.length co14) : Value).ownBlock ∧ some k_ ≠ ((.slice Ao22 t577.length co22) : Value).ownBlock) (.slice Ao32 t592.length co32) t592) ∧ Aside0 (Kd.R (Kd.int .i64) 3 wc w.heap.size (fun k_ => some k_ ≠ ((.slice Ao11 t558.length co11) : Value).ownBlock ∧ some k_ ≠ ((.slice Ao13 t561.length co13) : Value).ownBlock ∧ some k_ ≠ ((.slice Ao15 t567.length co15) : Value).ownBlock ∧ some k_ ≠ ((.slice Ao18 t571.length co18) : Value).ownBlock ∧ some k_ ≠ ((.slice Ao21 t574.length co21) : Value).ownBlock ∧ some k_ ≠ ((.slice Ao23 t580.length co23) : Value).ownBlock ∧ some k_ ≠ ((.slice Ao27 t586.length co27) : Value).ownBlock ∧ some k_ ≠ ((.slice Ao31 t589.length co31) : Value).ownBlock) (.slice Ao33 t595.length co33) t595) ∧ Aside0 (wc.heap[gb570]? = some (.cells #[(.slice Ao11 t558.length co11), (.slice Ao13 t561.length co13), (.slice Ao14 t564.length co14), (.slice Ao15 t567.length co15)] 33 (0, 0))) ∧ Aside0 (wc.heap[gb585]? = some (.cells #[(.slice Ao18 t571.length co18), (.slice Ao21 t574.length co21), (.slice Ao22 t577.length co22), (.slice Ao23 t580.length co23)] 33 (0, 0))) ∧ Aside0 (wc.heap[gb600]? = some (.cells #[(.slice Ao27 t586.length co27), (.slice Ao31 t589.length co31), (.slice Ao32 t592.length co32), (.slice Ao33 t595.length co33)] 33 (0, 0))) ∧ Aside0 (Below w.heap.size w wc))
  case first =>
   have H := HC8.out
   clear HC8
   by_cases c34 : (t584 != t599) = true
   ·rw [if_pos c34] at H
    have c34b0 : (t584 != t599) = true := c34
    (try (have c34b1 : decide (t584 = t599) = false := by simpa using c34))
    (try (have c34b2 : (t584 == t599) = false := by simpa using c34))
    (try (have c34b3 : ¬ (t584 = t599) := by simpa using c34))
    clear c34
    (first | rw [c34b0] | (simp only [i64_w, i32_w]; rw [c34b0]) | skip)
    have H' := Ya H
    clear H
    go_wp2
    go_meet
    case rel => exact ⟨_, (true), Q9, H', ⟨Q46⟩, ⟨Yj (Yf4 HO560.out BK600.out) (fun _ hk => ⟨hk.1.1.1.1.1.1.1.1, ⟨hk.1.1.1.1.1.1.1.2, ⟨hk.1.1.1.1.1.1.2, ⟨hk.1.1.1.1.1.2, ⟨hk.1.1.1.1.2, ⟨hk.1.1.1.2, ⟨hk.1.1.2, hk.1.2⟩⟩⟩⟩⟩⟩⟩)⟩, ⟨Yj (Yf4 HO563.out BK600.out) (fun _ hk => ⟨hk.1.1.1.1.1.1.1.1, ⟨hk.1.1.1.1.1.1.1.2, ⟨hk.1.1.1.1.1.1.2, ⟨hk.1.1.1.1.1.2, ⟨hk.1.1.1.1.2, ⟨hk.1.1.1.2, ⟨hk.1.1.2, hk.1.2⟩⟩⟩⟩⟩⟩⟩)⟩, ⟨Yj (Yf4 HO566.out BK600.out) (fun _ hk => ⟨hk.1.1.2, hk.1.2⟩)⟩, ⟨Yj (Yf4 HO569.out BK600.out) (fun _ hk => ⟨hk.1.1.1.1.1.1.1.1, ⟨hk.1.1.1.1.1.1.1.2, ⟨hk.1.1.1.1.1.1.2, ⟨hk.1.1.1.1.1.2, ⟨hk.1.1.1.1.2, ⟨hk.1.1.1.2, ⟨hk.1.1.2, hk.1.2⟩⟩⟩⟩⟩⟩⟩)⟩, ⟨Yj (Yf4 HO573.out BK600.out) (fun _ hk => ⟨hk.1.1.1.1.1.1.2, ⟨hk.1.1.1.1.1.2, ⟨hk.1.1.1.1.2, ⟨hk.1.1.1.1.1.1.1.1, ⟨hk.1.1.1.1.1.1.1.2, ⟨hk.1.1.1.2, ⟨hk.1.1.2, hk.1.2⟩⟩⟩⟩⟩⟩⟩)⟩, ⟨Yj (Yf4 HO576.out BK600.out) (fun _ hk => ⟨hk.1.1.1.1.1.1.2, ⟨hk.1.1.1.1.1.2, ⟨hk.1.1.1.1.2, ⟨hk.1.1.1.1.1.1.1.1, ⟨hk.1.1.1.1.1.1.1.2, ⟨hk.1.1.1.2, ⟨hk.1.1.2, hk.1.2⟩⟩⟩⟩⟩⟩⟩)⟩, ⟨Yj (Yf4 HO579.out BK600.out) (fun _ hk => ⟨hk.1.1.2, hk.1.2⟩)⟩, ⟨Yj (Yf4 HO582.out BK600.out) (fun _ hk => ⟨hk.1.1.1.1.1.1.2, ⟨hk.1.1.1.1.1.2, ⟨hk.1.1.1.1.2, ⟨hk.1.1.1.1.1.1.1.1, ⟨hk.1.1.1.1.1.1.1.2, ⟨hk.1.1.1.2, ⟨hk.1.1.2, hk.1.2⟩⟩⟩⟩⟩⟩⟩)⟩, ⟨Yj (Yf4 HO588.out BK600.out) (fun _ hk => ⟨hk.1.1.1.1.1.1.2, ⟨hk.1.1.1.1.1.2, ⟨hk.1.1.1.1.2, ⟨hk.1.1.1.2, ⟨hk.1.1.2, ⟨hk.1.2, ⟨hk.1.1.1.1.1.1.1.1, hk.1.1.1.1.1.1.1.2⟩⟩⟩⟩⟩⟩⟩)⟩, ⟨Yj (Yf4 HO591.out BK600.out) (fun _ hk => ⟨hk.1.1.1.1.1.1.2, ⟨hk.1.1.1.1.1.2, ⟨hk.1.1.1.1.2, ⟨hk.1.1.1.2, ⟨hk.1.1.2, ⟨hk.1.2, ⟨hk.1.1.1.1.1.1.1.1, hk.1.1.1.1.1.1.1.2⟩⟩⟩⟩⟩⟩⟩)⟩, ⟨Yj (Yf4 HO594.out BK600.out) (fun _ hk => ⟨hk.1.1.2, hk.1.2⟩)⟩, ⟨Yj (Yf4 HO597.out BK600.out) (fun _ hk => ⟨hk.1.1.1.1.1.1.2, ⟨hk.1.1.1.1.1.2, ⟨hk.1.1.1.1.2, ⟨hk.1.1.1.2, ⟨hk.1.1.2, ⟨hk.1.2, ⟨hk.1.1.1.1.1.1.1.1, hk.1.1.1.1.1.1.1.2⟩⟩⟩⟩⟩⟩⟩)⟩, ⟨by (with_reducible repeat (first | refine Z26 ?_ _ | refine Z27 ?_ | refine Z28 ?_ _)); refine blk_far ?_ NB570_600.out _; (with_reducible repeat (first | refine Z26 ?_ _ | refine Z27 ?_ | refine Z28 ?_ _)); refine blk_far ?_ NB570_600.out _; (with_reducible repeat (first | refine Z26 ?_ _ | refine Z27 ?_ | refine Z28 ?_ _)); refine blk_far ?_ NB570_600.out _; (with_reducible repeat (first | refine Z26 ?_ _ | refine Z27 ?_ | refine Z28 ?_ _)); refine blk_far ?_ NB570_600.out _; (with_reducible repeat (first | refine Z26 ?_ _ | refine Z27 ?_ | refine Z28 ?_ _)); exact BK570.out⟩, ⟨by (with_reducible repeat (first | refine Z26 ?_ _ | refine Z27 ?_ | refine Z28 ?_ _)); refine blk_far ?_ NB585_600.out _; (with_reducible repeat (first | refine Z26 ?_ _ | refine Z27 ?_ | refine Z28 ?_ _)); refine blk_far ?_ NB585_600.out _; (with_reducible repeat (first | refine Z26 ?_ _ | refine Z27 ?_ | refine Z28 ?_ _)); refine blk_far ?_ NB585_600.out _; (with_reducible repeat (first | refine Z26 ?_ _ | refine Z27 ?_ | refine Z28 ?_ _)); refine blk_far ?_ NB585_600.out _; (with_reducible repeat (first | refine Z26 ?_ _ | refine Z27 ?_ | refine Z28 ?_ _)); exact BK585.out⟩, ⟨by (with_reducible repeat (first | refine Z26 ?_ _ | refine Z27 ?_ | refine Z28 ?_ _)); refine Z30 (cs := #[.slice Ao27 t586.length co27, .slice Ao31 t589.length co31, .slice Ao32 t592.length co32, .slice none 0 0]) ?_ 3 _ rfl; (with_reducible repeat (first | refine Z26 ?_ _ | refine Z27 ?_ | refine Z28 ?_ _)); refine Z30 (cs := #[.slice Ao27 t586.length co27, .slice Ao31 t589.length co31, .slice none 0 0, .slice none 0 0]) ?_ 2 _ rfl; (with_reducible repeat (first | refine Z26 ?_ _ | refine Z27 ?_ | refine Z28 ?_ _)); refine Z30 (cs := #[.slice Ao27 t586.length co27, .slice none 0 0, .slice none 0 0, .slice none 0 0]) ?_ 1 _ rfl; (with_reducible repeat (first | refine Z26 ?_ _ | refine Z27 ?_ | refine Z28 ?_ _)); refine Z30 (cs := YN4) ?_ 0 _ rfl; (with_reducible repeat (first | refine Z26 ?_ _ | refine Z27 ?_ | refine Z28 ?_ _)); exact BK600.out⟩, ⟨Q12⟩⟩
   ·rw [if_neg c34] at H
    have c34b0 : (t584 != t599) = false := by simpa using c34
    (try (have c34b1 : decide (t584 = t599) = true := by simpa using c34))
    (try (have c34b2 : (t584 == t599) = true := by simpa using c34))
    clear c34
    (first | rw [c34b0] | (simp only [i64_w, i32_w]; rw [c34b0]) | skip)
    replace H := Z37.mp H
    obtain ⟨t601, A350, H⟩ := H
    replace H : (if t601 = true then (laws_FnFocusSteps.j0 k t583 t584 (t583 != t598) t558 t561 t564 t567 t571 t574 t577 t580) else (laws_FnFocusSteps.j0 k t583 t584 true t558 t561 t564 t567 t571 t574 t577 t580)) = some r := H
    have A35 := Ya A350
    clear A350
    by_cases c36 : t601 = true
    ·subst c36
     have H1 : (laws_FnFocusSteps.j0 k t583 t584 (t583 != t598) t558 t561 t564 t567 t571 t574 t577 t580) = some r := by rw [if_pos rfl] at H; exact H
     clear H
     have H := H1
     clear H1
     have H' := Ya H
     clear H
     have hnb37 := NB585_570.out
     have hnc37 := NB570_585.out
     have hnb38 := NB585_600.out
     have hnc38 := NB600_585.out
     obtain ⟨hcz39_0, hcz39_1, hcz39_2, hcz39_3, hfz39_0, hfz39_1, hfz39_2, hfz39_3⟩ := Y4 BK585.out
     have hnb40 := NB600_570.out
     have hnc40 := NB570_600.out
     obtain ⟨hcz41_0, hcz41_1, hcz41_2, hcz41_3, hfz41_0, hfz41_1, hfz41_2, hfz41_3⟩ := Y4 BK600.out
     go_wp2_with (first | (go_at_call 17; (with_reducible refine (laws_uFocus.calls k _ _ t571 _ _ t574 _ _ t577 _ _ t580 _ _ t586 _ _ t589 _ _ t592 _ _ t595 true _ ?side1 ((Kd.R_reads' HO573.out).2.1) ?side3 ((Kd.R_reads' HO576.out).2.1) ?side5 ((Kd.R_reads' HO579.out).2.1) ?side7 ((Kd.R_reads' HO582.out).2.1) ?side9 ((Kd.R_reads' HO588.out).2.1) ?side11 ((Kd.R_reads' HO591.out).2.1) ?side13 ((Kd.R_reads' HO594.out).2.1) ?side15 ((Kd.R_reads' HO597.out).2.1) A35.out).mono ?_); (case side1 => refine (Kd.R_reads' (e := 3) (base := w.heap.size) (ok := fun k_ => (((((((some k_ ≠ (.slice Ao21 t574.length co21 : Value).ownBlock ∧ some k_ ≠ (.slice Ao23 t580.length co23 : Value).ownBlock) ∧ some k_ ≠ (.slice Ao11 t558.length co11 : Value).ownBlock) ∧ some k_ ≠ (.slice Ao13 t561.length co13 : Value).ownBlock) ∧ some k_ ≠ (.slice Ao15 t567.length co15 : Value).ownBlock) ∧ some k_ ≠ (.slice Ao27 t586.length co27 : Value).ownBlock) ∧ some k_ ≠ (.slice Ao31 t589.length co31 : Value).ownBlock) ∧ some k_ ≠ (.slice Ao33 t595.length co33 : Value).ownBlock)) (n := t571.length) (c := co18) ?_).2.2; exact (Yj (Yf4 HO573.out BK600.out) (fun _ h_ => h_.1))); (case side3 => refine (Kd.R_reads' (e := 3) (base := w.heap.size) (ok := fun k_ => (((((((some k_ ≠ (.slice Ao18 t571.length co18 : Value).ownBlock ∧ some k_ ≠ (.slice Ao23 t580.length co23 : Value).ownBlock) ∧ some k_ ≠ (.slice Ao11 t558.length co11 : Value).ownBlock) ∧ some k_ ≠ (.slice Ao13 t561.length co13 : Value).ownBlock) ∧ some k_ ≠ (.slice Ao15 t567.length co15 : Value).ownBlock) ∧ some k_ ≠ (.slice Ao27 t586.length co27 : Value).ownBlock) ∧ some k_ ≠ (.slice Ao31 t589.length co31 : Value).ownBlock) ∧ some k_ ≠ (.slice Ao33 t595.length co33 : Value).ownBlock)) (n := t574.length) (c := co21) ?_).2.2; exact (Yj (Yf4 HO576.out BK600.out) (fun _ h_ => h_.1))); (case side5 => refine (Kd.R_reads' (e := 4) (base := w.heap.size) (ok := fun k_ => ((True ∧ some k_ ≠ (.slice Ao14 t564.length co14 : Value).ownBlock) ∧ some k_ ≠ (.slice Ao32 t592.length co32 : Value).ownBlock)) (n := t577.length) (c := co22) ?_).2.2; exact (Yj (Yf4 HO579.out BK600.out) (fun _ h_ => h_.1))); (case side7 => refine (Kd.R_reads' (e := 3) (base := w.heap.size) (ok := fun k_ => (((((((some k_ ≠ (.slice Ao18 t571.length co18 : Value).ownBlock ∧ some k_ ≠ (.slice Ao21 t574.length co21 : Value).ownBlock) ∧ some k_ ≠ (.slice Ao11 t558.length co11 : Value).ownBlock) ∧ some k_ ≠ (.slice Ao13 t561.length co13 : Value).ownBlock) ∧ some k_ ≠ (.slice Ao15 t567.length co15 : Value).ownBlock) ∧ some k_ ≠ (.slice Ao27 t586.length co27 : Value).ownBlock) ∧ some k_ ≠ (.slice Ao31 t589.length co31 : Value).ownBlock) ∧ some k_ ≠ (.slice Ao33 t595.length co33 : Value).ownBlock)) (n := t580.length) (c := co23) ?_).2.2; exact (Yj (Yf4 HO582.out BK600.out) (fun _ h_ => h_.1))); (case side9 => refine (Kd.R_reads' (e := 3) (base := w.heap.size) (ok := fun k_ => (((((((some k_ ≠ (.slice Ao31 t589.length co31 : Value).ownBlock ∧ some k_ ≠ (.slice Ao33 t595.length co33 : Value).ownBlock) ∧ some k_ ≠ (.slice Ao11 t558.length co11 : Value).ownBlock) ∧ some k_ ≠ (.slice Ao13 t561.length co13 : Value).ownBlock) ∧ some k_ ≠ (.slice Ao15 t567.length co15 : Value).ownBlock) ∧ some k_ ≠ (.slice Ao18 t571.length co18 : Value).ownBlock) ∧ some k_ ≠ (.slice Ao21 t574.length co21 : Value).ownBlock) ∧ some k_ ≠ (.slice Ao23 t580.length co23 : Value).ownBlock)) (n := t586.length) (c := co27) ?_).2.2; exact (Yj (Yf4 HO588.out BK600.out) (fun _ h_ => h_.1))); (case side11 => refine (Kd.R_reads' (e := 3) (base := w.heap.size) (ok := fun k_ => (((((((some k_ ≠ (.slice Ao27 t586.length co27 : Value).ownBlock ∧ some k_ ≠ (.slice Ao33 t595.length co33 : Value).ownBlock) ∧ some k_ ≠ (.slice Ao11 t558.length co11 : Value).ownBlock) ∧ some k_ ≠ (.slice Ao13 t561.length co13 : Value).ownBlock) ∧ some k_ ≠ (.slice Ao15 t567.length co15 : Value).ownBlock) ∧ some k_ ≠ (.slice Ao18 t571.length co18 : Value).ownBlock) ∧ some k_ ≠ (.slice Ao21 t574.length co21 : Value).ownBlock) ∧ some k_ ≠ (.slice Ao23 t580.length co23 : Value).ownBlock)) (n := t589.length) (c := co31) ?_).2.2; exact (Yj (Yf4 HO591.out BK600.out) (fun _ h_ => h_.1))); (case side13 => refine (Kd.R_reads' (e := 4) (base := w.heap.size) (ok := fun k_ => ((True ∧ some k_ ≠ (.slice Ao14 t564.length co14 : Value).ownBlock) ∧ some k_ ≠ (.slice Ao22 t577.length co22 : Value).ownBlock)) (n := t592.length) (c := co32) ?_).2.2; exact (Yj (Yf4 HO594.out BK600.out) (fun _ h_ => h_.1))); (case side15 => refine (Kd.R_reads' (e := 3) (base := w.heap.size) (ok := fun k_ => (((((((some k_ ≠ (.slice Ao27 t586.length co27 : Value).ownBlock ∧ some k_ ≠ (.slice Ao31 t589.length co31 : Value).ownBlock) ∧ some k_ ≠ (.slice Ao11 t558.length co11 : Value).ownBlock) ∧ some k_ ≠ (.slice Ao13 t561.length co13 : Value).ownBlock) ∧ some k_ ≠ (.slice Ao15 t567.length co15 : Value).ownBlock) ∧ some k_ ≠ (.slice Ao18 t571.length co18 : Value).ownBlock) ∧ some k_ ≠ (.slice Ao21 t574.length co21 : Value).ownBlock) ∧ some k_ ≠ (.slice Ao23 t580.length co23 : Value).ownBlock)) (n := t595.length) (c := co33) ?_).2.2; exact (Yj (Yf4 HO597.out BK600.out) (fun _ h_ => h_.1))); rintro e w42 ⟨rfl, hb⟩; replace HO560 := Ya (Z14 (Yj (Yf4 HO560.out BK600.out) (fun _ h_ => h_.1)) hb); replace HO563 := Ya (Z14 (Yj (Yf4 HO563.out BK600.out) (fun _ h_ => h_.1)) hb); replace HO566 := Ya (Z14 (Yj (Yf4 HO566.out BK600.out) (fun _ h_ => h_.1)) hb); replace HO569 := Ya (Z14 (Yj (Yf4 HO569.out BK600.out) (fun _ h_ => h_.1)) hb); replace HO573 := Ya (Z14 (Yj (Yf4 HO573.out BK600.out) (fun _ h_ => h_.1)) hb); replace HO576 := Ya (Z14 (Yj (Yf4 HO576.out BK600.out) (fun _ h_ => h_.1)) hb); replace HO579 := Ya (Z14 (Yj (Yf4 HO579.out BK600.out) (fun _ h_ => h_.1)) hb); replace HO582 := Ya (Z14 (Yj (Yf4 HO582.out BK600.out) (fun _ h_ => h_.1)) hb); replace HO588 := Ya (Z14 (Yj (Yf4 HO588.out BK600.out) (fun _ h_ => h_.1)) hb); replace HO591 := Ya (Z14 (Yj (Yf4 HO591.out BK600.out) (fun _ h_ => h_.1)) hb); replace HO594 := Ya (Z14 (Yj (Yf4 HO594.out BK600.out) (fun _ h_ => h_.1)) hb); replace HO597 := Ya (Z14 (Yj (Yf4 HO597.out BK600.out) (fun _ h_ => h_.1)) hb); replace BK570 := Yb ⟨Yo4 BK570.out NB570_600.out⟩ hb; replace BK585 := Yb ⟨Yo4 BK585.out NB585_600.out⟩ hb; replace BK600 := Yb ⟨Yv4 BK600.out⟩ hb; replace HB := Yh hb; (try clear hb)))
     go_meet
     case rel => exact ⟨_, ((t583 != t598)), Q9, H', ⟨Q46⟩, ⟨Yj HO560.out (fun _ hk => ⟨hk.1.1.1.1.1.1.1, ⟨hk.1.1.1.1.1.1.2, ⟨hk.1.1.1.1.1.2, ⟨hk.1.1.1.1.2, ⟨hk.1.1.1.2, ⟨hk.1.1.2, ⟨hk.1.2, hk.2⟩⟩⟩⟩⟩⟩⟩)⟩, ⟨Yj HO563.out (fun _ hk => ⟨hk.1.1.1.1.1.1.1, ⟨hk.1.1.1.1.1.1.2, ⟨hk.1.1.1.1.1.2, ⟨hk.1.1.1.1.2, ⟨hk.1.1.1.2, ⟨hk.1.1.2, ⟨hk.1.2, hk.2⟩⟩⟩⟩⟩⟩⟩)⟩, ⟨Yj HO566.out (fun _ hk => ⟨hk.1.2, hk.2⟩)⟩, ⟨Yj HO569.out (fun _ hk => ⟨hk.1.1.1.1.1.1.1, ⟨hk.1.1.1.1.1.1.2, ⟨hk.1.1.1.1.1.2, ⟨hk.1.1.1.1.2, ⟨hk.1.1.1.2, ⟨hk.1.1.2, ⟨hk.1.2, hk.2⟩⟩⟩⟩⟩⟩⟩)⟩, ⟨Yj HO573.out (fun _ hk => ⟨hk.1.1.1.1.1.2, ⟨hk.1.1.1.1.2, ⟨hk.1.1.1.2, ⟨hk.1.1.1.1.1.1.1, ⟨hk.1.1.1.1.1.1.2, ⟨hk.1.1.2, ⟨hk.1.2, hk.2⟩⟩⟩⟩⟩⟩⟩)⟩, ⟨Yj HO576.out (fun _ hk => ⟨hk.1.1.1.1.1.2, ⟨hk.1.1.1.1.2, ⟨hk.1.1.1.2, ⟨hk.1.1.1.1.1.1.1, ⟨hk.1.1.1.1.1.1.2, ⟨hk.1.1.2, ⟨hk.1.2, hk.2⟩⟩⟩⟩⟩⟩⟩)⟩, ⟨Yj HO579.out (fun _ hk => ⟨hk.1.2, hk.2⟩)⟩, ⟨Yj HO582.out (fun _ hk => ⟨hk.1.1.1.1.1.2, ⟨hk.1.1.1.1.2, ⟨hk.1.1.1.2, ⟨hk.1.1.1.1.1.1.1, ⟨hk.1.1.1.1.1.1.2, ⟨hk.1.1.2, ⟨hk.1.2, hk.2⟩⟩⟩⟩⟩⟩⟩)⟩, ⟨Yj HO588.out (fun _ hk => ⟨hk.1.1.1.1.1.2, ⟨hk.1.1.1.1.2, ⟨hk.1.1.1.2, ⟨hk.1.1.2, ⟨hk.1.2, ⟨hk.2, ⟨hk.1.1.1.1.1.1.1, hk.1.1.1.1.1.1.2⟩⟩⟩⟩⟩⟩⟩)⟩, ⟨Yj HO591.out (fun _ hk => ⟨hk.1.1.1.1.1.2, ⟨hk.1.1.1.1.2, ⟨hk.1.1.1.2, ⟨hk.1.1.2, ⟨hk.1.2, ⟨hk.2, ⟨hk.1.1.1.1.1.1.1, hk.1.1.1.1.1.1.2⟩⟩⟩⟩⟩⟩⟩)⟩, ⟨Yj HO594.out (fun _ hk => ⟨hk.1.2, hk.2⟩)⟩, ⟨Yj HO597.out (fun _ hk => ⟨hk.1.1.1.1.1.2, ⟨hk.1.1.1.1.2, ⟨hk.1.1.1.2, ⟨hk.1.1.2, ⟨hk.1.2, ⟨hk.2, ⟨hk.1.1.1.1.1.1.1, hk.1.1.1.1.1.1.2⟩⟩⟩⟩⟩⟩⟩)⟩, ⟨Q28⟩, ⟨Q27⟩, ⟨Q26⟩, ⟨Q12⟩⟩
    ·replace c36 := Bool.eq_false_iff.mpr c36
     subst c36
     have H1 : (laws_FnFocusSteps.j0 k t583 t584 true t558 t561 t564 t567 t571 t574 t577 t580) = some r := by rw [if_neg (show ¬ (false = true) by decide)] at H; exact H
     clear H
     have H := H1
     clear H1
     have H' := Ya H
     clear H
     have hnb43 := NB585_570.out
     have hnc43 := NB570_585.out
     have hnb44 := NB585_600.out
     have hnc44 := NB600_585.out
     obtain ⟨hcz45_0, hcz45_1, hcz45_2, hcz45_3, hfz45_0, hfz45_1, hfz45_2, hfz45_3⟩ := Y4 BK585.out
     have hnb46 := NB600_570.out
     have hnc46 := NB570_600.out
     obtain ⟨hcz47_0, hcz47_1, hcz47_2, hcz47_3, hfz47_0, hfz47_1, hfz47_2, hfz47_3⟩ := Y4 BK600.out
     go_wp2_with (first | (go_at_call 17; (with_reducible refine (laws_uFocus.calls k _ _ t571 _ _ t574 _ _ t577 _ _ t580 _ _ t586 _ _ t589 _ _ t592 _ _ t595 false _ ?side1 ((Kd.R_reads' HO573.out).2.1) ?side3 ((Kd.R_reads' HO576.out).2.1) ?side5 ((Kd.R_reads' HO579.out).2.1) ?side7 ((Kd.R_reads' HO582.out).2.1) ?side9 ((Kd.R_reads' HO588.out).2.1) ?side11 ((Kd.R_reads' HO591.out).2.1) ?side13 ((Kd.R_reads' HO594.out).2.1) ?side15 ((Kd.R_reads' HO597.out).2.1) A35.out).mono ?_); (case side1 => refine (Kd.R_reads' (e := 3) (base := w.heap.size) (ok := fun k_ => (((((((some k_ ≠ (.slice Ao21 t574.length co21 : Value).ownBlock ∧ some k_ ≠ (.slice Ao23 t580.length co23 : Value).ownBlock) ∧ some k_ ≠ (.slice Ao11 t558.length co11 : Value).ownBlock) ∧ some k_ ≠ (.slice Ao13 t561.length co13 : Value).ownBlock) ∧ some k_ ≠ (.slice Ao15 t567.length co15 : Value).ownBlock) ∧ some k_ ≠ (.slice Ao27 t586.length co27 : Value).ownBlock) ∧ some k_ ≠ (.slice Ao31 t589.length co31 : Value).ownBlock) ∧ some k_ ≠ (.slice Ao33 t595.length co33 : Value).ownBlock)) (n := t571.length) (c := co18) ?_).2.2; exact (Yj (Yf4 HO573.out BK600.out) (fun _ h_ => h_.1))); (case side3 => refine (Kd.R_reads' (e := 3) (base := w.heap.size) (ok := fun k_ => (((((((some k_ ≠ (.slice Ao18 t571.length co18 : Value).ownBlock ∧ some k_ ≠ (.slice Ao23 t580.length co23 : Value).ownBlock) ∧ some k_ ≠ (.slice Ao11 t558.length co11 : Value).ownBlock) ∧ some k_ ≠ (.slice Ao13 t561.length co13 : Value).ownBlock) ∧ some k_ ≠ (.slice Ao15 t567.length co15 : Value).ownBlock) ∧ some k_ ≠ (.slice Ao27 t586.length co27 : Value).ownBlock) ∧ some k_ ≠ (.slice Ao31 t589.length co31 : Value).ownBlock) ∧ some k_ ≠ (.slice Ao33 t595.length co33 : Value).ownBlock)) (n := t574.length) (c := co21) ?_).2.2; exact (Yj (Yf4 HO576.out BK600.out) (fun _ h_ => h_.1))); (case side5 => refine (Kd.R_reads' (e := 4) (base := w.heap.size) (ok := fun k_ => ((True ∧ some k_ ≠ (.slice Ao14 t564.length co14 : Value).ownBlock) ∧ some k_ ≠ (.slice Ao32 t592.length co32 : Value).ownBlock)) (n := t577.length) (c := co22) ?_).2.2; exact (Yj (Yf4 HO579.out BK600.out) (fun _ h_ => h_.1))); (case side7 => refine (Kd.R_reads' (e := 3) (base := w.heap.size) (ok := fun k_ => (((((((some k_ ≠ (.slice Ao18 t571.length co18 : Value).ownBlock ∧ some k_ ≠ (.slice Ao21 t574.length co21 : Value).ownBlock) ∧ some k_ ≠ (.slice Ao11 t558.length co11 : Value).ownBlock) ∧ some k_ ≠ (.slice Ao13 t561.length co13 : Value).ownBlock) ∧ some k_ ≠ (.slice Ao15 t567.length co15 : Value).ownBlock) ∧ some k_ ≠ (.slice Ao27 t586.length co27 : Value).ownBlock) ∧ some k_ ≠ (.slice Ao31 t589.length co31 : Value).ownBlock) ∧ some k_ ≠ (.slice Ao33 t595.length co33 : Value).ownBlock)) (n := t580.length) (c := co23) ?_).2.2; exact (Yj (Yf4 HO582.out BK600.out) (fun _ h_ => h_.1))); (case side9 => refine (Kd.R_reads' (e := 3) (base := w.heap.size) (ok := fun k_ => (((((((some k_ ≠ (.slice Ao31 t589.length co31 : Value).ownBlock ∧ some k_ ≠ (.slice Ao33 t595.length co33 : Value).ownBlock) ∧ some k_ ≠ (.slice Ao11 t558.length co11 : Value).ownBlock) ∧ some k_ ≠ (.slice Ao13 t561.length co13 : Value).ownBlock) ∧ some k_ ≠ (.slice Ao15 t567.length co15 : Value).ownBlock) ∧ some k_ ≠ (.slice Ao18 t571.length co18 : Value).ownBlock) ∧ some k_ ≠ (.slice Ao21 t574.length co21 : Value).ownBlock) ∧ some k_ ≠ (.slice Ao23 t580.length co23 : Value).ownBlock)) (n := t586.length) (c := co27) ?_).2.2; exact (Yj (Yf4 HO588.out BK600.out) (fun _ h_ => h_.1))); (case side11 => refine (Kd.R_reads' (e := 3) (base := w.heap.size) (ok := fun k_ => (((((((some k_ ≠ (.slice Ao27 t586.length co27 : Value).ownBlock ∧ some k_ ≠ (.slice Ao33 t595.length co33 : Value).ownBlock) ∧ some k_ ≠ (.slice Ao11 t558.length co11 : Value).ownBlock) ∧ some k_ ≠ (.slice Ao13 t561.length co13 : Value).ownBlock) ∧ some k_ ≠ (.slice Ao15 t567.length co15 : Value).ownBlock) ∧ some k_ ≠ (.slice Ao18 t571.length co18 : Value).ownBlock) ∧ some k_ ≠ (.slice Ao21 t574.length co21 : Value).ownBlock) ∧ some k_ ≠ (.slice Ao23 t580.length co23 : Value).ownBlock)) (n := t589.length) (c := co31) ?_).2.2; exact (Yj (Yf4 HO591.out BK600.out) (fun _ h_ => h_.1))); (case side13 => refine (Kd.R_reads' (e := 4) (base := w.heap.size) (ok := fun k_ => ((True ∧ some k_ ≠ (.slice Ao14 t564.length co14 : Value).ownBlock) ∧ some k_ ≠ (.slice Ao22 t577.length co22 : Value).ownBlock)) (n := t592.length) (c := co32) ?_).2.2; exact (Yj (Yf4 HO594.out BK600.out) (fun _ h_ => h_.1))); (case side15 => refine (Kd.R_reads' (e := 3) (base := w.heap.size) (ok := fun k_ => (((((((some k_ ≠ (.slice Ao27 t586.length co27 : Value).ownBlock ∧ some k_ ≠ (.slice Ao31 t589.length co31 : Value).ownBlock) ∧ some k_ ≠ (.slice Ao11 t558.length co11 : Value).ownBlock) ∧ some k_ ≠ (.slice Ao13 t561.length co13 : Value).ownBlock) ∧ some k_ ≠ (.slice Ao15 t567.length co15 : Value).ownBlock) ∧ some k_ ≠ (.slice Ao18 t571.length co18 : Value).ownBlock) ∧ some k_ ≠ (.slice Ao21 t574.length co21 : Value).ownBlock) ∧ some k_ ≠ (.slice Ao23 t580.length co23 : Value).ownBlock)) (n := t595.length) (c := co33) ?_).2.2; exact (Yj (Yf4 HO597.out BK600.out) (fun _ h_ => h_.1))); rintro e w48 ⟨rfl, hb⟩; replace HO560 := Ya (Z14 (Yj (Yf4 HO560.out BK600.out) (fun _ h_ => h_.1)) hb); replace HO563 := Ya (Z14 (Yj (Yf4 HO563.out BK600.out) (fun _ h_ => h_.1)) hb); replace HO566 := Ya (Z14 (Yj (Yf4 HO566.out BK600.out) (fun _ h_ => h_.1)) hb); replace HO569 := Ya (Z14 (Yj (Yf4 HO569.out BK600.out) (fun _ h_ => h_.1)) hb); replace HO573 := Ya (Z14 (Yj (Yf4 HO573.out BK600.out) (fun _ h_ => h_.1)) hb); replace HO576 := Ya (Z14 (Yj (Yf4 HO576.out BK600.out) (fun _ h_ => h_.1)) hb); replace HO579 := Ya (Z14 (Yj (Yf4 HO579.out BK600.out) (fun _ h_ => h_.1)) hb); replace HO582 := Ya (Z14 (Yj (Yf4 HO582.out BK600.out) (fun _ h_ => h_.1)) hb); replace HO588 := Ya (Z14 (Yj (Yf4 HO588.out BK600.out) (fun _ h_ => h_.1)) hb); replace HO591 := Ya (Z14 (Yj (Yf4 HO591.out BK600.out) (fun _ h_ => h_.1)) hb); replace HO594 := Ya (Z14 (Yj (Yf4 HO594.out BK600.out) (fun _ h_ => h_.1)) hb); replace HO597 := Ya (Z14 (Yj (Yf4 HO597.out BK600.out) (fun _ h_ => h_.1)) hb); replace BK570 := Yb ⟨Yo4 BK570.out NB570_600.out⟩ hb; replace BK585 := Yb ⟨Yo4 BK585.out NB585_600.out⟩ hb; replace BK600 := Yb ⟨Yv4 BK600.out⟩ hb; replace HB := Yh hb; (try clear hb)))
     go_meet
     case rel => exact ⟨_, (true), Q9, H', ⟨Q46⟩, ⟨Yj HO560.out (fun _ hk => ⟨hk.1.1.1.1.1.1.1, ⟨hk.1.1.1.1.1.1.2, ⟨hk.1.1.1.1.1.2, ⟨hk.1.1.1.1.2, ⟨hk.1.1.1.2, ⟨hk.1.1.2, ⟨hk.1.2, hk.2⟩⟩⟩⟩⟩⟩⟩)⟩, ⟨Yj HO563.out (fun _ hk => ⟨hk.1.1.1.1.1.1.1, ⟨hk.1.1.1.1.1.1.2, ⟨hk.1.1.1.1.1.2, ⟨hk.1.1.1.1.2, ⟨hk.1.1.1.2, ⟨hk.1.1.2, ⟨hk.1.2, hk.2⟩⟩⟩⟩⟩⟩⟩)⟩, ⟨Yj HO566.out (fun _ hk => ⟨hk.1.2, hk.2⟩)⟩, ⟨Yj HO569.out (fun _ hk => ⟨hk.1.1.1.1.1.1.1, ⟨hk.1.1.1.1.1.1.2, ⟨hk.1.1.1.1.1.2, ⟨hk.1.1.1.1.2, ⟨hk.1.1.1.2, ⟨hk.1.1.2, ⟨hk.1.2, hk.2⟩⟩⟩⟩⟩⟩⟩)⟩, ⟨Yj HO573.out (fun _ hk => ⟨hk.1.1.1.1.1.2, ⟨hk.1.1.1.1.2, ⟨hk.1.1.1.2, ⟨hk.1.1.1.1.1.1.1, ⟨hk.1.1.1.1.1.1.2, ⟨hk.1.1.2, ⟨hk.1.2, hk.2⟩⟩⟩⟩⟩⟩⟩)⟩, ⟨Yj HO576.out (fun _ hk => ⟨hk.1.1.1.1.1.2, ⟨hk.1.1.1.1.2, ⟨hk.1.1.1.2, ⟨hk.1.1.1.1.1.1.1, ⟨hk.1.1.1.1.1.1.2, ⟨hk.1.1.2, ⟨hk.1.2, hk.2⟩⟩⟩⟩⟩⟩⟩)⟩, ⟨Yj HO579.out (fun _ hk => ⟨hk.1.2, hk.2⟩)⟩, ⟨Yj HO582.out (fun _ hk => ⟨hk.1.1.1.1.1.2, ⟨hk.1.1.1.1.2, ⟨hk.1.1.1.2, ⟨hk.1.1.1.1.1.1.1, ⟨hk.1.1.1.1.1.1.2, ⟨hk.1.1.2, ⟨hk.1.2, hk.2⟩⟩⟩⟩⟩⟩⟩)⟩, ⟨Yj HO588.out (fun _ hk => ⟨hk.1.1.1.1.1.2, ⟨hk.1.1.1.1.2, ⟨hk.1.1.1.2, ⟨hk.1.1.2, ⟨hk.1.2, ⟨hk.2, ⟨hk.1.1.1.1.1.1.1, hk.1.1.1.1.1.1.2⟩⟩⟩⟩⟩⟩⟩)⟩, ⟨Yj HO591.out (fun _ hk => ⟨hk.1.1.1.1.1.2, ⟨hk.1.1.1.1.2, ⟨hk.1.1.1.2, ⟨hk.1.1.2, ⟨hk.1.2, ⟨hk.2, ⟨hk.1.1.1.1.1.1.1, hk.1.1.1.1.1.1.2⟩⟩⟩⟩⟩⟩⟩)⟩, ⟨Yj HO594.out (fun _ hk => ⟨hk.1.2, hk.2⟩)⟩, ⟨Yj HO597.out (fun _ hk => ⟨hk.1.1.1.1.1.2, ⟨hk.1.1.1.1.2, ⟨hk.1.1.1.2, ⟨hk.1.1.2, ⟨hk.1.2, ⟨hk.2, ⟨hk.1.1.1.1.1.1.1, hk.1.1.1.1.1.1.2⟩⟩⟩⟩⟩⟩⟩)⟩, ⟨Q28⟩, ⟨Q27⟩, ⟨Q26⟩, ⟨Q12⟩⟩
  case rest => as_aux_lemma =>
   clear HC8
   try clear c1
   try clear c2
   try clear p2
   try clear c3
   try clear c4
   try clear c5
   try clear c13
   try clear c19
   try clear c20
   try clear c21
   try clear c28
   try clear c29
   try clear c34
   try clear c34b0
   try clear c34b1
   try clear c34b2
   try clear c36
   try clear c37
   try clear c38
   try clear c40
   try clear c43
   try clear c44
   try clear c46
   try clear hcz12_0
   try clear hcz12_1
   try clear hcz12_2
   try clear hcz12_3
   try clear hcz20_0
   try clear hcz20_1
   try clear hcz20_2
   try clear hcz20_3
   try clear hcz24_0
   try clear hcz24_1
   try clear hcz24_2
   try clear hcz24_3
   try clear hcz30_0
   try clear hcz30_1
   try clear hcz30_2
   try clear hcz30_3
   try clear hcz39_0
   try clear hcz39_1
   try clear hcz39_2
   try clear hcz39_3
   try clear hcz41_0
   try clear hcz41_1
   try clear hcz41_2
   try clear hcz41_3
   try clear hcz45_0
   try clear hcz45_1
   try clear hcz45_2
   try clear hcz45_3
   try clear hcz47_0
   try clear hcz47_1
   try clear hcz47_2
   try clear hcz47_3
   try clear hfz12_0
   try clear hfz12_1
   try clear hfz12_2
   try clear hfz12_3
   try clear hfz20_0
   try clear hfz20_1
   try clear hfz20_2
   try clear hfz20_3
   try clear hfz24_0
   try clear hfz24_1
   try clear hfz24_2
   try clear hfz24_3
   try clear hfz30_0
   try clear hfz30_1
   try clear hfz30_2
   try clear hfz30_3
   try clear hfz39_0
   try clear hfz39_1
   try clear hfz39_2
   try clear hfz39_3
   try clear hfz41_0
   try clear hfz41_1
   try clear hfz41_2
   try clear hfz41_3
   try clear hfz45_0
   try clear hfz45_1
   try clear hfz45_2
   try clear hfz45_3
   try clear hfz47_0
   try clear hfz47_1
   try clear hfz47_2
   try clear hfz47_3
   obtain ⟨kq, x53_7, rfl, HA, HJ7, HO_571000, HO_571001, HO_571002, HO_571003, HO_586000, HO_586001, HO_586002, HO_586003, HO_601000, HO_601001, HO_601002, HO_601003, BK570, BK585, BK600, HB⟩ := hcut
   cases kq with
   | zero => exact absurd HA.out (by simp [laws_FnFocusSteps.j0])
   | succ kj7 =>
    have H := HA.out
    clear HA
    simp only [laws_FnFocusSteps.j0] at H
    by_cases c49 : x53_7 = true
    ·subst c49
     have H1 : (some false) = some r := by rw [if_pos rfl] at H; exact H
     clear H
     have H := H1
     clear H1
     obtain rfl := Option.some.inj H
     go_wp2
     go_ret
     exact ⟨Q1, Q12⟩
    ·replace c49 := Bool.eq_false_iff.mpr c49
     subst c49
     have H1 : ((impl_IsLastFocus.f kj7 t558 t561 t564 t567).bind fun bt602 => ((spec_IsLastFocus.f kj7 t558 t561 t564 t567).bind fun bt604 => (if (bt602.2 != bt604.2) = true then (laws_FnFocusSteps.j1 kj7 t583 t584 bt602.2 true t558 t561 t564 t567 t571 t574 t577 t580) else (if (bt602.1 != bt604.1) = true then (laws_FnFocusSteps.j1 kj7 t583 t584 bt602.2 true t558 t561 t564 t567 t571 t574 t577 t580) else ((impl_IsFocus.f kj7 t558 t561 t564 t567).bind fun t606 => (if (bt602.2 != t606) = true then (laws_FnFocusSteps.j1 kj7 t583 t584 bt602.2 true t558 t561 t564 t567 t571 t574 t577 t580) else (if bt602.2 = true then (laws_FnFocusSteps.j1 kj7 t583 t584 bt602.2 (t584 != (!bt602.1)) t558 t561 t564 t567 t571 t574 t577 t580) else (laws_FnFocusSteps.j1 kj7 t583 t584 bt602.2 (t584 != false) t558 t561 t564 t567 t571 t574 t577 t580)))))))) = some r := by rw [if_neg (show ¬ (false = true) by decide)] at H; exact H
     clear H
     have H := H1
     clear H1
     replace H := Z37.mp H
     obtain ⟨⟨t602, t603⟩, A500, H⟩ := H
     replace H : ((spec_IsLastFocus.f kj7 t558 t561 t564 t567).bind fun bt604 => (if (t603 != bt604.2) = true then (laws_FnFocusSteps.j1 kj7 t583 t584 t603 true t558 t561 t564 t567 t571 t574 t577 t580) else (if (t602 != bt604.1) = true then (laws_FnFocusSteps.j1 kj7 t583 t584 t603 true t558 t561 t564 t567 t571 t574 t577 t580) else ((impl_IsFocus.f kj7 t558 t561 t564 t567).bind fun t606 => (if (t603 != t606) = true then (laws_FnFocusSteps.j1 kj7 t583 t584 t603 true t558 t561 t564 t567 t571 t574 t577 t580) else (if t603 = true then (laws_FnFocusSteps.j1 kj7 t583 t584 t603 (t584 != (!t602)) t558 t561 t564 t567 t571 t574 t577 t580) else (laws_FnFocusSteps.j1 kj7 t583 t584 t603 (t584 != false) t558 t561 t564 t567 t571 t574 t577 t580))))))) = some r := H
     have A50 := Ya A500
     clear A500
     replace H := Z37.mp H
     obtain ⟨⟨t604, t605⟩, A510, H⟩ := H
     replace H : (if (t603 != t605) = true then (laws_FnFocusSteps.j1 kj7 t583 t584 t603 true t558 t561 t564 t567 t571 t574 t577 t580) else (if (t602 != t604) = true then (laws_FnFocusSteps.j1 kj7 t583 t584 t603 true t558 t561 t564 t567 t571 t574 t577 t580) else ((impl_IsFocus.f kj7 t558 t561 t564 t567).bind fun t606 => (if (t603 != t606) = true then (laws_FnFocusSteps.j1 kj7 t583 t584 t603 true t558 t561 t564 t567 t571 t574 t577 t580) else (if t603 = true then (laws_FnFocusSteps.j1 kj7 t583 t584 t603 (t584 != (!t602)) t558 t561 t564 t567 t571 t574 t577 t580) else (laws_FnFocusSteps.j1 kj7 t583 t584 t603 (t584 != false) t558 t561 t564 t567 t571 t574 t577 t580)))))) = some r := H
     have A51 := Ya A510
     clear A510
     have HC52 := Ya H
     clear H
     have hnb53 := NB570_585.out
     have hnc53 := NB585_570.out
     have hnb54 := NB570_600.out
     have hnc54 := NB600_570.out
     obtain ⟨hcz55_0, hcz55_1, hcz55_2, hcz55_3, hfz55_0, hfz55_1, hfz55_2, hfz55_3⟩ := Y4 BK570.out
     go_upto_region 10 with (first | ((with_reducible refine gate_callee (f := 22) rfl ?_); refine Yz 56 Try.func22 #[.agg #[.slice Ao11 t558.length co11, .slice Ao13 t561.length co13, .slice Ao14 t564.length co14, .slice Ao15 t567.length co15]] ?_; (with_reducible refine (impl_IsLastFocus.calls kj7 _ _ t558 _ _ t561 _ _ t564 _ _ t567 t602 t603 _ (Yc (Kd.R_reads' HO_571000.out).2.2) ((Kd.R_reads' HO_571000.out).2.1) (Yc (Kd.R_reads' HO_571001.out).2.2) ((Kd.R_reads' HO_571001.out).2.1) (Yc (Kd.R_reads' HO_571002.out).2.2) ((Kd.R_reads' HO_571002.out).2.1) (Yc (Kd.R_reads' HO_571003.out).2.2) ((Kd.R_reads' HO_571003.out).2.1) A50.out).mono ?_); rintro e w56 ⟨rfl, hb⟩; refine ⟨_, rfl, ?_⟩; replace HO_571000 := Yw HO_571000 hb; replace HO_571001 := Yw HO_571001 hb; replace HO_571002 := Yw HO_571002 hb; replace HO_571003 := Yw HO_571003 hb; replace HO_586000 := Yw HO_586000 hb; replace HO_586001 := Yw HO_586001 hb; replace HO_586002 := Yw HO_586002 hb; replace HO_586003 := Yw HO_586003 hb; replace HO_601000 := Yw HO_601000 hb; replace HO_601001 := Yw HO_601001 hb; replace HO_601002 := Yw HO_601002 hb; replace HO_601003 := Yw HO_601003 hb; replace BK570 := Yb BK570 hb; replace BK585 := Yb BK585 hb; replace BK600 := Yb BK600 hb; replace HB := Yh hb; (try clear hb); obtain ⟨hcz57_0, hcz57_1, hcz57_2, hcz57_3, hfz57_0, hfz57_1, hfz57_2, hfz57_3⟩ := Y4 BK570.out) | ((with_reducible refine gate_callee (f := 23) rfl ?_); refine Yz 61 Try.func23 #[.agg #[.slice Ao11 t558.length co11, .slice Ao13 t561.length co13, .slice Ao14 t564.length co14, .slice Ao15 t567.length co15]] ?_; (with_reducible refine (spec_IsLastFocus.calls kj7 _ _ t558 _ _ t561 _ _ t564 _ _ t567 t604 t605 _ (Yc (Kd.R_reads' HO_571000.out).2.2) ((Kd.R_reads' HO_571000.out).2.1) (Yc (Kd.R_reads' HO_571001.out).2.2) ((Kd.R_reads' HO_571001.out).2.1) (Yc (Kd.R_reads' HO_571002.out).2.2) ((Kd.R_reads' HO_571002.out).2.1) (Yc (Kd.R_reads' HO_571003.out).2.2) ((Kd.R_reads' HO_571003.out).2.1) A51.out).mono ?_); rintro e w58 ⟨rfl, hb⟩; refine ⟨_, rfl, ?_⟩; replace HO_571000 := Yw HO_571000 hb; replace HO_571001 := Yw HO_571001 hb; replace HO_571002 := Yw HO_571002 hb; replace HO_571003 := Yw HO_571003 hb; replace HO_586000 := Yw HO_586000 hb; replace HO_586001 := Yw HO_586001 hb; replace HO_586002 := Yw HO_586002 hb; replace HO_586003 := Yw HO_586003 hb; replace HO_601000 := Yw HO_601000 hb; replace HO_601001 := Yw HO_601001 hb; replace HO_601002 := Yw HO_601002 hb; replace HO_601003 := Yw HO_601003 hb; replace BK570 := Yb BK570 hb; replace BK585 := Yb BK585 hb; replace BK600 := Yb BK600 hb; replace HB := Yh hb; (try clear hb)))
     (try simp only [Act.put, Z0, Z1, Z2])
     go_cut [86] (fun v86 wc => ∃ (kq : Nat) (x86_51 : Bool), v86 = .bool x86_51 ∧ Aside0 (laws_FnFocusSteps.j1 kq t583 t584 t603 x86_51 t558 t561 t564 t567 t571 t574 t577 t580 = some r) ∧ Aside0 (kq ≤ kj7) ∧ Aside0 (Kd.R (Kd.int .i64) 3 wc w.heap.size (fun k_ => some k_ ≠ ((.slice Ao13 t561.length co13) : Value).ownBlock ∧ some k_ ≠ ((.slice Ao15 t567.length co15) : Value).ownBlock ∧ some k_ ≠ ((.slice Ao18 t571.length co18) : Value).ownBlock ∧ some k_ ≠ ((.slice Ao21 t574.length co21) : Value).ownBlock ∧ some k_ ≠ ((.slice Ao23 t580.length co23) : Value).ownBlock ∧ some k_ ≠ ((.slice Ao27 t586.length co27) : Value).ownBlock ∧ some k_ ≠ ((.slice Ao31 t589.length co31) : Value).ownBlock ∧ some k_ ≠ ((.slice Ao33 t595.length co33) : Value).ownBlock) (.slice Ao11 t558.length co11) t558) ∧ Aside0 (Kd.R (Kd.int .i64) 3 wc w.heap.size (fun k_ => some k_ ≠ ((.slice Ao11 t558.length co11) : Value).ownBlock ∧ some k_ ≠ ((.slice Ao15 t567.length co15) : Value).ownBlock ∧ some k_ ≠ ((.slice Ao18 t571.length co18) : Value).ownBlock ∧ some k_ ≠ ((.slice Ao21 t574.length co21) : Value).ownBlock ∧ some k_ ≠ ((.slice Ao23 t580.length co23) : Value).ownBlock ∧ some k_ ≠ ((.slice Ao27 t586.length co27) : Value).ownBlock ∧ some k_ ≠ ((.slice Ao31 t589.length co31) : Value).ownBlock ∧ some k_ ≠ ((.slice Ao33 t595.length co33) : Value).ownBlock) (.slice Ao13 t561.length co13) t561) ∧ Aside0 (Kd.R Kd.bool 4 wc w.heap.size (fun k_ => some k_ ≠ ((.slice Ao22 t577.length co22) : Value).ownBlock ∧ some k_ ≠ ((.slice Ao32 t592.length co32) : Value).ownBlock) (.slice Ao14 t564.length co14) t564) ∧ Aside0 (Kd.R (Kd.int .i64) 3 wc w.heap.size (fun k_ => some k_ ≠ ((.slice Ao11 t558.length co11) : Value).ownBlock ∧ some k_ ≠ ((.slice Ao13 t561.length co13) : Value).ownBlock ∧ some k_ ≠ ((.slice Ao18 t571.length co18) : Value).ownBlock ∧ some k_ ≠ ((.slice Ao21 t574.length co21) : Value).ownBlock ∧ some k_ ≠ ((.slice Ao23 t580.length co23) : Value).ownBlock ∧ some k_ ≠ ((.slice Ao27 t586.length co27) : Value).ownBlock ∧ some k_ ≠ ((.slice Ao31 t589.length co31) : Value).ownBlock ∧ some k_ ≠ ((.slice Ao33 t595.length co33) : Value).ownBlock) (.slice Ao15 t567.length co15) t567) ∧ Aside0 (Kd.R (Kd.int .i64) 3 wc w.heap.size (fun k_ => some k_ ≠ ((.slice Ao11 t558.length co11) : Value).ownBlock ∧ some k_ ≠ ((.slice Ao13 t561.length co13) : Value).ownBlock ∧ some k_ ≠ ((.slice Ao15 t567.length co15) : Value).ownBlock ∧ some k_ ≠ ((.slice Ao21 t574.length co21) : Value).ownBlock ∧ some k_ ≠ ((.slice Ao23 t580.length co23) : Value).ownBlock ∧ some k_ ≠ ((.slice Ao27 t586.length co27) : Value).ownBlock ∧ some k_ ≠ ((.slice Ao31 t589.length co31) : Value).ownBlock ∧ some k_ ≠ ((.slice Ao33 t595.length co33) : Value).ownBlock) (.slice Ao18 t571.length co18) t571) ∧ Aside0 (Kd.R (Kd.int .i64) 3 wc w.heap.size (fun k_ => some k_ ≠ ((.slice Ao11 t558.length co11) : Value).ownBlock ∧ some k_ ≠ ((.slice Ao13 t561.length co13) : Value).ownBlock ∧ some k_ ≠ ((.slice Ao15 t567.length co15) : Value).ownBlock ∧ some k_ ≠ ((.slice Ao18 t571.length co18) : Value).ownBlock ∧ some k_ ≠ ((.slice Ao23 t580.length co23) : Value).ownBlock ∧ some k_ ≠ ((.slice Ao27 t586.length co27) : Value).ownBlock ∧ some k_ ≠ ((.slice Ao31 t589.length co31) : Value).ownBlock ∧ some k_ ≠ ((.slice Ao33 t595.length co33) : Value).ownBlock) (.slice Ao21 t574.length co21) t574) ∧ Aside0 (Kd.R Kd.bool 4 wc w.heap.size (fun k_ => some k_ ≠ ((.slice Ao14 t564.length co14) : Value).ownBlock ∧ some k_ ≠ ((.slice Ao32 t592.length co32) : Value).ownBlock) (.slice Ao22 t577.length co22) t577) ∧ Aside0 (Kd.R (Kd.int .i64) 3 wc w.heap.size (fun k_ => some k_ ≠ ((.slice Ao11 t558.length co11) : Value).ownBlock ∧ some k_ ≠ ((.slice Ao13 t561.length co13) : Value).ownBlock ∧ some k_ ≠ ((.slice Ao15 t567.length co15) : Value).ownBlock ∧ some k_ ≠ ((.slice Ao18 t571.length co18) : Value).ownBlock ∧ some k_ ≠ ((.slice Ao21 t574.length co21) : Value).ownBlock ∧ some k_ ≠ ((.slice Ao27 t586.length co27) : Value).ownBlock ∧ some k_ ≠ ((.slice Ao31 t589.length co31) : Value).ownBlock ∧ some k_ ≠ ((.slice Ao33 t595.length co33) : Value).ownBlock) (.slice Ao23 t580.length co23) t580) ∧ Aside0 (Kd.R (Kd.int .i64) 3 wc w.heap.size (fun k_ => some k_ ≠ ((.slice Ao11 t558.length co11) : Value).ownBlock ∧ some k_ ≠ ((.slice Ao13 t561.length co13) : Value).ownBlock ∧ some k_ ≠ ((.slice Ao15 t567.length co15) : Value).ownBlock ∧ some k_ ≠ ((.slice Ao18 t571.length co18) : Value).ownBlock ∧ some k_ ≠ ((.slice Ao21 t574.length co21) : Value).ownBlock ∧ some k_ ≠ ((.slice Ao23 t580.length co23) : Value).ownBlock ∧ some k_ ≠ ((.slice Ao31 t589.length co31) : Value).ownBlock ∧ some k_ ≠ ((.slice Ao33 t595.length co33) : Value).ownBlock) (.slice Ao27 t586.length co27) t586) ∧ Aside0 (Kd.R (Kd.int .i64) 3 wc w.heap.size (fun k_ => some k_ ≠ ((.slice Ao11 t558.length co11) : Value).ownBlock ∧ some k_ ≠ ((.slice Ao13 t561.length co13) : Value).ownBlock ∧ some k_ ≠ ((.slice Ao15 t567.length co15) : Value).ownBlock ∧ some k_ ≠ ((.slice Ao18 t571.length co18) : Value).ownBlock ∧ some k_ ≠ ((.slice Ao21 t574.length co21) : Value).ownBlock ∧ some k_ ≠ ((.slice Ao23 t580.length co23) : Value).ownBlock ∧ some k_ ≠ ((.slice Ao27 t586.length co27) : Value).ownBlock ∧ some k_ ≠ ((.slice Ao33 t595.length co33) : Value).ownBlock) (.slice Ao31 t589.length co31) t589) ∧ Aside0 (Kd.R Kd.bool 4 wc w.heap.size (fun k_ => some k_ ≠ ((.slice Ao14 t564.length co14) : Value).ownBlock ∧ some k_ ≠ ((.slice Ao22 t577.length co22) : Value).ownBlock) (.slice Ao32 t592.length co32) t592) ∧ Aside0 (Kd.R (Kd.int .i64) 3 wc w.heap.size (fun k_ => some k_ ≠ ((.slice Ao11 t558.length co11) : Value).ownBlock ∧ some k_ ≠ ((.slice Ao13 t561.length co13) : Value).ownBlock ∧ some k_ ≠ ((.slice Ao15 t567.length co15) : Value).ownBlock ∧ some k_ ≠ ((.slice Ao18 t571.length co18) : Value).ownBlock ∧ some k_ ≠ ((.slice Ao21 t574.length co21) : Value).ownBlock ∧ some k_ ≠ ((.slice Ao23 t580.length co23) : Value).ownBlock ∧ some k_ ≠ ((.slice Ao27 t586.length co27) : Value).ownBlock ∧ some k_ ≠ ((.slice Ao31 t589.length co31) : Value).ownBlock) (.slice Ao33 t595.length co33) t595) ∧ Aside0 (wc.heap[gb570]? = some (.cells #[(.slice Ao11 t558.length co11), (.slice Ao13 t561.length co13), (.slice Ao14 t564.length co14), (.slice Ao15 t567.length co15)] 33 (0, 0))) ∧ Aside0 (wc.heap[gb585]? = some (.cells #[(.slice Ao18 t571.length co18), (.slice Ao21 t574.length co21), (.slice Ao22 t577.length co22), (.slice Ao23 t580.length co23)] 33 (0, 0))) ∧ Aside0 (wc.heap[gb600]? = some (.cells #[(.slice Ao27 t586.length co27), (.slice Ao31 t589.length co31), (.slice Ao32 t592.length co32), (.slice Ao33 t595.length co33)] 33 (0, 0))) ∧ Aside0 (Below w.heap.size w wc))
     case first =>
      have H := HC52.out
      clear HC52
      by_cases c59 : (t603 != t605) = true
      ·rw [if_pos c59] at H
       have c59b0 : (t603 != t605) = true := c59
       (try (have c59b1 : decide (t603 = t605) = false := by simpa using c59))
       (try (have c59b2 : (t603 == t605) = false := by simpa using c59))
       (try (have c59b3 : ¬ (t603 = t605) := by simpa using c59))
       clear c59
       (first | rw [c59b0] | (simp only [i64_w, i32_w]; rw [c59b0]) | skip)
       have H' := Ya H
       clear H
       go_wp2
       go_meet
       case rel => exact ⟨_, (true), Q9, H', ⟨Q66⟩, ⟨Q58⟩, ⟨Q57⟩, ⟨Q32⟩, ⟨Q56⟩, ⟨Q55⟩, ⟨Q54⟩, ⟨Q31⟩, ⟨Q53⟩, ⟨Q52⟩, ⟨Q51⟩, ⟨Q30⟩, ⟨Q50⟩, ⟨Q28⟩, ⟨Q27⟩, ⟨Q26⟩, ⟨Q12⟩⟩
      ·rw [if_neg c59] at H
       have c59b0 : (t603 != t605) = false := by simpa using c59
       (try (have c59b1 : decide (t603 = t605) = true := by simpa using c59))
       (try (have c59b2 : (t603 == t605) = true := by simpa using c59))
       clear c59
       (first | rw [c59b0] | (simp only [i64_w, i32_w]; rw [c59b0]) | skip)
       by_cases c60 : (t602 != t604) = true
       ·rw [if_pos c60] at H
        have c60b0 : (t602 != t604) = true := c60
        (try (have c60b1 : decide (t602 = t604) = false := by simpa using c60))
        (try (have c60b2 : (t602 == t604) = false := by simpa using c60))
        (try (have c60b3 : ¬ (t602 = t604) := by simpa using c60))
        clear c60
        have H' := Ya H
        clear H
        go_wp2
        go_meet
        case rel => exact ⟨_, (true), Q9, H', ⟨Q66⟩, ⟨Q58⟩, ⟨Q57⟩, ⟨Q32⟩, ⟨Q56⟩, ⟨Q55⟩, ⟨Q54⟩, ⟨Q31⟩, ⟨Q53⟩, ⟨Q52⟩, ⟨Q51⟩, ⟨Q30⟩, ⟨Q50⟩, ⟨Q28⟩, ⟨Q27⟩, ⟨Q26⟩, ⟨Q12⟩⟩
       ·rw [if_neg c60] at H
        have c60b0 : (t602 != t604) = false := by simpa using c60
        (try (have c60b1 : decide (t602 = t604) = true := by simpa using c60))
        (try (have c60b2 : (t602 == t604) = true := by simpa using c60))
        clear c60
        replace H := Z37.mp H
        obtain ⟨t606, A610, H⟩ := H
        replace H : (if (t603 != t606) = true then (laws_FnFocusSteps.j1 kj7 t583 t584 t603 true t558 t561 t564 t567 t571 t574 t577 t580) else (if t603 = true then (laws_FnFocusSteps.j1 kj7 t583 t584 t603 (t584 != (!t602)) t558 t561 t564 t567 t571 t574 t577 t580) else (laws_FnFocusSteps.j1 kj7 t583 t584 t603 (t584 != false) t558 t561 t564 t567 t571 t574 t577 t580))) = some r := H
        have A61 := Ya A610
        clear A610
        by_cases c62 : (t603 != t606) = true
        ·rw [if_pos c62] at H
         have c62b0 : (t603 != t606) = true := c62
         (try (have c62b1 : decide (t603 = t606) = false := by simpa using c62))
         (try (have c62b2 : (t603 == t606) = false := by simpa using c62))
         (try (have c62b3 : ¬ (t603 = t606) := by simpa using c62))
         clear c62
         have H' := Ya H
         clear H
         have hnb63 := NB570_585.out
         have hnc63 := NB585_570.out
         have hnb64 := NB570_600.out
         have hnc64 := NB600_570.out
         obtain ⟨hcz65_0, hcz65_1, hcz65_2, hcz65_3, hfz65_0, hfz65_1, hfz65_2, hfz65_3⟩ := Y4 BK570.out
         go_wp2_with (first | (go_at_call 24; (with_reducible refine (impl_IsFocus.calls kj7 _ _ t558 _ _ t561 _ _ t564 _ _ t567 t606 _ (Yc (Kd.R_reads' HO_571000.out).2.2) ((Kd.R_reads' HO_571000.out).2.1) (Yc (Kd.R_reads' HO_571001.out).2.2) ((Kd.R_reads' HO_571001.out).2.1) (Yc (Kd.R_reads' HO_571002.out).2.2) ((Kd.R_reads' HO_571002.out).2.1) (Yc (Kd.R_reads' HO_571003.out).2.2) ((Kd.R_reads' HO_571003.out).2.1) A61.out).mono ?_); rintro e w66 ⟨rfl, hb⟩; replace HO_571000 := Yw HO_571000 hb; replace HO_571001 := Yw HO_571001 hb; replace HO_571002 := Yw HO_571002 hb; replace HO_571003 := Yw HO_571003 hb; replace HO_586000 := Yw HO_586000 hb; replace HO_586001 := Yw HO_586001 hb; replace HO_586002 := Yw HO_586002 hb; replace HO_586003 := Yw HO_586003 hb; replace HO_601000 := Yw HO_601000 hb; replace HO_601001 := Yw HO_601001 hb; replace HO_601002 := Yw HO_601002 hb; replace HO_601003 := Yw HO_601003 hb; replace BK570 := Yb BK570 hb; replace BK585 := Yb BK585 hb; replace BK600 := Yb BK600 hb; replace HB := Yh hb; (try clear hb)))
         go_meet
         case rel => exact ⟨_, (true), Q9, H', ⟨Q66⟩, ⟨Q58⟩, ⟨Q57⟩, ⟨Q32⟩, ⟨Q56⟩, ⟨Q55⟩, ⟨Q54⟩, ⟨Q31⟩, ⟨Q53⟩, ⟨Q52⟩, ⟨Q51⟩, ⟨Q30⟩, ⟨Q50⟩, ⟨Q28⟩, ⟨Q27⟩, ⟨Q26⟩, ⟨Q12⟩⟩
        ·rw [if_neg c62] at H
         have c62b0 : (t603 != t606) = false := by simpa using c62
         (try (have c62b1 : decide (t603 = t606) = true := by simpa using c62))
         (try (have c62b2 : (t603 == t606) = true := by simpa using c62))
         clear c62
         by_cases c67 : t603 = true
         ·subst c67
          have H1 : (laws_FnFocusSteps.j1 kj7 t583 t584 true (t584 != (!t602)) t558 t561 t564 t567 t571 t574 t577 t580) = some r := by rw [if_pos rfl] at H; exact H
          clear H
          have H := H1
          clear H1
          have H' := Ya H
          clear H
          have hnb68 := NB570_585.out
          have hnc68 := NB585_570.out
          have hnb69 := NB570_600.out
          have hnc69 := NB600_570.out
          obtain ⟨hcz70_0, hcz70_1, hcz70_2, hcz70_3, hfz70_0, hfz70_1, hfz70_2, hfz70_3⟩ := Y4 BK570.out
          go_wp2_with (first | (go_at_call 24; (with_reducible refine (impl_IsFocus.calls kj7 _ _ t558 _ _ t561 _ _ t564 _ _ t567 t606 _ (Yc (Kd.R_reads' HO_571000.out).2.2) ((Kd.R_reads' HO_571000.out).2.1) (Yc (Kd.R_reads' HO_571001.out).2.2) ((Kd.R_reads' HO_571001.out).2.1) (Yc (Kd.R_reads' HO_571002.out).2.2) ((Kd.R_reads' HO_571002.out).2.1) (Yc (Kd.R_reads' HO_571003.out).2.2) ((Kd.R_reads' HO_571003.out).2.1) A61.out).mono ?_); rintro e w71 ⟨rfl, hb⟩; replace HO_571000 := Yw HO_571000 hb; replace HO_571001 := Yw HO_571001 hb; replace HO_571002 := Yw HO_571002 hb; replace HO_571003 := Yw HO_571003 hb; replace HO_586000 := Yw HO_586000 hb; replace HO_586001 := Yw HO_586001 hb; replace HO_586002 := Yw HO_586002 hb; replace HO_586003 := Yw HO_586003 hb; replace HO_601000 := Yw HO_601000 hb; replace HO_601001 := Yw HO_601001 hb; replace HO_601002 := Yw HO_601002 hb; replace HO_601003 := Yw HO_601003 hb; replace BK570 := Yb BK570 hb; replace BK585 := Yb BK585 hb; replace BK600 := Yb BK600 hb; replace HB := Yh hb; (try clear hb)))
          go_meet
          case rel => exact ⟨_, ((t584 != (!t602))), Q9, H', ⟨Q66⟩, ⟨Q58⟩, ⟨Q57⟩, ⟨Q32⟩, ⟨Q56⟩, ⟨Q55⟩, ⟨Q54⟩, ⟨Q31⟩, ⟨Q53⟩, ⟨Q52⟩, ⟨Q51⟩, ⟨Q30⟩, ⟨Q50⟩, ⟨Q28⟩, ⟨Q27⟩, ⟨Q26⟩, ⟨Q12⟩⟩
         ·replace c67 := Bool.eq_false_iff.mpr c67
          subst c67
          have H1 : (laws_FnFocusSteps.j1 kj7 t583 t584 false (t584 != false) t558 t561 t564 t567 t571 t574 t577 t580) = some r := by rw [if_neg (show ¬ (false = true) by decide)] at H; exact H
          clear H
          have H := H1
          clear H1
          have H' := Ya H
          clear H
          have hnb72 := NB570_585.out
          have hnc72 := NB585_570.out
          have hnb73 := NB570_600.out
          have hnc73 := NB600_570.out
          obtain ⟨hcz74_0, hcz74_1, hcz74_2, hcz74_3, hfz74_0, hfz74_1, hfz74_2, hfz74_3⟩ := Y4 BK570.out
          go_wp2_with (first | (go_at_call 24; (with_reducible refine (impl_IsFocus.calls kj7 _ _ t558 _ _ t561 _ _ t564 _ _ t567 t606 _ (Yc (Kd.R_reads' HO_571000.out).2.2) ((Kd.R_reads' HO_571000.out).2.1) (Yc (Kd.R_reads' HO_571001.out).2.2) ((Kd.R_reads' HO_571001.out).2.1) (Yc (Kd.R_reads' HO_571002.out).2.2) ((Kd.R_reads' HO_571002.out).2.1) (Yc (Kd.R_reads' HO_571003.out).2.2) ((Kd.R_reads' HO_571003.out).2.1) A61.out).mono ?_); rintro e w75 ⟨rfl, hb⟩; replace HO_571000 := Yw HO_571000 hb; replace HO_571001 := Yw HO_571001 hb; replace HO_571002 := Yw HO_571002 hb; replace HO_571003 := Yw HO_571003 hb; replace HO_586000 := Yw HO_586000 hb; replace HO_586001 := Yw HO_586001 hb; replace HO_586002 := Yw HO_586002 hb; replace HO_586003 := Yw HO_586003 hb; replace HO_601000 := Yw HO_601000 hb; replace HO_601001 := Yw HO_601001 hb; replace HO_601002 := Yw HO_601002 hb; replace HO_601003 := Yw HO_601003 hb; replace BK570 := Yb BK570 hb; replace BK585 := Yb BK585 hb; replace BK600 := Yb BK600 hb; replace HB := Yh hb; (try clear hb)))
          go_meet
          case rel => exact ⟨_, ((t584 != false)), Q9, H', ⟨Q66⟩, ⟨Q58⟩, ⟨Q57⟩, ⟨Q32⟩, ⟨Q56⟩, ⟨Q55⟩, ⟨Q54⟩, ⟨Q31⟩, ⟨Q53⟩, ⟨Q52⟩, ⟨Q51⟩, ⟨Q30⟩, ⟨Q50⟩, ⟨Q28⟩, ⟨Q27⟩, ⟨Q26⟩, ⟨Q12⟩⟩
     case rest => as_aux_lemma =>
      clear HC52
      try clear c1
      try clear c2
      try clear p2
      try clear c3
      try clear c4
      try clear c5
      try clear c6
      try clear c7
      try clear c13
      try clear c19
      try clear c20
      try clear c21
      try clear c22
      try clear c23
      try clear c28
      try clear c29
      try clear c34
      try clear c34b0
      try clear c34b1
      try clear c34b2
      try clear c36
      try clear c37
      try clear c38
      try clear c40
      try clear c43
      try clear c44
      try clear c46
      try clear c49
      try clear c53
      try clear c54
      try clear c59
      try clear c59b0
      try clear c59b1
      try clear c59b2
      try clear c60
      try clear c60b0
      try clear c60b1
      try clear c60b2
      try clear c62
      try clear c62b0
      try clear c62b1
      try clear c62b2
      try clear c63
      try clear c64
      try clear c67
      try clear c68
      try clear c69
      try clear c72
      try clear c73
      try clear hcz12_0
      try clear hcz12_1
      try clear hcz12_2
      try clear hcz12_3
      try clear hcz20_0
      try clear hcz20_1
      try clear hcz20_2
      try clear hcz20_3
      try clear hcz24_0
      try clear hcz24_1
      try clear hcz24_2
      try clear hcz24_3
      try clear hcz30_0
      try clear hcz30_1
      try clear hcz30_2
      try clear hcz30_3
      try clear hcz39_0
      try clear hcz39_1
      try clear hcz39_2
      try clear hcz39_3
      try clear hcz41_0
      try clear hcz41_1
      try clear hcz41_2
      try clear hcz41_3
      try clear hcz45_0
      try clear hcz45_1
      try clear hcz45_2
      try clear hcz45_3
      try clear hcz47_0
      try clear hcz47_1
      try clear hcz47_2
      try clear hcz47_3
      try clear hcz55_0
      try clear hcz55_1
      try clear hcz55_2
      try clear hcz55_3
      try clear hcz57_0
      try clear hcz57_1
      try clear hcz57_2
      try clear hcz57_3
      try clear hcz65_0
      try clear hcz65_1
      try clear hcz65_2
      try clear hcz65_3
      try clear hcz70_0
      try clear hcz70_1
      try clear hcz70_2
      try clear hcz70_3
      try clear hcz74_0
      try clear hcz74_1
      try clear hcz74_2
      try clear hcz74_3
      try clear hfz12_0
      try clear hfz12_1
      try clear hfz12_2
      try clear hfz12_3
      try clear hfz20_0
      try clear hfz20_1
      try clear hfz20_2
      try clear hfz20_3
      try clear hfz24_0
      try clear hfz24_1
      try clear hfz24_2
      try clear hfz24_3
      try clear hfz30_0
      try clear hfz30_1
      try clear hfz30_2
      try clear hfz30_3
      try clear hfz39_0
      try clear hfz39_1
      try clear hfz39_2
      try clear hfz39_3
      try clear hfz41_0
      try clear hfz41_1
      try clear hfz41_2
      try clear hfz41_3
      try clear hfz45_0
      try clear hfz45_1
      try clear hfz45_2
      try clear hfz45_3
      try clear hfz47_0
      try clear hfz47_1
      try clear hfz47_2
      try clear hfz47_3
      try clear hfz55_0
      try clear hfz55_1
      try clear hfz55_2
      try clear hfz55_3
      try clear hfz57_0
      try clear hfz57_1
      try clear hfz57_2
      try clear hfz57_3
      try clear hfz65_0
      try clear hfz65_1
      try clear hfz65_2
      try clear hfz65_3
      try clear hfz70_0
      try clear hfz70_1
      try clear hfz70_2
      try clear hfz70_3
      try clear hfz74_0
      try clear hfz74_1
      try clear hfz74_2
      try clear hfz74_3
      try clear p2
      obtain ⟨kq, x86_51, rfl, HA, HJ51, HO_571000, HO_571001, HO_571002, HO_571003, HO_586000, HO_586001, HO_586002, HO_586003, HO_601000, HO_601001, HO_601002, HO_601003, BK570, BK585, BK600, HB⟩ := hcut
      cases kq with
      | zero => exact absurd HA.out (by simp [laws_FnFocusSteps.j1])
      | succ kj51 =>
       have H := HA.out
       clear HA
       simp only [laws_FnFocusSteps.j1] at H
       by_cases c76 : x86_51 = true
       ·subst c76
        have H1 : (some false) = some r := by rw [if_pos rfl] at H; exact H
        clear H
        have H := H1
        clear H1
        obtain rfl := Option.some.inj H
        go_wp2
        go_ret
        exact ⟨Q1, Q12⟩
       ·replace c76 := Bool.eq_false_iff.mpr c76
        subst c76
        have H1 : (if t603 = true then ((impl_FocusRank.f kj51 t558 t561 t564 t567).bind fun bt607 => ((impl_MixedRank.f kj51 t558 t561).bind fun bt609 => ((impl_NextMixed.f kj51 t558 t561).bind fun bt611 => (if bt607.2 = true then (if bt609.2 = true then (if bt607.1 = bt609.1 then (laws_FnFocusSteps.j2 kj51 t583 t584 bt611.1 bt611.2.1 (bt611.2.2 != t584) t571 t574 t577 t580) else (laws_FnFocusSteps.j2 kj51 t583 t584 bt611.1 bt611.2.1 true t571 t574 t577 t580)) else (laws_FnFocusSteps.j2 kj51 t583 t584 bt611.1 bt611.2.1 true t571 t574 t577 t580)) else (laws_FnFocusSteps.j2 kj51 t583 t584 bt611.1 bt611.2.1 true t571 t574 t577 t580))))) else (some true)) = some r := by rw [if_neg (show ¬ (false = true) by decide)] at H; exact H
        clear H
        have H := H1
        clear H1
        by_cases c77 : t603 = true
        ·subst c77
         have H1 : ((impl_FocusRank.f kj51 t558 t561 t564 t567).bind fun bt607 => ((impl_MixedRank.f kj51 t558 t561).bind fun bt609 => ((impl_NextMixed.f kj51 t558 t561).bind fun bt611 => (if bt607.2 = true then (if bt609.2 = true then (if bt607.1 = bt609.1 then (laws_FnFocusSteps.j2 kj51 t583 t584 bt611.1 bt611.2.1 (bt611.2.2 != t584) t571 t574 t577 t580) else (laws_FnFocusSteps.j2 kj51 t583 t584 bt611.1 bt611.2.1 true t571 t574 t577 t580)) else (laws_FnFocusSteps.j2 kj51 t583 t584 bt611.1 bt611.2.1 true t571 t574 t577 t580)) else (laws_FnFocusSteps.j2 kj51 t583 t584 bt611.1 bt611.2.1 true t571 t574 t577 t580))))) = some r := by rw [if_pos rfl] at H; exact H
         clear H
         have H := H1
         clear H1
         replace H := Z37.mp H
         obtain ⟨⟨t607, t608⟩, A780, H⟩ := H
         replace H : ((impl_MixedRank.f kj51 t558 t561).bind fun bt609 => ((impl_NextMixed.f kj51 t558 t561).bind fun bt611 => (if t608 = true then (if bt609.2 = true then (if t607 = bt609.1 then (laws_FnFocusSteps.j2 kj51 t583 t584 bt611.1 bt611.2.1 (bt611.2.2 != t584) t571 t574 t577 t580) else (laws_FnFocusSteps.j2 kj51 t583 t584 bt611.1 bt611.2.1 true t571 t574 t577 t580)) else (laws_FnFocusSteps.j2 kj51 t583 t584 bt611.1 bt611.2.1 true t571 t574 t577 t580)) else (laws_FnFocusSteps.j2 kj51 t583 t584 bt611.1 bt611.2.1 true t571 t574 t577 t580)))) = some r := H
         have A78 := Ya A780
         clear A780
         replace H := Z37.mp H
         obtain ⟨⟨t609, t610⟩, A790, H⟩ := H
         replace H : ((impl_NextMixed.f kj51 t558 t561).bind fun bt611 => (if t608 = true then (if t610 = true then (if t607 = t609 then (laws_FnFocusSteps.j2 kj51 t583 t584 bt611.1 bt611.2.1 (bt611.2.2 != t584) t571 t574 t577 t580) else (laws_FnFocusSteps.j2 kj51 t583 t584 bt611.1 bt611.2.1 true t571 t574 t577 t580)) else (laws_FnFocusSteps.j2 kj51 t583 t584 bt611.1 bt611.2.1 true t571 t574 t577 t580)) else (laws_FnFocusSteps.j2 kj51 t583 t584 bt611.1 bt611.2.1 true t571 t574 t577 t580))) = some r := H
         have A79 := Ya A790
         clear A790
         replace H := Z37.mp H
         obtain ⟨⟨t611, t612, t613⟩, A800, H⟩ := H
         replace H : (if t608 = true then (if t610 = true then (if t607 = t609 then (laws_FnFocusSteps.j2 kj51 t583 t584 t611 t612 (t613 != t584) t571 t574 t577 t580) else (laws_FnFocusSteps.j2 kj51 t583 t584 t611 t612 true t571 t574 t577 t580)) else (laws_FnFocusSteps.j2 kj51 t583 t584 t611 t612 true t571 t574 t577 t580)) else (laws_FnFocusSteps.j2 kj51 t583 t584 t611 t612 true t571 t574 t577 t580)) = some r := H
         have A80 := Ya A800
         clear A800
         have HC81 := Ya H
         clear H
         have hnb82 := NB570_585.out
         have hnc82 := NB585_570.out
         have hnb83 := NB570_600.out
         have hnc83 := NB600_570.out
         obtain ⟨hcz84_0, hcz84_1, hcz84_2, hcz84_3, hfz84_0, hfz84_1, hfz84_2, hfz84_3⟩ := Y4 BK570.out
         go_upto_region 17 with (first | ((with_reducible refine gate_callee (f := 19) rfl ?_); refine Yz 91 Try.func19 #[.agg #[.slice Ao11 t558.length co11, .slice Ao13 t561.length co13, .slice Ao14 t564.length co14, .slice Ao15 t567.length co15]] ?_; (with_reducible refine (impl_FocusRank.calls kj51 _ _ t558 _ _ t561 _ _ t564 _ _ t567 t607 t608 _ (Yc (Kd.R_reads' HO_571000.out).2.2) ((Kd.R_reads' HO_571000.out).2.1) (Yc (Kd.R_reads' HO_571001.out).2.2) ((Kd.R_reads' HO_571001.out).2.1) (Yc (Kd.R_reads' HO_571002.out).2.2) ((Kd.R_reads' HO_571002.out).2.1) (Yc (Kd.R_reads' HO_571003.out).2.2) ((Kd.R_reads' HO_571003.out).2.1) A78.out).mono ?_); rintro e w85 ⟨rfl, hb⟩; refine ⟨_, rfl, ?_⟩; replace HO_571000 := Yw HO_571000 hb; replace HO_571001 := Yw HO_571001 hb; replace HO_571002 := Yw HO_571002 hb; replace HO_571003 := Yw HO_571003 hb; replace HO_586000 := Yw HO_586000 hb; replace HO_586001 := Yw HO_586001 hb; replace HO_586002 := Yw HO_586002 hb; replace HO_586003 := Yw HO_586003 hb; replace HO_601000 := Yw HO_601000 hb; replace HO_601001 := Yw HO_601001 hb; replace HO_601002 := Yw HO_601002 hb; replace HO_601003 := Yw HO_601003 hb; replace BK570 := Yb BK570 hb; replace BK585 := Yb BK585 hb; replace BK600 := Yb BK600 hb; replace HB := Yh hb; (try clear hb); obtain ⟨hcz86_0, hcz86_1, hcz86_2, hcz86_3, hfz86_0, hfz86_1, hfz86_2, hfz86_3⟩ := Y4 BK570.out) | ((with_reducible refine gate_callee (f := 25) rfl ?_); refine Yz 99 Try.func25 #[.slice Ao11 t558.length co11, .slice Ao13 t561.length co13] ?_; (with_reducible refine (impl_MixedRank.calls kj51 _ _ t558 _ _ t561 t609 t610 _ (Yc (Kd.R_reads' HO_571000.out).2.2) ((Kd.R_reads' HO_571000.out).2.1) (Yc (Kd.R_reads' HO_571001.out).2.2) ((Kd.R_reads' HO_571001.out).2.1) A79.out).mono ?_); rintro e w87 ⟨rfl, hb⟩; refine ⟨_, rfl, ?_⟩; replace HO_571000 := Yw HO_571000 hb; replace HO_571001 := Yw HO_571001 hb; replace HO_571002 := Yw HO_571002 hb; replace HO_571003 := Yw HO_571003 hb; replace HO_586000 := Yw HO_586000 hb; replace HO_586001 := Yw HO_586001 hb; replace HO_586002 := Yw HO_586002 hb; replace HO_586003 := Yw HO_586003 hb; replace HO_601000 := Yw HO_601000 hb; replace HO_601001 := Yw HO_601001 hb; replace HO_601002 := Yw HO_601002 hb; replace HO_601003 := Yw HO_601003 hb; replace BK570 := Yb BK570 hb; replace BK585 := Yb BK585 hb; replace BK600 := Yb BK600 hb; replace HB := Yh hb; (try clear hb); obtain ⟨hcz88_0, hcz88_1, hcz88_2, hcz88_3, hfz88_0, hfz88_1, hfz88_2, hfz88_3⟩ := Y4 BK570.out) | ((with_reducible refine gate_callee (f := 26) rfl ?_); refine Yz 107 Try.func26 #[.slice Ao11 t558.length co11, .slice Ao13 t561.length co13] ?_; (with_reducible refine (impl_NextMixed.calls kj51 _ _ t558 _ _ t561 t611 t612 t613 _ (Yc (Kd.R_reads' HO_571000.out).2.2) ((Kd.R_reads' HO_571000.out).2.1) (Yc (Kd.R_reads' HO_571001.out).2.2) ((Kd.R_reads' HO_571001.out).2.1) A80.out).mono ?_); rintro e w89 ⟨v614, rfl, ho0, hb⟩; refine ⟨_, rfl, ?_⟩; replace HO_571002 := Yw HO_571002 hb; replace HO_586002 := Yw HO_586002 hb; replace HO_601002 := Yw HO_601002 hb; have HO615 := Yl (Kd.R_new' (Kd.R_new' (Kd.R_new' (Kd.R_new' (Kd.R_new' (Kd.R_new' (Kd.R_new' (Kd.R_new' (Kd.R_new' ho0 (Z18 (Yr HO_571000.out))) (Z18 (Yr HO_571001.out))) (Z18 (Yr HO_571003.out))) (Z18 (Yr HO_586000.out))) (Z18 (Yr HO_586001.out))) (Z18 (Yr HO_586003.out))) (Z18 (Yr HO_601000.out))) (Z18 (Yr HO_601001.out))) (Z18 (Yr HO_601003.out))); replace HO_571000 := Ya (Kd.R_elder' (Yr HO_571000.out) (Kd.R_base ho0) hb); replace HO_571001 := Ya (Kd.R_elder' (Yr HO_571001.out) (Kd.R_base ho0) hb); replace HO_571003 := Ya (Kd.R_elder' (Yr HO_571003.out) (Kd.R_base ho0) hb); replace HO_586000 := Ya (Kd.R_elder' (Yr HO_586000.out) (Kd.R_base ho0) hb); replace HO_586001 := Ya (Kd.R_elder' (Yr HO_586001.out) (Kd.R_base ho0) hb); replace HO_586003 := Ya (Kd.R_elder' (Yr HO_586003.out) (Kd.R_base ho0) hb); replace HO_601000 := Ya (Kd.R_elder' (Yr HO_601000.out) (Kd.R_base ho0) hb); replace HO_601001 := Ya (Kd.R_elder' (Yr HO_601001.out) (Kd.R_base ho0) hb); replace HO_601003 := Ya (Kd.R_elder' (Yr HO_601003.out) (Kd.R_base ho0) hb); replace BK570 := Yb BK570 hb; replace BK585 := Yb BK585 hb; replace BK600 := Yb BK600 hb; replace HB := Yh hb; (try clear hb ho0)))
         (try simp only [Act.put, Z0, Z1, Z2])
         go_cut [126] (fun v126 wc => ∃ (kq : Nat) (x126_80 : Bool), v126 = .bool x126_80 ∧ Aside0 (laws_FnFocusSteps.j2 kq t583 t584 t611 t612 x126_80 t571 t574 t577 t580 = some r) ∧ Aside0 (kq ≤ kj51) ∧ Aside0 (Kd.R (Kd.int .i64) 3 wc w.heap.size (fun k_ => some k_ ≠ ((.slice Ao11 t558.length co11) : Value).ownBlock ∧ some k_ ≠ ((.slice Ao13 t561.length co13) : Value).ownBlock ∧ some k_ ≠ ((.slice Ao15 t567.length co15) : Value).ownBlock ∧ some k_ ≠ ((.slice Ao18 t571.length co18) : Value).ownBlock ∧ some k_ ≠ ((.slice Ao21 t574.length co21) : Value).ownBlock ∧ some k_ ≠ ((.slice Ao23 t580.length co23) : Value).ownBlock ∧ some k_ ≠ ((.slice Ao27 t586.length co27) : Value).ownBlock ∧ some k_ ≠ ((.slice Ao31 t589.length co31) : Value).ownBlock ∧ some k_ ≠ ((.slice Ao33 t595.length co33) : Value).ownBlock) v614 t611) ∧ Aside0 (Kd.R (Kd.int .i64) 3 wc w.heap.size (fun k_ => some k_ ≠ (v614 : Value).ownBlock ∧ some k_ ≠ ((.slice Ao13 t561.length co13) : Value).ownBlock ∧ some k_ ≠ ((.slice Ao15 t567.length co15) : Value).ownBlock ∧ some k_ ≠ ((.slice Ao18 t571.length co18) : Value).ownBlock ∧ some k_ ≠ ((.slice Ao21 t574.length co21) : Value).ownBlock ∧ some k_ ≠ ((.slice Ao23 t580.length co23) : Value).ownBlock ∧ some k_ ≠ ((.slice Ao27 t586.length co27) : Value).ownBlock ∧ some k_ ≠ ((.slice Ao31 t589.length co31) : Value).ownBlock ∧ some k_ ≠ ((.slice Ao33 t595.length co33) : Value).ownBlock) (.slice Ao11 t558.length co11) t558) ∧ Aside0 (Kd.R (Kd.int .i64) 3 wc w.heap.size (fun k_ => some k_ ≠ (v614 : Value).ownBlock ∧ some k_ ≠ ((.slice Ao11 t558.length co11) : Value).ownBlock ∧ some k_ ≠ ((.slice Ao15 t567.length co15) : Value).ownBlock ∧ some k_ ≠ ((.slice Ao18 t571.length co18) : Value).ownBlock ∧ some k_ ≠ ((.slice Ao21 t574.length co21) : Value).ownBlock ∧ some k_ ≠ ((.slice Ao23 t580.length co23) : Value).ownBlock ∧ some k_ ≠ ((.slice Ao27 t586.length co27) : Value).ownBlock ∧ some k_ ≠ ((.slice Ao31 t589.length co31) : Value).ownBlock ∧ some k_ ≠ ((.slice Ao33 t595.length co33) : Value).ownBlock) (.slice Ao13 t561.length co13) t561) ∧ Aside0 (Kd.R Kd.bool 4 wc w.heap.size (fun k_ => some k_ ≠ ((.slice Ao22 t577.length co22) : Value).ownBlock ∧ some k_ ≠ ((.slice Ao32 t592.length co32) : Value).ownBlock) (.slice Ao14 t564.length co14) t564) ∧ Aside0 (Kd.R (Kd.int .i64) 3 wc w.heap.size (fun k_ => some k_ ≠ (v614 : Value).ownBlock ∧ some k_ ≠ ((.slice Ao11 t558.length co11) : Value).ownBlock ∧ some k_ ≠ ((.slice Ao13 t561.length co13) : Value).ownBlock ∧ some k_ ≠ ((.slice Ao18 t571.length co18) : Value).ownBlock ∧ some k_ ≠ ((.slice Ao21 t574.length co21) : Value).ownBlock ∧ some k_ ≠ ((.slice Ao23 t580.length co23) : Value).ownBlock ∧ some k_ ≠ ((.slice Ao27 t586.length co27) : Value).ownBlock ∧ some k_ ≠ ((.slice Ao31 t589.length co31) : Value).ownBlock ∧ some k_ ≠ ((.slice Ao33 t595.length co33) : Value).ownBlock) (.slice Ao15 t567.length co15) t567) ∧ Aside0 (Kd.R (Kd.int .i64) 3 wc w.heap.size (fun k_ => some k_ ≠ (v614 : Value).ownBlock ∧ some k_ ≠ ((.slice Ao11 t558.length co11) : Value).ownBlock ∧ some k_ ≠ ((.slice Ao13 t561.length co13) : Value).ownBlock ∧ some k_ ≠ ((.slice Ao15 t567.length co15) : Value).ownBlock ∧ some k_ ≠ ((.slice Ao21 t574.length co21) : Value).ownBlock ∧ some k_ ≠ ((.slice Ao23 t580.length co23) : Value).ownBlock ∧ some k_ ≠ ((.slice Ao27 t586.length co27) : Value).ownBlock ∧ some k_ ≠ ((.slice Ao31 t589.length co31) : Value).ownBlock ∧ some k_ ≠ ((.slice Ao33 t595.length co33) : Value).ownBlock) (.slice Ao18 t571.length co18) t571) ∧ Aside0 (Kd.R (Kd.int .i64) 3 wc w.heap.size (fun k_ => some k_ ≠ (v614 : Value).ownBlock ∧ some k_ ≠ ((.slice Ao11 t558.length co11) : Value).ownBlock ∧ some k_ ≠ ((.slice Ao13 t561.length co13) : Value).ownBlock ∧ some k_ ≠ ((.slice Ao15 t567.length co15) : Value).ownBlock ∧ some k_ ≠ ((.slice Ao18 t571.length co18) : Value).ownBlock ∧ some k_ ≠ ((.slice Ao23 t580.length co23) : Value).ownBlock ∧ some k_ ≠ ((.slice Ao27 t586.length co27) : Value).ownBlock ∧ some k_ ≠ ((.slice Ao31 t589.length co31) : Value).ownBlock ∧ some k_ ≠ ((.slice Ao33 t595.length co33) : Value).ownBlock) (.slice Ao21 t574.length co21) t574) ∧ Aside0 (Kd.R Kd.bool 4 wc w.heap.size (fun k_ => some k_ ≠ ((.slice Ao14 t564.length co14) : Value).ownBlock ∧ some k_ ≠ ((.slice Ao32 t592.length co32) : Value).ownBlock) (.slice Ao22 t577.length co22) t577) ∧ Aside0 (Kd.R (Kd.int .i64) 3 wc w.heap.size (fun k_ => some k_ ≠ (v614 : Value).ownBlock ∧ some k_ ≠ ((.slice Ao11 t558.length co11) : Value).ownBlock ∧ some k_ ≠ ((.slice Ao13 t561.length co13) : Value).ownBlock ∧ some k_ ≠ ((.slice Ao15 t567.length co15) : Value).ownBlock ∧ some k_ ≠ ((.slice Ao18 t571.length co18) : Value).ownBlock ∧ some k_ ≠ ((.slice Ao21 t574.length co21) : Value).ownBlock ∧ some k_ ≠ ((.slice Ao27 t586.length co27) : Value).ownBlock ∧ some k_ ≠ ((.slice Ao31 t589.length co31) : Value).ownBlock ∧ some k_ ≠ ((.slice Ao33 t595.length co33) : Value).ownBlock) (.slice Ao23 t580.length co23) t580) ∧ Aside0 (Kd.R (Kd.int .i64) 3 wc w.heap.size (fun k_ => some k_ ≠ (v614 : Value).ownBlock ∧ some k_ ≠ ((.slice Ao11 t558.length co11) : Value).ownBlock ∧ some k_ ≠ ((.slice Ao13 t561.length co13) : Value).ownBlock ∧ some k_ ≠ ((.slice Ao15 t567.length co15) : Value).ownBlock ∧ some k_ ≠ ((.slice Ao18 t571.length co18) : Value).ownBlock ∧ some k_ ≠ ((.slice Ao21 t574.length co21) : Value).ownBlock ∧ some k_ ≠ ((.slice Ao23 t580.length co23) : Value).ownBlock ∧ some k_ ≠ ((.slice Ao31 t589.length co31) : Value).ownBlock ∧ some k_ ≠ ((.slice Ao33 t595.length co33) : Value).ownBlock) (.slice Ao27 t586.length co27) t586) ∧ Aside0 (Kd.R (Kd.int .i64) 3 wc w.heap.size (fun k_ => some k_ ≠ (v614 : Value).ownBlock ∧ some k_ ≠ ((.slice Ao11 t558.length co11) : Value).ownBlock ∧ some k_ ≠ ((.slice Ao13 t561.length co13) : Value).ownBlock ∧ some k_ ≠ ((.slice Ao15 t567.length co15) : Value).ownBlock ∧ some k_ ≠ ((.slice Ao18 t571.length co18) : Value).ownBlock ∧ some k_ ≠ ((.slice Ao21 t574.length co21) : Value).ownBlock ∧ some k_ ≠ ((.slice Ao23 t580.length co23) : Value).ownBlock ∧ some k_ ≠ ((.slice Ao27 t586.length co27) : Value).ownBlock ∧ some k_ ≠ ((.slice Ao33 t595.length co33) : Value).ownBlock) (.slice Ao31 t589.length co31) t589) ∧ Aside0 (Kd.R Kd.bool 4 wc w.heap.size (fun k_ => some k_ ≠ ((.slice Ao14 t564.length co14) : Value).ownBlock ∧ some k_ ≠ ((.slice Ao22 t577.length co22) : Value).ownBlock) (.slice Ao32 t592.length co32) t592) ∧ Aside0 (Kd.R (Kd.int .i64) 3 wc w.heap.size (fun k_ => some k_ ≠ (v614 : Value).ownBlock ∧ some k_ ≠ ((.slice Ao11 t558.length co11) : Value).ownBlock ∧ some k_ ≠ ((.slice Ao13 t561.length co13) : Value).ownBlock ∧ some k_ ≠ ((.slice Ao15 t567.length co15) : Value).ownBlock ∧ some k_ ≠ ((.slice Ao18 t571.length co18) : Value).ownBlock ∧ some k_ ≠ ((.slice Ao21 t574.length co21) : Value).ownBlock ∧ some k_ ≠ ((.slice Ao23 t580.length co23) : Value).ownBlock ∧ some k_ ≠ ((.slice Ao27 t586.length co27) : Value).ownBlock ∧ some k_ ≠ ((.slice Ao31 t589.length co31) : Value).ownBlock) (.slice Ao33 t595.length co33) t595) ∧ Aside0 (wc.heap[gb570]? = some (.cells #[(.slice Ao11 t558.length co11), (.slice Ao13 t561.length co13), (.slice Ao14 t564.length co14), (.slice Ao15 t567.length co15)] 33 (0, 0))) ∧ Aside0 (wc.heap[gb585]? = some (.cells #[(.slice Ao18 t571.length co18), (.slice Ao21 t574.length co21), (.slice Ao22 t577.length co22), (.slice Ao23 t580.length co23)] 33 (0, 0))) ∧ Aside0 (wc.heap[gb600]? = some (.cells #[(.slice Ao27 t586.length co27), (.slice Ao31 t589.length co31), (.slice Ao32 t592.length co32), (.slice Ao33 t595.length co33)] 33 (0, 0))) ∧ Aside0 (Below w.heap.size w wc))
         case first =>
          have H := HC81.out
          clear HC81
          by_cases c90 : t608 = true
          ·subst c90
           have H1 : (if t610 = true then (if t607 = t609 then (laws_FnFocusSteps.j2 kj51 t583 t584 t611 t612 (t613 != t584) t571 t574 t577 t580) else (laws_FnFocusSteps.j2 kj51 t583 t584 t611 t612 true t571 t574 t577 t580)) else (laws_FnFocusSteps.j2 kj51 t583 t584 t611 t612 true t571 t574 t577 t580)) = some r := by rw [if_pos rfl] at H; exact H
           clear H
           have H := H1
           clear H1
           by_cases c91 : t610 = true
           ·subst c91
            have H1 : (if t607 = t609 then (laws_FnFocusSteps.j2 kj51 t583 t584 t611 t612 (t613 != t584) t571 t574 t577 t580) else (laws_FnFocusSteps.j2 kj51 t583 t584 t611 t612 true t571 t574 t577 t580)) = some r := by rw [if_pos rfl] at H; exact H
            clear H
            have H := H1
            clear H1
            by_cases c92 : t607 = t609
            ·rw [if_pos c92] at H
             have c92b0 : (t607 == t609) = true := beq_iff_eq.mpr c92
             have c92b1 : (t607 != t609) = false := bne_eq_false_iff_eq.mpr c92
             clear c92
             (first | rw [c92b0] | (simp only [i64_w, i32_w]; rw [c92b0]) | skip)
             have H' := Ya H
             clear H
             go_wp2
             go_meet
             case rel => exact ⟨_, ((t613 != t584)), Q9, H', ⟨Q65⟩, ⟨Yj HO615.out (fun _ hk => ⟨hk.1.1.1.1.1.1.1.1.2, ⟨hk.1.1.1.1.1.1.1.2, ⟨hk.1.1.1.1.1.1.2, ⟨hk.1.1.1.1.1.2, ⟨hk.1.1.1.1.2, ⟨hk.1.1.1.2, ⟨hk.1.1.2, ⟨hk.1.2, hk.2⟩⟩⟩⟩⟩⟩⟩⟩)⟩, ⟨Yj HO_571000.out (fun _ hk => ⟨hk.2, ⟨hk.1.1, ⟨hk.1.2.1, ⟨hk.1.2.2.1, ⟨hk.1.2.2.2.1, ⟨hk.1.2.2.2.2.1, ⟨hk.1.2.2.2.2.2.1, ⟨hk.1.2.2.2.2.2.2.1, hk.1.2.2.2.2.2.2.2⟩⟩⟩⟩⟩⟩⟩⟩)⟩, ⟨Yj HO_571001.out (fun _ hk => ⟨hk.2, ⟨hk.1.1, ⟨hk.1.2.1, ⟨hk.1.2.2.1, ⟨hk.1.2.2.2.1, ⟨hk.1.2.2.2.2.1, ⟨hk.1.2.2.2.2.2.1, ⟨hk.1.2.2.2.2.2.2.1, hk.1.2.2.2.2.2.2.2⟩⟩⟩⟩⟩⟩⟩⟩)⟩, ⟨Q32⟩, ⟨Yj HO_571003.out (fun _ hk => ⟨hk.2, ⟨hk.1.1, ⟨hk.1.2.1, ⟨hk.1.2.2.1, ⟨hk.1.2.2.2.1, ⟨hk.1.2.2.2.2.1, ⟨hk.1.2.2.2.2.2.1, ⟨hk.1.2.2.2.2.2.2.1, hk.1.2.2.2.2.2.2.2⟩⟩⟩⟩⟩⟩⟩⟩)⟩, ⟨Yj HO_586000.out (fun _ hk => ⟨hk.2, ⟨hk.1.1, ⟨hk.1.2.1, ⟨hk.1.2.2.1, ⟨hk.1.2.2.2.1, ⟨hk.1.2.2.2.2.1, ⟨hk.1.2.2.2.2.2.1, ⟨hk.1.2.2.2.2.2.2.1, hk.1.2.2.2.2.2.2.2⟩⟩⟩⟩⟩⟩⟩⟩)⟩, ⟨Yj HO_586001.out (fun _ hk => ⟨hk.2, ⟨hk.1.1, ⟨hk.1.2.1, ⟨hk.1.2.2.1, ⟨hk.1.2.2.2.1, ⟨hk.1.2.2.2.2.1, ⟨hk.1.2.2.2.2.2.1, ⟨hk.1.2.2.2.2.2.2.1, hk.1.2.2.2.2.2.2.2⟩⟩⟩⟩⟩⟩⟩⟩)⟩, ⟨Q31⟩, ⟨Yj HO_586003.out (fun _ hk => ⟨hk.2, ⟨hk.1.1, ⟨hk.1.2.1, ⟨hk.1.2.2.1, ⟨hk.1.2.2.2.1, ⟨hk.1.2.2.2.2.1, ⟨hk.1.2.2.2.2.2.1, ⟨hk.1.2.2.2.2.2.2.1, hk.1.2.2.2.2.2.2.2⟩⟩⟩⟩⟩⟩⟩⟩)⟩, ⟨Yj HO_601000.out (fun _ hk => ⟨hk.2, ⟨hk.1.1, ⟨hk.1.2.1, ⟨hk.1.2.2.1, ⟨hk.1.2.2.2.1, ⟨hk.1.2.2.2.2.1, ⟨hk.1.2.2.2.2.2.1, ⟨hk.1.2.2.2.2.2.2.1, hk.1.2.2.2.2.2.2.2⟩⟩⟩⟩⟩⟩⟩⟩)⟩, ⟨Yj HO_601001.out (fun _ hk => ⟨hk.2, ⟨hk.1.1, ⟨hk.1.2.1, ⟨hk.1.2.2.1, ⟨hk.1.2.2.2.1, ⟨hk.1.2.2.2.2.1, ⟨hk.1.2.2.2.2.2.1, ⟨hk.1.2.2.2.2.2.2.1, hk.1.2.2.2.2.2.2.2⟩⟩⟩⟩⟩⟩⟩⟩)⟩, ⟨Q30⟩, ⟨Yj HO_601003.out (fun _ hk => ⟨hk.2, ⟨hk.1.1, ⟨hk.1.2.1, ⟨hk.1.2.2.1, ⟨hk.1.2.2.2.1, ⟨hk.1.2.2.2.2.1, ⟨hk.1.2.2.2.2.2.1, ⟨hk.1.2.2.2.2.2.2.1, hk.1.2.2.2.2.2.2.2⟩⟩⟩⟩⟩⟩⟩⟩)⟩, ⟨Q28⟩, ⟨Q27⟩, ⟨Q26⟩, ⟨Q12⟩⟩
            ·rw [if_neg c92] at H
             have c92b0 : (t607 == t609) = false := beq_eq_false_iff_ne.mpr c92
             have c92b1 : (t607 != t609) = true := bne_iff_ne.mpr c92
             (first | rw [c92b0] | (simp only [i64_w, i32_w]; rw [c92b0]) | skip)
             have H' := Ya H
             clear H
             go_wp2
             go_meet
             case rel => exact ⟨_, (true), Q9, H', ⟨Q65⟩, ⟨Yj HO615.out (fun _ hk => ⟨hk.1.1.1.1.1.1.1.1.2, ⟨hk.1.1.1.1.1.1.1.2, ⟨hk.1.1.1.1.1.1.2, ⟨hk.1.1.1.1.1.2, ⟨hk.1.1.1.1.2, ⟨hk.1.1.1.2, ⟨hk.1.1.2, ⟨hk.1.2, hk.2⟩⟩⟩⟩⟩⟩⟩⟩)⟩, ⟨Yj HO_571000.out (fun _ hk => ⟨hk.2, ⟨hk.1.1, ⟨hk.1.2.1, ⟨hk.1.2.2.1, ⟨hk.1.2.2.2.1, ⟨hk.1.2.2.2.2.1, ⟨hk.1.2.2.2.2.2.1, ⟨hk.1.2.2.2.2.2.2.1, hk.1.2.2.2.2.2.2.2⟩⟩⟩⟩⟩⟩⟩⟩)⟩, ⟨Yj HO_571001.out (fun _ hk => ⟨hk.2, ⟨hk.1.1, ⟨hk.1.2.1, ⟨hk.1.2.2.1, ⟨hk.1.2.2.2.1, ⟨hk.1.2.2.2.2.1, ⟨hk.1.2.2.2.2.2.1, ⟨hk.1.2.2.2.2.2.2.1, hk.1.2.2.2.2.2.2.2⟩⟩⟩⟩⟩⟩⟩⟩)⟩, ⟨Q32⟩, ⟨Yj HO_571003.out (fun _ hk => ⟨hk.2, ⟨hk.1.1, ⟨hk.1.2.1, ⟨hk.1.2.2.1, ⟨hk.1.2.2.2.1, ⟨hk.1.2.2.2.2.1, ⟨hk.1.2.2.2.2.2.1, ⟨hk.1.2.2.2.2.2.2.1, hk.1.2.2.2.2.2.2.2⟩⟩⟩⟩⟩⟩⟩⟩)⟩, ⟨Yj HO_586000.out (fun _ hk => ⟨hk.2, ⟨hk.1.1, ⟨hk.1.2.1, ⟨hk.1.2.2.1, ⟨hk.1.2.2.2.1, ⟨hk.1.2.2.2.2.1, ⟨hk.1.2.2.2.2.2.1, ⟨hk.1.2.2.2.2.2.2.1, hk.1.2.2.2.2.2.2.2⟩⟩⟩⟩⟩⟩⟩⟩)⟩, ⟨Yj HO_586001.out (fun _ hk => ⟨hk.2, ⟨hk.1.1, ⟨hk.1.2.1, ⟨hk.1.2.2.1, ⟨hk.1.2.2.2.1, ⟨hk.1.2.2.2.2.1, ⟨hk.1.2.2.2.2.2.1, ⟨hk.1.2.2.2.2.2.2.1, hk.1.2.2.2.2.2.2.2⟩⟩⟩⟩⟩⟩⟩⟩)⟩, ⟨Q31⟩, ⟨Yj HO_586003.out (fun _ hk => ⟨hk.2, ⟨hk.1.1, ⟨hk.1.2.1, ⟨hk.1.2.2.1, ⟨hk.1.2.2.2.1, ⟨hk.1.2.2.2.2.1, ⟨hk.1.2.2.2.2.2.1, ⟨hk.1.2.2.2.2.2.2.1, hk.1.2.2.2.2.2.2.2⟩⟩⟩⟩⟩⟩⟩⟩)⟩, ⟨Yj HO_601000.out (fun _ hk => ⟨hk.2, ⟨hk.1.1, ⟨hk.1.2.1, ⟨hk.1.2.2.1, ⟨hk.1.2.2.2.1, ⟨hk.1.2.2.2.2.1, ⟨hk.1.2.2.2.2.2.1, ⟨hk.1.2.2.2.2.2.2.1, hk.1.2.2.2.2.2.2.2⟩⟩⟩⟩⟩⟩⟩⟩)⟩, ⟨Yj HO_601001.out (fun _ hk => ⟨hk.2, ⟨hk.1.1, ⟨hk.1.2.1, ⟨hk.1.2.2.1, ⟨hk.1.2.2.2.1, ⟨hk.1.2.2.2.2.1, ⟨hk.1.2.2.2.2.2.1, ⟨hk.1.2.2.2.2.2.2.1, hk.1.2.2.2.2.2.2.2⟩⟩⟩⟩⟩⟩⟩⟩)⟩, ⟨Q30⟩, ⟨Yj HO_601003.out (fun _ hk => ⟨hk.2, ⟨hk.1.1, ⟨hk.1.2.1, ⟨hk.1.2.2.1, ⟨hk.1.2.2.2.1, ⟨hk.1.2.2.2.2.1, ⟨hk.1.2.2.2.2.2.1, ⟨hk.1.2.2.2.2.2.2.1, hk.1.2.2.2.2.2.2.2⟩⟩⟩⟩⟩⟩⟩⟩)⟩, ⟨Q28⟩, ⟨Q27⟩, ⟨Q26⟩, ⟨Q12⟩⟩
           ·replace c91 := Bool.eq_false_iff.mpr c91
            subst c91
            have H1 : (laws_FnFocusSteps.j2 kj51 t583 t584 t611 t612 true t571 t574 t577 t580) = some r := by rw [if_neg (show ¬ (false = true) by decide)] at H; exact H
            clear H
            have H := H1
            clear H1
            have H' := Ya H
            clear H
            go_wp2
            go_meet
            case rel => exact ⟨_, (true), Q9, H', ⟨Q65⟩, ⟨Yj HO615.out (fun _ hk => ⟨hk.1.1.1.1.1.1.1.1.2, ⟨hk.1.1.1.1.1.1.1.2, ⟨hk.1.1.1.1.1.1.2, ⟨hk.1.1.1.1.1.2, ⟨hk.1.1.1.1.2, ⟨hk.1.1.1.2, ⟨hk.1.1.2, ⟨hk.1.2, hk.2⟩⟩⟩⟩⟩⟩⟩⟩)⟩, ⟨Yj HO_571000.out (fun _ hk => ⟨hk.2, ⟨hk.1.1, ⟨hk.1.2.1, ⟨hk.1.2.2.1, ⟨hk.1.2.2.2.1, ⟨hk.1.2.2.2.2.1, ⟨hk.1.2.2.2.2.2.1, ⟨hk.1.2.2.2.2.2.2.1, hk.1.2.2.2.2.2.2.2⟩⟩⟩⟩⟩⟩⟩⟩)⟩, ⟨Yj HO_571001.out (fun _ hk => ⟨hk.2, ⟨hk.1.1, ⟨hk.1.2.1, ⟨hk.1.2.2.1, ⟨hk.1.2.2.2.1, ⟨hk.1.2.2.2.2.1, ⟨hk.1.2.2.2.2.2.1, ⟨hk.1.2.2.2.2.2.2.1, hk.1.2.2.2.2.2.2.2⟩⟩⟩⟩⟩⟩⟩⟩)⟩, ⟨Q32⟩, ⟨Yj HO_571003.out (fun _ hk => ⟨hk.2, ⟨hk.1.1, ⟨hk.1.2.1, ⟨hk.1.2.2.1, ⟨hk.1.2.2.2.1, ⟨hk.1.2.2.2.2.1, ⟨hk.1.2.2.2.2.2.1, ⟨hk.1.2.2.2.2.2.2.1, hk.1.2.2.2.2.2.2.2⟩⟩⟩⟩⟩⟩⟩⟩)⟩, ⟨Yj HO_586000.out (fun _ hk => ⟨hk.2, ⟨hk.1.1, ⟨hk.1.2.1, ⟨hk.1.2.2.1, ⟨hk.1.2.2.2.1, ⟨hk.1.2.2.2.2.1, ⟨hk.1.2.2.2.2.2.1, ⟨hk.1.2.2.2.2.2.2.1, hk.1.2.2.2.2.2.2.2⟩⟩⟩⟩⟩⟩⟩⟩)⟩, ⟨Yj HO_586001.out (fun _ hk => ⟨hk.2, ⟨hk.1.1, ⟨hk.1.2.1, ⟨hk.1.2.2.1, ⟨hk.1.2.2.2.1, ⟨hk.1.2.2.2.2.1, ⟨hk.1.2.2.2.2.2.1, ⟨hk.1.2.2.2.2.2.2.1, hk.1.2.2.2.2.2.2.2⟩⟩⟩⟩⟩⟩⟩⟩)⟩, ⟨Q31⟩, ⟨Yj HO_586003.out (fun _ hk => ⟨hk.2, ⟨hk.1.1, ⟨hk.1.2.1, ⟨hk.1.2.2.1, ⟨hk.1.2.2.2.1, ⟨hk.1.2.2.2.2.1, ⟨hk.1.2.2.2.2.2.1, ⟨hk.1.2.2.2.2.2.2.1, hk.1.2.2.2.2.2.2.2⟩⟩⟩⟩⟩⟩⟩⟩)⟩, ⟨Yj HO_601000.out (fun _ hk => ⟨hk.2, ⟨hk.1.1, ⟨hk.1.2.1, ⟨hk.1.2.2.1, ⟨hk.1.2.2.2.1, ⟨hk.1.2.2.2.2.1, ⟨hk.1.2.2.2.2.2.1, ⟨hk.1.2.2.2.2.2.2.1, hk.1.2.2.2.2.2.2.2⟩⟩⟩⟩⟩⟩⟩⟩)⟩, ⟨Yj HO_601001.out (fun _ hk => ⟨hk.2, ⟨hk.1.1, ⟨hk.1.2.1, ⟨hk.1.2.2.1, ⟨hk.1.2.2.2.1, ⟨hk.1.2.2.2.2.1, ⟨hk.1.2.2.2.2.2.1, ⟨hk.1.2.2.2.2.2.2.1, hk.1.2.2.2.2.2.2.2⟩⟩⟩⟩⟩⟩⟩⟩)⟩, ⟨Q30⟩, ⟨Yj HO_601003.out (fun _ hk => ⟨hk.2, ⟨hk.1.1, ⟨hk.1.2.1, ⟨hk.1.2.2.1, ⟨hk.1.2.2.2.1, ⟨hk.1.2.2.2.2.1, ⟨hk.1.2.2.2.2.2.1, ⟨hk.1.2.2.2.2.2.2.1, hk.1.2.2.2.2.2.2.2⟩⟩⟩⟩⟩⟩⟩⟩)⟩, ⟨Q28⟩, ⟨Q27⟩, ⟨Q26⟩, ⟨Q12⟩⟩
          ·replace c90 := Bool.eq_false_iff.mpr c90
           subst c90
           have H1 : (laws_FnFocusSteps.j2 kj51 t583 t584 t611 t612 true t571 t574 t577 t580) = some r := by rw [if_neg (show ¬ (false = true) by decide)] at H; exact H
           clear H
           have H := H1
           clear H1
           have H' := Ya H
           clear H
           go_wp2
           go_meet
           case rel => exact ⟨_, (true), Q9, H', ⟨Q65⟩, ⟨Yj HO615.out (fun _ hk => ⟨hk.1.1.1.1.1.1.1.1.2, ⟨hk.1.1.1.1.1.1.1.2, ⟨hk.1.1.1.1.1.1.2, ⟨hk.1.1.1.1.1.2, ⟨hk.1.1.1.1.2, ⟨hk.1.1.1.2, ⟨hk.1.1.2, ⟨hk.1.2, hk.2⟩⟩⟩⟩⟩⟩⟩⟩)⟩, ⟨Yj HO_571000.out (fun _ hk => ⟨hk.2, ⟨hk.1.1, ⟨hk.1.2.1, ⟨hk.1.2.2.1, ⟨hk.1.2.2.2.1, ⟨hk.1.2.2.2.2.1, ⟨hk.1.2.2.2.2.2.1, ⟨hk.1.2.2.2.2.2.2.1, hk.1.2.2.2.2.2.2.2⟩⟩⟩⟩⟩⟩⟩⟩)⟩, ⟨Yj HO_571001.out (fun _ hk => ⟨hk.2, ⟨hk.1.1, ⟨hk.1.2.1, ⟨hk.1.2.2.1, ⟨hk.1.2.2.2.1, ⟨hk.1.2.2.2.2.1, ⟨hk.1.2.2.2.2.2.1, ⟨hk.1.2.2.2.2.2.2.1, hk.1.2.2.2.2.2.2.2⟩⟩⟩⟩⟩⟩⟩⟩)⟩, ⟨Q32⟩, ⟨Yj HO_571003.out (fun _ hk => ⟨hk.2, ⟨hk.1.1, ⟨hk.1.2.1, ⟨hk.1.2.2.1, ⟨hk.1.2.2.2.1, ⟨hk.1.2.2.2.2.1, ⟨hk.1.2.2.2.2.2.1, ⟨hk.1.2.2.2.2.2.2.1, hk.1.2.2.2.2.2.2.2⟩⟩⟩⟩⟩⟩⟩⟩)⟩, ⟨Yj HO_586000.out (fun _ hk => ⟨hk.2, ⟨hk.1.1, ⟨hk.1.2.1, ⟨hk.1.2.2.1, ⟨hk.1.2.2.2.1, ⟨hk.1.2.2.2.2.1, ⟨hk.1.2.2.2.2.2.1, ⟨hk.1.2.2.2.2.2.2.1, hk.1.2.2.2.2.2.2.2⟩⟩⟩⟩⟩⟩⟩⟩)⟩, ⟨Yj HO_586001.out (fun _ hk => ⟨hk.2, ⟨hk.1.1, ⟨hk.1.2.1, ⟨hk.1.2.2.1, ⟨hk.1.2.2.2.1, ⟨hk.1.2.2.2.2.1, ⟨hk.1.2.2.2.2.2.1, ⟨hk.1.2.2.2.2.2.2.1, hk.1.2.2.2.2.2.2.2⟩⟩⟩⟩⟩⟩⟩⟩)⟩, ⟨Q31⟩, ⟨Yj HO_586003.out (fun _ hk => ⟨hk.2, ⟨hk.1.1, ⟨hk.1.2.1, ⟨hk.1.2.2.1, ⟨hk.1.2.2.2.1, ⟨hk.1.2.2.2.2.1, ⟨hk.1.2.2.2.2.2.1, ⟨hk.1.2.2.2.2.2.2.1, hk.1.2.2.2.2.2.2.2⟩⟩⟩⟩⟩⟩⟩⟩)⟩, ⟨Yj HO_601000.out (fun _ hk => ⟨hk.2, ⟨hk.1.1, ⟨hk.1.2.1, ⟨hk.1.2.2.1, ⟨hk.1.2.2.2.1, ⟨hk.1.2.2.2.2.1, ⟨hk.1.2.2.2.2.2.1, ⟨hk.1.2.2.2.2.2.2.1, hk.1.2.2.2.2.2.2.2⟩⟩⟩⟩⟩⟩⟩⟩)⟩, ⟨Yj HO_601001.out (fun _ hk => ⟨hk.2, ⟨hk.1.1, ⟨hk.1.2.1, ⟨hk.1.2.2.1, ⟨hk.1.2.2.2.1, ⟨hk.1.2.2.2.2.1, ⟨hk.1.2.2.2.2.2.1, ⟨hk.1.2.2.2.2.2.2.1, hk.1.2.2.2.2.2.2.2⟩⟩⟩⟩⟩⟩⟩⟩)⟩, ⟨Q30⟩, ⟨Yj HO_601003.out (fun _ hk => ⟨hk.2, ⟨hk.1.1, ⟨hk.1.2.1, ⟨hk.1.2.2.1, ⟨hk.1.2.2.2.1, ⟨hk.1.2.2.2.2.1, ⟨hk.1.2.2.2.2.2.1, ⟨hk.1.2.2.2.2.2.2.1, hk.1.2.2.2.2.2.2.2⟩⟩⟩⟩⟩⟩⟩⟩)⟩, ⟨Q28⟩, ⟨Q27⟩, ⟨Q26⟩, ⟨Q12⟩⟩
         case rest => as_aux_lemma =>
          clear HC81
          try clear c1
          try clear c2
          try clear p2
          try clear c3
          try clear c4
          try clear c5
          try clear c6
          try clear c7
          try clear c8
          try clear c9
          try clear c13
          try clear c19
          try clear c20
          try clear c21
          try clear c22
          try clear c23
          try clear c25
          try clear c26
          try clear c28
          try clear c29
          try clear c34
          try clear c34b0
          try clear c34b1
          try clear c34b2
          try clear c36
          try clear c37
          try clear c38
          try clear c40
          try clear c43
          try clear c44
          try clear c46
          try clear c49
          try clear c53
          try clear c54
          try clear c59
          try clear c59b0
          try clear c59b1
          try clear c59b2
          try clear c60
          try clear c60b0
          try clear c60b1
          try clear c60b2
          try clear c62
          try clear c62b0
          try clear c62b1
          try clear c62b2
          try clear c63
          try clear c64
          try clear c67
          try clear c68
          try clear c69
          try clear c72
          try clear c73
          try clear c76
          try clear c77
          try clear c82
          try clear c83
          try clear c90
          try clear c91
          try clear c92
          try clear c92b0
          try clear c92b1
          try clear hcz12_0
          try clear hcz12_1
          try clear hcz12_2
          try clear hcz12_3
          try clear hcz20_0
          try clear hcz20_1
          try clear hcz20_2
          try clear hcz20_3
          try clear hcz24_0
          try clear hcz24_1
          try clear hcz24_2
          try clear hcz24_3
          try clear hcz30_0
          try clear hcz30_1
          try clear hcz30_2
          try clear hcz30_3
          try clear hcz39_0
          try clear hcz39_1
          try clear hcz39_2
          try clear hcz39_3
          try clear hcz41_0
          try clear hcz41_1
          try clear hcz41_2
          try clear hcz41_3
          try clear hcz45_0
          try clear hcz45_1
          try clear hcz45_2
          try clear hcz45_3
          try clear hcz47_0
          try clear hcz47_1
          try clear hcz47_2
          try clear hcz47_3
          try clear hcz55_0
          try clear hcz55_1
          try clear hcz55_2
          try clear hcz55_3
          try clear hcz57_0
          try clear hcz57_1
          try clear hcz57_2
          try clear hcz57_3
          try clear hcz65_0
          try clear hcz65_1
          try clear hcz65_2
          try clear hcz65_3
          try clear hcz70_0
          try clear hcz70_1
          try clear hcz70_2
          try clear hcz70_3
          try clear hcz74_0
          try clear hcz74_1
          try clear hcz74_2
          try clear hcz74_3
          try clear hcz84_0
          try clear hcz84_1
          try clear hcz84_2
          try clear hcz84_3
          try clear hcz86_0
          try clear hcz86_1
          try clear hcz86_2
          try clear hcz86_3
          try clear hcz88_0
          try clear hcz88_1
          try clear hcz88_2
          try clear hcz88_3
          try clear hfz12_0
          try clear hfz12_1
          try clear hfz12_2
          try clear hfz12_3
          try clear hfz20_0
          try clear hfz20_1
          try clear hfz20_2
          try clear hfz20_3
          try clear hfz24_0
          try clear hfz24_1
          try clear hfz24_2
          try clear hfz24_3
          try clear hfz30_0
          try clear hfz30_1
          try clear hfz30_2
          try clear hfz30_3
          try clear hfz39_0
          try clear hfz39_1
          try clear hfz39_2
          try clear hfz39_3
          try clear hfz41_0
          try clear hfz41_1
          try clear hfz41_2
          try clear hfz41_3
          try clear hfz45_0
          try clear hfz45_1
          try clear hfz45_2
          try clear hfz45_3
          try clear hfz47_0
          try clear hfz47_1
          try clear hfz47_2
          try clear hfz47_3
          try clear hfz55_0
          try clear hfz55_1
          try clear hfz55_2
          try clear hfz55_3
          try clear hfz57_0
          try clear hfz57_1
          try clear hfz57_2
          try clear hfz57_3
          try clear hfz65_0
          try clear hfz65_1
          try clear hfz65_2
          try clear hfz65_3
          try clear hfz70_0
          try clear hfz70_1
          try clear hfz70_2
          try clear hfz70_3
          try clear hfz74_0
          try clear hfz74_1
          try clear hfz74_2
          try clear hfz74_3
          try clear hfz84_0
          try clear hfz84_1
          try clear hfz84_2
          try clear hfz84_3
          try clear hfz86_0
          try clear hfz86_1
          try clear hfz86_2
          try clear hfz86_3
          try clear hfz88_0
          try clear hfz88_1
          try clear hfz88_2
          try clear hfz88_3
          try clear p2
          obtain ⟨kq, x126_80, rfl, HA, HJ80, HO_20, HO_571000, HO_571001, HO_571002, HO_571003, HO_586000, HO_586001, HO_586002, HO_586003, HO_601000, HO_601001, HO_601002, HO_601003, BK570, BK585, BK600, HB⟩ := hcut
          cases kq with
          | zero => exact absurd HA.out (by simp [laws_FnFocusSteps.j2])
          | succ kj80 =>
           have H := HA.out
           clear HA
           simp only [laws_FnFocusSteps.j2] at H
           by_cases c93 : x126_80 = true
           ·subst c93
            have H1 : (some false) = some r := by rw [if_pos rfl] at H; exact H
            clear H
            have H := H1
            clear H1
            obtain rfl := Option.some.inj H
            go_wp2
            go_ret
            exact ⟨Q1, Q12⟩
           ·replace c93 := Bool.eq_false_iff.mpr c93
            subst c93
            have H1 : (if t584 = true then ((laws_uSame.f kj80 t574 t611).bind fun t616 => (if t616 = true then (if t612 = t583 then ((impl_IsFocus.f kj80 t571 t574 t577 t580).bind fun t617 => (some t617)) else (some false)) else (some false))) else (some true)) = some r := by rw [if_neg (show ¬ (false = true) by decide)] at H; exact H
            clear H
            have H := H1
            clear H1
            by_cases c94 : t584 = true
            ·subst c94
             have H1 : ((laws_uSame.f kj80 t574 t611).bind fun t616 => (if t616 = true then (if t612 = t583 then ((impl_IsFocus.f kj80 t571 t574 t577 t580).bind fun t617 => (some t617)) else (some false)) else (some false))) = some r := by rw [if_pos rfl] at H; exact H
             clear H
             have H := H1
             clear H1
             replace H := Z37.mp H
             obtain ⟨t616, A950, H⟩ := H
             replace H : (if t616 = true then (if t612 = t583 then ((impl_IsFocus.f kj80 t571 t574 t577 t580).bind fun t617 => (some t617)) else (some false)) else (some false)) = some r := H
             have A95 := Ya A950
             clear A950
             by_cases c96 : t616 = true
             ·subst c96
              have H1 : (if t612 = t583 then ((impl_IsFocus.f kj80 t571 t574 t577 t580).bind fun t617 => (some t617)) else (some false)) = some r := by rw [if_pos rfl] at H; exact H
              clear H
              have H := H1
              clear H1
              by_cases c97 : t612 = t583
              ·rw [if_pos c97] at H
               have c97b0 : (t612 == t583) = true := beq_iff_eq.mpr c97
               have c97b1 : (t612 != t583) = false := bne_eq_false_iff_eq.mpr c97
               clear c97
               replace H := Z37.mp H
               obtain ⟨t617, A980, H⟩ := H
               replace H : (some t617) = some r := H
               have A98 := Ya A980
               clear A980
               obtain rfl := Option.some.inj H
               have hnb99 := NB585_570.out
               have hnc99 := NB570_585.out
               have hnb100 := NB585_600.out
               have hnc100 := NB600_585.out
               have hz101 := Y4 BK585.out
               obtain ⟨Ao102, co102, rfl⟩ := Z19 HO_20.out
               go_wp2_with (first | ((with_reducible refine gate_callee (f := 9) rfl ?_); refine Yz 131 Try.func9 #[.slice Ao21 t574.length co21, .slice Ao102 t611.length co102] ?_; (with_reducible refine (laws_uSame.calls kj80 _ _ t574 _ _ t611 true _ (Yc (Kd.R_reads' HO_586001.out).2.2) ((Kd.R_reads' HO_586001.out).2.1) (Yc (Kd.R_reads' HO_20.out).2.2) ((Kd.R_reads' HO_20.out).2.1) A95.out).mono ?_); rintro e w' ⟨rfl, ⟨nd, rfl⟩⟩; refine ⟨_, rfl, ?_⟩) | (go_at_call 24; (with_reducible refine (impl_IsFocus.calls kj80 _ _ t571 _ _ t574 _ _ t577 _ _ t580 t617 _ (Yc (Kd.R_reads' HO_586000.out).2.2) ((Kd.R_reads' HO_586000.out).2.1) (Yc (Kd.R_reads' HO_586001.out).2.2) ((Kd.R_reads' HO_586001.out).2.1) (Yc (Kd.R_reads' HO_586002.out).2.2) ((Kd.R_reads' HO_586002.out).2.1) (Yc (Kd.R_reads' HO_586003.out).2.2) ((Kd.R_reads' HO_586003.out).2.1) A98.out).mono ?_); rintro e w103 ⟨rfl, hb⟩; replace HO_20 := Yw HO_20 hb; replace HO_571000 := Yw HO_571000 hb; replace HO_571001 := Yw HO_571001 hb; replace HO_571002 := Yw HO_571002 hb; replace HO_571003 := Yw HO_571003 hb; replace HO_586000 := Yw HO_586000 hb; replace HO_586001 := Yw HO_586001 hb; replace HO_586002 := Yw HO_586002 hb; replace HO_586003 := Yw HO_586003 hb; replace HO_601000 := Yw HO_601000 hb; replace HO_601001 := Yw HO_601001 hb; replace HO_601002 := Yw HO_601002 hb; replace HO_601003 := Yw HO_601003 hb; replace BK570 := Yb BK570 hb; replace BK585 := Yb BK585 hb; replace BK600 := Yb BK600 hb; replace HB := Yh hb; (try clear hb)))
               go_ret
               exact ⟨Q1, Q12⟩
              ·rw [if_neg c97] at H
               have c97b0 : (t612 == t583) = false := beq_eq_false_iff_ne.mpr c97
               have c97b1 : (t612 != t583) = true := bne_iff_ne.mpr c97
               obtain rfl := Option.some.inj H
               have hnb104 := NB585_570.out
               have hnc104 := NB570_585.out
               have hnb105 := NB585_600.out
               have hnc105 := NB600_585.out
               have hz106 := Y4 BK585.out
               obtain ⟨Ao107, co107, rfl⟩ := Z19 HO_20.out
               go_wp2_with (first | ((with_reducible refine gate_callee (f := 9) rfl ?_); refine Yz 131 Try.func9 #[.slice Ao21 t574.length co21, .slice Ao107 t611.length co107] ?_; (with_reducible refine (laws_uSame.calls kj80 _ _ t574 _ _ t611 true _ (Yc (Kd.R_reads' HO_586001.out).2.2) ((Kd.R_reads' HO_586001.out).2.1) (Yc (Kd.R_reads' HO_20.out).2.2) ((Kd.R_reads' HO_20.out).2.1) A95.out).mono ?_); rintro e w' ⟨rfl, ⟨nd, rfl⟩⟩; refine ⟨_, rfl, ?_⟩))
               go_ret
               exact ⟨Q1, Q12⟩
             ·replace c96 := Bool.eq_false_iff.mpr c96
              subst c96
              have H1 : (some false) = some r := by rw [if_neg (show ¬ (false = true) by decide)] at H; exact H
              clear H
              have H := H1
              clear H1
              obtain rfl := Option.some.inj H
              have hnb108 := NB585_570.out
              have hnc108 := NB570_585.out
              have hnb109 := NB585_600.out
              have hnc109 := NB600_585.out
              have hz110 := Y4 BK585.out
              obtain ⟨Ao111, co111, rfl⟩ := Z19 HO_20.out
              go_wp2_with (first | ((with_reducible refine gate_callee (f := 9) rfl ?_); refine Yz 131 Try.func9 #[.slice Ao21 t574.length co21, .slice Ao111 t611.length co111] ?_; (with_reducible refine (laws_uSame.calls kj80 _ _ t574 _ _ t611 false _ (Yc (Kd.R_reads' HO_586001.out).2.2) ((Kd.R_reads' HO_586001.out).2.1) (Yc (Kd.R_reads' HO_20.out).2.2) ((Kd.R_reads' HO_20.out).2.1) A95.out).mono ?_); rintro e w' ⟨rfl, ⟨nd, rfl⟩⟩; refine ⟨_, rfl, ?_⟩))
              go_ret
              exact ⟨Q1, Q12⟩
            ·replace c94 := Bool.eq_false_iff.mpr c94
             subst c94
             have H1 : (some true) = some r := by rw [if_neg (show ¬ (false = true) by decide)] at H; exact H
             clear H
             have H := H1
             clear H1
             obtain rfl := Option.some.inj H
             go_wp2
             go_ret
             exact ⟨Q1, Q12⟩
        ·replace c77 := Bool.eq_false_iff.mpr c77
         subst c77
         have H1 : (some true) = some r := by rw [if_neg (show ¬ (false = true) by decide)] at H; exact H
         clear H
         have H := H1
         clear H1
         obtain rfl := Option.some.inj H
         go_wp2
         go_ret
         exact ⟨Q1, Q12⟩
def laws_FnFocusSteps.Pure : Prop := ∀ (l0 : List Int) (l1 : List Int), l0.length ≤ maxLen → l0.length * 1 ≤ 140737488351232 → (∀ x ∈ l0, (Lit.int .u8 x).wf = true) → l1.length ≤ maxLen → l1.length * 1 ≤ 140737488351232 → (∀ x ∈ l1, (Lit.int .u8 x).wf = true) → ∃ k, laws_FnFocusSteps.f k l0 l1 = some true
theorem laws_FnFocusSteps.walk (P : laws_FnFocusSteps.Pure) (a0 : Option Addr) (len0 cap0 : Nat) (z0 : List Int) (a1 : Option Addr) (len1 cap1 : Nat) (z1 : List Int) (w : World) (w0 : (a0 = none ∧ len0 = 0 ∧ cap0 = 0 ∧ z0 = []) ∨ ∃ x, a0 = some x ∧ len0 ≤ cap0 ∧ cap0 ≤ maxLen ∧ z0.length = cap0 ∧ (∀ i, i < z0.length → w.cell? (x.add i) = some (.int .u8 (z0.getD i 0))) ∧ ∀ n ∈ z0, (Lit.int .u8 n).wf = true) (y0 : len0 * 1 ≤ 140737488351232) (w1 : (a1 = none ∧ len1 = 0 ∧ cap1 = 0 ∧ z1 = []) ∨ ∃ x, a1 = some x ∧ len1 ≤ cap1 ∧ cap1 ≤ maxLen ∧ z1.length = cap1 ∧ (∀ i, i < z1.length → w.cell? (x.add i) = some (.int .u8 (z1.getD i 0))) ∧ ∀ n ∈ z1, (Lit.int .u8 n).wf = true) (y1 : len1 * 1 ≤ 140737488351232) :
  Calls Try.prog 4 #[.slice a0 len0 cap0, .slice a1 len1 cap1] w fun e w' => e = .returned (.bool true) ∧ Below w.heap.size w w' := by
 obtain ⟨l0, rfl, hr0, hm0, hw0, hc0⟩ := ReadsInt.ofRowC w0
 obtain ⟨l1, rfl, hr1, hm1, hw1, hc1⟩ := ReadsInt.ofRowC w1
 obtain ⟨k, h⟩ := P l0 l1 hm0 y0 hw0 hm1 y1 hw1
 refine (laws_FnFocusSteps.calls k _ _ l0 _ _ l1 true w (Kd.C_of_reads (d := (0 : Int)) (h1 := fun _ => rfl) hr0) hc0 (Kd.C_of_reads (d := (0 : Int)) (h1 := fun _ => rfl) hr1) hc1 h).mono ?_
 rintro e w' ⟨rfl, hd⟩
 exact ⟨rfl, hd⟩
end Go.Proofs.Ytapbbmicfkbafaa.MFnFocusSteps
