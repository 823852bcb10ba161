import Derived.Test.YtpfakdhfffehaaaMFnExactStepFocusx0
import Derived.Test.YtpfakdhfffehaaaMFnExactStepFocusx1
import Derived.Test.YtpfakdhfffehaaaMFnExactStepFocusx8
import Derived.Test.YtpfakdhfffehaaaMFnExactStepFocusx14
import Derived.Test.YtpfakdhfffehaaaMFnExactStepFocusx15
import Derived.Test.YtpfakdhfffehaaaMFnExactStepFocusx16
namespace Go.Proofs.Ytpfakdhfffehaaa.MFnExactStepFocus
open Go.RowKit Go.Proofs.YtpfakdhfffehaaaW.PrintWords Go.Proofs.YtpfakdhfffehaaaW.PrintLast Go.Proofs.YtpfakdhfffehaaaW.PrintMore
attribute [local go_sem] max2_int min2_int max_two min_two max_three min_three max_four min_four   
set_option linter.unusedVariables false
set_option linter.unusedSimpArgs false
mutual
def laws_FnExactStepFocus.j0 : Nat → Int → Bool → Int → Bool → Bool → List Int → List Int → List Bool → List Int → List Int → List Int → List Bool → List Int → List Int → List Int → List Bool → List Int → List Int → List Int → List Bool → List Int → Option (Bool)
 | 0, _, _, _, _, _, _, _, _, _, _, _, _, _, _, _, _, _, _, _, _, _ => none
 | k + 1, x5, x6, x9, x10, x50, x379000, x379001, x379002, x379003, x407000, x407001, x407002, x407003, x420000, x420001, x420002, x420003, x435000, x435001, x435002, x435003 => if x50 = true then (some false) else ((laws_toFocus.f k x379000 x379001 x379002 x379003).bind fun bt436 => ((laws_eqFocus.f k x420000 x420001 x420002 x420003 bt436.1 bt436.2.1 bt436.2.2.1 bt436.2.2.2).bind fun t448 => (if t448 = true then ((laws_markFocus.f k x420000 x420001 x420002 x420003 1).bind fun bt449 => (if bt449.1 < 0 then (laws_FnExactStepFocus.j1 k x5 x6 true x379000 x379001 x379002 x379003 x407000 x407001 x407002 x407003 x435000 x435001 x435002 x435003) else ((laws_eqFocus.f k x435000 x435001 x435002 x435003 x407000 x407001 x407002 x407003).bind fun t454 => (if t454 = true then (if x9 = x5 then (laws_FnExactStepFocus.j1 k x5 x6 (x10 != x6) x379000 x379001 x379002 x379003 x407000 x407001 x407002 x407003 x435000 x435001 x435002 x435003) else (laws_FnExactStepFocus.j1 k x5 x6 true x379000 x379001 x379002 x379003 x407000 x407001 x407002 x407003 x435000 x435001 x435002 x435003)) else (laws_FnExactStepFocus.j1 k x5 x6 true x379000 x379001 x379002 x379003 x407000 x407001 x407002 x407003 x435000 x435001 x435002 x435003))))) else (some false))))
def laws_FnExactStepFocus.j1 : Nat → Int → Bool → Bool → List Int → List Int → List Bool → List Int → List Int → List Int → List Bool → List Int → List Int → List Int → List Bool → List Int → Option (Bool)
 | 0, _, _, _, _, _, _, _, _, _, _, _, _, _, _, _ => none
 | k + 1, x5, x6, x76, x379000, x379001, x379002, x379003, x407000, x407001, x407002, x407003, x435000, x435001, x435002, x435003 => if x76 = true then (some false) else ((laws_markFocus.f k x435000 x435001 x435002 x435003 1).bind fun bt455 => ((laws_heldFocus.f k bt455.2.1 bt455.2.2.1 bt455.2.2.2.1 bt455.2.2.2.2 1).bind fun t460 => (if t460 < 0 then (some false) else (if t460 = bt455.1 then ((laws_toFocus.f k x379000 x379001 x379002 x379003).bind fun bt461 => ((impl_StepFocus.f k bt461.1 bt461.2.1 bt461.2.2.1 bt461.2.2.2).bind fun bt473 => ((laws_eqFocus.f k bt473.1 bt473.2.1 bt473.2.2.1 bt473.2.2.2.1 x407000 x407001 x407002 x407003).bind fun t488 => (if t488 = true then (if bt473.2.2.2.2.1 = x5 then (laws_FnExactStepFocus.j2 k bt455.1 (bt473.2.2.2.2.2 != x6) bt455.2.1 bt455.2.2.1 bt455.2.2.2.1 bt455.2.2.2.2) else (laws_FnExactStepFocus.j2 k bt455.1 true bt455.2.1 bt455.2.2.1 bt455.2.2.2.1 bt455.2.2.2.2)) else (laws_FnExactStepFocus.j2 k bt455.1 true bt455.2.1 bt455.2.2.1 bt455.2.2.2.1 bt455.2.2.2.2))))) else (some false)))))
def laws_FnExactStepFocus.j2 : Nat → Int → Bool → List Int → List Int → List Bool → List Int → Option (Bool)
 | 0, _, _, _, _, _, _ => none
 | k + 1, x12, x108, x435000, x435001, x435002, x435003 => if x108 = true then (some false) else ((laws_heldFocus.f k x435000 x435001 x435002 x435003 1).bind fun t489 => (if t489 < 0 then (some false) else (if t489 = x12 then (some true) else (some false))))
end
def laws_FnExactStepFocus.f (k : Nat) (l0_0 : List Int) (l0_1 : List Int) (l0_2 : List Bool) (l0_3 : List Int) : Option (Bool) := (laws_szFocus.f l0_0 l0_1 l0_2 l0_3 1048576).bind fun t379 => (if t379 < 0 then (some true) else ((laws_toFocus.f k l0_0 l0_1 l0_2 l0_3).bind fun bt380 => ((spec_StepFocus.f k bt380.1 bt380.2.1 bt380.2.2.1 bt380.2.2.2).bind fun bt392 => ((laws_toFocus.f k l0_0 l0_1 l0_2 l0_3).bind fun bt407 => ((impl_StepFocus.f k bt407.1 bt407.2.1 bt407.2.2.1 bt407.2.2.2).bind fun bt420 => ((laws_eqFocus.f k bt420.1 bt420.2.1 bt420.2.2.1 bt420.2.2.2.1 bt392.1 bt392.2.1 bt392.2.2.1 bt392.2.2.2.1).bind fun t435 => (if t435 = true then (if bt420.2.2.2.2.1 = bt392.2.2.2.2.1 then (laws_FnExactStepFocus.j0 k bt392.2.2.2.2.1 bt392.2.2.2.2.2 bt420.2.2.2.2.1 bt420.2.2.2.2.2 (bt420.2.2.2.2.2 != bt392.2.2.2.2.2) l0_0 l0_1 l0_2 l0_3 bt392.1 bt392.2.1 bt392.2.2.1 bt392.2.2.2.1 bt407.1 bt407.2.1 bt407.2.2.1 bt407.2.2.2 bt420.1 bt420.2.1 bt420.2.2.1 bt420.2.2.2.1) else (laws_FnExactStepFocus.j0 k bt392.2.2.2.2.1 bt392.2.2.2.2.2 bt420.2.2.2.2.1 bt420.2.2.2.2.2 true l0_0 l0_1 l0_2 l0_3 bt392.1 bt392.2.1 bt392.2.2.1 bt392.2.2.2.1 bt407.1 bt407.2.1 bt407.2.2.1 bt407.2.2.2 bt420.1 bt420.2.1 bt420.2.2.1 bt420.2.2.2.1)) else (laws_FnExactStepFocus.j0 k bt392.2.2.2.2.1 bt392.2.2.2.2.2 bt420.2.2.2.2.1 bt420.2.2.2.2.2 true l0_0 l0_1 l0_2 l0_3 bt392.1 bt392.2.1 bt392.2.2.1 bt392.2.2.2.1 bt407.1 bt407.2.1 bt407.2.2.1 bt407.2.2.2 bt420.1 bt420.2.1 bt420.2.2.1 bt420.2.2.2.1))))))))
theorem laws_FnExactStepFocus.mono_l : ∀ k, (∀ y0 y1 y2 y3 y4 y5 y6 y7 y8 y9 y10 y11 y12 y13 y14 y15 y16 y17 y18 y19 y20, LeO (laws_FnExactStepFocus.j0 k y0 y1 y2 y3 y4 y5 y6 y7 y8 y9 y10 y11 y12 y13 y14 y15 y16 y17 y18 y19 y20) (laws_FnExactStepFocus.j0 (k + 1) y0 y1 y2 y3 y4 y5 y6 y7 y8 y9 y10 y11 y12 y13 y14 y15 y16 y17 y18 y19 y20)) ∧ (∀ y0 y1 y2 y3 y4 y5 y6 y7 y8 y9 y10 y11 y12 y13 y14, LeO (laws_FnExactStepFocus.j1 k y0 y1 y2 y3 y4 y5 y6 y7 y8 y9 y10 y11 y12 y13 y14) (laws_FnExactStepFocus.j1 (k + 1) y0 y1 y2 y3 y4 y5 y6 y7 y8 y9 y10 y11 y12 y13 y14)) ∧ (∀ y0 y1 y2 y3 y4 y5, LeO (laws_FnExactStepFocus.j2 k y0 y1 y2 y3 y4 y5) (laws_FnExactStepFocus.j2 (k + 1) y0 y1 y2 y3 y4 y5))
 | 0 => ⟨fun _ _ _ _ _ _ _ _ _ _ _ _ _ _ _ _ _ _ _ _ _ r h => by simp [laws_FnExactStepFocus.j0] at h, fun _ _ _ _ _ _ _ _ _ _ _ _ _ _ _ r h => by simp [laws_FnExactStepFocus.j1] at h, fun _ _ _ _ _ _ r h => by simp [laws_FnExactStepFocus.j2] at h⟩
 | k + 1 => by
  obtain ⟨ih0, ih1, ih2⟩ := laws_FnExactStepFocus.mono_l k
  refine ⟨?_, ?_, ?_⟩
  ·intro y0 y1 y2 y3 y4 y5 y6 y7 y8 y9 y10 y11 y12 y13 y14 y15 y16 y17 y18 y19 y20
   unfold laws_FnExactStepFocus.j0
   repeat' first
   | (with_reducible exact ih0 _ _ _ _ _ _ _ _ _ _ _ _ _ _ _ _ _ _ _ _ _)
   | (with_reducible exact ih1 _ _ _ _ _ _ _ _ _ _ _ _ _ _ _)
   | (with_reducible exact ih2 _ _ _ _ _ _)
   | (with_reducible exact impl_StepFocus.mono _ _ _ _ _)
   | (with_reducible exact laws_eqFocus.mono _ _ _ _ _ _ _ _ _)
   | (with_reducible exact laws_heldFocus.mono _ _ _ _ _ _)
   | (with_reducible exact laws_markFocus.mono _ _ _ _ _ _)
   | (with_reducible exact laws_toFocus.mono _ _ _ _ _)
   | (with_reducible exact spec_StepFocus.mono _ _ _ _ _)
   | (with_reducible exact LeO.refl _)
   | (with_reducible exact LeO.none _)
   | (with_reducible refine LeO.ite ?_ ?_)
   | (with_reducible refine LeO.bind ?_ (fun _ => ?_))
   | exact ih0 _ _ _ _ _ _ _ _ _ _ _ _ _ _ _ _ _ _ _ _ _
   | exact ih1 _ _ _ _ _ _ _ _ _ _ _ _ _ _ _
   | exact ih2 _ _ _ _ _ _
   | exact impl_StepFocus.mono _ _ _ _ _
   | exact laws_eqFocus.mono _ _ _ _ _ _ _ _ _
   | exact laws_heldFocus.mono _ _ _ _ _ _
   | exact laws_markFocus.mono _ _ _ _ _ _
   | exact laws_toFocus.mono _ _ _ _ _
   | exact spec_StepFocus.mono _ _ _ _ _
   | exact LeO.none _
   | refine LeO.ite ?_ ?_
   | refine LeO.bind ?_ (fun _ => ?_)
  ·intro y0 y1 y2 y3 y4 y5 y6 y7 y8 y9 y10 y11 y12 y13 y14
   unfold laws_FnExactStepFocus.j1
   repeat' first
   | (with_reducible exact ih0 _ _ _ _ _ _ _ _ _ _ _ _ _ _ _ _ _ _ _ _ _)
   | (with_reducible exact ih1 _ _ _ _ _ _ _ _ _ _ _ _ _ _ _)
   | (with_reducible exact ih2 _ _ _ _ _ _)
   | (with_reducible exact impl_StepFocus.mono _ _ _ _ _)
   | (with_reducible exact laws_eqFocus.mono _ _ _ _ _ _ _ _ _)
   | (with_reducible exact laws_heldFocus.mono _ _ _ _ _ _)
   | (with_reducible exact laws_markFocus.mono _ _ _ _ _ _)
   | (with_reducible exact laws_toFocus.mono _ _ _ _ _)
   | (with_reducible exact spec_StepFocus.mono _ _ _ _ _)
   | (with_reducible exact LeO.refl _)
   | (with_reducible exact LeO.none _)
   | (with_reducible refine LeO.ite ?_ ?_)
   | (with_reducible refine LeO.bind ?_ (fun _ => ?_))
   | exact ih0 _ _ _ _ _ _ _ _ _ _ _ _ _ _ _ _ _ _ _ _ _
   | exact ih1 _ _ _ _ _ _ _ _ _ _ _ _ _ _ _
   | exact ih2 _ _ _ _ _ _
   | exact impl_StepFocus.mono _ _ _ _ _
   | exact laws_eqFocus.mono _ _ _ _ _ _ _ _ _
   | exact laws_heldFocus.mono _ _ _ _ _ _
   | exact laws_markFocus.mono _ _ _ _ _ _
   | exact laws_toFocus.mono _ _ _ _ _
   | exact spec_StepFocus.mono _ _ _ _ _
   | exact LeO.none _
   | refine LeO.ite ?_ ?_
   | refine LeO.bind ?_ (fun _ => ?_)
  ·intro y0 y1 y2 y3 y4 y5
   unfold laws_FnExactStepFocus.j2
   repeat' first
   | (with_reducible exact ih0 _ _ _ _ _ _ _ _ _ _ _ _ _ _ _ _ _ _ _ _ _)
   | (with_reducible exact ih1 _ _ _ _ _ _ _ _ _ _ _ _ _ _ _)
   | (with_reducible exact ih2 _ _ _ _ _ _)
   | (with_reducible exact impl_StepFocus.mono _ _ _ _ _)
   | (with_reducible exact laws_eqFocus.mono _ _ _ _ _ _ _ _ _)
   | (with_reducible exact laws_heldFocus.mono _ _ _ _ _ _)
   | (with_reducible exact laws_markFocus.mono _ _ _ _ _ _)
   | (with_reducible exact laws_toFocus.mono _ _ _ _ _)
   | (with_reducible exact spec_StepFocus.mono _ _ _ _ _)
   | (with_reducible exact LeO.refl _)
   | (with_reducible exact LeO.none _)
   | (with_reducible refine LeO.ite ?_ ?_)
   | (with_reducible refine LeO.bind ?_ (fun _ => ?_))
   | exact ih0 _ _ _ _ _ _ _ _ _ _ _ _ _ _ _ _ _ _ _ _ _
   | exact ih1 _ _ _ _ _ _ _ _ _ _ _ _ _ _ _
   | exact ih2 _ _ _ _ _ _
   | exact impl_StepFocus.mono _ _ _ _ _
   | exact laws_eqFocus.mono _ _ _ _ _ _ _ _ _
   | exact laws_heldFocus.mono _ _ _ _ _ _
   | exact laws_markFocus.mono _ _ _ _ _ _
   | exact laws_toFocus.mono _ _ _ _ _
   | exact spec_StepFocus.mono _ _ _ _ _
   | exact LeO.none _
   | refine LeO.ite ?_ ?_
   | refine LeO.bind ?_ (fun _ => ?_)
theorem laws_FnExactStepFocus.mono : ∀ a0 a1 a2 a3 k, LeO (laws_FnExactStepFocus.f k a0 a1 a2 a3) (laws_FnExactStepFocus.f (k + 1) a0 a1 a2 a3) := by
 intro a0 a1 a2 a3 k
 obtain ⟨ih0, ih1, ih2⟩ := laws_FnExactStepFocus.mono_l k
 unfold laws_FnExactStepFocus.f
 repeat' first
   | (with_reducible exact ih0 _ _ _ _ _ _ _ _ _ _ _ _ _ _ _ _ _ _ _ _ _)
   | (with_reducible exact ih1 _ _ _ _ _ _ _ _ _ _ _ _ _ _ _)
   | (with_reducible exact ih2 _ _ _ _ _ _)
   | (with_reducible exact impl_StepFocus.mono _ _ _ _ _)
   | (with_reducible exact laws_eqFocus.mono _ _ _ _ _ _ _ _ _)
   | (with_reducible exact laws_heldFocus.mono _ _ _ _ _ _)
   | (with_reducible exact laws_markFocus.mono _ _ _ _ _ _)
   | (with_reducible exact laws_toFocus.mono _ _ _ _ _)
   | (with_reducible exact spec_StepFocus.mono _ _ _ _ _)
   | (with_reducible exact LeO.refl _)
   | (with_reducible exact LeO.none _)
   | (with_reducible refine LeO.ite ?_ ?_)
   | (with_reducible refine LeO.bind ?_ (fun _ => ?_))
   | exact ih0 _ _ _ _ _ _ _ _ _ _ _ _ _ _ _ _ _ _ _ _ _
   | exact ih1 _ _ _ _ _ _ _ _ _ _ _ _ _ _ _
   | exact ih2 _ _ _ _ _ _
   | exact impl_StepFocus.mono _ _ _ _ _
   | exact laws_eqFocus.mono _ _ _ _ _ _ _ _ _
   | exact laws_heldFocus.mono _ _ _ _ _ _
   | exact laws_markFocus.mono _ _ _ _ _ _
   | exact laws_toFocus.mono _ _ _ _ _
   | exact spec_StepFocus.mono _ _ _ _ _
   | exact LeO.none _
   | refine LeO.ite ?_ ?_
   | refine LeO.bind ?_ (fun _ => ?_)
set_option maxHeartbeats 8000000 in
set_option maxRecDepth 100000 in
theorem laws_FnExactStepFocus.calls (k : Nat) (A0_0 : Option Addr) (c0_0 : Nat) (l0_0 : List Int) (A0_1 : Option Addr) (c0_1 : Nat) (l0_1 : List Int) (A0_2 : Option Addr) (c0_2 : Nat) (l0_2 : List Bool) (A0_3 : Option Addr) (c0_3 : Nat) (l0_3 : List Int) (r : Bool) (w : World) (hr0_0 : Kd.C (Kd.int .i64) w A0_0 l0_0.length l0_0) (hc0_0 : l0_0.length ≤ c0_0) (hr0_1 : Kd.C (Kd.int .i64) w A0_1 l0_1.length l0_1) (hc0_1 : l0_1.length ≤ c0_1) (hr0_2 : Kd.C Kd.bool w A0_2 l0_2.length l0_2) (hc0_2 : l0_2.length ≤ c0_2) (hr0_3 : Kd.C (Kd.int .i64) w A0_3 l0_3.length l0_3) (hc0_3 : l0_3.length ≤ c0_3) (h : laws_FnExactStepFocus.f k l0_0 l0_1 l0_2 l0_3 = some r) :
  Calls Try.prog 3 #[.agg #[.slice A0_0 l0_0.length c0_0, .slice A0_1 l0_1.length c0_1, .slice A0_2 l0_2.length c0_2, .slice A0_3 l0_3.length c0_3]] w fun e w' => e = .returned (.bool r) ∧ Below w.heap.size w w' := by
 have hu25 := Try.underlying25
 have hu27 := Try.underlying27
 have HR0_0 := Ya hr0_0
 have HC0_0 := Ya hc0_0
 clear hr0_0 hc0_0
 have HR0_1 := Ya hr0_1
 have HC0_1 := Ya hc0_1
 clear hr0_1 hc0_1
 have HR0_2 := Ya hr0_2
 have HC0_2 := Ya hc0_2
 clear hr0_2 hc0_2
 have HR0_3 := Ya hr0_3
 have HC0_3 := Ya hc0_3
 clear hr0_3 hc0_3
 have HB := Ya (Below.refl w.heap.size w)
 have H : ((laws_szFocus.f l0_0 l0_1 l0_2 l0_3 1048576).bind fun t379 => (if t379 < 0 then (some true) else ((laws_toFocus.f k l0_0 l0_1 l0_2 l0_3).bind fun bt380 => ((spec_StepFocus.f k bt380.1 bt380.2.1 bt380.2.2.1 bt380.2.2.2).bind fun bt392 => ((laws_toFocus.f k l0_0 l0_1 l0_2 l0_3).bind fun bt407 => ((impl_StepFocus.f k bt407.1 bt407.2.1 bt407.2.2.1 bt407.2.2.2).bind fun bt420 => ((laws_eqFocus.f k bt420.1 bt420.2.1 bt420.2.2.1 bt420.2.2.2.1 bt392.1 bt392.2.1 bt392.2.2.1 bt392.2.2.2.1).bind fun t435 => (if t435 = true then (if bt420.2.2.2.2.1 = bt392.2.2.2.2.1 then (laws_FnExactStepFocus.j0 k bt392.2.2.2.2.1 bt392.2.2.2.2.2 bt420.2.2.2.2.1 bt420.2.2.2.2.2 (bt420.2.2.2.2.2 != bt392.2.2.2.2.2) l0_0 l0_1 l0_2 l0_3 bt392.1 bt392.2.1 bt392.2.2.1 bt392.2.2.2.1 bt407.1 bt407.2.1 bt407.2.2.1 bt407.2.2.2 bt420.1 bt420.2.1 bt420.2.2.1 bt420.2.2.2.1) else (laws_FnExactStepFocus.j0 k bt392.2.2.2.2.1 bt392.2.2.2.2.2 bt420.2.2.2.2.1 bt420.2.2.2.2.2 true l0_0 l0_1 l0_2 l0_3 bt392.1 bt392.2.1 bt392.2.2.1 bt392.2.2.2.1 bt407.1 bt407.2.1 bt407.2.2.1 bt407.2.2.2 bt420.1 bt420.2.1 bt420.2.2.1 bt420.2.2.2.1)) else (laws_FnExactStepFocus.j0 k bt392.2.2.2.2.1 bt392.2.2.2.2.2 bt420.2.2.2.2.1 bt420.2.2.2.2.2 true l0_0 l0_1 l0_2 l0_3 bt392.1 bt392.2.1 bt392.2.2.1 bt392.2.2.2.1 bt407.1 bt407.2.1 bt407.2.2.1 bt407.2.2.2 bt420.1 bt420.2.1 bt420.2.2.1 bt420.2.2.2.1))))))))) = some r := h
 clear h
 replace H := Z36.mp H
 obtain ⟨t379, A20, H⟩ := H
 replace H : (if t379 < 0 then (some true) else ((laws_toFocus.f k l0_0 l0_1 l0_2 l0_3).bind fun bt380 => ((spec_StepFocus.f k bt380.1 bt380.2.1 bt380.2.2.1 bt380.2.2.2).bind fun bt392 => ((laws_toFocus.f k l0_0 l0_1 l0_2 l0_3).bind fun bt407 => ((impl_StepFocus.f k bt407.1 bt407.2.1 bt407.2.2.1 bt407.2.2.2).bind fun bt420 => ((laws_eqFocus.f k bt420.1 bt420.2.1 bt420.2.2.1 bt420.2.2.2.1 bt392.1 bt392.2.1 bt392.2.2.1 bt392.2.2.2.1).bind fun t435 => (if t435 = true then (if bt420.2.2.2.2.1 = bt392.2.2.2.2.1 then (laws_FnExactStepFocus.j0 k bt392.2.2.2.2.1 bt392.2.2.2.2.2 bt420.2.2.2.2.1 bt420.2.2.2.2.2 (bt420.2.2.2.2.2 != bt392.2.2.2.2.2) l0_0 l0_1 l0_2 l0_3 bt392.1 bt392.2.1 bt392.2.2.1 bt392.2.2.2.1 bt407.1 bt407.2.1 bt407.2.2.1 bt407.2.2.2 bt420.1 bt420.2.1 bt420.2.2.1 bt420.2.2.2.1) else (laws_FnExactStepFocus.j0 k bt392.2.2.2.2.1 bt392.2.2.2.2.2 bt420.2.2.2.2.1 bt420.2.2.2.2.2 true l0_0 l0_1 l0_2 l0_3 bt392.1 bt392.2.1 bt392.2.2.1 bt392.2.2.2.1 bt407.1 bt407.2.1 bt407.2.2.1 bt407.2.2.2 bt420.1 bt420.2.1 bt420.2.2.1 bt420.2.2.2.1)) else (laws_FnExactStepFocus.j0 k bt392.2.2.2.2.1 bt392.2.2.2.2.2 bt420.2.2.2.2.1 bt420.2.2.2.2.2 true l0_0 l0_1 l0_2 l0_3 bt392.1 bt392.2.1 bt392.2.2.1 bt392.2.2.2.1 bt407.1 bt407.2.1 bt407.2.2.1 bt407.2.2.2 bt420.1 bt420.2.1 bt420.2.2.1 bt420.2.2.2.1)))))))) = some r := H
 have A2 := Ya A20
 clear A20
 by_cases c3 : t379 < 0
 ·rw [if_pos c3] at H
  have c3b0 : decide (t379 < 0) = true := Z38 c3
  clear c3
  obtain rfl := Option.some.inj H
  go_enter Try.func3, Try.ntmps3
  go_wp2_with (first | ((with_reducible refine gate_dst (N := 1) rfl ?_); refine Yx 1 #[.slice A0_0 l0_0.length c0_0, .slice A0_1 l0_1.length c0_1, .slice A0_2 l0_2.length c0_2, .slice A0_3 l0_3.length c0_3] 25 ?_; intro gb378 hg w4 hbox hb; have BK378 := Ya hbox; have GE378 := Yg hg; replace HB := Yh hb; clear hb hbox hg; obtain ⟨hcz5_0, hcz5_1, hcz5_2, hcz5_3, hfz5_0, hfz5_1, hfz5_2, hfz5_3⟩ := Y4 BK378.out) | ((with_reducible refine gate_callee (f := 8) rfl ?_); refine Yz 19 Try.func8 #[.agg #[.slice A0_0 l0_0.length c0_0, .slice A0_1 l0_1.length c0_1, .slice A0_2 l0_2.length c0_2, .slice A0_3 l0_3.length c0_3], .int .i64 1048576] ?_; (with_reducible refine (laws_szFocus.calls _ _ l0_0 _ _ l0_1 _ _ l0_2 _ _ l0_3 1048576 t379 _ (Yc (Z22 HR0_0.out HB.out)) HC0_0.out (Yc (Z22 HR0_1.out HB.out)) HC0_1.out (Yc (Z22 HR0_2.out HB.out)) HC0_2.out (Yc (Z22 HR0_3.out HB.out)) HC0_3.out A2.out).mono ?_); rintro e w6 ⟨rfl, hb⟩; refine ⟨_, rfl, ?_⟩; replace BK378 := Yb BK378 hb; replace HB := Yh hb; (try clear hb)))
  go_ret
  exact ⟨Q2, Q12⟩
 ·rw [if_neg c3] at H
  have c3b0 : decide (t379 < 0) = false := Z37 c3
  clear c3
  replace H := Z36.mp H
  obtain ⟨⟨t380, t383, t386, t389⟩, A70, H⟩ := H
  replace H : ((spec_StepFocus.f k t380 t383 t386 t389).bind fun bt392 => ((laws_toFocus.f k l0_0 l0_1 l0_2 l0_3).bind fun bt407 => ((impl_StepFocus.f k bt407.1 bt407.2.1 bt407.2.2.1 bt407.2.2.2).bind fun bt420 => ((laws_eqFocus.f k bt420.1 bt420.2.1 bt420.2.2.1 bt420.2.2.2.1 bt392.1 bt392.2.1 bt392.2.2.1 bt392.2.2.2.1).bind fun t435 => (if t435 = true then (if bt420.2.2.2.2.1 = bt392.2.2.2.2.1 then (laws_FnExactStepFocus.j0 k bt392.2.2.2.2.1 bt392.2.2.2.2.2 bt420.2.2.2.2.1 bt420.2.2.2.2.2 (bt420.2.2.2.2.2 != bt392.2.2.2.2.2) l0_0 l0_1 l0_2 l0_3 bt392.1 bt392.2.1 bt392.2.2.1 bt392.2.2.2.1 bt407.1 bt407.2.1 bt407.2.2.1 bt407.2.2.2 bt420.1 bt420.2.1 bt420.2.2.1 bt420.2.2.2.1) else (laws_FnExactStepFocus.j0 k bt392.2.2.2.2.1 bt392.2.2.2.2.2 bt420.2.2.2.2.1 bt420.2.2.2.2.2 true l0_0 l0_1 l0_2 l0_3 bt392.1 bt392.2.1 bt392.2.2.1 bt392.2.2.2.1 bt407.1 bt407.2.1 bt407.2.2.1 bt407.2.2.2 bt420.1 bt420.2.1 bt420.2.2.1 bt420.2.2.2.1)) else (laws_FnExactStepFocus.j0 k bt392.2.2.2.2.1 bt392.2.2.2.2.2 bt420.2.2.2.2.1 bt420.2.2.2.2.2 true l0_0 l0_1 l0_2 l0_3 bt392.1 bt392.2.1 bt392.2.2.1 bt392.2.2.2.1 bt407.1 bt407.2.1 bt407.2.2.1 bt407.2.2.2 bt420.1 bt420.2.1 bt420.2.2.1 bt420.2.2.2.1)))))) = some r := H
  have A7 := Ya A70
  clear A70
  replace H := Z36.mp H
  obtain ⟨⟨t392, t395, t398, t401, t404, t405⟩, A80, H⟩ := H
  replace H : ((laws_toFocus.f k l0_0 l0_1 l0_2 l0_3).bind fun bt407 => ((impl_StepFocus.f k bt407.1 bt407.2.1 bt407.2.2.1 bt407.2.2.2).bind fun bt420 => ((laws_eqFocus.f k bt420.1 bt420.2.1 bt420.2.2.1 bt420.2.2.2.1 t392 t395 t398 t401).bind fun t435 => (if t435 = true then (if bt420.2.2.2.2.1 = t404 then (laws_FnExactStepFocus.j0 k t404 t405 bt420.2.2.2.2.1 bt420.2.2.2.2.2 (bt420.2.2.2.2.2 != t405) l0_0 l0_1 l0_2 l0_3 t392 t395 t398 t401 bt407.1 bt407.2.1 bt407.2.2.1 bt407.2.2.2 bt420.1 bt420.2.1 bt420.2.2.1 bt420.2.2.2.1) else (laws_FnExactStepFocus.j0 k t404 t405 bt420.2.2.2.2.1 bt420.2.2.2.2.2 true l0_0 l0_1 l0_2 l0_3 t392 t395 t398 t401 bt407.1 bt407.2.1 bt407.2.2.1 bt407.2.2.2 bt420.1 bt420.2.1 bt420.2.2.1 bt420.2.2.2.1)) else (laws_FnExactStepFocus.j0 k t404 t405 bt420.2.2.2.2.1 bt420.2.2.2.2.2 true l0_0 l0_1 l0_2 l0_3 t392 t395 t398 t401 bt407.1 bt407.2.1 bt407.2.2.1 bt407.2.2.2 bt420.1 bt420.2.1 bt420.2.2.1 bt420.2.2.2.1))))) = some r := H
  have A8 := Ya A80
  clear A80
  replace H := Z36.mp H
  obtain ⟨⟨t407, t410, t413, t416⟩, A90, H⟩ := H
  replace H : ((impl_StepFocus.f k t407 t410 t413 t416).bind fun bt420 => ((laws_eqFocus.f k bt420.1 bt420.2.1 bt420.2.2.1 bt420.2.2.2.1 t392 t395 t398 t401).bind fun t435 => (if t435 = true then (if bt420.2.2.2.2.1 = t404 then (laws_FnExactStepFocus.j0 k t404 t405 bt420.2.2.2.2.1 bt420.2.2.2.2.2 (bt420.2.2.2.2.2 != t405) l0_0 l0_1 l0_2 l0_3 t392 t395 t398 t401 t407 t410 t413 t416 bt420.1 bt420.2.1 bt420.2.2.1 bt420.2.2.2.1) else (laws_FnExactStepFocus.j0 k t404 t405 bt420.2.2.2.2.1 bt420.2.2.2.2.2 true l0_0 l0_1 l0_2 l0_3 t392 t395 t398 t401 t407 t410 t413 t416 bt420.1 bt420.2.1 bt420.2.2.1 bt420.2.2.2.1)) else (laws_FnExactStepFocus.j0 k t404 t405 bt420.2.2.2.2.1 bt420.2.2.2.2.2 true l0_0 l0_1 l0_2 l0_3 t392 t395 t398 t401 t407 t410 t413 t416 bt420.1 bt420.2.1 bt420.2.2.1 bt420.2.2.2.1)))) = some r := H
  have A9 := Ya A90
  clear A90
  replace H := Z36.mp H
  obtain ⟨⟨t420, t423, t426, t429, t432, t433⟩, A100, H⟩ := H
  replace H : ((laws_eqFocus.f k t420 t423 t426 t429 t392 t395 t398 t401).bind fun t435 => (if t435 = true then (if t432 = t404 then (laws_FnExactStepFocus.j0 k t404 t405 t432 t433 (t433 != t405) l0_0 l0_1 l0_2 l0_3 t392 t395 t398 t401 t407 t410 t413 t416 t420 t423 t426 t429) else (laws_FnExactStepFocus.j0 k t404 t405 t432 t433 true l0_0 l0_1 l0_2 l0_3 t392 t395 t398 t401 t407 t410 t413 t416 t420 t423 t426 t429)) else (laws_FnExactStepFocus.j0 k t404 t405 t432 t433 true l0_0 l0_1 l0_2 l0_3 t392 t395 t398 t401 t407 t410 t413 t416 t420 t423 t426 t429))) = some r := H
  have A10 := Ya A100
  clear A100
  have HC11 := Ya H
  clear H
  go_enter Try.func3, Try.ntmps3
  go_upto_region 8 with (first | ((with_reducible refine gate_dst (N := 1) rfl ?_); refine Yx 1 #[.slice A0_0 l0_0.length c0_0, .slice A0_1 l0_1.length c0_1, .slice A0_2 l0_2.length c0_2, .slice A0_3 l0_3.length c0_3] 25 ?_; intro gb378 hg w12 hbox hb; have BK378 := Ya hbox; have GE378 := Yg hg; replace HB := Yh hb; clear hb hbox hg; obtain ⟨hcz13_0, hcz13_1, hcz13_2, hcz13_3, hfz13_0, hfz13_1, hfz13_2, hfz13_3⟩ := Y4 BK378.out) | ((with_reducible refine gate_callee (f := 8) rfl ?_); refine Yz 19 Try.func8 #[.agg #[.slice A0_0 l0_0.length c0_0, .slice A0_1 l0_1.length c0_1, .slice A0_2 l0_2.length c0_2, .slice A0_3 l0_3.length c0_3], .int .i64 1048576] ?_; (with_reducible refine (laws_szFocus.calls _ _ l0_0 _ _ l0_1 _ _ l0_2 _ _ l0_3 1048576 t379 _ (Yc (Z22 HR0_0.out HB.out)) HC0_0.out (Yc (Z22 HR0_1.out HB.out)) HC0_1.out (Yc (Z22 HR0_2.out HB.out)) HC0_2.out (Yc (Z22 HR0_3.out HB.out)) HC0_3.out A2.out).mono ?_); rintro e w14 ⟨rfl, hb⟩; refine ⟨_, rfl, ?_⟩; replace BK378 := Yb BK378 hb; replace HB := Yh hb; (try clear hb); obtain ⟨hcz15_0, hcz15_1, hcz15_2, hcz15_3, hfz15_0, hfz15_1, hfz15_2, hfz15_3⟩ := Y4 BK378.out) | ((with_reducible refine gate_callee (f := 10) rfl ?_); refine Yz 24 Try.func10 #[.agg #[.slice A0_0 l0_0.length c0_0, .slice A0_1 l0_1.length c0_1, .slice A0_2 l0_2.length c0_2, .slice A0_3 l0_3.length c0_3]] ?_; (with_reducible refine (laws_toFocus.calls k _ _ l0_0 _ _ l0_1 _ _ l0_2 _ _ l0_3 t380 t383 t386 t389 _ (Yc (Z22 HR0_0.out HB.out)) HC0_0.out (Yc (Z22 HR0_1.out HB.out)) HC0_1.out (Yc (Z22 HR0_2.out HB.out)) HC0_2.out (Yc (Z22 HR0_3.out HB.out)) HC0_3.out A7.out).mono ?_); rintro e w16 ⟨v381, v384, v387, v390, rfl, ho0, ho1, ho2, ho3, hb⟩; refine ⟨_, rfl, ?_⟩; have HO382 := Yl ho0; have HO385 := Yl ho1; have HO388 := Yl ho2; have HO391 := Yl ho3; replace BK378 := Yb BK378 hb; replace HB := Yh hb; (try clear hb ho0 ho1 ho2 ho3); obtain ⟨Ao17, co17, rfl⟩ := Z18 HO382.out; obtain ⟨Ao18, co18, rfl⟩ := Z18 HO385.out; obtain ⟨Ao19, co19, rfl⟩ := Z18 HO388.out; obtain ⟨Ao20, co20, rfl⟩ := Z18 HO391.out) | ((with_reducible refine gate_callee (f := 9) rfl ?_); refine Yz 25 Try.func9 #[.agg #[.slice Ao17 t380.length co17, .slice Ao18 t383.length co18, .slice Ao19 t386.length co19, .slice Ao20 t389.length co20]] ?_; (with_reducible refine (spec_StepFocus.calls k _ _ t380 _ _ t383 _ _ t386 _ _ t389 t392 t395 t398 t401 t404 t405 _ (Yc (Kd.R_reads' HO382.out).2.2) ((Kd.R_reads' HO382.out).2.1) (Yc (Kd.R_reads' HO385.out).2.2) ((Kd.R_reads' HO385.out).2.1) (Yc (Kd.R_reads' HO388.out).2.2) ((Kd.R_reads' HO388.out).2.1) (Yc (Kd.R_reads' HO391.out).2.2) ((Kd.R_reads' HO391.out).2.1) A8.out).mono ?_); rintro e w21 ⟨v393, v396, v399, v402, rfl, ho0, ho1, ho2, ho3, hb⟩; refine ⟨_, rfl, ?_⟩; have HO394 := Yl (Kd.R_new' (Kd.R_new' (Kd.R_new' ho0 (Z17 (Yr HO382.out))) (Z17 (Yr HO385.out))) (Z17 (Yr HO391.out))); have HO397 := Yl (Kd.R_new' (Kd.R_new' (Kd.R_new' ho1 (Z17 (Yr HO382.out))) (Z17 (Yr HO385.out))) (Z17 (Yr HO391.out))); have HO400 := Yl (Kd.R_new' ho2 (Z17 (Yr HO388.out))); replace HO388 := Ya (Kd.R_elder' (Yr HO388.out) (Kd.R_base ho2) hb); have HO403 := Yl (Kd.R_new' (Kd.R_new' (Kd.R_new' ho3 (Z17 (Yr HO382.out))) (Z17 (Yr HO385.out))) (Z17 (Yr HO391.out))); replace HO382 := Ya (Z11 (Z15 (Z15 (Z15 (Z16 (Yr HO382.out) hb) (Kd.R_base ho0)) (Kd.R_base ho1)) (Kd.R_base ho3)) (fun _ h_ => h_.1)); replace HO385 := Ya (Z11 (Z15 (Z15 (Z15 (Z16 (Yr HO385.out) hb) (Kd.R_base ho0)) (Kd.R_base ho1)) (Kd.R_base ho3)) (fun _ h_ => h_.1)); replace HO391 := Ya (Z11 (Z15 (Z15 (Z15 (Z16 (Yr HO391.out) hb) (Kd.R_base ho0)) (Kd.R_base ho1)) (Kd.R_base ho3)) (fun _ h_ => h_.1)); replace BK378 := Yb BK378 hb; replace HB := Yh hb; (try clear hb ho0 ho1 ho2 ho3)) | ((with_reducible refine gate_dst (N := 4) rfl ?_); refine Yx 4 #[.slice none 0 0, .slice none 0 0, .slice none 0 0, .slice none 0 0] 27 ?_; intro gb406 hg w22 hbox hb; replace HO382 := Yw HO382 hb; replace HO385 := Yw HO385 hb; replace HO388 := Yw HO388 hb; replace HO391 := Yw HO391 hb; replace HO394 := Yw HO394 hb; replace HO397 := Yw HO397 hb; replace HO400 := Yw HO400 hb; replace HO403 := Yw HO403 hb; have BK406 := Ya hbox; have GE406 := Yg hg; replace HB := Yh hb; have NB378_406 := Yn BK378 hg; have NB406_378 := Ym BK378 hg; replace BK378 := Yb BK378 hb; clear hb hbox hg; obtain ⟨Ao23, co23, rfl⟩ := Z18 HO394.out; have hnb24 := NB406_378.out; have hnc24 := NB378_406.out; obtain ⟨hcz25_0, hcz25_1, hcz25_2, hcz25_3, hfz25_0, hfz25_1, hfz25_2, hfz25_3⟩ := Y4 BK406.out; obtain ⟨Ao26, co26, rfl⟩ := Z18 HO397.out; obtain ⟨Ao27, co27, rfl⟩ := Z18 HO400.out; obtain ⟨Ao28, co28, rfl⟩ := Z18 HO403.out; obtain ⟨hcz29_0, hcz29_1, hcz29_2, hcz29_3, hfz29_0, hfz29_1, hfz29_2, hfz29_3⟩ := Y4 BK378.out) | ((with_reducible refine gate_callee (f := 10) rfl ?_); refine Yz 30 Try.func10 #[.agg #[.slice A0_0 l0_0.length c0_0, .slice A0_1 l0_1.length c0_1, .slice A0_2 l0_2.length c0_2, .slice A0_3 l0_3.length c0_3]] ?_; (with_reducible refine (laws_toFocus.calls k _ _ l0_0 _ _ l0_1 _ _ l0_2 _ _ l0_3 t407 t410 t413 t416 _ ?side1 HC0_0.out ?side3 HC0_1.out ?side5 HC0_2.out ?side7 HC0_3.out A9.out).mono ?_); (case side1 => exact Z22 HR0_0.out Q0); (case side3 => exact Z22 HR0_1.out Q0); (case side5 => exact Z22 HR0_2.out Q0); (case side7 => exact Z22 HR0_3.out Q0); rintro e w30 ⟨v408, v411, v414, v417, rfl, ho0, ho1, ho2, ho3, hb⟩; refine ⟨_, rfl, ?_⟩; have HO409 := Yl (Kd.R_new' (Kd.R_new' (Kd.R_new' (Kd.R_new' (Kd.R_new' (Kd.R_new' ho0 (Z17 Q104)) (Z17 Q102)) (Z17 Q100)) (Z17 Q98)) (Z17 Q96)) (Z17 Q94)); have HO412 := Yl (Kd.R_new' (Kd.R_new' (Kd.R_new' (Kd.R_new' (Kd.R_new' (Kd.R_new' ho1 (Z17 Q104)) (Z17 Q102)) (Z17 Q100)) (Z17 Q98)) (Z17 Q96)) (Z17 Q94)); have HO415 := Yl (Kd.R_new' (Kd.R_new' ho2 (Z17 Q154)) (Z17 Q152)); replace HO388 := Ya (Kd.R_elder' Q154 (Kd.R_base ho2) hb); replace HO400 := Ya (Kd.R_elder' Q152 (Kd.R_base ho2) hb); have HO418 := Yl (Kd.R_new' (Kd.R_new' (Kd.R_new' (Kd.R_new' (Kd.R_new' (Kd.R_new' ho3 (Z17 Q104)) (Z17 Q102)) (Z17 Q100)) (Z17 Q98)) (Z17 Q96)) (Z17 Q94)); replace HO382 := Ya (Z11 (Z15 (Z15 (Z15 (Z16 Q104 hb) (Kd.R_base ho0)) (Kd.R_base ho1)) (Kd.R_base ho3)) (fun _ h_ => h_.1)); replace HO385 := Ya (Z11 (Z15 (Z15 (Z15 (Z16 Q102 hb) (Kd.R_base ho0)) (Kd.R_base ho1)) (Kd.R_base ho3)) (fun _ h_ => h_.1)); replace HO391 := Ya (Z11 (Z15 (Z15 (Z15 (Z16 Q100 hb) (Kd.R_base ho0)) (Kd.R_base ho1)) (Kd.R_base ho3)) (fun _ h_ => h_.1)); replace HO394 := Ya (Z11 (Z15 (Z15 (Z15 (Z16 Q98 hb) (Kd.R_base ho0)) (Kd.R_base ho1)) (Kd.R_base ho3)) (fun _ h_ => h_.1)); replace HO397 := Ya (Z11 (Z15 (Z15 (Z15 (Z16 Q96 hb) (Kd.R_base ho0)) (Kd.R_base ho1)) (Kd.R_base ho3)) (fun _ h_ => h_.1)); replace HO403 := Ya (Z11 (Z15 (Z15 (Z15 (Z16 Q94 hb) (Kd.R_base ho0)) (Kd.R_base ho1)) (Kd.R_base ho3)) (fun _ h_ => h_.1)); replace BK378 := Yb ⟨Yo4 BK378.out NB378_406.out⟩ hb; replace BK406 := Yb ⟨Yv4 BK406.out⟩ hb; replace HB := Yh hb) | ((with_reducible refine gate_dst (N := 7) rfl ?_); refine Yx 7 #[.slice none 0 0, .slice none 0 0, .slice none 0 0, .slice none 0 0] 27 ?_; intro gb419 hg w31 hbox hb; replace HO382 := Yw HO382 hb; replace HO385 := Yw HO385 hb; replace HO388 := Yw HO388 hb; replace HO391 := Yw HO391 hb; replace HO394 := Yw HO394 hb; replace HO397 := Yw HO397 hb; replace HO400 := Yw HO400 hb; replace HO403 := Yw HO403 hb; replace HO409 := Yw HO409 hb; replace HO412 := Yw HO412 hb; replace HO415 := Yw HO415 hb; replace HO418 := Yw HO418 hb; have BK419 := Ya hbox; have GE419 := Yg hg; replace HB := Yh hb; have NB378_419 := Yn BK378 hg; have NB419_378 := Ym BK378 hg; replace BK378 := Yb BK378 hb; have NB406_419 := Yn BK406 hg; have NB419_406 := Ym BK406 hg; replace BK406 := Yb BK406 hb; clear hb hbox hg; obtain ⟨Ao32, co32, rfl⟩ := Z18 HO409.out; have hnb33 := NB419_378.out; have hnc33 := NB378_419.out; have hnb34 := NB419_406.out; have hnc34 := NB406_419.out; obtain ⟨hcz35_0, hcz35_1, hcz35_2, hcz35_3, hfz35_0, hfz35_1, hfz35_2, hfz35_3⟩ := Y4 BK419.out; obtain ⟨Ao36, co36, rfl⟩ := Z18 HO412.out; obtain ⟨Ao37, co37, rfl⟩ := Z18 HO415.out; obtain ⟨Ao38, co38, rfl⟩ := Z18 HO418.out) | ((with_reducible refine gate_callee (f := 11) rfl ?_); refine Yz 33 Try.func11 #[.agg #[.slice Ao32 t407.length co32, .slice Ao36 t410.length co36, .slice Ao37 t413.length co37, .slice Ao38 t416.length co38]] ?_; (with_reducible refine (impl_StepFocus.calls k _ _ t407 _ _ t410 _ _ t413 _ _ t416 t420 t423 t426 t429 t432 t433 _ ?side1 ((Kd.R_reads' HO409.out).2.1) ?side3 ((Kd.R_reads' HO412.out).2.1) ?side5 ((Kd.R_reads' HO415.out).2.1) ?side7 ((Kd.R_reads' HO418.out).2.1) A10.out).mono ?_); (case side1 => refine (Kd.R_reads' (e := 3) (base := w.heap.size) (ok := fun k_ => (((((((some k_ ≠ (.slice Ao36 t410.length co36 : Value).ownBlock ∧ some k_ ≠ (.slice Ao38 t416.length co38 : Value).ownBlock) ∧ some k_ ≠ (.slice Ao17 t380.length co17 : Value).ownBlock) ∧ some k_ ≠ (.slice Ao18 t383.length co18 : Value).ownBlock) ∧ some k_ ≠ (.slice Ao20 t389.length co20 : Value).ownBlock) ∧ some k_ ≠ (.slice Ao23 t392.length co23 : Value).ownBlock) ∧ some k_ ≠ (.slice Ao26 t395.length co26 : Value).ownBlock) ∧ some k_ ≠ (.slice Ao28 t401.length co28 : Value).ownBlock)) (n := t407.length) (c := co32) ?_).2.2; exact Q77); (case side3 => refine (Kd.R_reads' (e := 3) (base := w.heap.size) (ok := fun k_ => (((((((some k_ ≠ (.slice Ao32 t407.length co32 : Value).ownBlock ∧ some k_ ≠ (.slice Ao38 t416.length co38 : Value).ownBlock) ∧ some k_ ≠ (.slice Ao17 t380.length co17 : Value).ownBlock) ∧ some k_ ≠ (.slice Ao18 t383.length co18 : Value).ownBlock) ∧ some k_ ≠ (.slice Ao20 t389.length co20 : Value).ownBlock) ∧ some k_ ≠ (.slice Ao23 t392.length co23 : Value).ownBlock) ∧ some k_ ≠ (.slice Ao26 t395.length co26 : Value).ownBlock) ∧ some k_ ≠ (.slice Ao28 t401.length co28 : Value).ownBlock)) (n := t410.length) (c := co36) ?_).2.2; exact Q76); (case side5 => refine (Kd.R_reads' (e := 4) (base := w.heap.size) (ok := fun k_ => ((True ∧ some k_ ≠ (.slice Ao19 t386.length co19 : Value).ownBlock) ∧ some k_ ≠ (.slice Ao27 t398.length co27 : Value).ownBlock)) (n := t413.length) (c := co37) ?_).2.2; exact Q128); (case side7 => refine (Kd.R_reads' (e := 3) (base := w.heap.size) (ok := fun k_ => (((((((some k_ ≠ (.slice Ao32 t407.length co32 : Value).ownBlock ∧ some k_ ≠ (.slice Ao36 t410.length co36 : Value).ownBlock) ∧ some k_ ≠ (.slice Ao17 t380.length co17 : Value).ownBlock) ∧ some k_ ≠ (.slice Ao18 t383.length co18 : Value).ownBlock) ∧ some k_ ≠ (.slice Ao20 t389.length co20 : Value).ownBlock) ∧ some k_ ≠ (.slice Ao23 t392.length co23 : Value).ownBlock) ∧ some k_ ≠ (.slice Ao26 t395.length co26 : Value).ownBlock) ∧ some k_ ≠ (.slice Ao28 t401.length co28 : Value).ownBlock)) (n := t416.length) (c := co38) ?_).2.2; exact Q75); rintro e w39 ⟨v421, v424, v427, v430, rfl, ho0, ho1, ho2, ho3, hb⟩; refine ⟨_, rfl, ?_⟩; have HO422 := Yl (Kd.R_new' (Kd.R_new' (Kd.R_new' (Kd.R_new' (Kd.R_new' (Kd.R_new' (Kd.R_new' (Kd.R_new' (Kd.R_new' ho0 (Z17 Q103)) (Z17 Q101)) (Z17 Q99)) (Z17 Q97)) (Z17 Q95)) (Z17 Q93)) (Z17 Q77)) (Z17 Q76)) (Z17 Q75)); have HO425 := Yl (Kd.R_new' (Kd.R_new' (Kd.R_new' (Kd.R_new' (Kd.R_new' (Kd.R_new' (Kd.R_new' (Kd.R_new' (Kd.R_new' ho1 (Z17 Q103)) (Z17 Q101)) (Z17 Q99)) (Z17 Q97)) (Z17 Q95)) (Z17 Q93)) (Z17 Q77)) (Z17 Q76)) (Z17 Q75)); have HO428 := Yl (Kd.R_new' (Kd.R_new' (Kd.R_new' ho2 (Z17 Q153)) (Z17 Q151)) (Z17 Q128)); replace HO388 := Ya (Kd.R_elder' Q153 (Kd.R_base ho2) hb); replace HO400 := Ya (Kd.R_elder' Q151 (Kd.R_base ho2) hb); replace HO415 := Ya (Kd.R_elder' Q128 (Kd.R_base ho2) hb); have HO431 := Yl (Kd.R_new' (Kd.R_new' (Kd.R_new' (Kd.R_new' (Kd.R_new' (Kd.R_new' (Kd.R_new' (Kd.R_new' (Kd.R_new' ho3 (Z17 Q103)) (Z17 Q101)) (Z17 Q99)) (Z17 Q97)) (Z17 Q95)) (Z17 Q93)) (Z17 Q77)) (Z17 Q76)) (Z17 Q75)); replace HO382 := Ya (Z11 (Z15 (Z15 (Z15 (Z16 Q103 hb) (Kd.R_base ho0)) (Kd.R_base ho1)) (Kd.R_base ho3)) (fun _ h_ => h_.1)); replace HO385 := Ya (Z11 (Z15 (Z15 (Z15 (Z16 Q101 hb) (Kd.R_base ho0)) (Kd.R_base ho1)) (Kd.R_base ho3)) (fun _ h_ => h_.1)); replace HO391 := Ya (Z11 (Z15 (Z15 (Z15 (Z16 Q99 hb) (Kd.R_base ho0)) (Kd.R_base ho1)) (Kd.R_base ho3)) (fun _ h_ => h_.1)); replace HO394 := Ya (Z11 (Z15 (Z15 (Z15 (Z16 Q97 hb) (Kd.R_base ho0)) (Kd.R_base ho1)) (Kd.R_base ho3)) (fun _ h_ => h_.1)); replace HO397 := Ya (Z11 (Z15 (Z15 (Z15 (Z16 Q95 hb) (Kd.R_base ho0)) (Kd.R_base ho1)) (Kd.R_base ho3)) (fun _ h_ => h_.1)); replace HO403 := Ya (Z11 (Z15 (Z15 (Z15 (Z16 Q93 hb) (Kd.R_base ho0)) (Kd.R_base ho1)) (Kd.R_base ho3)) (fun _ h_ => h_.1)); replace HO409 := Ya (Z11 (Z15 (Z15 (Z15 (Z16 Q77 hb) (Kd.R_base ho0)) (Kd.R_base ho1)) (Kd.R_base ho3)) (fun _ h_ => h_.1)); replace HO412 := Ya (Z11 (Z15 (Z15 (Z15 (Z16 Q76 hb) (Kd.R_base ho0)) (Kd.R_base ho1)) (Kd.R_base ho3)) (fun _ h_ => h_.1)); replace HO418 := Ya (Z11 (Z15 (Z15 (Z15 (Z16 Q75 hb) (Kd.R_base ho0)) (Kd.R_base ho1)) (Kd.R_base ho3)) (fun _ h_ => h_.1)); replace BK378 := Yb ⟨Yo4 BK378.out NB378_419.out⟩ hb; replace BK406 := Yb ⟨Yo4 BK406.out NB406_419.out⟩ hb; replace BK419 := Yb ⟨Yv4 BK419.out⟩ hb; replace HB := Yh hb) | ((with_reducible refine gate_dst (N := 8) rfl ?_); refine Yx 8 #[.slice none 0 0, .slice none 0 0, .slice none 0 0, .slice none 0 0] 27 ?_; intro gb434 hg w40 hbox hb; replace HO382 := Yw HO382 hb; replace HO385 := Yw HO385 hb; replace HO388 := Yw HO388 hb; replace HO391 := Yw HO391 hb; replace HO394 := Yw HO394 hb; replace HO397 := Yw HO397 hb; replace HO400 := Yw HO400 hb; replace HO403 := Yw HO403 hb; replace HO409 := Yw HO409 hb; replace HO412 := Yw HO412 hb; replace HO415 := Yw HO415 hb; replace HO418 := Yw HO418 hb; replace HO422 := Yw HO422 hb; replace HO425 := Yw HO425 hb; replace HO428 := Yw HO428 hb; replace HO431 := Yw HO431 hb; have BK434 := Ya hbox; have GE434 := Yg hg; replace HB := Yh hb; have NB378_434 := Yn BK378 hg; have NB434_378 := Ym BK378 hg; replace BK378 := Yb BK378 hb; have NB406_434 := Yn BK406 hg; have NB434_406 := Ym BK406 hg; replace BK406 := Yb BK406 hb; have NB419_434 := Yn BK419 hg; have NB434_419 := Ym BK419 hg; replace BK419 := Yb BK419 hb; clear hb hbox hg; obtain ⟨Ao41, co41, rfl⟩ := Z18 HO422.out; have hnb42 := NB434_378.out; have hnc42 := NB378_434.out; have hnb43 := NB434_406.out; have hnc43 := NB406_434.out; have hnb44 := NB434_419.out; have hnc44 := NB419_434.out; obtain ⟨hcz45_0, hcz45_1, hcz45_2, hcz45_3, hfz45_0, hfz45_1, hfz45_2, hfz45_3⟩ := Y4 BK434.out; obtain ⟨Ao46, co46, rfl⟩ := Z18 HO425.out; obtain ⟨Ao47, co47, rfl⟩ := Z18 HO428.out; obtain ⟨Ao48, co48, rfl⟩ := Z18 HO431.out))
  (try simp only [Act.put, Z0, Z1, Z2])
  go_cut [50] (fun v50 wc => ∃ (kq : Nat) (x50_10 : Bool), v50 = .bool x50_10 ∧ Aside0 (laws_FnExactStepFocus.j0 kq t404 t405 t432 t433 x50_10 l0_0 l0_1 l0_2 l0_3 t392 t395 t398 t401 t407 t410 t413 t416 t420 t423 t426 t429 = some r) ∧ Aside0 (kq ≤ k) ∧ Aside0 (Kd.R (Kd.int .i64) 3 wc w.heap.size (fun k_ => some k_ ≠ ((.slice Ao26 t395.length co26) : Value).ownBlock ∧ some k_ ≠ ((.slice Ao28 t401.length co28) : Value).ownBlock ∧ some k_ ≠ ((.slice Ao32 t407.length co32) : Value).ownBlock ∧ some k_ ≠ ((.slice Ao36 t410.length co36) : Value).ownBlock ∧ some k_ ≠ ((.slice Ao38 t416.length co38) : Value).ownBlock ∧ some k_ ≠ ((.slice Ao41 t420.length co41) : Value).ownBlock ∧ some k_ ≠ ((.slice Ao46 t423.length co46) : Value).ownBlock ∧ some k_ ≠ ((.slice Ao48 t429.length co48) : Value).ownBlock) (.slice Ao23 t392.length co23) t392) ∧ Aside0 (Kd.R (Kd.int .i64) 3 wc w.heap.size (fun k_ => some k_ ≠ ((.slice Ao23 t392.length co23) : Value).ownBlock ∧ some k_ ≠ ((.slice Ao28 t401.length co28) : Value).ownBlock ∧ some k_ ≠ ((.slice Ao32 t407.length co32) : Value).ownBlock ∧ some k_ ≠ ((.slice Ao36 t410.length co36) : Value).ownBlock ∧ some k_ ≠ ((.slice Ao38 t416.length co38) : Value).ownBlock ∧ some k_ ≠ ((.slice Ao41 t420.length co41) : Value).ownBlock ∧ some k_ ≠ ((.slice Ao46 t423.length co46) : Value).ownBlock ∧ some k_ ≠ ((.slice Ao48 t429.length co48) : Value).ownBlock) (.slice Ao26 t395.length co26) t395) ∧ Aside0 (Kd.R Kd.bool 4 wc w.heap.size (fun k_ => some k_ ≠ ((.slice Ao37 t413.length co37) : Value).ownBlock ∧ some k_ ≠ ((.slice Ao47 t426.length co47) : Value).ownBlock) (.slice Ao27 t398.length co27) t398) ∧ Aside0 (Kd.R (Kd.int .i64) 3 wc w.heap.size (fun k_ => some k_ ≠ ((.slice Ao23 t392.length co23) : Value).ownBlock ∧ some k_ ≠ ((.slice Ao26 t395.length co26) : Value).ownBlock ∧ some k_ ≠ ((.slice Ao32 t407.length co32) : Value).ownBlock ∧ some k_ ≠ ((.slice Ao36 t410.length co36) : Value).ownBlock ∧ some k_ ≠ ((.slice Ao38 t416.length co38) : Value).ownBlock ∧ some k_ ≠ ((.slice Ao41 t420.length co41) : Value).ownBlock ∧ some k_ ≠ ((.slice Ao46 t423.length co46) : Value).ownBlock ∧ some k_ ≠ ((.slice Ao48 t429.length co48) : Value).ownBlock) (.slice Ao28 t401.length co28) t401) ∧ Aside0 (Kd.R (Kd.int .i64) 3 wc w.heap.size (fun k_ => some k_ ≠ ((.slice Ao23 t392.length co23) : Value).ownBlock ∧ some k_ ≠ ((.slice Ao26 t395.length co26) : Value).ownBlock ∧ some k_ ≠ ((.slice Ao28 t401.length co28) : Value).ownBlock ∧ some k_ ≠ ((.slice Ao36 t410.length co36) : Value).ownBlock ∧ some k_ ≠ ((.slice Ao38 t416.length co38) : Value).ownBlock ∧ some k_ ≠ ((.slice Ao41 t420.length co41) : Value).ownBlock ∧ some k_ ≠ ((.slice Ao46 t423.length co46) : Value).ownBlock ∧ some k_ ≠ ((.slice Ao48 t429.length co48) : Value).ownBlock) (.slice Ao32 t407.length co32) t407) ∧ Aside0 (Kd.R (Kd.int .i64) 3 wc w.heap.size (fun k_ => some k_ ≠ ((.slice Ao23 t392.length co23) : Value).ownBlock ∧ some k_ ≠ ((.slice Ao26 t395.length co26) : Value).ownBlock ∧ some k_ ≠ ((.slice Ao28 t401.length co28) : Value).ownBlock ∧ some k_ ≠ ((.slice Ao32 t407.length co32) : Value).ownBlock ∧ some k_ ≠ ((.slice Ao38 t416.length co38) : Value).ownBlock ∧ some k_ ≠ ((.slice Ao41 t420.length co41) : Value).ownBlock ∧ some k_ ≠ ((.slice Ao46 t423.length co46) : Value).ownBlock ∧ some k_ ≠ ((.slice Ao48 t429.length co48) : Value).ownBlock) (.slice Ao36 t410.length co36) t410) ∧ Aside0 (Kd.R Kd.bool 4 wc w.heap.size (fun k_ => some k_ ≠ ((.slice Ao27 t398.length co27) : Value).ownBlock ∧ some k_ ≠ ((.slice Ao47 t426.length co47) : Value).ownBlock) (.slice Ao37 t413.length co37) t413) ∧ Aside0 (Kd.R (Kd.int .i64) 3 wc w.heap.size (fun k_ => some k_ ≠ ((.slice Ao23 t392.length co23) : Value).ownBlock ∧ some k_ ≠ ((.slice Ao26 t395.length co26) : Value).ownBlock ∧ some k_ ≠ ((.slice Ao28 t401.length co28) : Value).ownBlock ∧ some k_ ≠ ((.slice Ao32 t407.length co32) : Value).ownBlock ∧ some k_ ≠ ((.slice Ao36 t410.length co36) : Value).ownBlock ∧ some k_ ≠ ((.slice Ao41 t420.length co41) : Value).ownBlock ∧ some k_ ≠ ((.slice Ao46 t423.length co46) : Value).ownBlock ∧ some k_ ≠ ((.slice Ao48 t429.length co48) : Value).ownBlock) (.slice Ao38 t416.length co38) t416) ∧ Aside0 (Kd.R (Kd.int .i64) 3 wc w.heap.size (fun k_ => some k_ ≠ ((.slice Ao23 t392.length co23) : Value).ownBlock ∧ some k_ ≠ ((.slice Ao26 t395.length co26) : Value).ownBlock ∧ some k_ ≠ ((.slice Ao28 t401.length co28) : Value).ownBlock ∧ some k_ ≠ ((.slice Ao32 t407.length co32) : Value).ownBlock ∧ some k_ ≠ ((.slice Ao36 t410.length co36) : Value).ownBlock ∧ some k_ ≠ ((.slice Ao38 t416.length co38) : Value).ownBlock ∧ some k_ ≠ ((.slice Ao46 t423.length co46) : Value).ownBlock ∧ some k_ ≠ ((.slice Ao48 t429.length co48) : Value).ownBlock) (.slice Ao41 t420.length co41) t420) ∧ Aside0 (Kd.R (Kd.int .i64) 3 wc w.heap.size (fun k_ => some k_ ≠ ((.slice Ao23 t392.length co23) : Value).ownBlock ∧ some k_ ≠ ((.slice Ao26 t395.length co26) : Value).ownBlock ∧ some k_ ≠ ((.slice Ao28 t401.length co28) : Value).ownBlock ∧ some k_ ≠ ((.slice Ao32 t407.length co32) : Value).ownBlock ∧ some k_ ≠ ((.slice Ao36 t410.length co36) : Value).ownBlock ∧ some k_ ≠ ((.slice Ao38 t416.length co38) : Value).ownBlock ∧ some k_ ≠ ((.slice Ao41 t420.length co41) : Value).ownBlock ∧ some k_ ≠ ((.slice Ao48 t429.length co48) : Value).ownBlock) (.slice Ao46 t423.length co46) t423) ∧ Aside0 (Kd.R Kd.bool 4 wc w.heap.size (fun k_ => some k_ ≠ ((.slice Ao27 t398.length co27) : Value).ownBlock ∧ some k_ ≠ ((.slice Ao37 t413.length co37) : Value).ownBlock) (.slice Ao47 t426.length co47) t426) ∧ Aside0 (Kd.R (Kd.int .i64) 3 wc w.heap.size (fun k_ => some k_ ≠ ((.slice Ao23 t392.length co23) : Value).ownBlock ∧ some k_ ≠ ((.slice Ao26 t395.length co26) : Value).ownBlock ∧ some k_ ≠ ((.slice Ao28 t401.length co28) : Value).ownBlock ∧ some k_ ≠ ((.slice Ao32 t407.length co32) : Value).ownBlock ∧ some k_ ≠ ((.slice Ao36 t410.length co36) : Value).ownBlock ∧ some k_ ≠ ((.slice Ao38 t416.length co38) : Value).ownBlock ∧ some k_ ≠ ((.slice Ao41 t420.length co41) : Value).ownBlock ∧ some k_ ≠ ((.slice Ao46 t423.length co46) : Value).ownBlock) (.slice Ao48 t429.length co48) t429) ∧ Aside0 (wc.heap[gb378]? = some (.cells #[(.slice A0_0 l0_0.length c0_0), (.slice A0_1 l0_1.length c0_1), (.slice A0_2 l0_2.length c0_2), (.slice A0_3 l0_3.length c0_3)] 25 (0, 0))) ∧ Aside0 (wc.heap[gb406]? = some (.cells #[(.slice Ao23 t392.length co23), (.slice Ao26 t395.length co26), (.slice Ao27 t398.length co27), (.slice Ao28 t401.length co28)] 27 (0, 0))) ∧ Aside0 (wc.heap[gb419]? = some (.cells #[(.slice Ao32 t407.length co32), (.slice Ao36 t410.length co36), (.slice Ao37 t413.length co37), (.slice Ao38 t416.length co38)] 27 (0, 0))) ∧ Aside0 (wc.heap[gb434]? = some (.cells #[(.slice Ao41 t420.length co41), (.slice Ao46 t423.length co46), (.slice Ao47 t426.length co47), (.slice Ao48 t429.length co48)] 27 (0, 0))) ∧ Aside0 (Below w.heap.size w wc))
  case first =>
   have H := HC11.out
   clear HC11
   replace H := Z36.mp H
   obtain ⟨t435, A490, H⟩ := H
   replace H : (if t435 = true then (if t432 = t404 then (laws_FnExactStepFocus.j0 k t404 t405 t432 t433 (t433 != t405) l0_0 l0_1 l0_2 l0_3 t392 t395 t398 t401 t407 t410 t413 t416 t420 t423 t426 t429) else (laws_FnExactStepFocus.j0 k t404 t405 t432 t433 true l0_0 l0_1 l0_2 l0_3 t392 t395 t398 t401 t407 t410 t413 t416 t420 t423 t426 t429)) else (laws_FnExactStepFocus.j0 k t404 t405 t432 t433 true l0_0 l0_1 l0_2 l0_3 t392 t395 t398 t401 t407 t410 t413 t416 t420 t423 t426 t429)) = some r := H
   have A49 := Ya A490
   clear A490
   by_cases c50 : t435 = true
   ·subst c50
    have H1 : (if t432 = t404 then (laws_FnExactStepFocus.j0 k t404 t405 t432 t433 (t433 != t405) l0_0 l0_1 l0_2 l0_3 t392 t395 t398 t401 t407 t410 t413 t416 t420 t423 t426 t429) else (laws_FnExactStepFocus.j0 k t404 t405 t432 t433 true l0_0 l0_1 l0_2 l0_3 t392 t395 t398 t401 t407 t410 t413 t416 t420 t423 t426 t429)) = some r := by rw [if_pos rfl] at H; exact H
    clear H
    have H := H1
    clear H1
    by_cases c51 : t432 = t404
    ·rw [if_pos c51] at H
     have c51b0 : (t432 == t404) = true := beq_iff_eq.mpr c51
     have c51b1 : (t432 != t404) = false := bne_eq_false_iff_eq.mpr c51
     clear c51
     (first | rw [c51b0] | (simp only [i64_w, i32_w]; rw [c51b0]) | skip)
     have H' := Ya H
     clear H
     have hnb52 := NB434_378.out
     have hnc52 := NB378_434.out
     have hnb53 := NB434_406.out
     have hnc53 := NB406_434.out
     have hnb54 := NB434_419.out
     have hnc54 := NB419_434.out
     obtain ⟨hcz55_0, hcz55_1, hcz55_2, hcz55_3, hfz55_0, hfz55_1, hfz55_2, hfz55_3⟩ := Y4 BK434.out
     have hnb56 := NB406_378.out
     have hnc56 := NB378_406.out
     have hnb57 := NB406_419.out
     have hnc57 := NB419_406.out
     obtain ⟨hcz58_0, hcz58_1, hcz58_2, hcz58_3, hfz58_0, hfz58_1, hfz58_2, hfz58_3⟩ := Y4 BK406.out
     go_wp2_with (first | ((with_reducible refine gate_callee (f := 12) rfl ?_); refine Yz 39 Try.func12 #[.agg #[.slice Ao41 t420.length co41, .slice Ao46 t423.length co46, .slice Ao47 t426.length co47, .slice Ao48 t429.length co48], .agg #[.slice Ao23 t392.length co23, .slice Ao26 t395.length co26, .slice Ao27 t398.length co27, .slice Ao28 t401.length co28]] ?_; (with_reducible refine (laws_eqFocus.calls k _ _ t420 _ _ t423 _ _ t426 _ _ t429 _ _ t392 _ _ t395 _ _ t398 _ _ t401 true _ ?side1 ((Kd.R_reads' HO422.out).2.1) ?side3 ((Kd.R_reads' HO425.out).2.1) ?side5 ((Kd.R_reads' HO428.out).2.1) ?side7 ((Kd.R_reads' HO431.out).2.1) ?side9 ((Kd.R_reads' HO394.out).2.1) ?side11 ((Kd.R_reads' HO397.out).2.1) ?side13 ((Kd.R_reads' HO400.out).2.1) ?side15 ((Kd.R_reads' HO403.out).2.1) A49.out).mono ?_); (case side1 => refine (Kd.R_reads' (e := 3) (base := w.heap.size) (ok := fun k_ => ((((((((((some k_ ≠ (.slice Ao46 t423.length co46 : Value).ownBlock ∧ some k_ ≠ (.slice Ao48 t429.length co48 : Value).ownBlock) ∧ some k_ ≠ (.slice Ao17 t380.length co17 : Value).ownBlock) ∧ some k_ ≠ (.slice Ao18 t383.length co18 : Value).ownBlock) ∧ some k_ ≠ (.slice Ao20 t389.length co20 : Value).ownBlock) ∧ some k_ ≠ (.slice Ao23 t392.length co23 : Value).ownBlock) ∧ some k_ ≠ (.slice Ao26 t395.length co26 : Value).ownBlock) ∧ some k_ ≠ (.slice Ao28 t401.length co28 : Value).ownBlock) ∧ some k_ ≠ (.slice Ao32 t407.length co32 : Value).ownBlock) ∧ some k_ ≠ (.slice Ao36 t410.length co36 : Value).ownBlock) ∧ some k_ ≠ (.slice Ao38 t416.length co38 : Value).ownBlock)) (n := t420.length) (c := co41) ?_).2.2; exact Q49); (case side3 => refine (Kd.R_reads' (e := 3) (base := w.heap.size) (ok := fun k_ => ((((((((((some k_ ≠ (.slice Ao41 t420.length co41 : Value).ownBlock ∧ some k_ ≠ (.slice Ao48 t429.length co48 : Value).ownBlock) ∧ some k_ ≠ (.slice Ao17 t380.length co17 : Value).ownBlock) ∧ some k_ ≠ (.slice Ao18 t383.length co18 : Value).ownBlock) ∧ some k_ ≠ (.slice Ao20 t389.length co20 : Value).ownBlock) ∧ some k_ ≠ (.slice Ao23 t392.length co23 : Value).ownBlock) ∧ some k_ ≠ (.slice Ao26 t395.length co26 : Value).ownBlock) ∧ some k_ ≠ (.slice Ao28 t401.length co28 : Value).ownBlock) ∧ some k_ ≠ (.slice Ao32 t407.length co32 : Value).ownBlock) ∧ some k_ ≠ (.slice Ao36 t410.length co36 : Value).ownBlock) ∧ some k_ ≠ (.slice Ao38 t416.length co38 : Value).ownBlock)) (n := t423.length) (c := co46) ?_).2.2; exact Q48); (case side5 => refine (Kd.R_reads' (e := 4) (base := w.heap.size) (ok := fun k_ => (((True ∧ some k_ ≠ (.slice Ao19 t386.length co19 : Value).ownBlock) ∧ some k_ ≠ (.slice Ao27 t398.length co27 : Value).ownBlock) ∧ some k_ ≠ (.slice Ao37 t413.length co37 : Value).ownBlock)) (n := t426.length) (c := co47) ?_).2.2; exact Q47); (case side7 => refine (Kd.R_reads' (e := 3) (base := w.heap.size) (ok := fun k_ => ((((((((((some k_ ≠ (.slice Ao41 t420.length co41 : Value).ownBlock ∧ some k_ ≠ (.slice Ao46 t423.length co46 : Value).ownBlock) ∧ some k_ ≠ (.slice Ao17 t380.length co17 : Value).ownBlock) ∧ some k_ ≠ (.slice Ao18 t383.length co18 : Value).ownBlock) ∧ some k_ ≠ (.slice Ao20 t389.length co20 : Value).ownBlock) ∧ some k_ ≠ (.slice Ao23 t392.length co23 : Value).ownBlock) ∧ some k_ ≠ (.slice Ao26 t395.length co26 : Value).ownBlock) ∧ some k_ ≠ (.slice Ao28 t401.length co28 : Value).ownBlock) ∧ some k_ ≠ (.slice Ao32 t407.length co32 : Value).ownBlock) ∧ some k_ ≠ (.slice Ao36 t410.length co36 : Value).ownBlock) ∧ some k_ ≠ (.slice Ao38 t416.length co38 : Value).ownBlock)) (n := t429.length) (c := co48) ?_).2.2; exact Q46); (case side9 => refine (Kd.R_reads' (e := 3) (base := w.heap.size) (ok := fun k_ => ((((((((((some k_ ≠ (.slice Ao26 t395.length co26 : Value).ownBlock ∧ some k_ ≠ (.slice Ao28 t401.length co28 : Value).ownBlock) ∧ some k_ ≠ (.slice Ao17 t380.length co17 : Value).ownBlock) ∧ some k_ ≠ (.slice Ao18 t383.length co18 : Value).ownBlock) ∧ some k_ ≠ (.slice Ao20 t389.length co20 : Value).ownBlock) ∧ some k_ ≠ (.slice Ao32 t407.length co32 : Value).ownBlock) ∧ some k_ ≠ (.slice Ao36 t410.length co36 : Value).ownBlock) ∧ some k_ ≠ (.slice Ao38 t416.length co38 : Value).ownBlock) ∧ some k_ ≠ (.slice Ao41 t420.length co41 : Value).ownBlock) ∧ some k_ ≠ (.slice Ao46 t423.length co46 : Value).ownBlock) ∧ some k_ ≠ (.slice Ao48 t429.length co48 : Value).ownBlock)) (n := t392.length) (c := co23) ?_).2.2; exact Q53); (case side11 => refine (Kd.R_reads' (e := 3) (base := w.heap.size) (ok := fun k_ => ((((((((((some k_ ≠ (.slice Ao23 t392.length co23 : Value).ownBlock ∧ some k_ ≠ (.slice Ao28 t401.length co28 : Value).ownBlock) ∧ some k_ ≠ (.slice Ao17 t380.length co17 : Value).ownBlock) ∧ some k_ ≠ (.slice Ao18 t383.length co18 : Value).ownBlock) ∧ some k_ ≠ (.slice Ao20 t389.length co20 : Value).ownBlock) ∧ some k_ ≠ (.slice Ao32 t407.length co32 : Value).ownBlock) ∧ some k_ ≠ (.slice Ao36 t410.length co36 : Value).ownBlock) ∧ some k_ ≠ (.slice Ao38 t416.length co38 : Value).ownBlock) ∧ some k_ ≠ (.slice Ao41 t420.length co41 : Value).ownBlock) ∧ some k_ ≠ (.slice Ao46 t423.length co46 : Value).ownBlock) ∧ some k_ ≠ (.slice Ao48 t429.length co48 : Value).ownBlock)) (n := t395.length) (c := co26) ?_).2.2; exact Q52); (case side13 => refine (Kd.R_reads' (e := 4) (base := w.heap.size) (ok := fun k_ => (((True ∧ some k_ ≠ (.slice Ao19 t386.length co19 : Value).ownBlock) ∧ some k_ ≠ (.slice Ao37 t413.length co37 : Value).ownBlock) ∧ some k_ ≠ (.slice Ao47 t426.length co47 : Value).ownBlock)) (n := t398.length) (c := co27) ?_).2.2; exact Q51); (case side15 => refine (Kd.R_reads' (e := 3) (base := w.heap.size) (ok := fun k_ => ((((((((((some k_ ≠ (.slice Ao23 t392.length co23 : Value).ownBlock ∧ some k_ ≠ (.slice Ao26 t395.length co26 : Value).ownBlock) ∧ some k_ ≠ (.slice Ao17 t380.length co17 : Value).ownBlock) ∧ some k_ ≠ (.slice Ao18 t383.length co18 : Value).ownBlock) ∧ some k_ ≠ (.slice Ao20 t389.length co20 : Value).ownBlock) ∧ some k_ ≠ (.slice Ao32 t407.length co32 : Value).ownBlock) ∧ some k_ ≠ (.slice Ao36 t410.length co36 : Value).ownBlock) ∧ some k_ ≠ (.slice Ao38 t416.length co38 : Value).ownBlock) ∧ some k_ ≠ (.slice Ao41 t420.length co41 : Value).ownBlock) ∧ some k_ ≠ (.slice Ao46 t423.length co46 : Value).ownBlock) ∧ some k_ ≠ (.slice Ao48 t429.length co48 : Value).ownBlock)) (n := t401.length) (c := co28) ?_).2.2; exact Q50); rintro e w59 ⟨rfl, hb⟩; refine ⟨_, rfl, ?_⟩; replace HO382 := Ya (Z13 Q134 hb); replace HO385 := Ya (Z13 Q133 hb); replace HO388 := Ya (Z13 Q132 hb); replace HO391 := Ya (Z13 Q131 hb); replace HO394 := Ya (Z13 Q53 hb); replace HO397 := Ya (Z13 Q52 hb); replace HO400 := Ya (Z13 Q51 hb); replace HO403 := Ya (Z13 Q50 hb); replace HO409 := Ya (Z13 Q130 hb); replace HO412 := Ya (Z13 Q129 hb); replace HO415 := Ya (Z13 Q127 hb); replace HO418 := Ya (Z13 Q126 hb); replace HO422 := Ya (Z13 Q49 hb); replace HO425 := Ya (Z13 Q48 hb); replace HO428 := Ya (Z13 Q47 hb); replace HO431 := Ya (Z13 Q46 hb); replace BK378 := Yb ⟨Yo4 BK378.out NB378_434.out⟩ hb; replace BK406 := Yb ⟨Yo4 BK406.out NB406_434.out⟩ hb; replace BK419 := Yb ⟨Yo4 BK419.out NB419_434.out⟩ hb; replace BK434 := Yb ⟨Yv4 BK434.out⟩ hb; replace HB := Yh hb; (try clear hb)))
     go_meet
     case rel => exact ⟨_, ((t433 != t405)), Q7, H', ⟨Q112⟩, ⟨Q74⟩, ⟨Q73⟩, ⟨Q138⟩, ⟨Q72⟩, ⟨Q71⟩, ⟨Q70⟩, ⟨Q137⟩, ⟨Q69⟩, ⟨Q68⟩, ⟨Q67⟩, ⟨Q136⟩, ⟨Q66⟩, ⟨Q57⟩, ⟨Q56⟩, ⟨Q55⟩, ⟨Q54⟩, ⟨Q12⟩⟩
    ·rw [if_neg c51] at H
     have c51b0 : (t432 == t404) = false := beq_eq_false_iff_ne.mpr c51
     have c51b1 : (t432 != t404) = true := bne_iff_ne.mpr c51
     (first | rw [c51b0] | (simp only [i64_w, i32_w]; rw [c51b0]) | skip)
     have H' := Ya H
     clear H
     have hnb60 := NB434_378.out
     have hnc60 := NB378_434.out
     have hnb61 := NB434_406.out
     have hnc61 := NB406_434.out
     have hnb62 := NB434_419.out
     have hnc62 := NB419_434.out
     obtain ⟨hcz63_0, hcz63_1, hcz63_2, hcz63_3, hfz63_0, hfz63_1, hfz63_2, hfz63_3⟩ := Y4 BK434.out
     have hnb64 := NB406_378.out
     have hnc64 := NB378_406.out
     have hnb65 := NB406_419.out
     have hnc65 := NB419_406.out
     obtain ⟨hcz66_0, hcz66_1, hcz66_2, hcz66_3, hfz66_0, hfz66_1, hfz66_2, hfz66_3⟩ := Y4 BK406.out
     go_wp2_with (first | ((with_reducible refine gate_callee (f := 12) rfl ?_); refine Yz 39 Try.func12 #[.agg #[.slice Ao41 t420.length co41, .slice Ao46 t423.length co46, .slice Ao47 t426.length co47, .slice Ao48 t429.length co48], .agg #[.slice Ao23 t392.length co23, .slice Ao26 t395.length co26, .slice Ao27 t398.length co27, .slice Ao28 t401.length co28]] ?_; (with_reducible refine (laws_eqFocus.calls k _ _ t420 _ _ t423 _ _ t426 _ _ t429 _ _ t392 _ _ t395 _ _ t398 _ _ t401 true _ ?side1 ((Kd.R_reads' HO422.out).2.1) ?side3 ((Kd.R_reads' HO425.out).2.1) ?side5 ((Kd.R_reads' HO428.out).2.1) ?side7 ((Kd.R_reads' HO431.out).2.1) ?side9 ((Kd.R_reads' HO394.out).2.1) ?side11 ((Kd.R_reads' HO397.out).2.1) ?side13 ((Kd.R_reads' HO400.out).2.1) ?side15 ((Kd.R_reads' HO403.out).2.1) A49.out).mono ?_); (case side1 => refine (Kd.R_reads' (e := 3) (base := w.heap.size) (ok := fun k_ => ((((((((((some k_ ≠ (.slice Ao46 t423.length co46 : Value).ownBlock ∧ some k_ ≠ (.slice Ao48 t429.length co48 : Value).ownBlock) ∧ some k_ ≠ (.slice Ao17 t380.length co17 : Value).ownBlock) ∧ some k_ ≠ (.slice Ao18 t383.length co18 : Value).ownBlock) ∧ some k_ ≠ (.slice Ao20 t389.length co20 : Value).ownBlock) ∧ some k_ ≠ (.slice Ao23 t392.length co23 : Value).ownBlock) ∧ some k_ ≠ (.slice Ao26 t395.length co26 : Value).ownBlock) ∧ some k_ ≠ (.slice Ao28 t401.length co28 : Value).ownBlock) ∧ some k_ ≠ (.slice Ao32 t407.length co32 : Value).ownBlock) ∧ some k_ ≠ (.slice Ao36 t410.length co36 : Value).ownBlock) ∧ some k_ ≠ (.slice Ao38 t416.length co38 : Value).ownBlock)) (n := t420.length) (c := co41) ?_).2.2; exact Q49); (case side3 => refine (Kd.R_reads' (e := 3) (base := w.heap.size) (ok := fun k_ => ((((((((((some k_ ≠ (.slice Ao41 t420.length co41 : Value).ownBlock ∧ some k_ ≠ (.slice Ao48 t429.length co48 : Value).ownBlock) ∧ some k_ ≠ (.slice Ao17 t380.length co17 : Value).ownBlock) ∧ some k_ ≠ (.slice Ao18 t383.length co18 : Value).ownBlock) ∧ some k_ ≠ (.slice Ao20 t389.length co20 : Value).ownBlock) ∧ some k_ ≠ (.slice Ao23 t392.length co23 : Value).ownBlock) ∧ some k_ ≠ (.slice Ao26 t395.length co26 : Value).ownBlock) ∧ some k_ ≠ (.slice Ao28 t401.length co28 : Value).ownBlock) ∧ some k_ ≠ (.slice Ao32 t407.length co32 : Value).ownBlock) ∧ some k_ ≠ (.slice Ao36 t410.length co36 : Value).ownBlock) ∧ some k_ ≠ (.slice Ao38 t416.length co38 : Value).ownBlock)) (n := t423.length) (c := co46) ?_).2.2; exact Q48); (case side5 => refine (Kd.R_reads' (e := 4) (base := w.heap.size) (ok := fun k_ => (((True ∧ some k_ ≠ (.slice Ao19 t386.length co19 : Value).ownBlock) ∧ some k_ ≠ (.slice Ao27 t398.length co27 : Value).ownBlock) ∧ some k_ ≠ (.slice Ao37 t413.length co37 : Value).ownBlock)) (n := t426.length) (c := co47) ?_).2.2; exact Q47); (case side7 => refine (Kd.R_reads' (e := 3) (base := w.heap.size) (ok := fun k_ => ((((((((((some k_ ≠ (.slice Ao41 t420.length co41 : Value).ownBlock ∧ some k_ ≠ (.slice Ao46 t423.length co46 : Value).ownBlock) ∧ some k_ ≠ (.slice Ao17 t380.length co17 : Value).ownBlock) ∧ some k_ ≠ (.slice Ao18 t383.length co18 : Value).ownBlock) ∧ some k_ ≠ (.slice Ao20 t389.length co20 : Value).ownBlock) ∧ some k_ ≠ (.slice Ao23 t392.length co23 : Value).ownBlock) ∧ some k_ ≠ (.slice Ao26 t395.length co26 : Value).ownBlock) ∧ some k_ ≠ (.slice Ao28 t401.length co28 : Value).ownBlock) ∧ some k_ ≠ (.slice Ao32 t407.length co32 : Value).ownBlock) ∧ some k_ ≠ (.slice Ao36 t410.length co36 : Value).ownBlock) ∧ some k_ ≠ (.slice Ao38 t416.length co38 : Value).ownBlock)) (n := t429.length) (c := co48) ?_).2.2; exact Q46); (case side9 => refine (Kd.R_reads' (e := 3) (base := w.heap.size) (ok := fun k_ => ((((((((((some k_ ≠ (.slice Ao26 t395.length co26 : Value).ownBlock ∧ some k_ ≠ (.slice Ao28 t401.length co28 : Value).ownBlock) ∧ some k_ ≠ (.slice Ao17 t380.length co17 : Value).ownBlock) ∧ some k_ ≠ (.slice Ao18 t383.length co18 : Value).ownBlock) ∧ some k_ ≠ (.slice Ao20 t389.length co20 : Value).ownBlock) ∧ some k_ ≠ (.slice Ao32 t407.length co32 : Value).ownBlock) ∧ some k_ ≠ (.slice Ao36 t410.length co36 : Value).ownBlock) ∧ some k_ ≠ (.slice Ao38 t416.length co38 : Value).ownBlock) ∧ some k_ ≠ (.slice Ao41 t420.length co41 : Value).ownBlock) ∧ some k_ ≠ (.slice Ao46 t423.length co46 : Value).ownBlock) ∧ some k_ ≠ (.slice Ao48 t429.length co48 : Value).ownBlock)) (n := t392.length) (c := co23) ?_).2.2; exact Q53); (case side11 => refine (Kd.R_reads' (e := 3) (base := w.heap.size) (ok := fun k_ => ((((((((((some k_ ≠ (.slice Ao23 t392.length co23 : Value).ownBlock ∧ some k_ ≠ (.slice Ao28 t401.length co28 : Value).ownBlock) ∧ some k_ ≠ (.slice Ao17 t380.length co17 : Value).ownBlock) ∧ some k_ ≠ (.slice Ao18 t383.length co18 : Value).ownBlock) ∧ some k_ ≠ (.slice Ao20 t389.length co20 : Value).ownBlock) ∧ some k_ ≠ (.slice Ao32 t407.length co32 : Value).ownBlock) ∧ some k_ ≠ (.slice Ao36 t410.length co36 : Value).ownBlock) ∧ some k_ ≠ (.slice Ao38 t416.length co38 : Value).ownBlock) ∧ some k_ ≠ (.slice Ao41 t420.length co41 : Value).ownBlock) ∧ some k_ ≠ (.slice Ao46 t423.length co46 : Value).ownBlock) ∧ some k_ ≠ (.slice Ao48 t429.length co48 : Value).ownBlock)) (n := t395.length) (c := co26) ?_).2.2; exact Q52); (case side13 => refine (Kd.R_reads' (e := 4) (base := w.heap.size) (ok := fun k_ => (((True ∧ some k_ ≠ (.slice Ao19 t386.length co19 : Value).ownBlock) ∧ some k_ ≠ (.slice Ao37 t413.length co37 : Value).ownBlock) ∧ some k_ ≠ (.slice Ao47 t426.length co47 : Value).ownBlock)) (n := t398.length) (c := co27) ?_).2.2; exact Q51); (case side15 => refine (Kd.R_reads' (e := 3) (base := w.heap.size) (ok := fun k_ => ((((((((((some k_ ≠ (.slice Ao23 t392.length co23 : Value).ownBlock ∧ some k_ ≠ (.slice Ao26 t395.length co26 : Value).ownBlock) ∧ some k_ ≠ (.slice Ao17 t380.length co17 : Value).ownBlock) ∧ some k_ ≠ (.slice Ao18 t383.length co18 : Value).ownBlock) ∧ some k_ ≠ (.slice Ao20 t389.length co20 : Value).ownBlock) ∧ some k_ ≠ (.slice Ao32 t407.length co32 : Value).ownBlock) ∧ some k_ ≠ (.slice Ao36 t410.length co36 : Value).ownBlock) ∧ some k_ ≠ (.slice Ao38 t416.length co38 : Value).ownBlock) ∧ some k_ ≠ (.slice Ao41 t420.length co41 : Value).ownBlock) ∧ some k_ ≠ (.slice Ao46 t423.length co46 : Value).ownBlock) ∧ some k_ ≠ (.slice Ao48 t429.length co48 : Value).ownBlock)) (n := t401.length) (c := co28) ?_).2.2; exact Q50); rintro e w67 ⟨rfl, hb⟩; refine ⟨_, rfl, ?_⟩; replace HO382 := Ya (Z13 Q134 hb); replace HO385 := Ya (Z13 Q133 hb); replace HO388 := Ya (Z13 Q132 hb); replace HO391 := Ya (Z13 Q131 hb); replace HO394 := Ya (Z13 Q53 hb); replace HO397 := Ya (Z13 Q52 hb); replace HO400 := Ya (Z13 Q51 hb); replace HO403 := Ya (Z13 Q50 hb); replace HO409 := Ya (Z13 Q130 hb); replace HO412 := Ya (Z13 Q129 hb); replace HO415 := Ya (Z13 Q127 hb); replace HO418 := Ya (Z13 Q126 hb); replace HO422 := Ya (Z13 Q49 hb); replace HO425 := Ya (Z13 Q48 hb); replace HO428 := Ya (Z13 Q47 hb); replace HO431 := Ya (Z13 Q46 hb); replace BK378 := Yb ⟨Yo4 BK378.out NB378_434.out⟩ hb; replace BK406 := Yb ⟨Yo4 BK406.out NB406_434.out⟩ hb; replace BK419 := Yb ⟨Yo4 BK419.out NB419_434.out⟩ hb; replace BK434 := Yb ⟨Yv4 BK434.out⟩ hb; replace HB := Yh hb; (try clear hb)))
     go_meet
     case rel => exact ⟨_, (true), Q7, H', ⟨Q112⟩, ⟨Q74⟩, ⟨Q73⟩, ⟨Q138⟩, ⟨Q72⟩, ⟨Q71⟩, ⟨Q70⟩, ⟨Q137⟩, ⟨Q69⟩, ⟨Q68⟩, ⟨Q67⟩, ⟨Q136⟩, ⟨Q66⟩, ⟨Q57⟩, ⟨Q56⟩, ⟨Q55⟩, ⟨Q54⟩, ⟨Q12⟩⟩
   ·replace c50 := Bool.eq_false_iff.mpr c50
    subst c50
    have H1 : (laws_FnExactStepFocus.j0 k t404 t405 t432 t433 true l0_0 l0_1 l0_2 l0_3 t392 t395 t398 t401 t407 t410 t413 t416 t420 t423 t426 t429) = some r := by rw [if_neg (show ¬ (false = true) by decide)] at H; exact H
    clear H
    have H := H1
    clear H1
    have H' := Ya H
    clear H
    have hnb68 := NB434_378.out
    have hnc68 := NB378_434.out
    have hnb69 := NB434_406.out
    have hnc69 := NB406_434.out
    have hnb70 := NB434_419.out
    have hnc70 := NB419_434.out
    obtain ⟨hcz71_0, hcz71_1, hcz71_2, hcz71_3, hfz71_0, hfz71_1, hfz71_2, hfz71_3⟩ := Y4 BK434.out
    have hnb72 := NB406_378.out
    have hnc72 := NB378_406.out
    have hnb73 := NB406_419.out
    have hnc73 := NB419_406.out
    obtain ⟨hcz74_0, hcz74_1, hcz74_2, hcz74_3, hfz74_0, hfz74_1, hfz74_2, hfz74_3⟩ := Y4 BK406.out
    go_wp2_with (first | ((with_reducible refine gate_callee (f := 12) rfl ?_); refine Yz 39 Try.func12 #[.agg #[.slice Ao41 t420.length co41, .slice Ao46 t423.length co46, .slice Ao47 t426.length co47, .slice Ao48 t429.length co48], .agg #[.slice Ao23 t392.length co23, .slice Ao26 t395.length co26, .slice Ao27 t398.length co27, .slice Ao28 t401.length co28]] ?_; (with_reducible refine (laws_eqFocus.calls k _ _ t420 _ _ t423 _ _ t426 _ _ t429 _ _ t392 _ _ t395 _ _ t398 _ _ t401 false _ ?side1 ((Kd.R_reads' HO422.out).2.1) ?side3 ((Kd.R_reads' HO425.out).2.1) ?side5 ((Kd.R_reads' HO428.out).2.1) ?side7 ((Kd.R_reads' HO431.out).2.1) ?side9 ((Kd.R_reads' HO394.out).2.1) ?side11 ((Kd.R_reads' HO397.out).2.1) ?side13 ((Kd.R_reads' HO400.out).2.1) ?side15 ((Kd.R_reads' HO403.out).2.1) A49.out).mono ?_); (case side1 => refine (Kd.R_reads' (e := 3) (base := w.heap.size) (ok := fun k_ => ((((((((((some k_ ≠ (.slice Ao46 t423.length co46 : Value).ownBlock ∧ some k_ ≠ (.slice Ao48 t429.length co48 : Value).ownBlock) ∧ some k_ ≠ (.slice Ao17 t380.length co17 : Value).ownBlock) ∧ some k_ ≠ (.slice Ao18 t383.length co18 : Value).ownBlock) ∧ some k_ ≠ (.slice Ao20 t389.length co20 : Value).ownBlock) ∧ some k_ ≠ (.slice Ao23 t392.length co23 : Value).ownBlock) ∧ some k_ ≠ (.slice Ao26 t395.length co26 : Value).ownBlock) ∧ some k_ ≠ (.slice Ao28 t401.length co28 : Value).ownBlock) ∧ some k_ ≠ (.slice Ao32 t407.length co32 : Value).ownBlock) ∧ some k_ ≠ (.slice Ao36 t410.length co36 : Value).ownBlock) ∧ some k_ ≠ (.slice Ao38 t416.length co38 : Value).ownBlock)) (n := t420.length) (c := co41) ?_).2.2; exact Q49); (case side3 => refine (Kd.R_reads' (e := 3) (base := w.heap.size) (ok := fun k_ => ((((((((((some k_ ≠ (.slice Ao41 t420.length co41 : Value).ownBlock ∧ some k_ ≠ (.slice Ao48 t429.length co48 : Value).ownBlock) ∧ some k_ ≠ (.slice Ao17 t380.length co17 : Value).ownBlock) ∧ some k_ ≠ (.slice Ao18 t383.length co18 : Value).ownBlock) ∧ some k_ ≠ (.slice Ao20 t389.length co20 : Value).ownBlock) ∧ some k_ ≠ (.slice Ao23 t392.length co23 : Value).ownBlock) ∧ some k_ ≠ (.slice Ao26 t395.length co26 : Value).ownBlock) ∧ some k_ ≠ (.slice Ao28 t401.length co28 : Value).ownBlock) ∧ some k_ ≠ (.slice Ao32 t407.length co32 : Value).ownBlock) ∧ some k_ ≠ (.slice Ao36 t410.length co36 : Value).ownBlock) ∧ some k_ ≠ (.slice Ao38 t416.length co38 : Value).ownBlock)) (n := t423.length) (c := co46) ?_).2.2; exact Q48); (case side5 => refine (Kd.R_reads' (e := 4) (base := w.heap.size) (ok := fun k_ => (((True ∧ some k_ ≠ (.slice Ao19 t386.length co19 : Value).ownBlock) ∧ some k_ ≠ (.slice Ao27 t398.length co27 : Value).ownBlock) ∧ some k_ ≠ (.slice Ao37 t413.length co37 : Value).ownBlock)) (n := t426.length) (c := co47) ?_).2.2; exact Q47); (case side7 => refine (Kd.R_reads' (e := 3) (base := w.heap.size) (ok := fun k_ => ((((((((((some k_ ≠ (.slice Ao41 t420.length co41 : Value).ownBlock ∧ some k_ ≠ (.slice Ao46 t423.length co46 : Value).ownBlock) ∧ some k_ ≠ (.slice Ao17 t380.length co17 : Value).ownBlock) ∧ some k_ ≠ (.slice Ao18 t383.length co18 : Value).ownBlock) ∧ some k_ ≠ (.slice Ao20 t389.length co20 : Value).ownBlock) ∧ some k_ ≠ (.slice Ao23 t392.length co23 : Value).ownBlock) ∧ some k_ ≠ (.slice Ao26 t395.length co26 : Value).ownBlock) ∧ some k_ ≠ (.slice Ao28 t401.length co28 : Value).ownBlock) ∧ some k_ ≠ (.slice Ao32 t407.length co32 : Value).ownBlock) ∧ some k_ ≠ (.slice Ao36 t410.length co36 : Value).ownBlock) ∧ some k_ ≠ (.slice Ao38 t416.length co38 : Value).ownBlock)) (n := t429.length) (c := co48) ?_).2.2; exact Q46); (case side9 => refine (Kd.R_reads' (e := 3) (base := w.heap.size) (ok := fun k_ => ((((((((((some k_ ≠ (.slice Ao26 t395.length co26 : Value).ownBlock ∧ some k_ ≠ (.slice Ao28 t401.length co28 : Value).ownBlock) ∧ some k_ ≠ (.slice Ao17 t380.length co17 : Value).ownBlock) ∧ some k_ ≠ (.slice Ao18 t383.length co18 : Value).ownBlock) ∧ some k_ ≠ (.slice Ao20 t389.length co20 : Value).ownBlock) ∧ some k_ ≠ (.slice Ao32 t407.length co32 : Value).ownBlock) ∧ some k_ ≠ (.slice Ao36 t410.length co36 : Value).ownBlock) ∧ some k_ ≠ (.slice Ao38 t416.length co38 : Value).ownBlock) ∧ some k_ ≠ (.slice Ao41 t420.length co41 : Value).ownBlock) ∧ some k_ ≠ (.slice Ao46 t423.length co46 : Value).ownBlock) ∧ some k_ ≠ (.slice Ao48 t429.length co48 : Value).ownBlock)) (n := t392.length) (c := co23) ?_).2.2; exact Q53); (case side11 => refine (Kd.R_reads' (e := 3) (base := w.heap.size) (ok := fun k_ => ((((((((((some k_ ≠ (.slice Ao23 t392.length co23 : Value).ownBlock ∧ some k_ ≠ (.slice Ao28 t401.length co28 : Value).ownBlock) ∧ some k_ ≠ (.slice Ao17 t380.length co17 : Value).ownBlock) ∧ some k_ ≠ (.slice Ao18 t383.length co18 : Value).ownBlock) ∧ some k_ ≠ (.slice Ao20 t389.length co20 : Value).ownBlock) ∧ some k_ ≠ (.slice Ao32 t407.length co32 : Value).ownBlock) ∧ some k_ ≠ (.slice Ao36 t410.length co36 : Value).ownBlock) ∧ some k_ ≠ (.slice Ao38 t416.length co38 : Value).ownBlock) ∧ some k_ ≠ (.slice Ao41 t420.length co41 : Value).ownBlock) ∧ some k_ ≠ (.slice Ao46 t423.length co46 : Value).ownBlock) ∧ some k_ ≠ (.slice Ao48 t429.length co48 : Value).ownBlock)) (n := t395.length) (c := co26) ?_).2.2; exact Q52); (case side13 => refine (Kd.R_reads' (e := 4) (base := w.heap.size) (ok := fun k_ => (((True ∧ some k_ ≠ (.slice Ao19 t386.length co19 : Value).ownBlock) ∧ some k_ ≠ (.slice Ao37 t413.length co37 : Value).ownBlock) ∧ some k_ ≠ (.slice Ao47 t426.length co47 : Value).ownBlock)) (n := t398.length) (c := co27) ?_).2.2; exact Q51); (case side15 => refine (Kd.R_reads' (e := 3) (base := w.heap.size) (ok := fun k_ => ((((((((((some k_ ≠ (.slice Ao23 t392.length co23 : Value).ownBlock ∧ some k_ ≠ (.slice Ao26 t395.length co26 : Value).ownBlock) ∧ some k_ ≠ (.slice Ao17 t380.length co17 : Value).ownBlock) ∧ some k_ ≠ (.slice Ao18 t383.length co18 : Value).ownBlock) ∧ some k_ ≠ (.slice Ao20 t389.length co20 : Value).ownBlock) ∧ some k_ ≠ (.slice Ao32 t407.length co32 : Value).ownBlock) ∧ some k_ ≠ (.slice Ao36 t410.length co36 : Value).ownBlock) ∧ some k_ ≠ (.slice Ao38 t416.length co38 : Value).ownBlock) ∧ some k_ ≠ (.slice Ao41 t420.length co41 : Value).ownBlock) ∧ some k_ ≠ (.slice Ao46 t423.length co46 : Value).ownBlock) ∧ some k_ ≠ (.slice Ao48 t429.length co48 : Value).ownBlock)) (n := t401.length) (c := co28) ?_).2.2; exact Q50); rintro e w75 ⟨rfl, hb⟩; refine ⟨_, rfl, ?_⟩; replace HO382 := Ya (Z13 Q134 hb); replace HO385 := Ya (Z13 Q133 hb); replace HO388 := Ya (Z13 Q132 hb); replace HO391 := Ya (Z13 Q131 hb); replace HO394 := Ya (Z13 Q53 hb); replace HO397 := Ya (Z13 Q52 hb); replace HO400 := Ya (Z13 Q51 hb); replace HO403 := Ya (Z13 Q50 hb); replace HO409 := Ya (Z13 Q130 hb); replace HO412 := Ya (Z13 Q129 hb); replace HO415 := Ya (Z13 Q127 hb); replace HO418 := Ya (Z13 Q126 hb); replace HO422 := Ya (Z13 Q49 hb); replace HO425 := Ya (Z13 Q48 hb); replace HO428 := Ya (Z13 Q47 hb); replace HO431 := Ya (Z13 Q46 hb); replace BK378 := Yb ⟨Yo4 BK378.out NB378_434.out⟩ hb; replace BK406 := Yb ⟨Yo4 BK406.out NB406_434.out⟩ hb; replace BK419 := Yb ⟨Yo4 BK419.out NB419_434.out⟩ hb; replace BK434 := Yb ⟨Yv4 BK434.out⟩ hb; replace HB := Yh hb; (try clear hb)))
    go_meet
    case rel => exact ⟨_, (true), Q7, H', ⟨Q112⟩, ⟨Q74⟩, ⟨Q73⟩, ⟨Q138⟩, ⟨Q72⟩, ⟨Q71⟩, ⟨Q70⟩, ⟨Q137⟩, ⟨Q69⟩, ⟨Q68⟩, ⟨Q67⟩, ⟨Q136⟩, ⟨Q66⟩, ⟨Q57⟩, ⟨Q56⟩, ⟨Q55⟩, ⟨Q54⟩, ⟨Q12⟩⟩
  case rest =>
   clear HC11
   try clear c1
   try clear c2
   try clear p2
   try clear c3
   try clear c3b0
   try clear c4
   try clear c5
   try clear c6
   try clear c7
   try clear c8
   try clear c9
   try clear c10
   try clear c11
   try clear c12
   try clear c24
   try clear c33
   try clear c34
   try clear c42
   try clear c43
   try clear c44
   try clear c50
   try clear c51
   try clear c51b0
   try clear c51b1
   try clear c52
   try clear c53
   try clear c54
   try clear c56
   try clear c57
   try clear c60
   try clear c61
   try clear c62
   try clear c64
   try clear c65
   try clear c68
   try clear c69
   try clear c70
   try clear c72
   try clear c73
   try clear hcz13_0
   try clear hcz13_1
   try clear hcz13_2
   try clear hcz13_3
   try clear hcz15_0
   try clear hcz15_1
   try clear hcz15_2
   try clear hcz15_3
   try clear hcz25_0
   try clear hcz25_1
   try clear hcz25_2
   try clear hcz25_3
   try clear hcz29_0
   try clear hcz29_1
   try clear hcz29_2
   try clear hcz29_3
   try clear hcz35_0
   try clear hcz35_1
   try clear hcz35_2
   try clear hcz35_3
   try clear hcz45_0
   try clear hcz45_1
   try clear hcz45_2
   try clear hcz45_3
   try clear hcz55_0
   try clear hcz55_1
   try clear hcz55_2
   try clear hcz55_3
   try clear hcz58_0
   try clear hcz58_1
   try clear hcz58_2
   try clear hcz58_3
   try clear hcz5_0
   try clear hcz5_1
   try clear hcz5_2
   try clear hcz5_3
   try clear hcz63_0
   try clear hcz63_1
   try clear hcz63_2
   try clear hcz63_3
   try clear hcz66_0
   try clear hcz66_1
   try clear hcz66_2
   try clear hcz66_3
   try clear hcz71_0
   try clear hcz71_1
   try clear hcz71_2
   try clear hcz71_3
   try clear hcz74_0
   try clear hcz74_1
   try clear hcz74_2
   try clear hcz74_3
   try clear hfz13_0
   try clear hfz13_1
   try clear hfz13_2
   try clear hfz13_3
   try clear hfz15_0
   try clear hfz15_1
   try clear hfz15_2
   try clear hfz15_3
   try clear hfz25_0
   try clear hfz25_1
   try clear hfz25_2
   try clear hfz25_3
   try clear hfz29_0
   try clear hfz29_1
   try clear hfz29_2
   try clear hfz29_3
   try clear hfz35_0
   try clear hfz35_1
   try clear hfz35_2
   try clear hfz35_3
   try clear hfz45_0
   try clear hfz45_1
   try clear hfz45_2
   try clear hfz45_3
   try clear hfz55_0
   try clear hfz55_1
   try clear hfz55_2
   try clear hfz55_3
   try clear hfz58_0
   try clear hfz58_1
   try clear hfz58_2
   try clear hfz58_3
   try clear hfz5_0
   try clear hfz5_1
   try clear hfz5_2
   try clear hfz5_3
   try clear hfz63_0
   try clear hfz63_1
   try clear hfz63_2
   try clear hfz63_3
   try clear hfz66_0
   try clear hfz66_1
   try clear hfz66_2
   try clear hfz66_3
   try clear hfz71_0
   try clear hfz71_1
   try clear hfz71_2
   try clear hfz71_3
   try clear hfz74_0
   try clear hfz74_1
   try clear hfz74_2
   try clear hfz74_3
   obtain ⟨kq, x50_10, rfl, HA, HJ10, HO_407000, HO_407001, HO_407002, HO_407003, HO_420000, HO_420001, HO_420002, HO_420003, HO_435000, HO_435001, HO_435002, HO_435003, BK378, BK406, BK419, BK434, HB⟩ := hcut
   cases kq with
   | zero => exact absurd HA.out (by simp [laws_FnExactStepFocus.j0])
   | succ kj10 =>
    have H := HA.out
    clear HA
    simp only [laws_FnExactStepFocus.j0] at H
    by_cases c76 : x50_10 = true
    ·subst c76
     have H1 : (some false) = some r := by rw [if_pos rfl] at H; exact H
     clear H
     have H := H1
     clear H1
     obtain rfl := Option.some.inj H
     go_wp2
     go_ret
     exact ⟨Q2, Q12⟩
    ·replace c76 := Bool.eq_false_iff.mpr c76
     subst c76
     have H1 : ((laws_toFocus.f kj10 l0_0 l0_1 l0_2 l0_3).bind fun bt436 => ((laws_eqFocus.f kj10 t407 t410 t413 t416 bt436.1 bt436.2.1 bt436.2.2.1 bt436.2.2.2).bind fun t448 => (if t448 = true then ((laws_markFocus.f kj10 t407 t410 t413 t416 1).bind fun bt449 => (if bt449.1 < 0 then (laws_FnExactStepFocus.j1 kj10 t404 t405 true l0_0 l0_1 l0_2 l0_3 t392 t395 t398 t401 t420 t423 t426 t429) else ((laws_eqFocus.f kj10 t420 t423 t426 t429 t392 t395 t398 t401).bind fun t454 => (if t454 = true then (if t432 = t404 then (laws_FnExactStepFocus.j1 kj10 t404 t405 (t433 != t405) l0_0 l0_1 l0_2 l0_3 t392 t395 t398 t401 t420 t423 t426 t429) else (laws_FnExactStepFocus.j1 kj10 t404 t405 true l0_0 l0_1 l0_2 l0_3 t392 t395 t398 t401 t420 t423 t426 t429)) else (laws_FnExactStepFocus.j1 kj10 t404 t405 true l0_0 l0_1 l0_2 l0_3 t392 t395 t398 t401 t420 t423 t426 t429))))) else (some false)))) = some r := by rw [if_neg (show ¬ (false = true) by decide)] at H; exact H
     clear H
     have H := H1
     clear H1
     replace H := Z36.mp H
     obtain ⟨⟨t436, t439, t442, t445⟩, A770, H⟩ := H
     replace H : ((laws_eqFocus.f kj10 t407 t410 t413 t416 t436 t439 t442 t445).bind fun t448 => (if t448 = true then ((laws_markFocus.f kj10 t407 t410 t413 t416 1).bind fun bt449 => (if bt449.1 < 0 then (laws_FnExactStepFocus.j1 kj10 t404 t405 true l0_0 l0_1 l0_2 l0_3 t392 t395 t398 t401 t420 t423 t426 t429) else ((laws_eqFocus.f kj10 t420 t423 t426 t429 t392 t395 t398 t401).bind fun t454 => (if t454 = true then (if t432 = t404 then (laws_FnExactStepFocus.j1 kj10 t404 t405 (t433 != t405) l0_0 l0_1 l0_2 l0_3 t392 t395 t398 t401 t420 t423 t426 t429) else (laws_FnExactStepFocus.j1 kj10 t404 t405 true l0_0 l0_1 l0_2 l0_3 t392 t395 t398 t401 t420 t423 t426 t429)) else (laws_FnExactStepFocus.j1 kj10 t404 t405 true l0_0 l0_1 l0_2 l0_3 t392 t395 t398 t401 t420 t423 t426 t429))))) else (some false))) = some r := H
     have A77 := Ya A770
     clear A770
     replace H := Z36.mp H
     obtain ⟨t448, A780, H⟩ := H
     replace H : (if t448 = true then ((laws_markFocus.f kj10 t407 t410 t413 t416 1).bind fun bt449 => (if bt449.1 < 0 then (laws_FnExactStepFocus.j1 kj10 t404 t405 true l0_0 l0_1 l0_2 l0_3 t392 t395 t398 t401 t420 t423 t426 t429) else ((laws_eqFocus.f kj10 t420 t423 t426 t429 t392 t395 t398 t401).bind fun t454 => (if t454 = true then (if t432 = t404 then (laws_FnExactStepFocus.j1 kj10 t404 t405 (t433 != t405) l0_0 l0_1 l0_2 l0_3 t392 t395 t398 t401 t420 t423 t426 t429) else (laws_FnExactStepFocus.j1 kj10 t404 t405 true l0_0 l0_1 l0_2 l0_3 t392 t395 t398 t401 t420 t423 t426 t429)) else (laws_FnExactStepFocus.j1 kj10 t404 t405 true l0_0 l0_1 l0_2 l0_3 t392 t395 t398 t401 t420 t423 t426 t429))))) else (some false)) = some r := H
     have A78 := Ya A780
     clear A780
     by_cases c79 : t448 = true
     ·subst c79
      have H1 : ((laws_markFocus.f kj10 t407 t410 t413 t416 1).bind fun bt449 => (if bt449.1 < 0 then (laws_FnExactStepFocus.j1 kj10 t404 t405 true l0_0 l0_1 l0_2 l0_3 t392 t395 t398 t401 t420 t423 t426 t429) else ((laws_eqFocus.f kj10 t420 t423 t426 t429 t392 t395 t398 t401).bind fun t454 => (if t454 = true then (if t432 = t404 then (laws_FnExactStepFocus.j1 kj10 t404 t405 (t433 != t405) l0_0 l0_1 l0_2 l0_3 t392 t395 t398 t401 t420 t423 t426 t429) else (laws_FnExactStepFocus.j1 kj10 t404 t405 true l0_0 l0_1 l0_2 l0_3 t392 t395 t398 t401 t420 t423 t426 t429)) else (laws_FnExactStepFocus.j1 kj10 t404 t405 true l0_0 l0_1 l0_2 l0_3 t392 t395 t398 t401 t420 t423 t426 t429))))) = some r := by rw [if_pos rfl] at H; exact H
      clear H
      have H := H1
      clear H1
      replace H := Z36.mp H
      obtain ⟨⟨t449, t450, t451, t452, t453⟩, A800, H⟩ := H
      replace H : (if t449 < 0 then (laws_FnExactStepFocus.j1 kj10 t404 t405 true l0_0 l0_1 l0_2 l0_3 t392 t395 t398 t401 t420 t423 t426 t429) else ((laws_eqFocus.f kj10 t420 t423 t426 t429 t392 t395 t398 t401).bind fun t454 => (if t454 = true then (if t432 = t404 then (laws_FnExactStepFocus.j1 kj10 t404 t405 (t433 != t405) l0_0 l0_1 l0_2 l0_3 t392 t395 t398 t401 t420 t423 t426 t429) else (laws_FnExactStepFocus.j1 kj10 t404 t405 true l0_0 l0_1 l0_2 l0_3 t392 t395 t398 t401 t420 t423 t426 t429)) else (laws_FnExactStepFocus.j1 kj10 t404 t405 true l0_0 l0_1 l0_2 l0_3 t392 t395 t398 t401 t420 t423 t426 t429)))) = some r := H
      have A80 := Ya A800
      clear A800
      have HC81 := Ya H
      clear H
      try go_wp2
      replace HO_407000 := Ya (Z10 HO_407000.out)
      replace HO_407001 := Ya (Z10 HO_407001.out)
      replace HO_407002 := Ya (Z10 HO_407002.out)
      replace HO_407003 := Ya (Z10 HO_407003.out)
      replace HO_420000 := Ya (Z10 HO_420000.out)
      replace HO_420001 := Ya (Z10 HO_420001.out)
      replace HO_420002 := Ya (Z10 HO_420002.out)
      replace HO_420003 := Ya (Z10 HO_420003.out)
      replace HO_435000 := Ya (Z10 HO_435000.out)
      replace HO_435001 := Ya (Z10 HO_435001.out)
      replace HO_435002 := Ya (Z10 HO_435002.out)
      replace HO_435003 := Ya (Z10 HO_435003.out)
      replace BK378 := Ya (Z26 BK378.out)
      replace BK406 := Ya (Z26 BK406.out)
      replace BK419 := Ya (Z26 BK419.out)
      replace BK434 := Ya (Z26 BK434.out)
      replace HB := Ya (Z4 HB.out)
      refine start_ (n := 5) (S := fun w' => w'.cell? ⟨gb419, 0, none⟩ = some (.slice Ao32 t407.length co32) ∧ w'.cell? ⟨gb419, 1, none⟩ = some (.slice Ao36 t410.length co36) ∧ w'.cell? ⟨gb419, 2, none⟩ = some (.slice Ao37 t413.length co37) ∧ w'.cell? ⟨gb419, 3, none⟩ = some (.slice Ao38 t416.length co38) ∧ w'.cell? ⟨gb378, 0, none⟩ = some (.slice A0_0 l0_0.length c0_0) ∧ w'.cell? ⟨gb378, 1, none⟩ = some (.slice A0_1 l0_1.length c0_1) ∧ w'.cell? ⟨gb378, 2, none⟩ = some (.slice A0_2 l0_2.length c0_2) ∧ w'.cell? ⟨gb378, 3, none⟩ = some (.slice A0_3 l0_3.length c0_3)) (ds := []) #[false, false, false, false, false] (by kernel_rfl) rfl rfl ⟨(Z23 BK419.out 0).trans rfl, (Z23 BK419.out 1).trans rfl, (Z23 BK419.out 2).trans rfl, (Z23 BK419.out 3).trans rfl, (Z23 BK378.out 0).trans rfl, (Z23 BK378.out 1).trans rfl, (Z23 BK378.out 2).trans rfl, (Z23 BK378.out 3).trans rfl⟩ (fun hHeld => ?_)
      generalize wc.drew = w82 at HO_407000 HO_407001 HO_407002 HO_407003 HO_420000 HO_420001 HO_420002 HO_420003 HO_435000 HO_435001 HO_435002 HO_435003 BK378 BK406 BK419 BK434 HB hHeld ⊢
      refine Ys 0 (some 51) #[true, false, false, false, false] rfl hHeld Q109 ?_
      refine Ys 1 (some 52) #[true, true, false, false, false] rfl hHeld Q109 ?_
      refine one_ (i := 2) (N := some 53) #[true, true, true, false, false] rfl rfl (by kernel_rfl) (by decide) (fun K hK => ?_)
      refine goes_ Try.func10 (by kernel_rfl) rfl #[.agg #[.slice A0_0 l0_0.length c0_0, .slice A0_1 l0_1.length c0_1, .slice A0_2 l0_2.length c0_2, .slice A0_3 l0_3.length c0_3]] (by rfl) rfl rfl Q4 ?_
      with_reducible refine (laws_toFocus.calls kj10 _ _ l0_0 _ _ l0_1 _ _ l0_2 _ _ l0_3 t436 t439 t442 t445 _ ?side1 ?side2 ?side3 ?side4 ?side5 ?side6 ?side7 ?side8 A77.out).mono ?_
      (case side1 => exact Yc (Z22 HR0_0.out HB.out))
      (case side2 => exact HC0_0.out)
      (case side3 => exact Yc (Z22 HR0_1.out HB.out))
      (case side4 => exact HC0_1.out)
      (case side5 => exact Yc (Z22 HR0_2.out HB.out))
      (case side6 => exact HC0_2.out)
      (case side7 => exact Yc (Z22 HR0_3.out HB.out))
      (case side8 => exact HC0_3.out)
      rintro e w83 ⟨v437, v440, v443, v446, rfl, ho0, ho1, ho2, ho3, hb⟩
      refine ⟨_, rfl, ?_⟩
      have HO438 := Yl (Kd.R_new' (Kd.R_new' (Kd.R_new' (Kd.R_new' (Kd.R_new' (Kd.R_new' (Kd.R_new' (Kd.R_new' (Kd.R_new' ho0 (Z17 (Yr HO_407000.out))) (Z17 (Yr HO_407001.out))) (Z17 (Yr HO_407003.out))) (Z17 (Yr HO_420000.out))) (Z17 (Yr HO_420001.out))) (Z17 (Yr HO_420003.out))) (Z17 (Yr HO_435000.out))) (Z17 (Yr HO_435001.out))) (Z17 (Yr HO_435003.out)))
      have HO441 := Yl (Kd.R_new' (Kd.R_new' (Kd.R_new' (Kd.R_new' (Kd.R_new' (Kd.R_new' (Kd.R_new' (Kd.R_new' (Kd.R_new' ho1 (Z17 (Yr HO_407000.out))) (Z17 (Yr HO_407001.out))) (Z17 (Yr HO_407003.out))) (Z17 (Yr HO_420000.out))) (Z17 (Yr HO_420001.out))) (Z17 (Yr HO_420003.out))) (Z17 (Yr HO_435000.out))) (Z17 (Yr HO_435001.out))) (Z17 (Yr HO_435003.out)))
      have HO444 := Yl (Kd.R_new' (Kd.R_new' (Kd.R_new' ho2 (Z17 (Yr HO_407002.out))) (Z17 (Yr HO_420002.out))) (Z17 (Yr HO_435002.out)))
      replace HO_407002 := Ya (Kd.R_elder' (Yr HO_407002.out) (Kd.R_base ho2) hb)
      replace HO_420002 := Ya (Kd.R_elder' (Yr HO_420002.out) (Kd.R_base ho2) hb)
      replace HO_435002 := Ya (Kd.R_elder' (Yr HO_435002.out) (Kd.R_base ho2) hb)
      have HO447 := Yl (Kd.R_new' (Kd.R_new' (Kd.R_new' (Kd.R_new' (Kd.R_new' (Kd.R_new' (Kd.R_new' (Kd.R_new' (Kd.R_new' ho3 (Z17 (Yr HO_407000.out))) (Z17 (Yr HO_407001.out))) (Z17 (Yr HO_407003.out))) (Z17 (Yr HO_420000.out))) (Z17 (Yr HO_420001.out))) (Z17 (Yr HO_420003.out))) (Z17 (Yr HO_435000.out))) (Z17 (Yr HO_435001.out))) (Z17 (Yr HO_435003.out)))
      replace HO_407000 := Ya (Z11 (Z15 (Z15 (Z15 (Z16 (Yr HO_407000.out) hb) (Kd.R_base ho0)) (Kd.R_base ho1)) (Kd.R_base ho3)) (fun _ h_ => h_.1))
      replace HO_407001 := Ya (Z11 (Z15 (Z15 (Z15 (Z16 (Yr HO_407001.out) hb) (Kd.R_base ho0)) (Kd.R_base ho1)) (Kd.R_base ho3)) (fun _ h_ => h_.1))
      replace HO_407003 := Ya (Z11 (Z15 (Z15 (Z15 (Z16 (Yr HO_407003.out) hb) (Kd.R_base ho0)) (Kd.R_base ho1)) (Kd.R_base ho3)) (fun _ h_ => h_.1))
      replace HO_420000 := Ya (Z11 (Z15 (Z15 (Z15 (Z16 (Yr HO_420000.out) hb) (Kd.R_base ho0)) (Kd.R_base ho1)) (Kd.R_base ho3)) (fun _ h_ => h_.1))
      replace HO_420001 := Ya (Z11 (Z15 (Z15 (Z15 (Z16 (Yr HO_420001.out) hb) (Kd.R_base ho0)) (Kd.R_base ho1)) (Kd.R_base ho3)) (fun _ h_ => h_.1))
      replace HO_420003 := Ya (Z11 (Z15 (Z15 (Z15 (Z16 (Yr HO_420003.out) hb) (Kd.R_base ho0)) (Kd.R_base ho1)) (Kd.R_base ho3)) (fun _ h_ => h_.1))
      replace HO_435000 := Ya (Z11 (Z15 (Z15 (Z15 (Z16 (Yr HO_435000.out) hb) (Kd.R_base ho0)) (Kd.R_base ho1)) (Kd.R_base ho3)) (fun _ h_ => h_.1))
      replace HO_435001 := Ya (Z11 (Z15 (Z15 (Z15 (Z16 (Yr HO_435001.out) hb) (Kd.R_base ho0)) (Kd.R_base ho1)) (Kd.R_base ho3)) (fun _ h_ => h_.1))
      replace HO_435003 := Ya (Z11 (Z15 (Z15 (Z15 (Z16 (Yr HO_435003.out) hb) (Kd.R_base ho0)) (Kd.R_base ho1)) (Kd.R_base ho3)) (fun _ h_ => h_.1))
      replace BK378 := Yb BK378 hb
      replace BK406 := Yb BK406 hb
      replace BK419 := Yb BK419 hb
      replace BK434 := Yb BK434 hb
      replace HB := Yh hb
      (try clear hb ho0 ho1 ho2 ho3)
      obtain ⟨Ao84, co84, eo84⟩ := Z18 HO438.out
      (first | subst eo84 | (injection eo84 with f1_ f2_ f3_; have f4_ := f1_.symm; have f5_ := f3_.symm; clear f1_ f2_ f3_; subst f4_; subst f5_))
      obtain ⟨Ao85, co85, eo85⟩ := Z18 HO441.out
      (first | subst eo85 | (injection eo85 with f1_ f2_ f3_; have f4_ := f1_.symm; have f5_ := f3_.symm; clear f1_ f2_ f3_; subst f4_; subst f5_))
      obtain ⟨Ao86, co86, eo86⟩ := Z18 HO444.out
      (first | subst eo86 | (injection eo86 with f1_ f2_ f3_; have f4_ := f1_.symm; have f5_ := f3_.symm; clear f1_ f2_ f3_; subst f4_; subst f5_))
      obtain ⟨Ao87, co87, eo87⟩ := Z18 HO447.out
      (first | subst eo87 | (injection eo87 with f1_ f2_ f3_; have f4_ := f1_.symm; have f5_ := f3_.symm; clear f1_ f2_ f3_; subst f4_; subst f5_))
      refine hK.out _ _ ⟨(Z23 BK419.out 0).trans rfl, (Z23 BK419.out 1).trans rfl, (Z23 BK419.out 2).trans rfl, (Z23 BK419.out 3).trans rfl, (Z23 BK378.out 0).trans rfl, (Z23 BK378.out 1).trans rfl, (Z23 BK378.out 2).trans rfl, (Z23 BK378.out 3).trans rfl⟩ (fun hHeld => ?_)
      clear hK K
      refine norm_ (a' := ?_) ?_ ?_
      rotate_left
      ·show Act.put _ (some 53) _ = _
       simp only [Act.put, Z0, Z1, Z2, i64_w, i32_w]
       rfl
      refine one_ (i := 3) (N := some 54) #[true, true, true, true, false] rfl rfl (by kernel_rfl) (by decide) (fun K hK => ?_)
      refine goes_ Try.func12 (by kernel_rfl) rfl #[.agg #[.slice Ao32 t407.length co32, .slice Ao36 t410.length co36, .slice Ao37 t413.length co37, .slice Ao38 t416.length co38], .agg #[.slice Ao84 t436.length co84, .slice Ao85 t439.length co85, .slice Ao86 t442.length co86, .slice Ao87 t445.length co87]] (by rfl) rfl rfl Q4 ?_
      with_reducible refine (laws_eqFocus.calls kj10 _ _ t407 _ _ t410 _ _ t413 _ _ t416 _ _ t436 _ _ t439 _ _ t442 _ _ t445 true _ ?side1 ?side2 ?side3 ?side4 ?side5 ?side6 ?side7 ?side8 ?side9 ?side10 ?side11 ?side12 ?side13 ?side14 ?side15 ?side16 A78.out).mono ?_
      (case side1 => exact Yc (Kd.R_reads' HO_420000.out).2.2)
      (case side2 => exact (Kd.R_reads' HO_420000.out).2.1)
      (case side3 => exact Yc (Kd.R_reads' HO_420001.out).2.2)
      (case side4 => exact (Kd.R_reads' HO_420001.out).2.1)
      (case side5 => exact Yc (Kd.R_reads' HO_420002.out).2.2)
      (case side6 => exact (Kd.R_reads' HO_420002.out).2.1)
      (case side7 => exact Yc (Kd.R_reads' HO_420003.out).2.2)
      (case side8 => exact (Kd.R_reads' HO_420003.out).2.1)
      (case side9 => exact Yc (Kd.R_reads' HO438.out).2.2)
      (case side10 => exact (Kd.R_reads' HO438.out).2.1)
      (case side11 => exact Yc (Kd.R_reads' HO441.out).2.2)
      (case side12 => exact (Kd.R_reads' HO441.out).2.1)
      (case side13 => exact Yc (Kd.R_reads' HO444.out).2.2)
      (case side14 => exact (Kd.R_reads' HO444.out).2.1)
      (case side15 => exact Yc (Kd.R_reads' HO447.out).2.2)
      (case side16 => exact (Kd.R_reads' HO447.out).2.1)
      rintro e w88 ⟨rfl, hb⟩
      refine ⟨_, rfl, ?_⟩
      replace HO_407000 := Yw HO_407000 hb
      replace HO_407001 := Yw HO_407001 hb
      replace HO_407002 := Yw HO_407002 hb
      replace HO_407003 := Yw HO_407003 hb
      replace HO_420000 := Yw HO_420000 hb
      replace HO_420001 := Yw HO_420001 hb
      replace HO_420002 := Yw HO_420002 hb
      replace HO_420003 := Yw HO_420003 hb
      replace HO_435000 := Yw HO_435000 hb
      replace HO_435001 := Yw HO_435001 hb
      replace HO_435002 := Yw HO_435002 hb
      replace HO_435003 := Yw HO_435003 hb
      replace HO438 := Yw HO438 hb
      replace HO441 := Yw HO441 hb
      replace HO444 := Yw HO444 hb
      replace HO447 := Yw HO447 hb
      replace BK378 := Yb BK378 hb
      replace BK406 := Yb BK406 hb
      replace BK419 := Yb BK419 hb
      replace BK434 := Yb BK434 hb
      replace HB := Yh hb
      (try clear hb)
      refine hK.out _ _ ⟨(Z23 BK419.out 0).trans rfl, (Z23 BK419.out 1).trans rfl, (Z23 BK419.out 2).trans rfl, (Z23 BK419.out 3).trans rfl, (Z23 BK378.out 0).trans rfl, (Z23 BK378.out 1).trans rfl, (Z23 BK378.out 2).trans rfl, (Z23 BK378.out 3).trans rfl⟩ (fun hHeld => ?_)
      clear hK K
      refine norm_ (a' := ?_) ?_ ?_
      rotate_left
      ·show Act.put _ (some 54) _ = _
       simp only [Act.put, Z0, Z1, Z2, i64_w, i32_w]
       rfl
      refine Yq 4 (some 55) #[true, true, true, true, true] rfl ?_
      refine done_ (by kernel_rfl) ?_
      have hnb89 := NB419_378.out
      have hnc89 := NB378_419.out
      have hnb90 := NB419_406.out
      have hnc90 := NB406_419.out
      have hnb91 := NB419_434.out
      have hnc91 := NB434_419.out
      obtain ⟨hcz92_0, hcz92_1, hcz92_2, hcz92_3, hfz92_0, hfz92_1, hfz92_2, hfz92_3⟩ := Y4 BK419.out
      go_upto_region 14 with (first | ((with_reducible refine gate_callee (f := 13) rfl ?_); refine Yz 58 Try.func13 #[.agg #[.slice Ao32 t407.length co32, .slice Ao36 t410.length co36, .slice Ao37 t413.length co37, .slice Ao38 t416.length co38], .int .i64 1] ?_; (with_reducible refine (laws_markFocus.calls kj10 (fun k_ => some k_ = (.slice Ao32 t407.length co32 : Value).ownBlock) (.slice Ao32 t407.length co32) t407 (fun k_ => some k_ = (.slice Ao36 t410.length co36 : Value).ownBlock) (.slice Ao36 t410.length co36) t410 (fun k_ => some k_ = (.slice Ao37 t413.length co37 : Value).ownBlock) (.slice Ao37 t413.length co37) t413 (fun k_ => some k_ = (.slice Ao38 t416.length co38 : Value).ownBlock) (.slice Ao38 t416.length co38) t416 1 t449 t450 t451 t452 t453 w _ ?side1 (Kd.R_tight rfl HO_420000.out) ?side3 ?side4 (Kd.R_tight rfl HO_420001.out) ?side6 ?side7 (Kd.R_tight rfl HO_420002.out) (Kd.R_tight rfl HO_420003.out) ?side10 ?side11 A80.out).mono ?_); (case side1 => repeat (first | (with_reducible first | exact HB.out | apply Z5 | apply Z3 | apply Z4 | refine Z6 ?_ (Aside0.out (by assumption))) | exact HB.out)); (case side3 => exact fun k_ e_ => (HO_420000.out.1 k_ e_.symm).1.1.1.2.2.2.1); (case side4 => exact fun k_ e_ => (HO_420000.out.1 k_ e_.symm).1.1.1.2.2.2.2.1); (case side6 => exact fun k_ e_ => (HO_420001.out.1 k_ e_.symm).1.1.1.2.2.2.1); (case side7 => exact fun k_ e_ => (HO_420001.out.1 k_ e_.symm).1.1.1.2.2.2.2.1); (case side10 => exact fun k_ e_ => (HO_420003.out.1 k_ e_.symm).1.1.1.2.2.2.1); (case side11 => exact fun k_ e_ => (HO_420003.out.1 k_ e_.symm).1.1.1.2.2.2.2.1); rintro e w93 ⟨rfl, hy0, hy1, hy2, hy3, hb, hkp⟩; refine ⟨_, rfl, ?_⟩; replace HO_407000 := Ya (Z11 (ok' := fun k_ => some k_ ≠ (.slice Ao26 t395.length co26 : Value).ownBlock ∧ some k_ ≠ (.slice Ao28 t401.length co28 : Value).ownBlock ∧ some k_ ≠ (.slice Ao32 t407.length co32 : Value).ownBlock ∧ some k_ ≠ (.slice Ao36 t410.length co36 : Value).ownBlock ∧ some k_ ≠ (.slice Ao38 t416.length co38 : Value).ownBlock ∧ some k_ ≠ (.slice Ao41 t420.length co41 : Value).ownBlock ∧ some k_ ≠ (.slice Ao46 t423.length co46 : Value).ownBlock ∧ some k_ ≠ (.slice Ao48 t429.length co48 : Value).ownBlock ∧ some k_ ≠ (.slice Ao84 t436.length co84 : Value).ownBlock ∧ some k_ ≠ (.slice Ao85 t439.length co85 : Value).ownBlock ∧ some k_ ≠ (.slice Ao87 t445.length co87 : Value).ownBlock) (Kd.R_keptB ((Kd.R_apart' HO_407000.out (Kd.R_typed HO_420002.out) (by decide))) hkp (fun k_ hk_ hs_ => Or.elim hs_ (fun e_ => (hk_.1.1.1.1.2.2.1) e_) (fun e_ => Or.elim e_ (fun e_ => (hk_.1.1.1.1.2.2.2.1) e_) (fun e_ => Or.elim e_ (fun e_ => (hk_.2) e_) (fun e_ => (hk_.1.1.1.1.2.2.2.2.1) e_))))) (fun k_ hk_ => ⟨hk_.1.1.1.1.1.1, hk_.1.1.1.1.1.2.1, hk_.1.1.1.1.1.2.2.1, hk_.1.1.1.1.1.2.2.2.1, hk_.1.1.1.1.1.2.2.2.2.1, hk_.1.1.1.1.1.2.2.2.2.2.1, hk_.1.1.1.1.1.2.2.2.2.2.2.1, hk_.1.1.1.1.1.2.2.2.2.2.2.2, hk_.1.1.1.1.2, hk_.1.1.1.2, hk_.1.1.2⟩)); replace HO_407001 := Ya (Z11 (ok' := fun k_ => some k_ ≠ (.slice Ao23 t392.length co23 : Value).ownBlock ∧ some k_ ≠ (.slice Ao28 t401.length co28 : Value).ownBlock ∧ some k_ ≠ (.slice Ao32 t407.length co32 : Value).ownBlock ∧ some k_ ≠ (.slice Ao36 t410.length co36 : Value).ownBlock ∧ some k_ ≠ (.slice Ao38 t416.length co38 : Value).ownBlock ∧ some k_ ≠ (.slice Ao41 t420.length co41 : Value).ownBlock ∧ some k_ ≠ (.slice Ao46 t423.length co46 : Value).ownBlock ∧ some k_ ≠ (.slice Ao48 t429.length co48 : Value).ownBlock ∧ some k_ ≠ (.slice Ao84 t436.length co84 : Value).ownBlock ∧ some k_ ≠ (.slice Ao85 t439.length co85 : Value).ownBlock ∧ some k_ ≠ (.slice Ao87 t445.length co87 : Value).ownBlock) (Kd.R_keptB ((Kd.R_apart' HO_407001.out (Kd.R_typed HO_420002.out) (by decide))) hkp (fun k_ hk_ hs_ => Or.elim hs_ (fun e_ => (hk_.1.1.1.1.2.2.1) e_) (fun e_ => Or.elim e_ (fun e_ => (hk_.1.1.1.1.2.2.2.1) e_) (fun e_ => Or.elim e_ (fun e_ => (hk_.2) e_) (fun e_ => (hk_.1.1.1.1.2.2.2.2.1) e_))))) (fun k_ hk_ => ⟨hk_.1.1.1.1.1.1, hk_.1.1.1.1.1.2.1, hk_.1.1.1.1.1.2.2.1, hk_.1.1.1.1.1.2.2.2.1, hk_.1.1.1.1.1.2.2.2.2.1, hk_.1.1.1.1.1.2.2.2.2.2.1, hk_.1.1.1.1.1.2.2.2.2.2.2.1, hk_.1.1.1.1.1.2.2.2.2.2.2.2, hk_.1.1.1.1.2, hk_.1.1.1.2, hk_.1.1.2⟩)); replace HO_407002 := Ya (Z11 (ok' := fun k_ => some k_ ≠ (.slice Ao37 t413.length co37 : Value).ownBlock ∧ some k_ ≠ (.slice Ao47 t426.length co47 : Value).ownBlock ∧ some k_ ≠ (.slice Ao86 t442.length co86 : Value).ownBlock) (Kd.R_keptB ((Kd.R_apart' (Kd.R_apart' (Kd.R_apart' HO_407002.out (Kd.R_typed HO_420000.out) (by decide)) (Kd.R_typed HO_420001.out) (by decide)) (Kd.R_typed HO_420003.out) (by decide))) hkp (fun k_ hk_ hs_ => Or.elim hs_ (fun e_ => (hk_.1.1.2) e_) (fun e_ => Or.elim e_ (fun e_ => (hk_.1.2) e_) (fun e_ => Or.elim e_ (fun e_ => (hk_.1.1.1.1.1) e_) (fun e_ => (hk_.2) e_))))) (fun k_ hk_ => ⟨hk_.1.1.1.1.1.1, hk_.1.1.1.1.1.2, hk_.1.1.1.1.2⟩)); replace HO_407003 := Ya (Z11 (ok' := fun k_ => some k_ ≠ (.slice Ao23 t392.length co23 : Value).ownBlock ∧ some k_ ≠ (.slice Ao26 t395.length co26 : Value).ownBlock ∧ some k_ ≠ (.slice Ao32 t407.length co32 : Value).ownBlock ∧ some k_ ≠ (.slice Ao36 t410.length co36 : Value).ownBlock ∧ some k_ ≠ (.slice Ao38 t416.length co38 : Value).ownBlock ∧ some k_ ≠ (.slice Ao41 t420.length co41 : Value).ownBlock ∧ some k_ ≠ (.slice Ao46 t423.length co46 : Value).ownBlock ∧ some k_ ≠ (.slice Ao48 t429.length co48 : Value).ownBlock ∧ some k_ ≠ (.slice Ao84 t436.length co84 : Value).ownBlock ∧ some k_ ≠ (.slice Ao85 t439.length co85 : Value).ownBlock ∧ some k_ ≠ (.slice Ao87 t445.length co87 : Value).ownBlock) (Kd.R_keptB ((Kd.R_apart' HO_407003.out (Kd.R_typed HO_420002.out) (by decide))) hkp (fun k_ hk_ hs_ => Or.elim hs_ (fun e_ => (hk_.1.1.1.1.2.2.1) e_) (fun e_ => Or.elim e_ (fun e_ => (hk_.1.1.1.1.2.2.2.1) e_) (fun e_ => Or.elim e_ (fun e_ => (hk_.2) e_) (fun e_ => (hk_.1.1.1.1.2.2.2.2.1) e_))))) (fun k_ hk_ => ⟨hk_.1.1.1.1.1.1, hk_.1.1.1.1.1.2.1, hk_.1.1.1.1.1.2.2.1, hk_.1.1.1.1.1.2.2.2.1, hk_.1.1.1.1.1.2.2.2.2.1, hk_.1.1.1.1.1.2.2.2.2.2.1, hk_.1.1.1.1.1.2.2.2.2.2.2.1, hk_.1.1.1.1.1.2.2.2.2.2.2.2, hk_.1.1.1.1.2, hk_.1.1.1.2, hk_.1.1.2⟩)); replace HO_435000 := Ya (Z11 (ok' := fun k_ => some k_ ≠ (.slice Ao23 t392.length co23 : Value).ownBlock ∧ some k_ ≠ (.slice Ao26 t395.length co26 : Value).ownBlock ∧ some k_ ≠ (.slice Ao28 t401.length co28 : Value).ownBlock ∧ some k_ ≠ (.slice Ao32 t407.length co32 : Value).ownBlock ∧ some k_ ≠ (.slice Ao36 t410.length co36 : Value).ownBlock ∧ some k_ ≠ (.slice Ao38 t416.length co38 : Value).ownBlock ∧ some k_ ≠ (.slice Ao46 t423.length co46 : Value).ownBlock ∧ some k_ ≠ (.slice Ao48 t429.length co48 : Value).ownBlock ∧ some k_ ≠ (.slice Ao84 t436.length co84 : Value).ownBlock ∧ some k_ ≠ (.slice Ao85 t439.length co85 : Value).ownBlock ∧ some k_ ≠ (.slice Ao87 t445.length co87 : Value).ownBlock) (Kd.R_keptB ((Kd.R_apart' HO_435000.out (Kd.R_typed HO_420002.out) (by decide))) hkp (fun k_ hk_ hs_ => Or.elim hs_ (fun e_ => (hk_.1.1.1.1.2.2.2.1) e_) (fun e_ => Or.elim e_ (fun e_ => (hk_.1.1.1.1.2.2.2.2.1) e_) (fun e_ => Or.elim e_ (fun e_ => (hk_.2) e_) (fun e_ => (hk_.1.1.1.1.2.2.2.2.2.1) e_))))) (fun k_ hk_ => ⟨hk_.1.1.1.1.1.1, hk_.1.1.1.1.1.2.1, hk_.1.1.1.1.1.2.2.1, hk_.1.1.1.1.1.2.2.2.1, hk_.1.1.1.1.1.2.2.2.2.1, hk_.1.1.1.1.1.2.2.2.2.2.1, hk_.1.1.1.1.1.2.2.2.2.2.2.1, hk_.1.1.1.1.1.2.2.2.2.2.2.2, hk_.1.1.1.1.2, hk_.1.1.1.2, hk_.1.1.2⟩)); replace HO_435001 := Ya (Z11 (ok' := fun k_ => some k_ ≠ (.slice Ao23 t392.length co23 : Value).ownBlock ∧ some k_ ≠ (.slice Ao26 t395.length co26 : Value).ownBlock ∧ some k_ ≠ (.slice Ao28 t401.length co28 : Value).ownBlock ∧ some k_ ≠ (.slice Ao32 t407.length co32 : Value).ownBlock ∧ some k_ ≠ (.slice Ao36 t410.length co36 : Value).ownBlock ∧ some k_ ≠ (.slice Ao38 t416.length co38 : Value).ownBlock ∧ some k_ ≠ (.slice Ao41 t420.length co41 : Value).ownBlock ∧ some k_ ≠ (.slice Ao48 t429.length co48 : Value).ownBlock ∧ some k_ ≠ (.slice Ao84 t436.length co84 : Value).ownBlock ∧ some k_ ≠ (.slice Ao85 t439.length co85 : Value).ownBlock ∧ some k_ ≠ (.slice Ao87 t445.length co87 : Value).ownBlock) (Kd.R_keptB ((Kd.R_apart' HO_435001.out (Kd.R_typed HO_420002.out) (by decide))) hkp (fun k_ hk_ hs_ => Or.elim hs_ (fun e_ => (hk_.1.1.1.1.2.2.2.1) e_) (fun e_ => Or.elim e_ (fun e_ => (hk_.1.1.1.1.2.2.2.2.1) e_) (fun e_ => Or.elim e_ (fun e_ => (hk_.2) e_) (fun e_ => (hk_.1.1.1.1.2.2.2.2.2.1) e_))))) (fun k_ hk_ => ⟨hk_.1.1.1.1.1.1, hk_.1.1.1.1.1.2.1, hk_.1.1.1.1.1.2.2.1, hk_.1.1.1.1.1.2.2.2.1, hk_.1.1.1.1.1.2.2.2.2.1, hk_.1.1.1.1.1.2.2.2.2.2.1, hk_.1.1.1.1.1.2.2.2.2.2.2.1, hk_.1.1.1.1.1.2.2.2.2.2.2.2, hk_.1.1.1.1.2, hk_.1.1.1.2, hk_.1.1.2⟩)); replace HO_435002 := Ya (Z11 (ok' := fun k_ => some k_ ≠ (.slice Ao27 t398.length co27 : Value).ownBlock ∧ some k_ ≠ (.slice Ao37 t413.length co37 : Value).ownBlock ∧ some k_ ≠ (.slice Ao86 t442.length co86 : Value).ownBlock) (Kd.R_keptB ((Kd.R_apart' (Kd.R_apart' (Kd.R_apart' HO_435002.out (Kd.R_typed HO_420000.out) (by decide)) (Kd.R_typed HO_420001.out) (by decide)) (Kd.R_typed HO_420003.out) (by decide))) hkp (fun k_ hk_ hs_ => Or.elim hs_ (fun e_ => (hk_.1.1.2) e_) (fun e_ => Or.elim e_ (fun e_ => (hk_.1.2) e_) (fun e_ => Or.elim e_ (fun e_ => (hk_.1.1.1.1.2) e_) (fun e_ => (hk_.2) e_))))) (fun k_ hk_ => ⟨hk_.1.1.1.1.1.1, hk_.1.1.1.1.1.2, hk_.1.1.1.1.2⟩)); replace HO_435003 := Ya (Z11 (ok' := fun k_ => some k_ ≠ (.slice Ao23 t392.length co23 : Value).ownBlock ∧ some k_ ≠ (.slice Ao26 t395.length co26 : Value).ownBlock ∧ some k_ ≠ (.slice Ao28 t401.length co28 : Value).ownBlock ∧ some k_ ≠ (.slice Ao32 t407.length co32 : Value).ownBlock ∧ some k_ ≠ (.slice Ao36 t410.length co36 : Value).ownBlock ∧ some k_ ≠ (.slice Ao38 t416.length co38 : Value).ownBlock ∧ some k_ ≠ (.slice Ao41 t420.length co41 : Value).ownBlock ∧ some k_ ≠ (.slice Ao46 t423.length co46 : Value).ownBlock ∧ some k_ ≠ (.slice Ao84 t436.length co84 : Value).ownBlock ∧ some k_ ≠ (.slice Ao85 t439.length co85 : Value).ownBlock ∧ some k_ ≠ (.slice Ao87 t445.length co87 : Value).ownBlock) (Kd.R_keptB ((Kd.R_apart' HO_435003.out (Kd.R_typed HO_420002.out) (by decide))) hkp (fun k_ hk_ hs_ => Or.elim hs_ (fun e_ => (hk_.1.1.1.1.2.2.2.1) e_) (fun e_ => Or.elim e_ (fun e_ => (hk_.1.1.1.1.2.2.2.2.1) e_) (fun e_ => Or.elim e_ (fun e_ => (hk_.2) e_) (fun e_ => (hk_.1.1.1.1.2.2.2.2.2.1) e_))))) (fun k_ hk_ => ⟨hk_.1.1.1.1.1.1, hk_.1.1.1.1.1.2.1, hk_.1.1.1.1.1.2.2.1, hk_.1.1.1.1.1.2.2.2.1, hk_.1.1.1.1.1.2.2.2.2.1, hk_.1.1.1.1.1.2.2.2.2.2.1, hk_.1.1.1.1.1.2.2.2.2.2.2.1, hk_.1.1.1.1.1.2.2.2.2.2.2.2, hk_.1.1.1.1.2, hk_.1.1.1.2, hk_.1.1.2⟩)); replace BK378 := Ya (blk_kept (Yk BK378.out) hkp (fun hs_ => Or.elim hs_ (fun e_ => (fun e_ => (Kd.R_ne HO_420000.out BK378.out (by decide)) e_) e_) (fun e_ => Or.elim e_ (fun e_ => (fun e_ => (Kd.R_ne HO_420001.out BK378.out (by decide)) e_) e_) (fun e_ => Or.elim e_ (fun e_ => (fun e_ => (Kd.R_ne HO_420002.out BK378.out (by decide)) e_) e_) (fun e_ => (fun e_ => (Kd.R_ne HO_420003.out BK378.out (by decide)) e_) e_))))); replace BK406 := Ya (blk_kept (Yk BK406.out) hkp (fun hs_ => Or.elim hs_ (fun e_ => (fun e_ => (Kd.R_ne HO_420000.out BK406.out (by decide)) e_) e_) (fun e_ => Or.elim e_ (fun e_ => (fun e_ => (Kd.R_ne HO_420001.out BK406.out (by decide)) e_) e_) (fun e_ => Or.elim e_ (fun e_ => (fun e_ => (Kd.R_ne HO_420002.out BK406.out (by decide)) e_) e_) (fun e_ => (fun e_ => (Kd.R_ne HO_420003.out BK406.out (by decide)) e_) e_))))); replace BK419 := Ya (blk_kept (Yk BK419.out) hkp (fun hs_ => Or.elim hs_ (fun e_ => (fun e_ => (Kd.R_ne HO_420000.out BK419.out (by decide)) e_) e_) (fun e_ => Or.elim e_ (fun e_ => (fun e_ => (Kd.R_ne HO_420001.out BK419.out (by decide)) e_) e_) (fun e_ => Or.elim e_ (fun e_ => (fun e_ => (Kd.R_ne HO_420002.out BK419.out (by decide)) e_) e_) (fun e_ => (fun e_ => (Kd.R_ne HO_420003.out BK419.out (by decide)) e_) e_))))); replace BK434 := Ya (blk_kept (Yk BK434.out) hkp (fun hs_ => Or.elim hs_ (fun e_ => (fun e_ => (Kd.R_ne HO_420000.out BK434.out (by decide)) e_) e_) (fun e_ => Or.elim e_ (fun e_ => (fun e_ => (Kd.R_ne HO_420001.out BK434.out (by decide)) e_) e_) (fun e_ => Or.elim e_ (fun e_ => (fun e_ => (Kd.R_ne HO_420002.out BK434.out (by decide)) e_) e_) (fun e_ => (fun e_ => (Kd.R_ne HO_420003.out BK434.out (by decide)) e_) e_))))); replace HO438 := Ya (Z11 (ok' := fun k_ => some k_ ≠ (.slice Ao23 t392.length co23 : Value).ownBlock ∧ some k_ ≠ (.slice Ao26 t395.length co26 : Value).ownBlock ∧ some k_ ≠ (.slice Ao28 t401.length co28 : Value).ownBlock ∧ some k_ ≠ (.slice Ao32 t407.length co32 : Value).ownBlock ∧ some k_ ≠ (.slice Ao36 t410.length co36 : Value).ownBlock ∧ some k_ ≠ (.slice Ao38 t416.length co38 : Value).ownBlock ∧ some k_ ≠ (.slice Ao41 t420.length co41 : Value).ownBlock ∧ some k_ ≠ (.slice Ao46 t423.length co46 : Value).ownBlock ∧ some k_ ≠ (.slice Ao48 t429.length co48 : Value).ownBlock ∧ some k_ ≠ (.slice Ao85 t439.length co85 : Value).ownBlock ∧ some k_ ≠ (.slice Ao87 t445.length co87 : Value).ownBlock) (Kd.R_keptB ((Kd.R_apart' HO438.out (Kd.R_typed HO_420002.out) (by decide))) hkp (fun k_ hk_ hs_ => Or.elim hs_ (fun e_ => (hk_.1.1.1.1.1.1.2) e_) (fun e_ => Or.elim e_ (fun e_ => (hk_.1.1.1.1.1.2) e_) (fun e_ => Or.elim e_ (fun e_ => (hk_.2) e_) (fun e_ => (hk_.1.1.1.1.2) e_))))) (fun k_ hk_ => ⟨hk_.1.1.1.1.1.1.1.1.1.1.2, hk_.1.1.1.1.1.1.1.1.1.2, hk_.1.1.1.1.1.1.1.1.2, hk_.1.1.1.1.1.1.1.2, hk_.1.1.1.1.1.1.2, hk_.1.1.1.1.1.2, hk_.1.1.1.1.2, hk_.1.1.1.2, hk_.1.1.2, hk_.1.1.1.1.1.1.1.1.1.1.1.1, hk_.1.1.1.1.1.1.1.1.1.1.1.2⟩)); replace HO441 := Ya (Z11 (ok' := fun k_ => some k_ ≠ (.slice Ao23 t392.length co23 : Value).ownBlock ∧ some k_ ≠ (.slice Ao26 t395.length co26 : Value).ownBlock ∧ some k_ ≠ (.slice Ao28 t401.length co28 : Value).ownBlock ∧ some k_ ≠ (.slice Ao32 t407.length co32 : Value).ownBlock ∧ some k_ ≠ (.slice Ao36 t410.length co36 : Value).ownBlock ∧ some k_ ≠ (.slice Ao38 t416.length co38 : Value).ownBlock ∧ some k_ ≠ (.slice Ao41 t420.length co41 : Value).ownBlock ∧ some k_ ≠ (.slice Ao46 t423.length co46 : Value).ownBlock ∧ some k_ ≠ (.slice Ao48 t429.length co48 : Value).ownBlock ∧ some k_ ≠ (.slice Ao84 t436.length co84 : Value).ownBlock ∧ some k_ ≠ (.slice Ao87 t445.length co87 : Value).ownBlock) (Kd.R_keptB ((Kd.R_apart' HO441.out (Kd.R_typed HO_420002.out) (by decide))) hkp (fun k_ hk_ hs_ => Or.elim hs_ (fun e_ => (hk_.1.1.1.1.1.1.2) e_) (fun e_ => Or.elim e_ (fun e_ => (hk_.1.1.1.1.1.2) e_) (fun e_ => Or.elim e_ (fun e_ => (hk_.2) e_) (fun e_ => (hk_.1.1.1.1.2) e_))))) (fun k_ hk_ => ⟨hk_.1.1.1.1.1.1.1.1.1.1.2, hk_.1.1.1.1.1.1.1.1.1.2, hk_.1.1.1.1.1.1.1.1.2, hk_.1.1.1.1.1.1.1.2, hk_.1.1.1.1.1.1.2, hk_.1.1.1.1.1.2, hk_.1.1.1.1.2, hk_.1.1.1.2, hk_.1.1.2, hk_.1.1.1.1.1.1.1.1.1.1.1.1, hk_.1.1.1.1.1.1.1.1.1.1.1.2⟩)); replace HO444 := Ya (Z11 (ok' := fun k_ => some k_ ≠ (.slice Ao27 t398.length co27 : Value).ownBlock ∧ some k_ ≠ (.slice Ao37 t413.length co37 : Value).ownBlock ∧ some k_ ≠ (.slice Ao47 t426.length co47 : Value).ownBlock) (Kd.R_keptB ((Kd.R_apart' (Kd.R_apart' (Kd.R_apart' HO444.out (Kd.R_typed HO_420000.out) (by decide)) (Kd.R_typed HO_420001.out) (by decide)) (Kd.R_typed HO_420003.out) (by decide))) hkp (fun k_ hk_ hs_ => Or.elim hs_ (fun e_ => (hk_.1.1.2) e_) (fun e_ => Or.elim e_ (fun e_ => (hk_.1.2) e_) (fun e_ => Or.elim e_ (fun e_ => (hk_.1.1.1.1.2) e_) (fun e_ => (hk_.2) e_))))) (fun k_ hk_ => ⟨hk_.1.1.1.1.1.1.2, hk_.1.1.1.1.1.2, hk_.1.1.1.1.2⟩)); replace HO_420000 := Ya (Kd.R_reok rfl hy0 (fun k_ e_ => HO_420000.out.1 k_ e_)); replace HO_420001 := Ya (Kd.R_reok rfl hy1 (fun k_ e_ => HO_420001.out.1 k_ e_)); replace HO_420003 := Ya (Kd.R_reok rfl hy3 (fun k_ e_ => HO_420003.out.1 k_ e_)); replace HO447 := Ya (Z11 (ok' := fun k_ => some k_ ≠ (.slice Ao23 t392.length co23 : Value).ownBlock ∧ some k_ ≠ (.slice Ao26 t395.length co26 : Value).ownBlock ∧ some k_ ≠ (.slice Ao28 t401.length co28 : Value).ownBlock ∧ some k_ ≠ (.slice Ao32 t407.length co32 : Value).ownBlock ∧ some k_ ≠ (.slice Ao36 t410.length co36 : Value).ownBlock ∧ some k_ ≠ (.slice Ao38 t416.length co38 : Value).ownBlock ∧ some k_ ≠ (.slice Ao41 t420.length co41 : Value).ownBlock ∧ some k_ ≠ (.slice Ao46 t423.length co46 : Value).ownBlock ∧ some k_ ≠ (.slice Ao48 t429.length co48 : Value).ownBlock ∧ some k_ ≠ (.slice Ao84 t436.length co84 : Value).ownBlock ∧ some k_ ≠ (.slice Ao85 t439.length co85 : Value).ownBlock) (Kd.R_keptB ((Kd.R_apart' HO447.out (Kd.R_typed HO_420002.out) (by decide))) hkp (fun k_ hk_ hs_ => Or.elim hs_ (fun e_ => (hk_.1.1.1.1.1.1.2) e_) (fun e_ => Or.elim e_ (fun e_ => (hk_.1.1.1.1.1.2) e_) (fun e_ => Or.elim e_ (fun e_ => (hk_.2) e_) (fun e_ => (hk_.1.1.1.1.2) e_))))) (fun k_ hk_ => ⟨hk_.1.1.1.1.1.1.1.1.1.1.2, hk_.1.1.1.1.1.1.1.1.1.2, hk_.1.1.1.1.1.1.1.1.2, hk_.1.1.1.1.1.1.1.2, hk_.1.1.1.1.1.1.2, hk_.1.1.1.1.1.2, hk_.1.1.1.1.2, hk_.1.1.1.2, hk_.1.1.2, hk_.1.1.1.1.1.1.1.1.1.1.1.1, hk_.1.1.1.1.1.1.1.1.1.1.1.2⟩)); replace HO_420002 := Ya (Kd.R_reok rfl hy2 (fun k_ e_ => HO_420002.out.1 k_ e_)); replace HB := Ya hb))
      (try simp only [Act.put, Z0, Z1, Z2])
      go_cut [76] (fun v76 wc => ∃ (kq : Nat) (x76_80 : Bool), v76 = .bool x76_80 ∧ Aside0 (laws_FnExactStepFocus.j1 kq t404 t405 x76_80 l0_0 l0_1 l0_2 l0_3 t392 t395 t398 t401 t420 t423 t426 t429 = some r) ∧ Aside0 (kq ≤ kj10) ∧ Aside0 (Kd.R (Kd.int .i64) 3 wc w.heap.size (fun k_ => some k_ ≠ ((.slice Ao26 t395.length co26) : Value).ownBlock ∧ some k_ ≠ ((.slice Ao28 t401.length co28) : Value).ownBlock ∧ some k_ ≠ ((.slice Ao32 t407.length co32) : Value).ownBlock ∧ some k_ ≠ ((.slice Ao36 t410.length co36) : Value).ownBlock ∧ some k_ ≠ ((.slice Ao38 t416.length co38) : Value).ownBlock ∧ some k_ ≠ ((.slice Ao41 t420.length co41) : Value).ownBlock ∧ some k_ ≠ ((.slice Ao46 t423.length co46) : Value).ownBlock ∧ some k_ ≠ ((.slice Ao48 t429.length co48) : Value).ownBlock) (.slice Ao23 t392.length co23) t392) ∧ Aside0 (Kd.R (Kd.int .i64) 3 wc w.heap.size (fun k_ => some k_ ≠ ((.slice Ao23 t392.length co23) : Value).ownBlock ∧ some k_ ≠ ((.slice Ao28 t401.length co28) : Value).ownBlock ∧ some k_ ≠ ((.slice Ao32 t407.length co32) : Value).ownBlock ∧ some k_ ≠ ((.slice Ao36 t410.length co36) : Value).ownBlock ∧ some k_ ≠ ((.slice Ao38 t416.length co38) : Value).ownBlock ∧ some k_ ≠ ((.slice Ao41 t420.length co41) : Value).ownBlock ∧ some k_ ≠ ((.slice Ao46 t423.length co46) : Value).ownBlock ∧ some k_ ≠ ((.slice Ao48 t429.length co48) : Value).ownBlock) (.slice Ao26 t395.length co26) t395) ∧ Aside0 (Kd.R Kd.bool 4 wc w.heap.size (fun k_ => some k_ ≠ ((.slice Ao37 t413.length co37) : Value).ownBlock ∧ some k_ ≠ ((.slice Ao47 t426.length co47) : Value).ownBlock) (.slice Ao27 t398.length co27) t398) ∧ Aside0 (Kd.R (Kd.int .i64) 3 wc w.heap.size (fun k_ => some k_ ≠ ((.slice Ao23 t392.length co23) : Value).ownBlock ∧ some k_ ≠ ((.slice Ao26 t395.length co26) : Value).ownBlock ∧ some k_ ≠ ((.slice Ao32 t407.length co32) : Value).ownBlock ∧ some k_ ≠ ((.slice Ao36 t410.length co36) : Value).ownBlock ∧ some k_ ≠ ((.slice Ao38 t416.length co38) : Value).ownBlock ∧ some k_ ≠ ((.slice Ao41 t420.length co41) : Value).ownBlock ∧ some k_ ≠ ((.slice Ao46 t423.length co46) : Value).ownBlock ∧ some k_ ≠ ((.slice Ao48 t429.length co48) : Value).ownBlock) (.slice Ao28 t401.length co28) t401) ∧ Aside0 (Kd.R (Kd.int .i64) 3 wc w.heap.size (fun k_ => some k_ ≠ ((.slice Ao23 t392.length co23) : Value).ownBlock ∧ some k_ ≠ ((.slice Ao26 t395.length co26) : Value).ownBlock ∧ some k_ ≠ ((.slice Ao28 t401.length co28) : Value).ownBlock ∧ some k_ ≠ ((.slice Ao36 t410.length co36) : Value).ownBlock ∧ some k_ ≠ ((.slice Ao38 t416.length co38) : Value).ownBlock ∧ some k_ ≠ ((.slice Ao41 t420.length co41) : Value).ownBlock ∧ some k_ ≠ ((.slice Ao46 t423.length co46) : Value).ownBlock ∧ some k_ ≠ ((.slice Ao48 t429.length co48) : Value).ownBlock) (.slice Ao32 t407.length co32) t450) ∧ Aside0 (Kd.R (Kd.int .i64) 3 wc w.heap.size (fun k_ => some k_ ≠ ((.slice Ao23 t392.length co23) : Value).ownBlock ∧ some k_ ≠ ((.slice Ao26 t395.length co26) : Value).ownBlock ∧ some k_ ≠ ((.slice Ao28 t401.length co28) : Value).ownBlock ∧ some k_ ≠ ((.slice Ao32 t407.length co32) : Value).ownBlock ∧ some k_ ≠ ((.slice Ao38 t416.length co38) : Value).ownBlock ∧ some k_ ≠ ((.slice Ao41 t420.length co41) : Value).ownBlock ∧ some k_ ≠ ((.slice Ao46 t423.length co46) : Value).ownBlock ∧ some k_ ≠ ((.slice Ao48 t429.length co48) : Value).ownBlock) (.slice Ao36 t410.length co36) t451) ∧ Aside0 (Kd.R Kd.bool 4 wc w.heap.size (fun k_ => some k_ ≠ ((.slice Ao27 t398.length co27) : Value).ownBlock ∧ some k_ ≠ ((.slice Ao47 t426.length co47) : Value).ownBlock) (.slice Ao37 t413.length co37) t452) ∧ Aside0 (Kd.R (Kd.int .i64) 3 wc w.heap.size (fun k_ => some k_ ≠ ((.slice Ao23 t392.length co23) : Value).ownBlock ∧ some k_ ≠ ((.slice Ao26 t395.length co26) : Value).ownBlock ∧ some k_ ≠ ((.slice Ao28 t401.length co28) : Value).ownBlock ∧ some k_ ≠ ((.slice Ao32 t407.length co32) : Value).ownBlock ∧ some k_ ≠ ((.slice Ao36 t410.length co36) : Value).ownBlock ∧ some k_ ≠ ((.slice Ao41 t420.length co41) : Value).ownBlock ∧ some k_ ≠ ((.slice Ao46 t423.length co46) : Value).ownBlock ∧ some k_ ≠ ((.slice Ao48 t429.length co48) : Value).ownBlock) (.slice Ao38 t416.length co38) t453) ∧ Aside0 (Kd.R (Kd.int .i64) 3 wc w.heap.size (fun k_ => some k_ ≠ ((.slice Ao23 t392.length co23) : Value).ownBlock ∧ some k_ ≠ ((.slice Ao26 t395.length co26) : Value).ownBlock ∧ some k_ ≠ ((.slice Ao28 t401.length co28) : Value).ownBlock ∧ some k_ ≠ ((.slice Ao32 t407.length co32) : Value).ownBlock ∧ some k_ ≠ ((.slice Ao36 t410.length co36) : Value).ownBlock ∧ some k_ ≠ ((.slice Ao38 t416.length co38) : Value).ownBlock ∧ some k_ ≠ ((.slice Ao46 t423.length co46) : Value).ownBlock ∧ some k_ ≠ ((.slice Ao48 t429.length co48) : Value).ownBlock) (.slice Ao41 t420.length co41) t420) ∧ Aside0 (Kd.R (Kd.int .i64) 3 wc w.heap.size (fun k_ => some k_ ≠ ((.slice Ao23 t392.length co23) : Value).ownBlock ∧ some k_ ≠ ((.slice Ao26 t395.length co26) : Value).ownBlock ∧ some k_ ≠ ((.slice Ao28 t401.length co28) : Value).ownBlock ∧ some k_ ≠ ((.slice Ao32 t407.length co32) : Value).ownBlock ∧ some k_ ≠ ((.slice Ao36 t410.length co36) : Value).ownBlock ∧ some k_ ≠ ((.slice Ao38 t416.length co38) : Value).ownBlock ∧ some k_ ≠ ((.slice Ao41 t420.length co41) : Value).ownBlock ∧ some k_ ≠ ((.slice Ao48 t429.length co48) : Value).ownBlock) (.slice Ao46 t423.length co46) t423) ∧ Aside0 (Kd.R Kd.bool 4 wc w.heap.size (fun k_ => some k_ ≠ ((.slice Ao27 t398.length co27) : Value).ownBlock ∧ some k_ ≠ ((.slice Ao37 t413.length co37) : Value).ownBlock) (.slice Ao47 t426.length co47) t426) ∧ Aside0 (Kd.R (Kd.int .i64) 3 wc w.heap.size (fun k_ => some k_ ≠ ((.slice Ao23 t392.length co23) : Value).ownBlock ∧ some k_ ≠ ((.slice Ao26 t395.length co26) : Value).ownBlock ∧ some k_ ≠ ((.slice Ao28 t401.length co28) : Value).ownBlock ∧ some k_ ≠ ((.slice Ao32 t407.length co32) : Value).ownBlock ∧ some k_ ≠ ((.slice Ao36 t410.length co36) : Value).ownBlock ∧ some k_ ≠ ((.slice Ao38 t416.length co38) : Value).ownBlock ∧ some k_ ≠ ((.slice Ao41 t420.length co41) : Value).ownBlock ∧ some k_ ≠ ((.slice Ao46 t423.length co46) : Value).ownBlock) (.slice Ao48 t429.length co48) t429) ∧ Aside0 (wc.heap[gb378]? = some (.cells #[(.slice A0_0 l0_0.length c0_0), (.slice A0_1 l0_1.length c0_1), (.slice A0_2 l0_2.length c0_2), (.slice A0_3 l0_3.length c0_3)] 25 (0, 0))) ∧ Aside0 (wc.heap[gb406]? = some (.cells #[(.slice Ao23 t392.length co23), (.slice Ao26 t395.length co26), (.slice Ao27 t398.length co27), (.slice Ao28 t401.length co28)] 27 (0, 0))) ∧ Aside0 (wc.heap[gb419]? = some (.cells #[(.slice Ao32 t407.length co32), (.slice Ao36 t410.length co36), (.slice Ao37 t413.length co37), (.slice Ao38 t416.length co38)] 27 (0, 0))) ∧ Aside0 (wc.heap[gb434]? = some (.cells #[(.slice Ao41 t420.length co41), (.slice Ao46 t423.length co46), (.slice Ao47 t426.length co47), (.slice Ao48 t429.length co48)] 27 (0, 0))) ∧ Aside0 (Below w.heap.size w wc))
      case first =>
       have H := HC81.out
       clear HC81
       by_cases c94 : t449 < 0
       ·rw [if_pos c94] at H
        have c94b0 : decide (t449 < 0) = true := Z38 c94
        clear c94
        (first | rw [c94b0] | (simp only [i64_w, i32_w]; rw [c94b0]) | skip)
        have H' := Ya H
        clear H
        go_wp2
        go_meet
        case rel => exact ⟨_, (true), Q7, H', ⟨Q147⟩, ⟨Q33⟩, ⟨Q32⟩, ⟨Q106⟩, ⟨Q31⟩, ⟨Q26⟩, ⟨Q25⟩, ⟨Q92⟩, ⟨Q24⟩, ⟨Q30⟩, ⟨Q29⟩, ⟨Q105⟩, ⟨Q28⟩, ⟨Q57⟩, ⟨Q56⟩, ⟨Q55⟩, ⟨Q54⟩, ⟨Q12⟩⟩
       ·rw [if_neg c94] at H
        have c94b0 : decide (t449 < 0) = false := Z37 c94
        clear c94
        (first | rw [c94b0] | (simp only [i64_w, i32_w]; rw [c94b0]) | skip)
        replace H := Z36.mp H
        obtain ⟨t454, A950, H⟩ := H
        replace H : (if t454 = true then (if t432 = t404 then (laws_FnExactStepFocus.j1 kj10 t404 t405 (t433 != t405) l0_0 l0_1 l0_2 l0_3 t392 t395 t398 t401 t420 t423 t426 t429) else (laws_FnExactStepFocus.j1 kj10 t404 t405 true l0_0 l0_1 l0_2 l0_3 t392 t395 t398 t401 t420 t423 t426 t429)) else (laws_FnExactStepFocus.j1 kj10 t404 t405 true l0_0 l0_1 l0_2 l0_3 t392 t395 t398 t401 t420 t423 t426 t429)) = some r := H
        have A95 := Ya A950
        clear A950
        by_cases c96 : t454 = true
        ·subst c96
         have H1 : (if t432 = t404 then (laws_FnExactStepFocus.j1 kj10 t404 t405 (t433 != t405) l0_0 l0_1 l0_2 l0_3 t392 t395 t398 t401 t420 t423 t426 t429) else (laws_FnExactStepFocus.j1 kj10 t404 t405 true l0_0 l0_1 l0_2 l0_3 t392 t395 t398 t401 t420 t423 t426 t429)) = some r := by rw [if_pos rfl] at H; exact H
         clear H
         have H := H1
         clear H1
         by_cases c97 : t432 = t404
         ·rw [if_pos c97] at H
          have c97b0 : (t432 == t404) = true := beq_iff_eq.mpr c97
          have c97b1 : (t432 != t404) = false := bne_eq_false_iff_eq.mpr c97
          clear c97
          have H' := Ya H
          clear H
          have hnb98 := NB434_378.out
          have hnc98 := NB378_434.out
          have hnb99 := NB434_406.out
          have hnc99 := NB406_434.out
          have hnb100 := NB434_419.out
          have hnc100 := NB419_434.out
          obtain ⟨hcz101_0, hcz101_1, hcz101_2, hcz101_3, hfz101_0, hfz101_1, hfz101_2, hfz101_3⟩ := Y4 BK434.out
          have hnb102 := NB406_378.out
          have hnc102 := NB378_406.out
          have hnb103 := NB406_419.out
          have hnc103 := NB419_406.out
          obtain ⟨hcz104_0, hcz104_1, hcz104_2, hcz104_3, hfz104_0, hfz104_1, hfz104_2, hfz104_3⟩ := Y4 BK406.out
          go_wp2_with (first | (go_at_call 12; (with_reducible refine (laws_eqFocus.calls kj10 _ _ t420 _ _ t423 _ _ t426 _ _ t429 _ _ t392 _ _ t395 _ _ t398 _ _ t401 true _ (Yc (Kd.R_reads' HO_435000.out).2.2) ((Kd.R_reads' HO_435000.out).2.1) (Yc (Kd.R_reads' HO_435001.out).2.2) ((Kd.R_reads' HO_435001.out).2.1) (Yc (Kd.R_reads' HO_435002.out).2.2) ((Kd.R_reads' HO_435002.out).2.1) (Yc (Kd.R_reads' HO_435003.out).2.2) ((Kd.R_reads' HO_435003.out).2.1) (Yc (Kd.R_reads' HO_407000.out).2.2) ((Kd.R_reads' HO_407000.out).2.1) (Yc (Kd.R_reads' HO_407001.out).2.2) ((Kd.R_reads' HO_407001.out).2.1) (Yc (Kd.R_reads' HO_407002.out).2.2) ((Kd.R_reads' HO_407002.out).2.1) (Yc (Kd.R_reads' HO_407003.out).2.2) ((Kd.R_reads' HO_407003.out).2.1) A95.out).mono ?_); rintro e w105 ⟨rfl, hb⟩; replace HO_407000 := Yw HO_407000 hb; replace HO_407001 := Yw HO_407001 hb; replace HO_407002 := Yw HO_407002 hb; replace HO_407003 := Yw HO_407003 hb; replace HO_420000 := Yw HO_420000 hb; replace HO_420001 := Yw HO_420001 hb; replace HO_420002 := Yw HO_420002 hb; replace HO_420003 := Yw HO_420003 hb; replace HO_435000 := Yw HO_435000 hb; replace HO_435001 := Yw HO_435001 hb; replace HO_435002 := Yw HO_435002 hb; replace HO_435003 := Yw HO_435003 hb; replace HO438 := Yw HO438 hb; replace HO441 := Yw HO441 hb; replace HO444 := Yw HO444 hb; replace HO447 := Yw HO447 hb; replace BK378 := Yb BK378 hb; replace BK406 := Yb BK406 hb; replace BK419 := Yb BK419 hb; replace BK434 := Yb BK434 hb; replace HB := Yh hb; (try clear hb)))
          go_meet
          case rel => exact ⟨_, ((t433 != t405)), Q7, H', ⟨Q147⟩, ⟨Q33⟩, ⟨Q32⟩, ⟨Q106⟩, ⟨Q31⟩, ⟨Q26⟩, ⟨Q25⟩, ⟨Q92⟩, ⟨Q24⟩, ⟨Q30⟩, ⟨Q29⟩, ⟨Q105⟩, ⟨Q28⟩, ⟨Q57⟩, ⟨Q56⟩, ⟨Q55⟩, ⟨Q54⟩, ⟨Q12⟩⟩
         ·rw [if_neg c97] at H
          have c97b0 : (t432 == t404) = false := beq_eq_false_iff_ne.mpr c97
          have c97b1 : (t432 != t404) = true := bne_iff_ne.mpr c97
          have H' := Ya H
          clear H
          have hnb106 := NB434_378.out
          have hnc106 := NB378_434.out
          have hnb107 := NB434_406.out
          have hnc107 := NB406_434.out
          have hnb108 := NB434_419.out
          have hnc108 := NB419_434.out
          obtain ⟨hcz109_0, hcz109_1, hcz109_2, hcz109_3, hfz109_0, hfz109_1, hfz109_2, hfz109_3⟩ := Y4 BK434.out
          have hnb110 := NB406_378.out
          have hnc110 := NB378_406.out
          have hnb111 := NB406_419.out
          have hnc111 := NB419_406.out
          obtain ⟨hcz112_0, hcz112_1, hcz112_2, hcz112_3, hfz112_0, hfz112_1, hfz112_2, hfz112_3⟩ := Y4 BK406.out
          go_wp2_with (first | (go_at_call 12; (with_reducible refine (laws_eqFocus.calls kj10 _ _ t420 _ _ t423 _ _ t426 _ _ t429 _ _ t392 _ _ t395 _ _ t398 _ _ t401 true _ (Yc (Kd.R_reads' HO_435000.out).2.2) ((Kd.R_reads' HO_435000.out).2.1) (Yc (Kd.R_reads' HO_435001.out).2.2) ((Kd.R_reads' HO_435001.out).2.1) (Yc (Kd.R_reads' HO_435002.out).2.2) ((Kd.R_reads' HO_435002.out).2.1) (Yc (Kd.R_reads' HO_435003.out).2.2) ((Kd.R_reads' HO_435003.out).2.1) (Yc (Kd.R_reads' HO_407000.out).2.2) ((Kd.R_reads' HO_407000.out).2.1) (Yc (Kd.R_reads' HO_407001.out).2.2) ((Kd.R_reads' HO_407001.out).2.1) (Yc (Kd.R_reads' HO_407002.out).2.2) ((Kd.R_reads' HO_407002.out).2.1) (Yc (Kd.R_reads' HO_407003.out).2.2) ((Kd.R_reads' HO_407003.out).2.1) A95.out).mono ?_); rintro e w113 ⟨rfl, hb⟩; replace HO_407000 := Yw HO_407000 hb; replace HO_407001 := Yw HO_407001 hb; replace HO_407002 := Yw HO_407002 hb; replace HO_407003 := Yw HO_407003 hb; replace HO_420000 := Yw HO_420000 hb; replace HO_420001 := Yw HO_420001 hb; replace HO_420002 := Yw HO_420002 hb; replace HO_420003 := Yw HO_420003 hb; replace HO_435000 := Yw HO_435000 hb; replace HO_435001 := Yw HO_435001 hb; replace HO_435002 := Yw HO_435002 hb; replace HO_435003 := Yw HO_435003 hb; replace HO438 := Yw HO438 hb; replace HO441 := Yw HO441 hb; replace HO444 := Yw HO444 hb; replace HO447 := Yw HO447 hb; replace BK378 := Yb BK378 hb; replace BK406 := Yb BK406 hb; replace BK419 := Yb BK419 hb; replace BK434 := Yb BK434 hb; replace HB := Yh hb; (try clear hb)))
          go_meet
          case rel => exact ⟨_, (true), Q7, H', ⟨Q147⟩, ⟨Q33⟩, ⟨Q32⟩, ⟨Q106⟩, ⟨Q31⟩, ⟨Q26⟩, ⟨Q25⟩, ⟨Q92⟩, ⟨Q24⟩, ⟨Q30⟩, ⟨Q29⟩, ⟨Q105⟩, ⟨Q28⟩, ⟨Q57⟩, ⟨Q56⟩, ⟨Q55⟩, ⟨Q54⟩, ⟨Q12⟩⟩
        ·replace c96 := Bool.eq_false_iff.mpr c96
         subst c96
         have H1 : (laws_FnExactStepFocus.j1 kj10 t404 t405 true l0_0 l0_1 l0_2 l0_3 t392 t395 t398 t401 t420 t423 t426 t429) = some r := by rw [if_neg (show ¬ (false = true) by decide)] at H; exact H
         clear H
         have H := H1
         clear H1
         have H' := Ya H
         clear H
         have hnb114 := NB434_378.out
         have hnc114 := NB378_434.out
         have hnb115 := NB434_406.out
         have hnc115 := NB406_434.out
         have hnb116 := NB434_419.out
         have hnc116 := NB419_434.out
         obtain ⟨hcz117_0, hcz117_1, hcz117_2, hcz117_3, hfz117_0, hfz117_1, hfz117_2, hfz117_3⟩ := Y4 BK434.out
         have hnb118 := NB406_378.out
         have hnc118 := NB378_406.out
         have hnb119 := NB406_419.out
         have hnc119 := NB419_406.out
         obtain ⟨hcz120_0, hcz120_1, hcz120_2, hcz120_3, hfz120_0, hfz120_1, hfz120_2, hfz120_3⟩ := Y4 BK406.out
         go_wp2_with (first | (go_at_call 12; (with_reducible refine (laws_eqFocus.calls kj10 _ _ t420 _ _ t423 _ _ t426 _ _ t429 _ _ t392 _ _ t395 _ _ t398 _ _ t401 false _ (Yc (Kd.R_reads' HO_435000.out).2.2) ((Kd.R_reads' HO_435000.out).2.1) (Yc (Kd.R_reads' HO_435001.out).2.2) ((Kd.R_reads' HO_435001.out).2.1) (Yc (Kd.R_reads' HO_435002.out).2.2) ((Kd.R_reads' HO_435002.out).2.1) (Yc (Kd.R_reads' HO_435003.out).2.2) ((Kd.R_reads' HO_435003.out).2.1) (Yc (Kd.R_reads' HO_407000.out).2.2) ((Kd.R_reads' HO_407000.out).2.1) (Yc (Kd.R_reads' HO_407001.out).2.2) ((Kd.R_reads' HO_407001.out).2.1) (Yc (Kd.R_reads' HO_407002.out).2.2) ((Kd.R_reads' HO_407002.out).2.1) (Yc (Kd.R_reads' HO_407003.out).2.2) ((Kd.R_reads' HO_407003.out).2.1) A95.out).mono ?_); rintro e w121 ⟨rfl, hb⟩; replace HO_407000 := Yw HO_407000 hb; replace HO_407001 := Yw HO_407001 hb; replace HO_407002 := Yw HO_407002 hb; replace HO_407003 := Yw HO_407003 hb; replace HO_420000 := Yw HO_420000 hb; replace HO_420001 := Yw HO_420001 hb; replace HO_420002 := Yw HO_420002 hb; replace HO_420003 := Yw HO_420003 hb; replace HO_435000 := Yw HO_435000 hb; replace HO_435001 := Yw HO_435001 hb; replace HO_435002 := Yw HO_435002 hb; replace HO_435003 := Yw HO_435003 hb; replace HO438 := Yw HO438 hb; replace HO441 := Yw HO441 hb; replace HO444 := Yw HO444 hb; replace HO447 := Yw HO447 hb; replace BK378 := Yb BK378 hb; replace BK406 := Yb BK406 hb; replace BK419 := Yb BK419 hb; replace BK434 := Yb BK434 hb; replace HB := Yh hb; (try clear hb)))
         go_meet
         case rel => exact ⟨_, (true), Q7, H', ⟨Q147⟩, ⟨Q33⟩, ⟨Q32⟩, ⟨Q106⟩, ⟨Q31⟩, ⟨Q26⟩, ⟨Q25⟩, ⟨Q92⟩, ⟨Q24⟩, ⟨Q30⟩, ⟨Q29⟩, ⟨Q105⟩, ⟨Q28⟩, ⟨Q57⟩, ⟨Q56⟩, ⟨Q55⟩, ⟨Q54⟩, ⟨Q12⟩⟩
      case rest =>
       clear HC81
       try clear c1
       try clear p2
       try clear c3
       try clear c4
       try clear c5
       try clear c6
       try clear c7
       try clear c8
       try clear c9
       try clear c10
       try clear c11
       try clear c12
       try clear c13
       try clear c33
       try clear c34
       try clear c42
       try clear c43
       try clear c44
       try clear c50
       try clear c51
       try clear c51b0
       try clear c51b1
       try clear c52
       try clear c53
       try clear c54
       try clear c56
       try clear c57
       try clear c60
       try clear c61
       try clear c62
       try clear c64
       try clear c65
       try clear c68
       try clear c69
       try clear c70
       try clear c72
       try clear c73
       try clear c76
       try clear c79
       try clear c89
       try clear c90
       try clear c91
       try clear c94
       try clear c94b0
       try clear c96
       try clear c97
       try clear c97b0
       try clear c97b1
       try clear c98
       try clear c99
       try clear c100
       try clear c102
       try clear c103
       try clear c106
       try clear c107
       try clear c108
       try clear c110
       try clear c111
       try clear c114
       try clear c115
       try clear c116
       try clear c118
       try clear c119
       try clear hcz101_0
       try clear hcz101_1
       try clear hcz101_2
       try clear hcz101_3
       try clear hcz104_0
       try clear hcz104_1
       try clear hcz104_2
       try clear hcz104_3
       try clear hcz109_0
       try clear hcz109_1
       try clear hcz109_2
       try clear hcz109_3
       try clear hcz112_0
       try clear hcz112_1
       try clear hcz112_2
       try clear hcz112_3
       try clear hcz117_0
       try clear hcz117_1
       try clear hcz117_2
       try clear hcz117_3
       try clear hcz120_0
       try clear hcz120_1
       try clear hcz120_2
       try clear hcz120_3
       try clear hcz13_0
       try clear hcz13_1
       try clear hcz13_2
       try clear hcz13_3
       try clear hcz15_0
       try clear hcz15_1
       try clear hcz15_2
       try clear hcz15_3
       try clear hcz25_0
       try clear hcz25_1
       try clear hcz25_2
       try clear hcz25_3
       try clear hcz29_0
       try clear hcz29_1
       try clear hcz29_2
       try clear hcz29_3
       try clear hcz35_0
       try clear hcz35_1
       try clear hcz35_2
       try clear hcz35_3
       try clear hcz45_0
       try clear hcz45_1
       try clear hcz45_2
       try clear hcz45_3
       try clear hcz55_0
       try clear hcz55_1
       try clear hcz55_2
       try clear hcz55_3
       try clear hcz58_0
       try clear hcz58_1
       try clear hcz58_2
       try clear hcz58_3
       try clear hcz5_0
       try clear hcz5_1
       try clear hcz5_2
       try clear hcz5_3
       try clear hcz63_0
       try clear hcz63_1
       try clear hcz63_2
       try clear hcz63_3
       try clear hcz66_0
       try clear hcz66_1
       try clear hcz66_2
       try clear hcz66_3
       try clear hcz71_0
       try clear hcz71_1
       try clear hcz71_2
       try clear hcz71_3
       try clear hcz74_0
       try clear hcz74_1
       try clear hcz74_2
       try clear hcz74_3
       try clear hcz92_0
       try clear hcz92_1
       try clear hcz92_2
       try clear hcz92_3
       try clear hfz101_0
       try clear hfz101_1
       try clear hfz101_2
       try clear hfz101_3
       try clear hfz104_0
       try clear hfz104_1
       try clear hfz104_2
       try clear hfz104_3
       try clear hfz109_0
       try clear hfz109_1
       try clear hfz109_2
       try clear hfz109_3
       try clear hfz112_0
       try clear hfz112_1
       try clear hfz112_2
       try clear hfz112_3
       try clear hfz117_0
       try clear hfz117_1
       try clear hfz117_2
       try clear hfz117_3
       try clear hfz120_0
       try clear hfz120_1
       try clear hfz120_2
       try clear hfz120_3
       try clear hfz13_0
       try clear hfz13_1
       try clear hfz13_2
       try clear hfz13_3
       try clear hfz15_0
       try clear hfz15_1
       try clear hfz15_2
       try clear hfz15_3
       try clear hfz25_0
       try clear hfz25_1
       try clear hfz25_2
       try clear hfz25_3
       try clear hfz29_0
       try clear hfz29_1
       try clear hfz29_2
       try clear hfz29_3
       try clear hfz35_0
       try clear hfz35_1
       try clear hfz35_2
       try clear hfz35_3
       try clear hfz45_0
       try clear hfz45_1
       try clear hfz45_2
       try clear hfz45_3
       try clear hfz55_0
       try clear hfz55_1
       try clear hfz55_2
       try clear hfz55_3
       try clear hfz58_0
       try clear hfz58_1
       try clear hfz58_2
       try clear hfz58_3
       try clear hfz5_0
       try clear hfz5_1
       try clear hfz5_2
       try clear hfz5_3
       try clear hfz63_0
       try clear hfz63_1
       try clear hfz63_2
       try clear hfz63_3
       try clear hfz66_0
       try clear hfz66_1
       try clear hfz66_2
       try clear hfz66_3
       try clear hfz71_0
       try clear hfz71_1
       try clear hfz71_2
       try clear hfz71_3
       try clear hfz74_0
       try clear hfz74_1
       try clear hfz74_2
       try clear hfz74_3
       try clear hfz92_0
       try clear hfz92_1
       try clear hfz92_2
       try clear hfz92_3
       obtain ⟨kq, x76_80, rfl, HA, HJ80, HO_407000, HO_407001, HO_407002, HO_407003, HO_420000, HO_420001, HO_420002, HO_420003, HO_435000, HO_435001, HO_435002, HO_435003, BK378, BK406, BK419, BK434, HB⟩ := hcut
       have hl420000_80 := (Kd.R_reads' HO_420000.out).1
       rw [hl420000_80] at HO_420000
       (try simp only [hl420000_80])
       (try simp only [hl420000_80] at BK378)
       (try simp only [hl420000_80] at BK406)
       (try simp only [hl420000_80] at BK419)
       (try simp only [hl420000_80] at BK434)
       (try simp only [hl420000_80] at HO_407000)
       (try simp only [hl420000_80] at HO_407001)
       (try simp only [hl420000_80] at HO_407002)
       (try simp only [hl420000_80] at HO_407003)
       (try simp only [hl420000_80] at HO_420001)
       (try simp only [hl420000_80] at HO_420002)
       (try simp only [hl420000_80] at HO_420003)
       (try simp only [hl420000_80] at HO_435000)
       (try simp only [hl420000_80] at HO_435001)
       (try simp only [hl420000_80] at HO_435002)
       (try simp only [hl420000_80] at HO_435003)
       have hl420001_80 := (Kd.R_reads' HO_420001.out).1
       rw [hl420001_80] at HO_420001
       (try simp only [hl420001_80])
       (try simp only [hl420001_80] at BK378)
       (try simp only [hl420001_80] at BK406)
       (try simp only [hl420001_80] at BK419)
       (try simp only [hl420001_80] at BK434)
       (try simp only [hl420001_80] at HO_407000)
       (try simp only [hl420001_80] at HO_407001)
       (try simp only [hl420001_80] at HO_407002)
       (try simp only [hl420001_80] at HO_407003)
       (try simp only [hl420001_80] at HO_420000)
       (try simp only [hl420001_80] at HO_420002)
       (try simp only [hl420001_80] at HO_420003)
       (try simp only [hl420001_80] at HO_435000)
       (try simp only [hl420001_80] at HO_435001)
       (try simp only [hl420001_80] at HO_435002)
       (try simp only [hl420001_80] at HO_435003)
       have hl420002_80 := (Kd.R_reads' HO_420002.out).1
       rw [hl420002_80] at HO_420002
       (try simp only [hl420002_80])
       (try simp only [hl420002_80] at BK378)
       (try simp only [hl420002_80] at BK406)
       (try simp only [hl420002_80] at BK419)
       (try simp only [hl420002_80] at BK434)
       (try simp only [hl420002_80] at HO_407000)
       (try simp only [hl420002_80] at HO_407001)
       (try simp only [hl420002_80] at HO_407002)
       (try simp only [hl420002_80] at HO_407003)
       (try simp only [hl420002_80] at HO_420000)
       (try simp only [hl420002_80] at HO_420001)
       (try simp only [hl420002_80] at HO_420003)
       (try simp only [hl420002_80] at HO_435000)
       (try simp only [hl420002_80] at HO_435001)
       (try simp only [hl420002_80] at HO_435002)
       (try simp only [hl420002_80] at HO_435003)
       have hl420003_80 := (Kd.R_reads' HO_420003.out).1
       rw [hl420003_80] at HO_420003
       (try simp only [hl420003_80])
       (try simp only [hl420003_80] at BK378)
       (try simp only [hl420003_80] at BK406)
       (try simp only [hl420003_80] at BK419)
       (try simp only [hl420003_80] at BK434)
       (try simp only [hl420003_80] at HO_407000)
       (try simp only [hl420003_80] at HO_407001)
       (try simp only [hl420003_80] at HO_407002)
       (try simp only [hl420003_80] at HO_407003)
       (try simp only [hl420003_80] at HO_420000)
       (try simp only [hl420003_80] at HO_420001)
       (try simp only [hl420003_80] at HO_420002)
       (try simp only [hl420003_80] at HO_435000)
       (try simp only [hl420003_80] at HO_435001)
       (try simp only [hl420003_80] at HO_435002)
       (try simp only [hl420003_80] at HO_435003)
       cases kq with
       | zero => exact absurd HA.out (by simp [laws_FnExactStepFocus.j1])
       | succ kj80 =>
        have H := HA.out
        clear HA
        simp only [laws_FnExactStepFocus.j1] at H
        by_cases c122 : x76_80 = true
        ·subst c122
         have H1 : (some false) = some r := by rw [if_pos rfl] at H; exact H
         clear H
         have H := H1
         clear H1
         obtain rfl := Option.some.inj H
         go_wp2
         go_ret
         exact ⟨Q2, Q12⟩
        ·replace c122 := Bool.eq_false_iff.mpr c122
         subst c122
         have H1 : ((laws_markFocus.f kj80 t420 t423 t426 t429 1).bind fun bt455 => ((laws_heldFocus.f kj80 bt455.2.1 bt455.2.2.1 bt455.2.2.2.1 bt455.2.2.2.2 1).bind fun t460 => (if t460 < 0 then (some false) else (if t460 = bt455.1 then ((laws_toFocus.f kj80 l0_0 l0_1 l0_2 l0_3).bind fun bt461 => ((impl_StepFocus.f kj80 bt461.1 bt461.2.1 bt461.2.2.1 bt461.2.2.2).bind fun bt473 => ((laws_eqFocus.f kj80 bt473.1 bt473.2.1 bt473.2.2.1 bt473.2.2.2.1 t392 t395 t398 t401).bind fun t488 => (if t488 = true then (if bt473.2.2.2.2.1 = t404 then (laws_FnExactStepFocus.j2 kj80 bt455.1 (bt473.2.2.2.2.2 != t405) bt455.2.1 bt455.2.2.1 bt455.2.2.2.1 bt455.2.2.2.2) else (laws_FnExactStepFocus.j2 kj80 bt455.1 true bt455.2.1 bt455.2.2.1 bt455.2.2.2.1 bt455.2.2.2.2)) else (laws_FnExactStepFocus.j2 kj80 bt455.1 true bt455.2.1 bt455.2.2.1 bt455.2.2.2.1 bt455.2.2.2.2))))) else (some false))))) = some r := by rw [if_neg (show ¬ (false = true) by decide)] at H; exact H
         clear H
         have H := H1
         clear H1
         replace H := Z36.mp H
         obtain ⟨⟨t455, t456, t457, t458, t459⟩, A1230, H⟩ := H
         replace H : ((laws_heldFocus.f kj80 t456 t457 t458 t459 1).bind fun t460 => (if t460 < 0 then (some false) else (if t460 = t455 then ((laws_toFocus.f kj80 l0_0 l0_1 l0_2 l0_3).bind fun bt461 => ((impl_StepFocus.f kj80 bt461.1 bt461.2.1 bt461.2.2.1 bt461.2.2.2).bind fun bt473 => ((laws_eqFocus.f kj80 bt473.1 bt473.2.1 bt473.2.2.1 bt473.2.2.2.1 t392 t395 t398 t401).bind fun t488 => (if t488 = true then (if bt473.2.2.2.2.1 = t404 then (laws_FnExactStepFocus.j2 kj80 t455 (bt473.2.2.2.2.2 != t405) t456 t457 t458 t459) else (laws_FnExactStepFocus.j2 kj80 t455 true t456 t457 t458 t459)) else (laws_FnExactStepFocus.j2 kj80 t455 true t456 t457 t458 t459))))) else (some false)))) = some r := H
         have A123 := Ya A1230
         clear A1230
         replace H := Z36.mp H
         obtain ⟨t460, A1240, H⟩ := H
         replace H : (if t460 < 0 then (some false) else (if t460 = t455 then ((laws_toFocus.f kj80 l0_0 l0_1 l0_2 l0_3).bind fun bt461 => ((impl_StepFocus.f kj80 bt461.1 bt461.2.1 bt461.2.2.1 bt461.2.2.2).bind fun bt473 => ((laws_eqFocus.f kj80 bt473.1 bt473.2.1 bt473.2.2.1 bt473.2.2.2.1 t392 t395 t398 t401).bind fun t488 => (if t488 = true then (if bt473.2.2.2.2.1 = t404 then (laws_FnExactStepFocus.j2 kj80 t455 (bt473.2.2.2.2.2 != t405) t456 t457 t458 t459) else (laws_FnExactStepFocus.j2 kj80 t455 true t456 t457 t458 t459)) else (laws_FnExactStepFocus.j2 kj80 t455 true t456 t457 t458 t459))))) else (some false))) = some r := H
         have A124 := Ya A1240
         clear A1240
         by_cases c125 : t460 < 0
         ·rw [if_pos c125] at H
          have c125b0 : decide (t460 < 0) = true := Z38 c125
          clear c125
          obtain rfl := Option.some.inj H
          have hnb126 := NB434_378.out
          have hnc126 := NB378_434.out
          have hnb127 := NB434_406.out
          have hnc127 := NB406_434.out
          have hnb128 := NB434_419.out
          have hnc128 := NB419_434.out
          obtain ⟨hcz129_0, hcz129_1, hcz129_2, hcz129_3, hfz129_0, hfz129_1, hfz129_2, hfz129_3⟩ := Y4 BK434.out
          go_wp2_with (first | ((with_reducible refine gate_callee (f := 13) rfl ?_); refine Yz 79 Try.func13 #[.agg #[.slice Ao41 t420.length co41, .slice Ao46 t423.length co46, .slice Ao47 t426.length co47, .slice Ao48 t429.length co48], .int .i64 1] ?_; (with_reducible refine (laws_markFocus.calls kj80 (fun k_ => some k_ = (.slice Ao41 t420.length co41 : Value).ownBlock) (.slice Ao41 t420.length co41) t420 (fun k_ => some k_ = (.slice Ao46 t423.length co46 : Value).ownBlock) (.slice Ao46 t423.length co46) t423 (fun k_ => some k_ = (.slice Ao47 t426.length co47 : Value).ownBlock) (.slice Ao47 t426.length co47) t426 (fun k_ => some k_ = (.slice Ao48 t429.length co48 : Value).ownBlock) (.slice Ao48 t429.length co48) t429 1 t455 t456 t457 t458 t459 w _ ?side1 (Kd.R_tight rfl HO_435000.out) ?side3 ?side4 (Kd.R_tight rfl HO_435001.out) ?side6 ?side7 (Kd.R_tight rfl HO_435002.out) (Kd.R_tight rfl HO_435003.out) ?side10 ?side11 A123.out).mono ?_); (case side1 => repeat (first | (with_reducible first | exact HB.out | apply Z5 | apply Z3 | apply Z4 | refine Z6 ?_ (Aside0.out (by assumption))) | exact HB.out)); (case side3 => exact fun k_ e_ => (HO_435000.out.1 k_ e_.symm).2.2.2.2.2.2.1); (case side4 => exact fun k_ e_ => (HO_435000.out.1 k_ e_.symm).2.2.2.2.2.2.2); (case side6 => exact fun k_ e_ => (HO_435001.out.1 k_ e_.symm).2.2.2.2.2.2.1); (case side7 => exact fun k_ e_ => (HO_435001.out.1 k_ e_.symm).2.2.2.2.2.2.2); (case side10 => exact fun k_ e_ => (HO_435003.out.1 k_ e_.symm).2.2.2.2.2.2.1); (case side11 => exact fun k_ e_ => (HO_435003.out.1 k_ e_.symm).2.2.2.2.2.2.2); rintro e w130 ⟨rfl, hy0, hy1, hy2, hy3, hb, hkp⟩; refine ⟨_, rfl, ?_⟩; replace HO_407000 := Ya (Z11 (ok' := fun k_ => some k_ ≠ (.slice Ao26 t395.length co26 : Value).ownBlock ∧ some k_ ≠ (.slice Ao28 t401.length co28 : Value).ownBlock ∧ some k_ ≠ (.slice Ao32 t450.length co32 : Value).ownBlock ∧ some k_ ≠ (.slice Ao36 t451.length co36 : Value).ownBlock ∧ some k_ ≠ (.slice Ao38 t453.length co38 : Value).ownBlock ∧ some k_ ≠ (.slice Ao41 t420.length co41 : Value).ownBlock ∧ some k_ ≠ (.slice Ao46 t423.length co46 : Value).ownBlock ∧ some k_ ≠ (.slice Ao48 t429.length co48 : Value).ownBlock) (Kd.R_keptB ((Kd.R_apart' HO_407000.out (Kd.R_typed HO_435002.out) (by decide))) hkp (fun k_ hk_ hs_ => Or.elim hs_ (fun e_ => (hk_.1.2.2.2.2.2.1) e_) (fun e_ => Or.elim e_ (fun e_ => (hk_.1.2.2.2.2.2.2.1) e_) (fun e_ => Or.elim e_ (fun e_ => (hk_.2) e_) (fun e_ => (hk_.1.2.2.2.2.2.2.2) e_))))) (fun k_ hk_ => ⟨hk_.1.1.1, hk_.1.1.2.1, hk_.1.1.2.2.1, hk_.1.1.2.2.2.1, hk_.1.1.2.2.2.2.1, hk_.1.1.2.2.2.2.2.1, hk_.1.1.2.2.2.2.2.2.1, hk_.1.1.2.2.2.2.2.2.2⟩)); replace HO_407001 := Ya (Z11 (ok' := fun k_ => some k_ ≠ (.slice Ao23 t392.length co23 : Value).ownBlock ∧ some k_ ≠ (.slice Ao28 t401.length co28 : Value).ownBlock ∧ some k_ ≠ (.slice Ao32 t450.length co32 : Value).ownBlock ∧ some k_ ≠ (.slice Ao36 t451.length co36 : Value).ownBlock ∧ some k_ ≠ (.slice Ao38 t453.length co38 : Value).ownBlock ∧ some k_ ≠ (.slice Ao41 t420.length co41 : Value).ownBlock ∧ some k_ ≠ (.slice Ao46 t423.length co46 : Value).ownBlock ∧ some k_ ≠ (.slice Ao48 t429.length co48 : Value).ownBlock) (Kd.R_keptB ((Kd.R_apart' HO_407001.out (Kd.R_typed HO_435002.out) (by decide))) hkp (fun k_ hk_ hs_ => Or.elim hs_ (fun e_ => (hk_.1.2.2.2.2.2.1) e_) (fun e_ => Or.elim e_ (fun e_ => (hk_.1.2.2.2.2.2.2.1) e_) (fun e_ => Or.elim e_ (fun e_ => (hk_.2) e_) (fun e_ => (hk_.1.2.2.2.2.2.2.2) e_))))) (fun k_ hk_ => ⟨hk_.1.1.1, hk_.1.1.2.1, hk_.1.1.2.2.1, hk_.1.1.2.2.2.1, hk_.1.1.2.2.2.2.1, hk_.1.1.2.2.2.2.2.1, hk_.1.1.2.2.2.2.2.2.1, hk_.1.1.2.2.2.2.2.2.2⟩)); replace HO_407002 := Ya (Z11 (ok' := fun k_ => some k_ ≠ (.slice Ao37 t452.length co37 : Value).ownBlock ∧ some k_ ≠ (.slice Ao47 t426.length co47 : Value).ownBlock) (Kd.R_keptB ((Kd.R_apart' (Kd.R_apart' (Kd.R_apart' HO_407002.out (Kd.R_typed HO_435000.out) (by decide)) (Kd.R_typed HO_435001.out) (by decide)) (Kd.R_typed HO_435003.out) (by decide))) hkp (fun k_ hk_ hs_ => Or.elim hs_ (fun e_ => (hk_.1.1.2) e_) (fun e_ => Or.elim e_ (fun e_ => (hk_.1.2) e_) (fun e_ => Or.elim e_ (fun e_ => (hk_.1.1.1.2) e_) (fun e_ => (hk_.2) e_))))) (fun k_ hk_ => ⟨hk_.1.1.1.1.1, hk_.1.1.1.1.2⟩)); replace HO_407003 := Ya (Z11 (ok' := fun k_ => some k_ ≠ (.slice Ao23 t392.length co23 : Value).ownBlock ∧ some k_ ≠ (.slice Ao26 t395.length co26 : Value).ownBlock ∧ some k_ ≠ (.slice Ao32 t450.length co32 : Value).ownBlock ∧ some k_ ≠ (.slice Ao36 t451.length co36 : Value).ownBlock ∧ some k_ ≠ (.slice Ao38 t453.length co38 : Value).ownBlock ∧ some k_ ≠ (.slice Ao41 t420.length co41 : Value).ownBlock ∧ some k_ ≠ (.slice Ao46 t423.length co46 : Value).ownBlock ∧ some k_ ≠ (.slice Ao48 t429.length co48 : Value).ownBlock) (Kd.R_keptB ((Kd.R_apart' HO_407003.out (Kd.R_typed HO_435002.out) (by decide))) hkp (fun k_ hk_ hs_ => Or.elim hs_ (fun e_ => (hk_.1.2.2.2.2.2.1) e_) (fun e_ => Or.elim e_ (fun e_ => (hk_.1.2.2.2.2.2.2.1) e_) (fun e_ => Or.elim e_ (fun e_ => (hk_.2) e_) (fun e_ => (hk_.1.2.2.2.2.2.2.2) e_))))) (fun k_ hk_ => ⟨hk_.1.1.1, hk_.1.1.2.1, hk_.1.1.2.2.1, hk_.1.1.2.2.2.1, hk_.1.1.2.2.2.2.1, hk_.1.1.2.2.2.2.2.1, hk_.1.1.2.2.2.2.2.2.1, hk_.1.1.2.2.2.2.2.2.2⟩)); replace HO_420000 := Ya (Z11 (ok' := fun k_ => some k_ ≠ (.slice Ao23 t392.length co23 : Value).ownBlock ∧ some k_ ≠ (.slice Ao26 t395.length co26 : Value).ownBlock ∧ some k_ ≠ (.slice Ao28 t401.length co28 : Value).ownBlock ∧ some k_ ≠ (.slice Ao36 t451.length co36 : Value).ownBlock ∧ some k_ ≠ (.slice Ao38 t453.length co38 : Value).ownBlock ∧ some k_ ≠ (.slice Ao41 t420.length co41 : Value).ownBlock ∧ some k_ ≠ (.slice Ao46 t423.length co46 : Value).ownBlock ∧ some k_ ≠ (.slice Ao48 t429.length co48 : Value).ownBlock) (Kd.R_keptB ((Kd.R_apart' HO_420000.out (Kd.R_typed HO_435002.out) (by decide))) hkp (fun k_ hk_ hs_ => Or.elim hs_ (fun e_ => (hk_.1.2.2.2.2.2.1) e_) (fun e_ => Or.elim e_ (fun e_ => (hk_.1.2.2.2.2.2.2.1) e_) (fun e_ => Or.elim e_ (fun e_ => (hk_.2) e_) (fun e_ => (hk_.1.2.2.2.2.2.2.2) e_))))) (fun k_ hk_ => ⟨hk_.1.1.1, hk_.1.1.2.1, hk_.1.1.2.2.1, hk_.1.1.2.2.2.1, hk_.1.1.2.2.2.2.1, hk_.1.1.2.2.2.2.2.1, hk_.1.1.2.2.2.2.2.2.1, hk_.1.1.2.2.2.2.2.2.2⟩)); replace HO_420001 := Ya (Z11 (ok' := fun k_ => some k_ ≠ (.slice Ao23 t392.length co23 : Value).ownBlock ∧ some k_ ≠ (.slice Ao26 t395.length co26 : Value).ownBlock ∧ some k_ ≠ (.slice Ao28 t401.length co28 : Value).ownBlock ∧ some k_ ≠ (.slice Ao32 t450.length co32 : Value).ownBlock ∧ some k_ ≠ (.slice Ao38 t453.length co38 : Value).ownBlock ∧ some k_ ≠ (.slice Ao41 t420.length co41 : Value).ownBlock ∧ some k_ ≠ (.slice Ao46 t423.length co46 : Value).ownBlock ∧ some k_ ≠ (.slice Ao48 t429.length co48 : Value).ownBlock) (Kd.R_keptB ((Kd.R_apart' HO_420001.out (Kd.R_typed HO_435002.out) (by decide))) hkp (fun k_ hk_ hs_ => Or.elim hs_ (fun e_ => (hk_.1.2.2.2.2.2.1) e_) (fun e_ => Or.elim e_ (fun e_ => (hk_.1.2.2.2.2.2.2.1) e_) (fun e_ => Or.elim e_ (fun e_ => (hk_.2) e_) (fun e_ => (hk_.1.2.2.2.2.2.2.2) e_))))) (fun k_ hk_ => ⟨hk_.1.1.1, hk_.1.1.2.1, hk_.1.1.2.2.1, hk_.1.1.2.2.2.1, hk_.1.1.2.2.2.2.1, hk_.1.1.2.2.2.2.2.1, hk_.1.1.2.2.2.2.2.2.1, hk_.1.1.2.2.2.2.2.2.2⟩)); replace HO_420002 := Ya (Z11 (ok' := fun k_ => some k_ ≠ (.slice Ao27 t398.length co27 : Value).ownBlock ∧ some k_ ≠ (.slice Ao47 t426.length co47 : Value).ownBlock) (Kd.R_keptB ((Kd.R_apart' (Kd.R_apart' (Kd.R_apart' HO_420002.out (Kd.R_typed HO_435000.out) (by decide)) (Kd.R_typed HO_435001.out) (by decide)) (Kd.R_typed HO_435003.out) (by decide))) hkp (fun k_ hk_ hs_ => Or.elim hs_ (fun e_ => (hk_.1.1.2) e_) (fun e_ => Or.elim e_ (fun e_ => (hk_.1.2) e_) (fun e_ => Or.elim e_ (fun e_ => (hk_.1.1.1.2) e_) (fun e_ => (hk_.2) e_))))) (fun k_ hk_ => ⟨hk_.1.1.1.1.1, hk_.1.1.1.1.2⟩)); replace HO_420003 := Ya (Z11 (ok' := fun k_ => some k_ ≠ (.slice Ao23 t392.length co23 : Value).ownBlock ∧ some k_ ≠ (.slice Ao26 t395.length co26 : Value).ownBlock ∧ some k_ ≠ (.slice Ao28 t401.length co28 : Value).ownBlock ∧ some k_ ≠ (.slice Ao32 t450.length co32 : Value).ownBlock ∧ some k_ ≠ (.slice Ao36 t451.length co36 : Value).ownBlock ∧ some k_ ≠ (.slice Ao41 t420.length co41 : Value).ownBlock ∧ some k_ ≠ (.slice Ao46 t423.length co46 : Value).ownBlock ∧ some k_ ≠ (.slice Ao48 t429.length co48 : Value).ownBlock) (Kd.R_keptB ((Kd.R_apart' HO_420003.out (Kd.R_typed HO_435002.out) (by decide))) hkp (fun k_ hk_ hs_ => Or.elim hs_ (fun e_ => (hk_.1.2.2.2.2.2.1) e_) (fun e_ => Or.elim e_ (fun e_ => (hk_.1.2.2.2.2.2.2.1) e_) (fun e_ => Or.elim e_ (fun e_ => (hk_.2) e_) (fun e_ => (hk_.1.2.2.2.2.2.2.2) e_))))) (fun k_ hk_ => ⟨hk_.1.1.1, hk_.1.1.2.1, hk_.1.1.2.2.1, hk_.1.1.2.2.2.1, hk_.1.1.2.2.2.2.1, hk_.1.1.2.2.2.2.2.1, hk_.1.1.2.2.2.2.2.2.1, hk_.1.1.2.2.2.2.2.2.2⟩)); replace BK378 := Ya (blk_kept (Yk BK378.out) hkp (fun hs_ => Or.elim hs_ (fun e_ => (fun e_ => (Kd.R_ne HO_435000.out BK378.out (by decide)) e_) e_) (fun e_ => Or.elim e_ (fun e_ => (fun e_ => (Kd.R_ne HO_435001.out BK378.out (by decide)) e_) e_) (fun e_ => Or.elim e_ (fun e_ => (fun e_ => (Kd.R_ne HO_435002.out BK378.out (by decide)) e_) e_) (fun e_ => (fun e_ => (Kd.R_ne HO_435003.out BK378.out (by decide)) e_) e_))))); replace BK406 := Ya (blk_kept (Yk BK406.out) hkp (fun hs_ => Or.elim hs_ (fun e_ => (fun e_ => (Kd.R_ne HO_435000.out BK406.out (by decide)) e_) e_) (fun e_ => Or.elim e_ (fun e_ => (fun e_ => (Kd.R_ne HO_435001.out BK406.out (by decide)) e_) e_) (fun e_ => Or.elim e_ (fun e_ => (fun e_ => (Kd.R_ne HO_435002.out BK406.out (by decide)) e_) e_) (fun e_ => (fun e_ => (Kd.R_ne HO_435003.out BK406.out (by decide)) e_) e_))))); replace BK419 := Ya (blk_kept (Yk BK419.out) hkp (fun hs_ => Or.elim hs_ (fun e_ => (fun e_ => (Kd.R_ne HO_435000.out BK419.out (by decide)) e_) e_) (fun e_ => Or.elim e_ (fun e_ => (fun e_ => (Kd.R_ne HO_435001.out BK419.out (by decide)) e_) e_) (fun e_ => Or.elim e_ (fun e_ => (fun e_ => (Kd.R_ne HO_435002.out BK419.out (by decide)) e_) e_) (fun e_ => (fun e_ => (Kd.R_ne HO_435003.out BK419.out (by decide)) e_) e_))))); replace BK434 := Ya (blk_kept (Yk BK434.out) hkp (fun hs_ => Or.elim hs_ (fun e_ => (fun e_ => (Kd.R_ne HO_435000.out BK434.out (by decide)) e_) e_) (fun e_ => Or.elim e_ (fun e_ => (fun e_ => (Kd.R_ne HO_435001.out BK434.out (by decide)) e_) e_) (fun e_ => Or.elim e_ (fun e_ => (fun e_ => (Kd.R_ne HO_435002.out BK434.out (by decide)) e_) e_) (fun e_ => (fun e_ => (Kd.R_ne HO_435003.out BK434.out (by decide)) e_) e_))))); replace HO_435000 := Ya (Kd.R_reok rfl hy0 (fun k_ e_ => HO_435000.out.1 k_ e_)); replace HO_435001 := Ya (Kd.R_reok rfl hy1 (fun k_ e_ => HO_435001.out.1 k_ e_)); replace HO_435002 := Ya (Kd.R_reok rfl hy2 (fun k_ e_ => HO_435002.out.1 k_ e_)); replace HO_435003 := Ya (Kd.R_reok rfl hy3 (fun k_ e_ => HO_435003.out.1 k_ e_)); replace HB := Ya hb; obtain ⟨hcz131_0, hcz131_1, hcz131_2, hcz131_3, hfz131_0, hfz131_1, hfz131_2, hfz131_3⟩ := Y4 BK434.out) | ((with_reducible refine gate_callee (f := 14) rfl ?_); refine Yz 82 Try.func14 #[.agg #[.slice Ao41 t456.length co41, .slice Ao46 t457.length co46, .slice Ao47 t458.length co47, .slice Ao48 t459.length co48], .int .i64 1] ?_ (hargs := Q27); (with_reducible refine (laws_heldFocus.calls kj80 _ _ t456 _ _ t457 _ _ t458 _ _ t459 1 t460 _ (Yc (Kd.R_reads' HO_435000.out).2.2) ?side2 (Yc (Kd.R_reads' HO_435001.out).2.2) ?side4 (Yc (Kd.R_reads' HO_435002.out).2.2) ?side6 (Yc (Kd.R_reads' HO_435003.out).2.2) ?side8 A124.out).mono ?_); (case side2 => rw [show t456.length = t420.length from (Kd.R_reads' HO_435000.out).1.symm]; exact (Kd.R_reads' HO_435000.out).2.1); (case side4 => rw [show t457.length = t423.length from (Kd.R_reads' HO_435001.out).1.symm]; exact (Kd.R_reads' HO_435001.out).2.1); (case side6 => rw [show t458.length = t426.length from (Kd.R_reads' HO_435002.out).1.symm]; exact (Kd.R_reads' HO_435002.out).2.1); (case side8 => rw [show t459.length = t429.length from (Kd.R_reads' HO_435003.out).1.symm]; exact (Kd.R_reads' HO_435003.out).2.1); rintro e w132 ⟨rfl, hb⟩; refine ⟨_, rfl, ?_⟩; replace HO_407000 := Yw HO_407000 hb; replace HO_407001 := Yw HO_407001 hb; replace HO_407002 := Yw HO_407002 hb; replace HO_407003 := Yw HO_407003 hb; replace HO_420000 := Yw HO_420000 hb; replace HO_420001 := Yw HO_420001 hb; replace HO_420002 := Yw HO_420002 hb; replace HO_420003 := Yw HO_420003 hb; replace HO_435000 := Yw HO_435000 hb; replace HO_435001 := Yw HO_435001 hb; replace HO_435002 := Yw HO_435002 hb; replace HO_435003 := Yw HO_435003 hb; replace BK378 := Yb BK378 hb; replace BK406 := Yb BK406 hb; replace BK419 := Yb BK419 hb; replace BK434 := Yb BK434 hb; replace HB := Yh hb; (try clear hb)))
          go_ret
          exact ⟨Q2, Q12⟩
         ·rw [if_neg c125] at H
          have c125b0 : decide (t460 < 0) = false := Z37 c125
          clear c125
          by_cases c133 : t460 = t455
          ·rw [if_pos c133] at H
           have c133b0 : (t460 == t455) = true := beq_iff_eq.mpr c133
           have c133b1 : (t460 != t455) = false := bne_eq_false_iff_eq.mpr c133
           clear c133
           replace H := Z36.mp H
           obtain ⟨⟨t461, t464, t467, t470⟩, A1340, H⟩ := H
           replace H : ((impl_StepFocus.f kj80 t461 t464 t467 t470).bind fun bt473 => ((laws_eqFocus.f kj80 bt473.1 bt473.2.1 bt473.2.2.1 bt473.2.2.2.1 t392 t395 t398 t401).bind fun t488 => (if t488 = true then (if bt473.2.2.2.2.1 = t404 then (laws_FnExactStepFocus.j2 kj80 t455 (bt473.2.2.2.2.2 != t405) t456 t457 t458 t459) else (laws_FnExactStepFocus.j2 kj80 t455 true t456 t457 t458 t459)) else (laws_FnExactStepFocus.j2 kj80 t455 true t456 t457 t458 t459)))) = some r := H
           have A134 := Ya A1340
           clear A1340
           replace H := Z36.mp H
           obtain ⟨⟨t473, t476, t479, t482, t485, t486⟩, A1350, H⟩ := H
           replace H : ((laws_eqFocus.f kj80 t473 t476 t479 t482 t392 t395 t398 t401).bind fun t488 => (if t488 = true then (if t485 = t404 then (laws_FnExactStepFocus.j2 kj80 t455 (t486 != t405) t456 t457 t458 t459) else (laws_FnExactStepFocus.j2 kj80 t455 true t456 t457 t458 t459)) else (laws_FnExactStepFocus.j2 kj80 t455 true t456 t457 t458 t459))) = some r := H
           have A135 := Ya A1350
           clear A1350
           have HC136 := Ya H
           clear H
           have hnb137 := NB434_378.out
           have hnc137 := NB378_434.out
           have hnb138 := NB434_406.out
           have hnc138 := NB406_434.out
           have hnb139 := NB434_419.out
           have hnc139 := NB419_434.out
           obtain ⟨hcz140_0, hcz140_1, hcz140_2, hcz140_3, hfz140_0, hfz140_1, hfz140_2, hfz140_3⟩ := Y4 BK434.out
           go_upto_region 25 with (first | ((with_reducible refine gate_callee (f := 13) rfl ?_); refine Yz 79 Try.func13 #[.agg #[.slice Ao41 t420.length co41, .slice Ao46 t423.length co46, .slice Ao47 t426.length co47, .slice Ao48 t429.length co48], .int .i64 1] ?_; (with_reducible refine (laws_markFocus.calls kj80 (fun k_ => some k_ = (.slice Ao41 t420.length co41 : Value).ownBlock) (.slice Ao41 t420.length co41) t420 (fun k_ => some k_ = (.slice Ao46 t423.length co46 : Value).ownBlock) (.slice Ao46 t423.length co46) t423 (fun k_ => some k_ = (.slice Ao47 t426.length co47 : Value).ownBlock) (.slice Ao47 t426.length co47) t426 (fun k_ => some k_ = (.slice Ao48 t429.length co48 : Value).ownBlock) (.slice Ao48 t429.length co48) t429 1 t455 t456 t457 t458 t459 w _ ?side1 (Kd.R_tight rfl HO_435000.out) ?side3 ?side4 (Kd.R_tight rfl HO_435001.out) ?side6 ?side7 (Kd.R_tight rfl HO_435002.out) (Kd.R_tight rfl HO_435003.out) ?side10 ?side11 A123.out).mono ?_); (case side1 => repeat (first | (with_reducible first | exact HB.out | apply Z5 | apply Z3 | apply Z4 | refine Z6 ?_ (Aside0.out (by assumption))) | exact HB.out)); (case side3 => exact fun k_ e_ => (HO_435000.out.1 k_ e_.symm).2.2.2.2.2.2.1); (case side4 => exact fun k_ e_ => (HO_435000.out.1 k_ e_.symm).2.2.2.2.2.2.2); (case side6 => exact fun k_ e_ => (HO_435001.out.1 k_ e_.symm).2.2.2.2.2.2.1); (case side7 => exact fun k_ e_ => (HO_435001.out.1 k_ e_.symm).2.2.2.2.2.2.2); (case side10 => exact fun k_ e_ => (HO_435003.out.1 k_ e_.symm).2.2.2.2.2.2.1); (case side11 => exact fun k_ e_ => (HO_435003.out.1 k_ e_.symm).2.2.2.2.2.2.2); rintro e w141 ⟨rfl, hy0, hy1, hy2, hy3, hb, hkp⟩; refine ⟨_, rfl, ?_⟩; replace HO_407000 := Ya (Z11 (ok' := fun k_ => some k_ ≠ (.slice Ao26 t395.length co26 : Value).ownBlock ∧ some k_ ≠ (.slice Ao28 t401.length co28 : Value).ownBlock ∧ some k_ ≠ (.slice Ao32 t450.length co32 : Value).ownBlock ∧ some k_ ≠ (.slice Ao36 t451.length co36 : Value).ownBlock ∧ some k_ ≠ (.slice Ao38 t453.length co38 : Value).ownBlock ∧ some k_ ≠ (.slice Ao41 t420.length co41 : Value).ownBlock ∧ some k_ ≠ (.slice Ao46 t423.length co46 : Value).ownBlock ∧ some k_ ≠ (.slice Ao48 t429.length co48 : Value).ownBlock) (Kd.R_keptB ((Kd.R_apart' HO_407000.out (Kd.R_typed HO_435002.out) (by decide))) hkp (fun k_ hk_ hs_ => Or.elim hs_ (fun e_ => (hk_.1.2.2.2.2.2.1) e_) (fun e_ => Or.elim e_ (fun e_ => (hk_.1.2.2.2.2.2.2.1) e_) (fun e_ => Or.elim e_ (fun e_ => (hk_.2) e_) (fun e_ => (hk_.1.2.2.2.2.2.2.2) e_))))) (fun k_ hk_ => ⟨hk_.1.1.1, hk_.1.1.2.1, hk_.1.1.2.2.1, hk_.1.1.2.2.2.1, hk_.1.1.2.2.2.2.1, hk_.1.1.2.2.2.2.2.1, hk_.1.1.2.2.2.2.2.2.1, hk_.1.1.2.2.2.2.2.2.2⟩)); replace HO_407001 := Ya (Z11 (ok' := fun k_ => some k_ ≠ (.slice Ao23 t392.length co23 : Value).ownBlock ∧ some k_ ≠ (.slice Ao28 t401.length co28 : Value).ownBlock ∧ some k_ ≠ (.slice Ao32 t450.length co32 : Value).ownBlock ∧ some k_ ≠ (.slice Ao36 t451.length co36 : Value).ownBlock ∧ some k_ ≠ (.slice Ao38 t453.length co38 : Value).ownBlock ∧ some k_ ≠ (.slice Ao41 t420.length co41 : Value).ownBlock ∧ some k_ ≠ (.slice Ao46 t423.length co46 : Value).ownBlock ∧ some k_ ≠ (.slice Ao48 t429.length co48 : Value).ownBlock) (Kd.R_keptB ((Kd.R_apart' HO_407001.out (Kd.R_typed HO_435002.out) (by decide))) hkp (fun k_ hk_ hs_ => Or.elim hs_ (fun e_ => (hk_.1.2.2.2.2.2.1) e_) (fun e_ => Or.elim e_ (fun e_ => (hk_.1.2.2.2.2.2.2.1) e_) (fun e_ => Or.elim e_ (fun e_ => (hk_.2) e_) (fun e_ => (hk_.1.2.2.2.2.2.2.2) e_))))) (fun k_ hk_ => ⟨hk_.1.1.1, hk_.1.1.2.1, hk_.1.1.2.2.1, hk_.1.1.2.2.2.1, hk_.1.1.2.2.2.2.1, hk_.1.1.2.2.2.2.2.1, hk_.1.1.2.2.2.2.2.2.1, hk_.1.1.2.2.2.2.2.2.2⟩)); replace HO_407002 := Ya (Z11 (ok' := fun k_ => some k_ ≠ (.slice Ao37 t452.length co37 : Value).ownBlock ∧ some k_ ≠ (.slice Ao47 t426.length co47 : Value).ownBlock) (Kd.R_keptB ((Kd.R_apart' (Kd.R_apart' (Kd.R_apart' HO_407002.out (Kd.R_typed HO_435000.out) (by decide)) (Kd.R_typed HO_435001.out) (by decide)) (Kd.R_typed HO_435003.out) (by decide))) hkp (fun k_ hk_ hs_ => Or.elim hs_ (fun e_ => (hk_.1.1.2) e_) (fun e_ => Or.elim e_ (fun e_ => (hk_.1.2) e_) (fun e_ => Or.elim e_ (fun e_ => (hk_.1.1.1.2) e_) (fun e_ => (hk_.2) e_))))) (fun k_ hk_ => ⟨hk_.1.1.1.1.1, hk_.1.1.1.1.2⟩)); replace HO_407003 := Ya (Z11 (ok' := fun k_ => some k_ ≠ (.slice Ao23 t392.length co23 : Value).ownBlock ∧ some k_ ≠ (.slice Ao26 t395.length co26 : Value).ownBlock ∧ some k_ ≠ (.slice Ao32 t450.length co32 : Value).ownBlock ∧ some k_ ≠ (.slice Ao36 t451.length co36 : Value).ownBlock ∧ some k_ ≠ (.slice Ao38 t453.length co38 : Value).ownBlock ∧ some k_ ≠ (.slice Ao41 t420.length co41 : Value).ownBlock ∧ some k_ ≠ (.slice Ao46 t423.length co46 : Value).ownBlock ∧ some k_ ≠ (.slice Ao48 t429.length co48 : Value).ownBlock) (Kd.R_keptB ((Kd.R_apart' HO_407003.out (Kd.R_typed HO_435002.out) (by decide))) hkp (fun k_ hk_ hs_ => Or.elim hs_ (fun e_ => (hk_.1.2.2.2.2.2.1) e_) (fun e_ => Or.elim e_ (fun e_ => (hk_.1.2.2.2.2.2.2.1) e_) (fun e_ => Or.elim e_ (fun e_ => (hk_.2) e_) (fun e_ => (hk_.1.2.2.2.2.2.2.2) e_))))) (fun k_ hk_ => ⟨hk_.1.1.1, hk_.1.1.2.1, hk_.1.1.2.2.1, hk_.1.1.2.2.2.1, hk_.1.1.2.2.2.2.1, hk_.1.1.2.2.2.2.2.1, hk_.1.1.2.2.2.2.2.2.1, hk_.1.1.2.2.2.2.2.2.2⟩)); replace HO_420000 := Ya (Z11 (ok' := fun k_ => some k_ ≠ (.slice Ao23 t392.length co23 : Value).ownBlock ∧ some k_ ≠ (.slice Ao26 t395.length co26 : Value).ownBlock ∧ some k_ ≠ (.slice Ao28 t401.length co28 : Value).ownBlock ∧ some k_ ≠ (.slice Ao36 t451.length co36 : Value).ownBlock ∧ some k_ ≠ (.slice Ao38 t453.length co38 : Value).ownBlock ∧ some k_ ≠ (.slice Ao41 t420.length co41 : Value).ownBlock ∧ some k_ ≠ (.slice Ao46 t423.length co46 : Value).ownBlock ∧ some k_ ≠ (.slice Ao48 t429.length co48 : Value).ownBlock) (Kd.R_keptB ((Kd.R_apart' HO_420000.out (Kd.R_typed HO_435002.out) (by decide))) hkp (fun k_ hk_ hs_ => Or.elim hs_ (fun e_ => (hk_.1.2.2.2.2.2.1) e_) (fun e_ => Or.elim e_ (fun e_ => (hk_.1.2.2.2.2.2.2.1) e_) (fun e_ => Or.elim e_ (fun e_ => (hk_.2) e_) (fun e_ => (hk_.1.2.2.2.2.2.2.2) e_))))) (fun k_ hk_ => ⟨hk_.1.1.1, hk_.1.1.2.1, hk_.1.1.2.2.1, hk_.1.1.2.2.2.1, hk_.1.1.2.2.2.2.1, hk_.1.1.2.2.2.2.2.1, hk_.1.1.2.2.2.2.2.2.1, hk_.1.1.2.2.2.2.2.2.2⟩)); replace HO_420001 := Ya (Z11 (ok' := fun k_ => some k_ ≠ (.slice Ao23 t392.length co23 : Value).ownBlock ∧ some k_ ≠ (.slice Ao26 t395.length co26 : Value).ownBlock ∧ some k_ ≠ (.slice Ao28 t401.length co28 : Value).ownBlock ∧ some k_ ≠ (.slice Ao32 t450.length co32 : Value).ownBlock ∧ some k_ ≠ (.slice Ao38 t453.length co38 : Value).ownBlock ∧ some k_ ≠ (.slice Ao41 t420.length co41 : Value).ownBlock ∧ some k_ ≠ (.slice Ao46 t423.length co46 : Value).ownBlock ∧ some k_ ≠ (.slice Ao48 t429.length co48 : Value).ownBlock) (Kd.R_keptB ((Kd.R_apart' HO_420001.out (Kd.R_typed HO_435002.out) (by decide))) hkp (fun k_ hk_ hs_ => Or.elim hs_ (fun e_ => (hk_.1.2.2.2.2.2.1) e_) (fun e_ => Or.elim e_ (fun e_ => (hk_.1.2.2.2.2.2.2.1) e_) (fun e_ => Or.elim e_ (fun e_ => (hk_.2) e_) (fun e_ => (hk_.1.2.2.2.2.2.2.2) e_))))) (fun k_ hk_ => ⟨hk_.1.1.1, hk_.1.1.2.1, hk_.1.1.2.2.1, hk_.1.1.2.2.2.1, hk_.1.1.2.2.2.2.1, hk_.1.1.2.2.2.2.2.1, hk_.1.1.2.2.2.2.2.2.1, hk_.1.1.2.2.2.2.2.2.2⟩)); replace HO_420002 := Ya (Z11 (ok' := fun k_ => some k_ ≠ (.slice Ao27 t398.length co27 : Value).ownBlock ∧ some k_ ≠ (.slice Ao47 t426.length co47 : Value).ownBlock) (Kd.R_keptB ((Kd.R_apart' (Kd.R_apart' (Kd.R_apart' HO_420002.out (Kd.R_typed HO_435000.out) (by decide)) (Kd.R_typed HO_435001.out) (by decide)) (Kd.R_typed HO_435003.out) (by decide))) hkp (fun k_ hk_ hs_ => Or.elim hs_ (fun e_ => (hk_.1.1.2) e_) (fun e_ => Or.elim e_ (fun e_ => (hk_.1.2) e_) (fun e_ => Or.elim e_ (fun e_ => (hk_.1.1.1.2) e_) (fun e_ => (hk_.2) e_))))) (fun k_ hk_ => ⟨hk_.1.1.1.1.1, hk_.1.1.1.1.2⟩)); replace HO_420003 := Ya (Z11 (ok' := fun k_ => some k_ ≠ (.slice Ao23 t392.length co23 : Value).ownBlock ∧ some k_ ≠ (.slice Ao26 t395.length co26 : Value).ownBlock ∧ some k_ ≠ (.slice Ao28 t401.length co28 : Value).ownBlock ∧ some k_ ≠ (.slice Ao32 t450.length co32 : Value).ownBlock ∧ some k_ ≠ (.slice Ao36 t451.length co36 : Value).ownBlock ∧ some k_ ≠ (.slice Ao41 t420.length co41 : Value).ownBlock ∧ some k_ ≠ (.slice Ao46 t423.length co46 : Value).ownBlock ∧ some k_ ≠ (.slice Ao48 t429.length co48 : Value).ownBlock) (Kd.R_keptB ((Kd.R_apart' HO_420003.out (Kd.R_typed HO_435002.out) (by decide))) hkp (fun k_ hk_ hs_ => Or.elim hs_ (fun e_ => (hk_.1.2.2.2.2.2.1) e_) (fun e_ => Or.elim e_ (fun e_ => (hk_.1.2.2.2.2.2.2.1) e_) (fun e_ => Or.elim e_ (fun e_ => (hk_.2) e_) (fun e_ => (hk_.1.2.2.2.2.2.2.2) e_))))) (fun k_ hk_ => ⟨hk_.1.1.1, hk_.1.1.2.1, hk_.1.1.2.2.1, hk_.1.1.2.2.2.1, hk_.1.1.2.2.2.2.1, hk_.1.1.2.2.2.2.2.1, hk_.1.1.2.2.2.2.2.2.1, hk_.1.1.2.2.2.2.2.2.2⟩)); replace BK378 := Ya (blk_kept (Yk BK378.out) hkp (fun hs_ => Or.elim hs_ (fun e_ => (fun e_ => (Kd.R_ne HO_435000.out BK378.out (by decide)) e_) e_) (fun e_ => Or.elim e_ (fun e_ => (fun e_ => (Kd.R_ne HO_435001.out BK378.out (by decide)) e_) e_) (fun e_ => Or.elim e_ (fun e_ => (fun e_ => (Kd.R_ne HO_435002.out BK378.out (by decide)) e_) e_) (fun e_ => (fun e_ => (Kd.R_ne HO_435003.out BK378.out (by decide)) e_) e_))))); replace BK406 := Ya (blk_kept (Yk BK406.out) hkp (fun hs_ => Or.elim hs_ (fun e_ => (fun e_ => (Kd.R_ne HO_435000.out BK406.out (by decide)) e_) e_) (fun e_ => Or.elim e_ (fun e_ => (fun e_ => (Kd.R_ne HO_435001.out BK406.out (by decide)) e_) e_) (fun e_ => Or.elim e_ (fun e_ => (fun e_ => (Kd.R_ne HO_435002.out BK406.out (by decide)) e_) e_) (fun e_ => (fun e_ => (Kd.R_ne HO_435003.out BK406.out (by decide)) e_) e_))))); replace BK419 := Ya (blk_kept (Yk BK419.out) hkp (fun hs_ => Or.elim hs_ (fun e_ => (fun e_ => (Kd.R_ne HO_435000.out BK419.out (by decide)) e_) e_) (fun e_ => Or.elim e_ (fun e_ => (fun e_ => (Kd.R_ne HO_435001.out BK419.out (by decide)) e_) e_) (fun e_ => Or.elim e_ (fun e_ => (fun e_ => (Kd.R_ne HO_435002.out BK419.out (by decide)) e_) e_) (fun e_ => (fun e_ => (Kd.R_ne HO_435003.out BK419.out (by decide)) e_) e_))))); replace BK434 := Ya (blk_kept (Yk BK434.out) hkp (fun hs_ => Or.elim hs_ (fun e_ => (fun e_ => (Kd.R_ne HO_435000.out BK434.out (by decide)) e_) e_) (fun e_ => Or.elim e_ (fun e_ => (fun e_ => (Kd.R_ne HO_435001.out BK434.out (by decide)) e_) e_) (fun e_ => Or.elim e_ (fun e_ => (fun e_ => (Kd.R_ne HO_435002.out BK434.out (by decide)) e_) e_) (fun e_ => (fun e_ => (Kd.R_ne HO_435003.out BK434.out (by decide)) e_) e_))))); replace HO_435000 := Ya (Kd.R_reok rfl hy0 (fun k_ e_ => HO_435000.out.1 k_ e_)); replace HO_435001 := Ya (Kd.R_reok rfl hy1 (fun k_ e_ => HO_435001.out.1 k_ e_)); replace HO_435002 := Ya (Kd.R_reok rfl hy2 (fun k_ e_ => HO_435002.out.1 k_ e_)); replace HO_435003 := Ya (Kd.R_reok rfl hy3 (fun k_ e_ => HO_435003.out.1 k_ e_)); replace HB := Ya hb; obtain ⟨hcz142_0, hcz142_1, hcz142_2, hcz142_3, hfz142_0, hfz142_1, hfz142_2, hfz142_3⟩ := Y4 BK434.out) | ((with_reducible refine gate_callee (f := 14) rfl ?_); refine Yz 82 Try.func14 #[.agg #[.slice Ao41 t456.length co41, .slice Ao46 t457.length co46, .slice Ao47 t458.length co47, .slice Ao48 t459.length co48], .int .i64 1] ?_ (hargs := Q27); (with_reducible refine (laws_heldFocus.calls kj80 _ _ t456 _ _ t457 _ _ t458 _ _ t459 1 t460 _ (Yc (Kd.R_reads' HO_435000.out).2.2) ?side2 (Yc (Kd.R_reads' HO_435001.out).2.2) ?side4 (Yc (Kd.R_reads' HO_435002.out).2.2) ?side6 (Yc (Kd.R_reads' HO_435003.out).2.2) ?side8 A124.out).mono ?_); (case side2 => rw [show t456.length = t420.length from (Kd.R_reads' HO_435000.out).1.symm]; exact (Kd.R_reads' HO_435000.out).2.1); (case side4 => rw [show t457.length = t423.length from (Kd.R_reads' HO_435001.out).1.symm]; exact (Kd.R_reads' HO_435001.out).2.1); (case side6 => rw [show t458.length = t426.length from (Kd.R_reads' HO_435002.out).1.symm]; exact (Kd.R_reads' HO_435002.out).2.1); (case side8 => rw [show t459.length = t429.length from (Kd.R_reads' HO_435003.out).1.symm]; exact (Kd.R_reads' HO_435003.out).2.1); rintro e w143 ⟨rfl, hb⟩; refine ⟨_, rfl, ?_⟩; replace HO_407000 := Yw HO_407000 hb; replace HO_407001 := Yw HO_407001 hb; replace HO_407002 := Yw HO_407002 hb; replace HO_407003 := Yw HO_407003 hb; replace HO_420000 := Yw HO_420000 hb; replace HO_420001 := Yw HO_420001 hb; replace HO_420002 := Yw HO_420002 hb; replace HO_420003 := Yw HO_420003 hb; replace HO_435000 := Yw HO_435000 hb; replace HO_435001 := Yw HO_435001 hb; replace HO_435002 := Yw HO_435002 hb; replace HO_435003 := Yw HO_435003 hb; replace BK378 := Yb BK378 hb; replace BK406 := Yb BK406 hb; replace BK419 := Yb BK419 hb; replace BK434 := Yb BK434 hb; replace HB := Yh hb; (try clear hb); have hnb144 := NB378_406.out; have hnc144 := NB406_378.out; have hnb145 := NB378_419.out; have hnc145 := NB419_378.out; obtain ⟨hcz146_0, hcz146_1, hcz146_2, hcz146_3, hfz146_0, hfz146_1, hfz146_2, hfz146_3⟩ := Y4 BK378.out) | ((with_reducible refine gate_callee (f := 10) rfl ?_); refine Yz 90 Try.func10 #[.agg #[.slice A0_0 l0_0.length c0_0, .slice A0_1 l0_1.length c0_1, .slice A0_2 l0_2.length c0_2, .slice A0_3 l0_3.length c0_3]] ?_; (with_reducible refine (laws_toFocus.calls kj80 _ _ l0_0 _ _ l0_1 _ _ l0_2 _ _ l0_3 t461 t464 t467 t470 _ (Yc (Z22 HR0_0.out HB.out)) HC0_0.out (Yc (Z22 HR0_1.out HB.out)) HC0_1.out (Yc (Z22 HR0_2.out HB.out)) HC0_2.out (Yc (Z22 HR0_3.out HB.out)) HC0_3.out A134.out).mono ?_); rintro e w147 ⟨v462, v465, v468, v471, rfl, ho0, ho1, ho2, ho3, hb⟩; refine ⟨_, rfl, ?_⟩; have HO463 := Yl (Kd.R_new' (Kd.R_new' (Kd.R_new' (Kd.R_new' (Kd.R_new' (Kd.R_new' (Kd.R_new' (Kd.R_new' (Kd.R_new' ho0 (Z17 (Yr HO_407000.out))) (Z17 (Yr HO_407001.out))) (Z17 (Yr HO_407003.out))) (Z17 (Yr HO_420000.out))) (Z17 (Yr HO_420001.out))) (Z17 (Yr HO_420003.out))) (Z17 (Yr HO_435000.out))) (Z17 (Yr HO_435001.out))) (Z17 (Yr HO_435003.out))); have HO466 := Yl (Kd.R_new' (Kd.R_new' (Kd.R_new' (Kd.R_new' (Kd.R_new' (Kd.R_new' (Kd.R_new' (Kd.R_new' (Kd.R_new' ho1 (Z17 (Yr HO_407000.out))) (Z17 (Yr HO_407001.out))) (Z17 (Yr HO_407003.out))) (Z17 (Yr HO_420000.out))) (Z17 (Yr HO_420001.out))) (Z17 (Yr HO_420003.out))) (Z17 (Yr HO_435000.out))) (Z17 (Yr HO_435001.out))) (Z17 (Yr HO_435003.out))); have HO469 := Yl (Kd.R_new' (Kd.R_new' (Kd.R_new' ho2 (Z17 (Yr HO_407002.out))) (Z17 (Yr HO_420002.out))) (Z17 (Yr HO_435002.out))); replace HO_407002 := Ya (Kd.R_elder' (Yr HO_407002.out) (Kd.R_base ho2) hb); replace HO_420002 := Ya (Kd.R_elder' (Yr HO_420002.out) (Kd.R_base ho2) hb); replace HO_435002 := Ya (Kd.R_elder' (Yr HO_435002.out) (Kd.R_base ho2) hb); have HO472 := Yl (Kd.R_new' (Kd.R_new' (Kd.R_new' (Kd.R_new' (Kd.R_new' (Kd.R_new' (Kd.R_new' (Kd.R_new' (Kd.R_new' ho3 (Z17 (Yr HO_407000.out))) (Z17 (Yr HO_407001.out))) (Z17 (Yr HO_407003.out))) (Z17 (Yr HO_420000.out))) (Z17 (Yr HO_420001.out))) (Z17 (Yr HO_420003.out))) (Z17 (Yr HO_435000.out))) (Z17 (Yr HO_435001.out))) (Z17 (Yr HO_435003.out))); replace HO_407000 := Ya (Z11 (Z15 (Z15 (Z15 (Z16 (Yr HO_407000.out) hb) (Kd.R_base ho0)) (Kd.R_base ho1)) (Kd.R_base ho3)) (fun _ h_ => h_.1)); replace HO_407001 := Ya (Z11 (Z15 (Z15 (Z15 (Z16 (Yr HO_407001.out) hb) (Kd.R_base ho0)) (Kd.R_base ho1)) (Kd.R_base ho3)) (fun _ h_ => h_.1)); replace HO_407003 := Ya (Z11 (Z15 (Z15 (Z15 (Z16 (Yr HO_407003.out) hb) (Kd.R_base ho0)) (Kd.R_base ho1)) (Kd.R_base ho3)) (fun _ h_ => h_.1)); replace HO_420000 := Ya (Z11 (Z15 (Z15 (Z15 (Z16 (Yr HO_420000.out) hb) (Kd.R_base ho0)) (Kd.R_base ho1)) (Kd.R_base ho3)) (fun _ h_ => h_.1)); replace HO_420001 := Ya (Z11 (Z15 (Z15 (Z15 (Z16 (Yr HO_420001.out) hb) (Kd.R_base ho0)) (Kd.R_base ho1)) (Kd.R_base ho3)) (fun _ h_ => h_.1)); replace HO_420003 := Ya (Z11 (Z15 (Z15 (Z15 (Z16 (Yr HO_420003.out) hb) (Kd.R_base ho0)) (Kd.R_base ho1)) (Kd.R_base ho3)) (fun _ h_ => h_.1)); replace HO_435000 := Ya (Z11 (Z15 (Z15 (Z15 (Z16 (Yr HO_435000.out) hb) (Kd.R_base ho0)) (Kd.R_base ho1)) (Kd.R_base ho3)) (fun _ h_ => h_.1)); replace HO_435001 := Ya (Z11 (Z15 (Z15 (Z15 (Z16 (Yr HO_435001.out) hb) (Kd.R_base ho0)) (Kd.R_base ho1)) (Kd.R_base ho3)) (fun _ h_ => h_.1)); replace HO_435003 := Ya (Z11 (Z15 (Z15 (Z15 (Z16 (Yr HO_435003.out) hb) (Kd.R_base ho0)) (Kd.R_base ho1)) (Kd.R_base ho3)) (fun _ h_ => h_.1)); replace BK378 := Yb BK378 hb; replace BK406 := Yb BK406 hb; replace BK419 := Yb BK419 hb; replace BK434 := Yb BK434 hb; replace HB := Yh hb; (try clear hb ho0 ho1 ho2 ho3); obtain ⟨Ao148, co148, rfl⟩ := Z18 HO463.out; obtain ⟨Ao149, co149, rfl⟩ := Z18 HO466.out; obtain ⟨Ao150, co150, rfl⟩ := Z18 HO469.out; obtain ⟨Ao151, co151, rfl⟩ := Z18 HO472.out) | ((with_reducible refine gate_callee (f := 11) rfl ?_); refine Yz 91 Try.func11 #[.agg #[.slice Ao148 t461.length co148, .slice Ao149 t464.length co149, .slice Ao150 t467.length co150, .slice Ao151 t470.length co151]] ?_; (with_reducible refine (impl_StepFocus.calls kj80 _ _ t461 _ _ t464 _ _ t467 _ _ t470 t473 t476 t479 t482 t485 t486 _ (Yc (Kd.R_reads' HO463.out).2.2) ((Kd.R_reads' HO463.out).2.1) (Yc (Kd.R_reads' HO466.out).2.2) ((Kd.R_reads' HO466.out).2.1) (Yc (Kd.R_reads' HO469.out).2.2) ((Kd.R_reads' HO469.out).2.1) (Yc (Kd.R_reads' HO472.out).2.2) ((Kd.R_reads' HO472.out).2.1) A135.out).mono ?_); rintro e w152 ⟨v474, v477, v480, v483, rfl, ho0, ho1, ho2, ho3, hb⟩; refine ⟨_, rfl, ?_⟩; have HO475 := Yl (Kd.R_new' (Kd.R_new' (Kd.R_new' (Kd.R_new' (Kd.R_new' (Kd.R_new' (Kd.R_new' (Kd.R_new' (Kd.R_new' (Kd.R_new' (Kd.R_new' (Kd.R_new' ho0 (Z17 (Yr HO_407000.out))) (Z17 (Yr HO_407001.out))) (Z17 (Yr HO_407003.out))) (Z17 (Yr HO_420000.out))) (Z17 (Yr HO_420001.out))) (Z17 (Yr HO_420003.out))) (Z17 (Yr HO_435000.out))) (Z17 (Yr HO_435001.out))) (Z17 (Yr HO_435003.out))) (Z17 (Yr HO463.out))) (Z17 (Yr HO466.out))) (Z17 (Yr HO472.out))); have HO478 := Yl (Kd.R_new' (Kd.R_new' (Kd.R_new' (Kd.R_new' (Kd.R_new' (Kd.R_new' (Kd.R_new' (Kd.R_new' (Kd.R_new' (Kd.R_new' (Kd.R_new' (Kd.R_new' ho1 (Z17 (Yr HO_407000.out))) (Z17 (Yr HO_407001.out))) (Z17 (Yr HO_407003.out))) (Z17 (Yr HO_420000.out))) (Z17 (Yr HO_420001.out))) (Z17 (Yr HO_420003.out))) (Z17 (Yr HO_435000.out))) (Z17 (Yr HO_435001.out))) (Z17 (Yr HO_435003.out))) (Z17 (Yr HO463.out))) (Z17 (Yr HO466.out))) (Z17 (Yr HO472.out))); have HO481 := Yl (Kd.R_new' (Kd.R_new' (Kd.R_new' (Kd.R_new' ho2 (Z17 (Yr HO_407002.out))) (Z17 (Yr HO_420002.out))) (Z17 (Yr HO_435002.out))) (Z17 (Yr HO469.out))); replace HO_407002 := Ya (Kd.R_elder' (Yr HO_407002.out) (Kd.R_base ho2) hb); replace HO_420002 := Ya (Kd.R_elder' (Yr HO_420002.out) (Kd.R_base ho2) hb); replace HO_435002 := Ya (Kd.R_elder' (Yr HO_435002.out) (Kd.R_base ho2) hb); replace HO469 := Ya (Kd.R_elder' (Yr HO469.out) (Kd.R_base ho2) hb); have HO484 := Yl (Kd.R_new' (Kd.R_new' (Kd.R_new' (Kd.R_new' (Kd.R_new' (Kd.R_new' (Kd.R_new' (Kd.R_new' (Kd.R_new' (Kd.R_new' (Kd.R_new' (Kd.R_new' ho3 (Z17 (Yr HO_407000.out))) (Z17 (Yr HO_407001.out))) (Z17 (Yr HO_407003.out))) (Z17 (Yr HO_420000.out))) (Z17 (Yr HO_420001.out))) (Z17 (Yr HO_420003.out))) (Z17 (Yr HO_435000.out))) (Z17 (Yr HO_435001.out))) (Z17 (Yr HO_435003.out))) (Z17 (Yr HO463.out))) (Z17 (Yr HO466.out))) (Z17 (Yr HO472.out))); replace HO_407000 := Ya (Z11 (Z15 (Z15 (Z15 (Z16 (Yr HO_407000.out) hb) (Kd.R_base ho0)) (Kd.R_base ho1)) (Kd.R_base ho3)) (fun _ h_ => h_.1)); replace HO_407001 := Ya (Z11 (Z15 (Z15 (Z15 (Z16 (Yr HO_407001.out) hb) (Kd.R_base ho0)) (Kd.R_base ho1)) (Kd.R_base ho3)) (fun _ h_ => h_.1)); replace HO_407003 := Ya (Z11 (Z15 (Z15 (Z15 (Z16 (Yr HO_407003.out) hb) (Kd.R_base ho0)) (Kd.R_base ho1)) (Kd.R_base ho3)) (fun _ h_ => h_.1)); replace HO_420000 := Ya (Z11 (Z15 (Z15 (Z15 (Z16 (Yr HO_420000.out) hb) (Kd.R_base ho0)) (Kd.R_base ho1)) (Kd.R_base ho3)) (fun _ h_ => h_.1)); replace HO_420001 := Ya (Z11 (Z15 (Z15 (Z15 (Z16 (Yr HO_420001.out) hb) (Kd.R_base ho0)) (Kd.R_base ho1)) (Kd.R_base ho3)) (fun _ h_ => h_.1)); replace HO_420003 := Ya (Z11 (Z15 (Z15 (Z15 (Z16 (Yr HO_420003.out) hb) (Kd.R_base ho0)) (Kd.R_base ho1)) (Kd.R_base ho3)) (fun _ h_ => h_.1)); replace HO_435000 := Ya (Z11 (Z15 (Z15 (Z15 (Z16 (Yr HO_435000.out) hb) (Kd.R_base ho0)) (Kd.R_base ho1)) (Kd.R_base ho3)) (fun _ h_ => h_.1)); replace HO_435001 := Ya (Z11 (Z15 (Z15 (Z15 (Z16 (Yr HO_435001.out) hb) (Kd.R_base ho0)) (Kd.R_base ho1)) (Kd.R_base ho3)) (fun _ h_ => h_.1)); replace HO_435003 := Ya (Z11 (Z15 (Z15 (Z15 (Z16 (Yr HO_435003.out) hb) (Kd.R_base ho0)) (Kd.R_base ho1)) (Kd.R_base ho3)) (fun _ h_ => h_.1)); replace HO463 := Ya (Z11 (Z15 (Z15 (Z15 (Z16 (Yr HO463.out) hb) (Kd.R_base ho0)) (Kd.R_base ho1)) (Kd.R_base ho3)) (fun _ h_ => h_.1)); replace HO466 := Ya (Z11 (Z15 (Z15 (Z15 (Z16 (Yr HO466.out) hb) (Kd.R_base ho0)) (Kd.R_base ho1)) (Kd.R_base ho3)) (fun _ h_ => h_.1)); replace HO472 := Ya (Z11 (Z15 (Z15 (Z15 (Z16 (Yr HO472.out) hb) (Kd.R_base ho0)) (Kd.R_base ho1)) (Kd.R_base ho3)) (fun _ h_ => h_.1)); replace BK378 := Yb BK378 hb; replace BK406 := Yb BK406 hb; replace BK419 := Yb BK419 hb; replace BK434 := Yb BK434 hb; replace HB := Yh hb; (try clear hb ho0 ho1 ho2 ho3)) | ((with_reducible refine gate_dst (N := 14) rfl ?_); refine Yx 14 #[.slice none 0 0, .slice none 0 0, .slice none 0 0, .slice none 0 0] 27 ?_; intro gb487 hg w153 hbox hb; replace HO_407000 := Yw HO_407000 hb; replace HO_407001 := Yw HO_407001 hb; replace HO_407002 := Yw HO_407002 hb; replace HO_407003 := Yw HO_407003 hb; replace HO_420000 := Yw HO_420000 hb; replace HO_420001 := Yw HO_420001 hb; replace HO_420002 := Yw HO_420002 hb; replace HO_420003 := Yw HO_420003 hb; replace HO_435000 := Yw HO_435000 hb; replace HO_435001 := Yw HO_435001 hb; replace HO_435002 := Yw HO_435002 hb; replace HO_435003 := Yw HO_435003 hb; replace HO463 := Yw HO463 hb; replace HO466 := Yw HO466 hb; replace HO469 := Yw HO469 hb; replace HO472 := Yw HO472 hb; replace HO475 := Yw HO475 hb; replace HO478 := Yw HO478 hb; replace HO481 := Yw HO481 hb; replace HO484 := Yw HO484 hb; have BK487 := Ya hbox; have GE487 := Yg hg; replace HB := Yh hb; have NB378_487 := Yn BK378 hg; have NB487_378 := Ym BK378 hg; replace BK378 := Yb BK378 hb; have NB406_487 := Yn BK406 hg; have NB487_406 := Ym BK406 hg; replace BK406 := Yb BK406 hb; have NB419_487 := Yn BK419 hg; have NB487_419 := Ym BK419 hg; replace BK419 := Yb BK419 hb; have NB434_487 := Yn BK434 hg; have NB487_434 := Ym BK434 hg; replace BK434 := Yb BK434 hb; clear hb hbox hg; obtain ⟨Ao154, co154, rfl⟩ := Z18 HO475.out; have hnb155 := NB487_378.out; have hnc155 := NB378_487.out; have hnb156 := NB487_406.out; have hnc156 := NB406_487.out; have hnb157 := NB487_419.out; have hnc157 := NB419_487.out; have hnb158 := NB487_434.out; have hnc158 := NB434_487.out; obtain ⟨hcz159_0, hcz159_1, hcz159_2, hcz159_3, hfz159_0, hfz159_1, hfz159_2, hfz159_3⟩ := Y4 BK487.out; obtain ⟨Ao160, co160, rfl⟩ := Z18 HO478.out; obtain ⟨Ao161, co161, rfl⟩ := Z18 HO481.out; obtain ⟨Ao162, co162, rfl⟩ := Z18 HO484.out))
           (try simp only [Act.put, Z0, Z1, Z2])
           go_cut [108] (fun v108 wc => ∃ (kq : Nat) (x108_135 : Bool), v108 = .bool x108_135 ∧ Aside0 (laws_FnExactStepFocus.j2 kq t455 x108_135 t456 t457 t458 t459 = some r) ∧ Aside0 (kq ≤ kj80) ∧ Aside0 (Kd.R (Kd.int .i64) 3 wc w.heap.size (fun k_ => some k_ ≠ ((.slice Ao26 t395.length co26) : Value).ownBlock ∧ some k_ ≠ ((.slice Ao28 t401.length co28) : Value).ownBlock ∧ some k_ ≠ ((.slice Ao32 t450.length co32) : Value).ownBlock ∧ some k_ ≠ ((.slice Ao36 t451.length co36) : Value).ownBlock ∧ some k_ ≠ ((.slice Ao38 t453.length co38) : Value).ownBlock ∧ some k_ ≠ ((.slice Ao41 t420.length co41) : Value).ownBlock ∧ some k_ ≠ ((.slice Ao46 t423.length co46) : Value).ownBlock ∧ some k_ ≠ ((.slice Ao48 t429.length co48) : Value).ownBlock ∧ some k_ ≠ ((.slice Ao154 t473.length co154) : Value).ownBlock ∧ some k_ ≠ ((.slice Ao160 t476.length co160) : Value).ownBlock ∧ some k_ ≠ ((.slice Ao162 t482.length co162) : Value).ownBlock) (.slice Ao23 t392.length co23) t392) ∧ Aside0 (Kd.R (Kd.int .i64) 3 wc w.heap.size (fun k_ => some k_ ≠ ((.slice Ao23 t392.length co23) : Value).ownBlock ∧ some k_ ≠ ((.slice Ao28 t401.length co28) : Value).ownBlock ∧ some k_ ≠ ((.slice Ao32 t450.length co32) : Value).ownBlock ∧ some k_ ≠ ((.slice Ao36 t451.length co36) : Value).ownBlock ∧ some k_ ≠ ((.slice Ao38 t453.length co38) : Value).ownBlock ∧ some k_ ≠ ((.slice Ao41 t420.length co41) : Value).ownBlock ∧ some k_ ≠ ((.slice Ao46 t423.length co46) : Value).ownBlock ∧ some k_ ≠ ((.slice Ao48 t429.length co48) : Value).ownBlock ∧ some k_ ≠ ((.slice Ao154 t473.length co154) : Value).ownBlock ∧ some k_ ≠ ((.slice Ao160 t476.length co160) : Value).ownBlock ∧ some k_ ≠ ((.slice Ao162 t482.length co162) : Value).ownBlock) (.slice Ao26 t395.length co26) t395) ∧ Aside0 (Kd.R Kd.bool 4 wc w.heap.size (fun k_ => some k_ ≠ ((.slice Ao37 t452.length co37) : Value).ownBlock ∧ some k_ ≠ ((.slice Ao47 t426.length co47) : Value).ownBlock ∧ some k_ ≠ ((.slice Ao161 t479.length co161) : Value).ownBlock) (.slice Ao27 t398.length co27) t398) ∧ Aside0 (Kd.R (Kd.int .i64) 3 wc w.heap.size (fun k_ => some k_ ≠ ((.slice Ao23 t392.length co23) : Value).ownBlock ∧ some k_ ≠ ((.slice Ao26 t395.length co26) : Value).ownBlock ∧ some k_ ≠ ((.slice Ao32 t450.length co32) : Value).ownBlock ∧ some k_ ≠ ((.slice Ao36 t451.length co36) : Value).ownBlock ∧ some k_ ≠ ((.slice Ao38 t453.length co38) : Value).ownBlock ∧ some k_ ≠ ((.slice Ao41 t420.length co41) : Value).ownBlock ∧ some k_ ≠ ((.slice Ao46 t423.length co46) : Value).ownBlock ∧ some k_ ≠ ((.slice Ao48 t429.length co48) : Value).ownBlock ∧ some k_ ≠ ((.slice Ao154 t473.length co154) : Value).ownBlock ∧ some k_ ≠ ((.slice Ao160 t476.length co160) : Value).ownBlock ∧ some k_ ≠ ((.slice Ao162 t482.length co162) : Value).ownBlock) (.slice Ao28 t401.length co28) t401) ∧ Aside0 (Kd.R (Kd.int .i64) 3 wc w.heap.size (fun k_ => some k_ ≠ ((.slice Ao23 t392.length co23) : Value).ownBlock ∧ some k_ ≠ ((.slice Ao26 t395.length co26) : Value).ownBlock ∧ some k_ ≠ ((.slice Ao28 t401.length co28) : Value).ownBlock ∧ some k_ ≠ ((.slice Ao36 t451.length co36) : Value).ownBlock ∧ some k_ ≠ ((.slice Ao38 t453.length co38) : Value).ownBlock ∧ some k_ ≠ ((.slice Ao41 t420.length co41) : Value).ownBlock ∧ some k_ ≠ ((.slice Ao46 t423.length co46) : Value).ownBlock ∧ some k_ ≠ ((.slice Ao48 t429.length co48) : Value).ownBlock ∧ some k_ ≠ ((.slice Ao154 t473.length co154) : Value).ownBlock ∧ some k_ ≠ ((.slice Ao160 t476.length co160) : Value).ownBlock ∧ some k_ ≠ ((.slice Ao162 t482.length co162) : Value).ownBlock) (.slice Ao32 t450.length co32) t450) ∧ Aside0 (Kd.R (Kd.int .i64) 3 wc w.heap.size (fun k_ => some k_ ≠ ((.slice Ao23 t392.length co23) : Value).ownBlock ∧ some k_ ≠ ((.slice Ao26 t395.length co26) : Value).ownBlock ∧ some k_ ≠ ((.slice Ao28 t401.length co28) : Value).ownBlock ∧ some k_ ≠ ((.slice Ao32 t450.length co32) : Value).ownBlock ∧ some k_ ≠ ((.slice Ao38 t453.length co38) : Value).ownBlock ∧ some k_ ≠ ((.slice Ao41 t420.length co41) : Value).ownBlock ∧ some k_ ≠ ((.slice Ao46 t423.length co46) : Value).ownBlock ∧ some k_ ≠ ((.slice Ao48 t429.length co48) : Value).ownBlock ∧ some k_ ≠ ((.slice Ao154 t473.length co154) : Value).ownBlock ∧ some k_ ≠ ((.slice Ao160 t476.length co160) : Value).ownBlock ∧ some k_ ≠ ((.slice Ao162 t482.length co162) : Value).ownBlock) (.slice Ao36 t451.length co36) t451) ∧ Aside0 (Kd.R Kd.bool 4 wc w.heap.size (fun k_ => some k_ ≠ ((.slice Ao27 t398.length co27) : Value).ownBlock ∧ some k_ ≠ ((.slice Ao47 t426.length co47) : Value).ownBlock ∧ some k_ ≠ ((.slice Ao161 t479.length co161) : Value).ownBlock) (.slice Ao37 t452.length co37) t452) ∧ Aside0 (Kd.R (Kd.int .i64) 3 wc w.heap.size (fun k_ => some k_ ≠ ((.slice Ao23 t392.length co23) : Value).ownBlock ∧ some k_ ≠ ((.slice Ao26 t395.length co26) : Value).ownBlock ∧ some k_ ≠ ((.slice Ao28 t401.length co28) : Value).ownBlock ∧ some k_ ≠ ((.slice Ao32 t450.length co32) : Value).ownBlock ∧ some k_ ≠ ((.slice Ao36 t451.length co36) : Value).ownBlock ∧ some k_ ≠ ((.slice Ao41 t420.length co41) : Value).ownBlock ∧ some k_ ≠ ((.slice Ao46 t423.length co46) : Value).ownBlock ∧ some k_ ≠ ((.slice Ao48 t429.length co48) : Value).ownBlock ∧ some k_ ≠ ((.slice Ao154 t473.length co154) : Value).ownBlock ∧ some k_ ≠ ((.slice Ao160 t476.length co160) : Value).ownBlock ∧ some k_ ≠ ((.slice Ao162 t482.length co162) : Value).ownBlock) (.slice Ao38 t453.length co38) t453) ∧ Aside0 (Kd.R (Kd.int .i64) 3 wc w.heap.size (fun k_ => some k_ ≠ ((.slice Ao23 t392.length co23) : Value).ownBlock ∧ some k_ ≠ ((.slice Ao26 t395.length co26) : Value).ownBlock ∧ some k_ ≠ ((.slice Ao28 t401.length co28) : Value).ownBlock ∧ some k_ ≠ ((.slice Ao32 t450.length co32) : Value).ownBlock ∧ some k_ ≠ ((.slice Ao36 t451.length co36) : Value).ownBlock ∧ some k_ ≠ ((.slice Ao38 t453.length co38) : Value).ownBlock ∧ some k_ ≠ ((.slice Ao46 t423.length co46) : Value).ownBlock ∧ some k_ ≠ ((.slice Ao48 t429.length co48) : Value).ownBlock ∧ some k_ ≠ ((.slice Ao154 t473.length co154) : Value).ownBlock ∧ some k_ ≠ ((.slice Ao160 t476.length co160) : Value).ownBlock ∧ some k_ ≠ ((.slice Ao162 t482.length co162) : Value).ownBlock) (.slice Ao41 t420.length co41) t456) ∧ Aside0 (Kd.R (Kd.int .i64) 3 wc w.heap.size (fun k_ => some k_ ≠ ((.slice Ao23 t392.length co23) : Value).ownBlock ∧ some k_ ≠ ((.slice Ao26 t395.length co26) : Value).ownBlock ∧ some k_ ≠ ((.slice Ao28 t401.length co28) : Value).ownBlock ∧ some k_ ≠ ((.slice Ao32 t450.length co32) : Value).ownBlock ∧ some k_ ≠ ((.slice Ao36 t451.length co36) : Value).ownBlock ∧ some k_ ≠ ((.slice Ao38 t453.length co38) : Value).ownBlock ∧ some k_ ≠ ((.slice Ao41 t420.length co41) : Value).ownBlock ∧ some k_ ≠ ((.slice Ao48 t429.length co48) : Value).ownBlock ∧ some k_ ≠ ((.slice Ao154 t473.length co154) : Value).ownBlock ∧ some k_ ≠ ((.slice Ao160 t476.length co160) : Value).ownBlock ∧ some k_ ≠ ((.slice Ao162 t482.length co162) : Value).ownBlock) (.slice Ao46 t423.length co46) t457) ∧ Aside0 (Kd.R Kd.bool 4 wc w.heap.size (fun k_ => some k_ ≠ ((.slice Ao27 t398.length co27) : Value).ownBlock ∧ some k_ ≠ ((.slice Ao37 t452.length co37) : Value).ownBlock ∧ some k_ ≠ ((.slice Ao161 t479.length co161) : Value).ownBlock) (.slice Ao47 t426.length co47) t458) ∧ Aside0 (Kd.R (Kd.int .i64) 3 wc w.heap.size (fun k_ => some k_ ≠ ((.slice Ao23 t392.length co23) : Value).ownBlock ∧ some k_ ≠ ((.slice Ao26 t395.length co26) : Value).ownBlock ∧ some k_ ≠ ((.slice Ao28 t401.length co28) : Value).ownBlock ∧ some k_ ≠ ((.slice Ao32 t450.length co32) : Value).ownBlock ∧ some k_ ≠ ((.slice Ao36 t451.length co36) : Value).ownBlock ∧ some k_ ≠ ((.slice Ao38 t453.length co38) : Value).ownBlock ∧ some k_ ≠ ((.slice Ao41 t420.length co41) : Value).ownBlock ∧ some k_ ≠ ((.slice Ao46 t423.length co46) : Value).ownBlock ∧ some k_ ≠ ((.slice Ao154 t473.length co154) : Value).ownBlock ∧ some k_ ≠ ((.slice Ao160 t476.length co160) : Value).ownBlock ∧ some k_ ≠ ((.slice Ao162 t482.length co162) : Value).ownBlock) (.slice Ao48 t429.length co48) t459) ∧ Aside0 (Kd.R (Kd.int .i64) 3 wc w.heap.size (fun k_ => some k_ ≠ ((.slice Ao23 t392.length co23) : Value).ownBlock ∧ some k_ ≠ ((.slice Ao26 t395.length co26) : Value).ownBlock ∧ some k_ ≠ ((.slice Ao28 t401.length co28) : Value).ownBlock ∧ some k_ ≠ ((.slice Ao32 t450.length co32) : Value).ownBlock ∧ some k_ ≠ ((.slice Ao36 t451.length co36) : Value).ownBlock ∧ some k_ ≠ ((.slice Ao38 t453.length co38) : Value).ownBlock ∧ some k_ ≠ ((.slice Ao41 t420.length co41) : Value).ownBlock ∧ some k_ ≠ ((.slice Ao46 t423.length co46) : Value).ownBlock ∧ some k_ ≠ ((.slice Ao48 t429.length co48) : Value).ownBlock ∧ some k_ ≠ ((.slice Ao160 t476.length co160) : Value).ownBlock ∧ some k_ ≠ ((.slice Ao162 t482.length co162) : Value).ownBlock) (.slice Ao154 t473.length co154) t473) ∧ Aside0 (Kd.R (Kd.int .i64) 3 wc w.heap.size (fun k_ => some k_ ≠ ((.slice Ao23 t392.length co23) : Value).ownBlock ∧ some k_ ≠ ((.slice Ao26 t395.length co26) : Value).ownBlock ∧ some k_ ≠ ((.slice Ao28 t401.length co28) : Value).ownBlock ∧ some k_ ≠ ((.slice Ao32 t450.length co32) : Value).ownBlock ∧ some k_ ≠ ((.slice Ao36 t451.length co36) : Value).ownBlock ∧ some k_ ≠ ((.slice Ao38 t453.length co38) : Value).ownBlock ∧ some k_ ≠ ((.slice Ao41 t420.length co41) : Value).ownBlock ∧ some k_ ≠ ((.slice Ao46 t423.length co46) : Value).ownBlock ∧ some k_ ≠ ((.slice Ao48 t429.length co48) : Value).ownBlock ∧ some k_ ≠ ((.slice Ao154 t473.length co154) : Value).ownBlock ∧ some k_ ≠ ((.slice Ao162 t482.length co162) : Value).ownBlock) (.slice Ao160 t476.length co160) t476) ∧ Aside0 (Kd.R Kd.bool 4 wc w.heap.size (fun k_ => some k_ ≠ ((.slice Ao27 t398.length co27) : Value).ownBlock ∧ some k_ ≠ ((.slice Ao37 t452.length co37) : Value).ownBlock ∧ some k_ ≠ ((.slice Ao47 t426.length co47) : Value).ownBlock) (.slice Ao161 t479.length co161) t479) ∧ Aside0 (Kd.R (Kd.int .i64) 3 wc w.heap.size (fun k_ => some k_ ≠ ((.slice Ao23 t392.length co23) : Value).ownBlock ∧ some k_ ≠ ((.slice Ao26 t395.length co26) : Value).ownBlock ∧ some k_ ≠ ((.slice Ao28 t401.length co28) : Value).ownBlock ∧ some k_ ≠ ((.slice Ao32 t450.length co32) : Value).ownBlock ∧ some k_ ≠ ((.slice Ao36 t451.length co36) : Value).ownBlock ∧ some k_ ≠ ((.slice Ao38 t453.length co38) : Value).ownBlock ∧ some k_ ≠ ((.slice Ao41 t420.length co41) : Value).ownBlock ∧ some k_ ≠ ((.slice Ao46 t423.length co46) : Value).ownBlock ∧ some k_ ≠ ((.slice Ao48 t429.length co48) : Value).ownBlock ∧ some k_ ≠ ((.slice Ao154 t473.length co154) : Value).ownBlock ∧ some k_ ≠ ((.slice Ao160 t476.length co160) : Value).ownBlock) (.slice Ao162 t482.length co162) t482) ∧ Aside0 (wc.heap[gb378]? = some (.cells #[(.slice A0_0 l0_0.length c0_0), (.slice A0_1 l0_1.length c0_1), (.slice A0_2 l0_2.length c0_2), (.slice A0_3 l0_3.length c0_3)] 25 (0, 0))) ∧ Aside0 (wc.heap[gb406]? = some (.cells #[(.slice Ao23 t392.length co23), (.slice Ao26 t395.length co26), (.slice Ao27 t398.length co27), (.slice Ao28 t401.length co28)] 27 (0, 0))) ∧ Aside0 (wc.heap[gb419]? = some (.cells #[(.slice Ao32 t450.length co32), (.slice Ao36 t451.length co36), (.slice Ao37 t452.length co37), (.slice Ao38 t453.length co38)] 27 (0, 0))) ∧ Aside0 (wc.heap[gb434]? = some (.cells #[(.slice Ao41 t420.length co41), (.slice Ao46 t423.length co46), (.slice Ao47 t426.length co47), (.slice Ao48 t429.length co48)] 27 (0, 0))) ∧ Aside0 (wc.heap[gb487]? = some (.cells #[(.slice Ao154 t473.length co154), (.slice Ao160 t476.length co160), (.slice Ao161 t479.length co161), (.slice Ao162 t482.length co162)] 27 (0, 0))) ∧ Aside0 (Below w.heap.size w wc))
           case first =>
            have H := HC136.out
            clear HC136
            replace H := Z36.mp H
            obtain ⟨t488, A1630, H⟩ := H
            replace H : (if t488 = true then (if t485 = t404 then (laws_FnExactStepFocus.j2 kj80 t455 (t486 != t405) t456 t457 t458 t459) else (laws_FnExactStepFocus.j2 kj80 t455 true t456 t457 t458 t459)) else (laws_FnExactStepFocus.j2 kj80 t455 true t456 t457 t458 t459)) = some r := H
            have A163 := Ya A1630
            clear A1630
            by_cases c164 : t488 = true
            ·subst c164
             have H1 : (if t485 = t404 then (laws_FnExactStepFocus.j2 kj80 t455 (t486 != t405) t456 t457 t458 t459) else (laws_FnExactStepFocus.j2 kj80 t455 true t456 t457 t458 t459)) = some r := by rw [if_pos rfl] at H; exact H
             clear H
             have H := H1
             clear H1
             by_cases c165 : t485 = t404
             ·rw [if_pos c165] at H
              have c165b0 : (t485 == t404) = true := beq_iff_eq.mpr c165
              have c165b1 : (t485 != t404) = false := bne_eq_false_iff_eq.mpr c165
              clear c165
              (first | rw [c165b0] | (simp only [i64_w, i32_w]; rw [c165b0]) | skip)
              have H' := Ya H
              clear H
              have hnb166 := NB487_378.out
              have hnc166 := NB378_487.out
              have hnb167 := NB487_406.out
              have hnc167 := NB406_487.out
              have hnb168 := NB487_419.out
              have hnc168 := NB419_487.out
              have hnb169 := NB487_434.out
              have hnc169 := NB434_487.out
              obtain ⟨hcz170_0, hcz170_1, hcz170_2, hcz170_3, hfz170_0, hfz170_1, hfz170_2, hfz170_3⟩ := Y4 BK487.out
              have hnb171 := NB406_378.out
              have hnc171 := NB378_406.out
              have hnb172 := NB406_419.out
              have hnc172 := NB419_406.out
              have hnb173 := NB406_434.out
              have hnc173 := NB434_406.out
              obtain ⟨hcz174_0, hcz174_1, hcz174_2, hcz174_3, hfz174_0, hfz174_1, hfz174_2, hfz174_3⟩ := Y4 BK406.out
              go_wp2_with (first | ((with_reducible refine gate_callee (f := 12) rfl ?_); refine Yz 97 Try.func12 #[.agg #[.slice Ao154 t473.length co154, .slice Ao160 t476.length co160, .slice Ao161 t479.length co161, .slice Ao162 t482.length co162], .agg #[.slice Ao23 t392.length co23, .slice Ao26 t395.length co26, .slice Ao27 t398.length co27, .slice Ao28 t401.length co28]] ?_; (with_reducible refine (laws_eqFocus.calls kj80 _ _ t473 _ _ t476 _ _ t479 _ _ t482 _ _ t392 _ _ t395 _ _ t398 _ _ t401 true _ ?side1 ((Kd.R_reads' HO475.out).2.1) ?side3 ((Kd.R_reads' HO478.out).2.1) ?side5 ((Kd.R_reads' HO481.out).2.1) ?side7 ((Kd.R_reads' HO484.out).2.1) ?side9 ((Kd.R_reads' HO_407000.out).2.1) ?side11 ((Kd.R_reads' HO_407001.out).2.1) ?side13 ((Kd.R_reads' HO_407002.out).2.1) ?side15 ((Kd.R_reads' HO_407003.out).2.1) A163.out).mono ?_); (case side1 => refine (Kd.R_reads' (e := 3) (base := w.heap.size) (ok := fun k_ => (((((((((((((some k_ ≠ (.slice Ao160 t476.length co160 : Value).ownBlock ∧ some k_ ≠ (.slice Ao162 t482.length co162 : Value).ownBlock) ∧ some k_ ≠ (.slice Ao23 t392.length co23 : Value).ownBlock) ∧ some k_ ≠ (.slice Ao26 t395.length co26 : Value).ownBlock) ∧ some k_ ≠ (.slice Ao28 t401.length co28 : Value).ownBlock) ∧ some k_ ≠ (.slice Ao32 t450.length co32 : Value).ownBlock) ∧ some k_ ≠ (.slice Ao36 t451.length co36 : Value).ownBlock) ∧ some k_ ≠ (.slice Ao38 t453.length co38 : Value).ownBlock) ∧ some k_ ≠ (.slice Ao41 t420.length co41 : Value).ownBlock) ∧ some k_ ≠ (.slice Ao46 t423.length co46 : Value).ownBlock) ∧ some k_ ≠ (.slice Ao48 t429.length co48 : Value).ownBlock) ∧ some k_ ≠ (.slice Ao148 t461.length co148 : Value).ownBlock) ∧ some k_ ≠ (.slice Ao149 t464.length co149 : Value).ownBlock) ∧ some k_ ≠ (.slice Ao151 t470.length co151 : Value).ownBlock)) (n := t473.length) (c := co154) ?_).2.2; exact Q45); (case side3 => refine (Kd.R_reads' (e := 3) (base := w.heap.size) (ok := fun k_ => (((((((((((((some k_ ≠ (.slice Ao154 t473.length co154 : Value).ownBlock ∧ some k_ ≠ (.slice Ao162 t482.length co162 : Value).ownBlock) ∧ some k_ ≠ (.slice Ao23 t392.length co23 : Value).ownBlock) ∧ some k_ ≠ (.slice Ao26 t395.length co26 : Value).ownBlock) ∧ some k_ ≠ (.slice Ao28 t401.length co28 : Value).ownBlock) ∧ some k_ ≠ (.slice Ao32 t450.length co32 : Value).ownBlock) ∧ some k_ ≠ (.slice Ao36 t451.length co36 : Value).ownBlock) ∧ some k_ ≠ (.slice Ao38 t453.length co38 : Value).ownBlock) ∧ some k_ ≠ (.slice Ao41 t420.length co41 : Value).ownBlock) ∧ some k_ ≠ (.slice Ao46 t423.length co46 : Value).ownBlock) ∧ some k_ ≠ (.slice Ao48 t429.length co48 : Value).ownBlock) ∧ some k_ ≠ (.slice Ao148 t461.length co148 : Value).ownBlock) ∧ some k_ ≠ (.slice Ao149 t464.length co149 : Value).ownBlock) ∧ some k_ ≠ (.slice Ao151 t470.length co151 : Value).ownBlock)) (n := t476.length) (c := co160) ?_).2.2; exact Q44); (case side5 => refine (Kd.R_reads' (e := 4) (base := w.heap.size) (ok := fun k_ => ((((True ∧ some k_ ≠ (.slice Ao27 t398.length co27 : Value).ownBlock) ∧ some k_ ≠ (.slice Ao37 t452.length co37 : Value).ownBlock) ∧ some k_ ≠ (.slice Ao47 t426.length co47 : Value).ownBlock) ∧ some k_ ≠ (.slice Ao150 t467.length co150 : Value).ownBlock)) (n := t479.length) (c := co161) ?_).2.2; exact Q43); (case side7 => refine (Kd.R_reads' (e := 3) (base := w.heap.size) (ok := fun k_ => (((((((((((((some k_ ≠ (.slice Ao154 t473.length co154 : Value).ownBlock ∧ some k_ ≠ (.slice Ao160 t476.length co160 : Value).ownBlock) ∧ some k_ ≠ (.slice Ao23 t392.length co23 : Value).ownBlock) ∧ some k_ ≠ (.slice Ao26 t395.length co26 : Value).ownBlock) ∧ some k_ ≠ (.slice Ao28 t401.length co28 : Value).ownBlock) ∧ some k_ ≠ (.slice Ao32 t450.length co32 : Value).ownBlock) ∧ some k_ ≠ (.slice Ao36 t451.length co36 : Value).ownBlock) ∧ some k_ ≠ (.slice Ao38 t453.length co38 : Value).ownBlock) ∧ some k_ ≠ (.slice Ao41 t420.length co41 : Value).ownBlock) ∧ some k_ ≠ (.slice Ao46 t423.length co46 : Value).ownBlock) ∧ some k_ ≠ (.slice Ao48 t429.length co48 : Value).ownBlock) ∧ some k_ ≠ (.slice Ao148 t461.length co148 : Value).ownBlock) ∧ some k_ ≠ (.slice Ao149 t464.length co149 : Value).ownBlock) ∧ some k_ ≠ (.slice Ao151 t470.length co151 : Value).ownBlock)) (n := t482.length) (c := co162) ?_).2.2; exact Q42); (case side9 => refine (Kd.R_reads' (e := 3) (base := w.heap.size) (ok := fun k_ => (((((((some k_ ≠ (.slice Ao26 t395.length co26 : Value).ownBlock ∧ (some k_ ≠ (.slice Ao28 t401.length co28 : Value).ownBlock ∧ (some k_ ≠ (.slice Ao32 t450.length co32 : Value).ownBlock ∧ (some k_ ≠ (.slice Ao36 t451.length co36 : Value).ownBlock ∧ (some k_ ≠ (.slice Ao38 t453.length co38 : Value).ownBlock ∧ (some k_ ≠ (.slice Ao41 t420.length co41 : Value).ownBlock ∧ (some k_ ≠ (.slice Ao46 t423.length co46 : Value).ownBlock ∧ some k_ ≠ (.slice Ao48 t429.length co48 : Value).ownBlock))))))) ∧ some k_ ≠ (.slice Ao148 t461.length co148 : Value).ownBlock) ∧ some k_ ≠ (.slice Ao149 t464.length co149 : Value).ownBlock) ∧ some k_ ≠ (.slice Ao151 t470.length co151 : Value).ownBlock) ∧ some k_ ≠ (.slice Ao154 t473.length co154 : Value).ownBlock) ∧ some k_ ≠ (.slice Ao160 t476.length co160 : Value).ownBlock) ∧ some k_ ≠ (.slice Ao162 t482.length co162 : Value).ownBlock)) (n := t392.length) (c := co23) ?_).2.2; exact Q40); (case side11 => refine (Kd.R_reads' (e := 3) (base := w.heap.size) (ok := fun k_ => (((((((some k_ ≠ (.slice Ao23 t392.length co23 : Value).ownBlock ∧ (some k_ ≠ (.slice Ao28 t401.length co28 : Value).ownBlock ∧ (some k_ ≠ (.slice Ao32 t450.length co32 : Value).ownBlock ∧ (some k_ ≠ (.slice Ao36 t451.length co36 : Value).ownBlock ∧ (some k_ ≠ (.slice Ao38 t453.length co38 : Value).ownBlock ∧ (some k_ ≠ (.slice Ao41 t420.length co41 : Value).ownBlock ∧ (some k_ ≠ (.slice Ao46 t423.length co46 : Value).ownBlock ∧ some k_ ≠ (.slice Ao48 t429.length co48 : Value).ownBlock))))))) ∧ some k_ ≠ (.slice Ao148 t461.length co148 : Value).ownBlock) ∧ some k_ ≠ (.slice Ao149 t464.length co149 : Value).ownBlock) ∧ some k_ ≠ (.slice Ao151 t470.length co151 : Value).ownBlock) ∧ some k_ ≠ (.slice Ao154 t473.length co154 : Value).ownBlock) ∧ some k_ ≠ (.slice Ao160 t476.length co160 : Value).ownBlock) ∧ some k_ ≠ (.slice Ao162 t482.length co162 : Value).ownBlock)) (n := t395.length) (c := co26) ?_).2.2; exact Q39); (case side13 => refine (Kd.R_reads' (e := 4) (base := w.heap.size) (ok := fun k_ => (((some k_ ≠ (.slice Ao37 t452.length co37 : Value).ownBlock ∧ some k_ ≠ (.slice Ao47 t426.length co47 : Value).ownBlock) ∧ some k_ ≠ (.slice Ao150 t467.length co150 : Value).ownBlock) ∧ some k_ ≠ (.slice Ao161 t479.length co161 : Value).ownBlock)) (n := t398.length) (c := co27) ?_).2.2; exact Q38); (case side15 => refine (Kd.R_reads' (e := 3) (base := w.heap.size) (ok := fun k_ => (((((((some k_ ≠ (.slice Ao23 t392.length co23 : Value).ownBlock ∧ (some k_ ≠ (.slice Ao26 t395.length co26 : Value).ownBlock ∧ (some k_ ≠ (.slice Ao32 t450.length co32 : Value).ownBlock ∧ (some k_ ≠ (.slice Ao36 t451.length co36 : Value).ownBlock ∧ (some k_ ≠ (.slice Ao38 t453.length co38 : Value).ownBlock ∧ (some k_ ≠ (.slice Ao41 t420.length co41 : Value).ownBlock ∧ (some k_ ≠ (.slice Ao46 t423.length co46 : Value).ownBlock ∧ some k_ ≠ (.slice Ao48 t429.length co48 : Value).ownBlock))))))) ∧ some k_ ≠ (.slice Ao148 t461.length co148 : Value).ownBlock) ∧ some k_ ≠ (.slice Ao149 t464.length co149 : Value).ownBlock) ∧ some k_ ≠ (.slice Ao151 t470.length co151 : Value).ownBlock) ∧ some k_ ≠ (.slice Ao154 t473.length co154 : Value).ownBlock) ∧ some k_ ≠ (.slice Ao160 t476.length co160 : Value).ownBlock) ∧ some k_ ≠ (.slice Ao162 t482.length co162 : Value).ownBlock)) (n := t401.length) (c := co28) ?_).2.2; exact Q37); rintro e w175 ⟨rfl, hb⟩; refine ⟨_, rfl, ?_⟩; replace HO_407000 := Ya (Z13 Q40 hb); replace HO_407001 := Ya (Z13 Q39 hb); replace HO_407002 := Ya (Z13 Q38 hb); replace HO_407003 := Ya (Z13 Q37 hb); replace HO_420000 := Ya (Z13 Q120 hb); replace HO_420001 := Ya (Z13 Q119 hb); replace HO_420002 := Ya (Z13 Q118 hb); replace HO_420003 := Ya (Z13 Q117 hb); replace HO_435000 := Ya (Z13 Q116 hb); replace HO_435001 := Ya (Z13 Q115 hb); replace HO_435002 := Ya (Z13 Q114 hb); replace HO_435003 := Ya (Z13 Q113 hb); replace HO463 := Ya (Z13 Q125 hb); replace HO466 := Ya (Z13 Q124 hb); replace HO469 := Ya (Z13 Q123 hb); replace HO472 := Ya (Z13 Q122 hb); replace HO475 := Ya (Z13 Q45 hb); replace HO478 := Ya (Z13 Q44 hb); replace HO481 := Ya (Z13 Q43 hb); replace HO484 := Ya (Z13 Q42 hb); replace BK378 := Yb ⟨Yo4 BK378.out NB378_487.out⟩ hb; replace BK406 := Yb ⟨Yo4 BK406.out NB406_487.out⟩ hb; replace BK419 := Yb ⟨Yo4 BK419.out NB419_487.out⟩ hb; replace BK434 := Yb ⟨Yo4 BK434.out NB434_487.out⟩ hb; replace BK487 := Yb ⟨Yv4 BK487.out⟩ hb; replace HB := Yh hb; (try clear hb)))
              go_meet
              case rel => exact ⟨_, ((t486 != t405)), Q7, H', ⟨Q149⟩, ⟨Q22⟩, ⟨Q21⟩, ⟨Q62⟩, ⟨Q20⟩, ⟨Q19⟩, ⟨Q18⟩, ⟨Q61⟩, ⟨Q17⟩, ⟨Q16⟩, ⟨Q15⟩, ⟨Q60⟩, ⟨Q14⟩, ⟨Q11⟩, ⟨Q10⟩, ⟨Q63⟩, ⟨Q9⟩, ⟨Q86⟩, ⟨Q85⟩, ⟨Q84⟩, ⟨Q83⟩, ⟨Q82⟩, ⟨Q12⟩⟩
             ·rw [if_neg c165] at H
              have c165b0 : (t485 == t404) = false := beq_eq_false_iff_ne.mpr c165
              have c165b1 : (t485 != t404) = true := bne_iff_ne.mpr c165
              (first | rw [c165b0] | (simp only [i64_w, i32_w]; rw [c165b0]) | skip)
              have H' := Ya H
              clear H
              have hnb176 := NB487_378.out
              have hnc176 := NB378_487.out
              have hnb177 := NB487_406.out
              have hnc177 := NB406_487.out
              have hnb178 := NB487_419.out
              have hnc178 := NB419_487.out
              have hnb179 := NB487_434.out
              have hnc179 := NB434_487.out
              obtain ⟨hcz180_0, hcz180_1, hcz180_2, hcz180_3, hfz180_0, hfz180_1, hfz180_2, hfz180_3⟩ := Y4 BK487.out
              have hnb181 := NB406_378.out
              have hnc181 := NB378_406.out
              have hnb182 := NB406_419.out
              have hnc182 := NB419_406.out
              have hnb183 := NB406_434.out
              have hnc183 := NB434_406.out
              obtain ⟨hcz184_0, hcz184_1, hcz184_2, hcz184_3, hfz184_0, hfz184_1, hfz184_2, hfz184_3⟩ := Y4 BK406.out
              go_wp2_with (first | ((with_reducible refine gate_callee (f := 12) rfl ?_); refine Yz 97 Try.func12 #[.agg #[.slice Ao154 t473.length co154, .slice Ao160 t476.length co160, .slice Ao161 t479.length co161, .slice Ao162 t482.length co162], .agg #[.slice Ao23 t392.length co23, .slice Ao26 t395.length co26, .slice Ao27 t398.length co27, .slice Ao28 t401.length co28]] ?_; (with_reducible refine (laws_eqFocus.calls kj80 _ _ t473 _ _ t476 _ _ t479 _ _ t482 _ _ t392 _ _ t395 _ _ t398 _ _ t401 true _ ?side1 ((Kd.R_reads' HO475.out).2.1) ?side3 ((Kd.R_reads' HO478.out).2.1) ?side5 ((Kd.R_reads' HO481.out).2.1) ?side7 ((Kd.R_reads' HO484.out).2.1) ?side9 ((Kd.R_reads' HO_407000.out).2.1) ?side11 ((Kd.R_reads' HO_407001.out).2.1) ?side13 ((Kd.R_reads' HO_407002.out).2.1) ?side15 ((Kd.R_reads' HO_407003.out).2.1) A163.out).mono ?_); (case side1 => refine (Kd.R_reads' (e := 3) (base := w.heap.size) (ok := fun k_ => (((((((((((((some k_ ≠ (.slice Ao160 t476.length co160 : Value).ownBlock ∧ some k_ ≠ (.slice Ao162 t482.length co162 : Value).ownBlock) ∧ some k_ ≠ (.slice Ao23 t392.length co23 : Value).ownBlock) ∧ some k_ ≠ (.slice Ao26 t395.length co26 : Value).ownBlock) ∧ some k_ ≠ (.slice Ao28 t401.length co28 : Value).ownBlock) ∧ some k_ ≠ (.slice Ao32 t450.length co32 : Value).ownBlock) ∧ some k_ ≠ (.slice Ao36 t451.length co36 : Value).ownBlock) ∧ some k_ ≠ (.slice Ao38 t453.length co38 : Value).ownBlock) ∧ some k_ ≠ (.slice Ao41 t420.length co41 : Value).ownBlock) ∧ some k_ ≠ (.slice Ao46 t423.length co46 : Value).ownBlock) ∧ some k_ ≠ (.slice Ao48 t429.length co48 : Value).ownBlock) ∧ some k_ ≠ (.slice Ao148 t461.length co148 : Value).ownBlock) ∧ some k_ ≠ (.slice Ao149 t464.length co149 : Value).ownBlock) ∧ some k_ ≠ (.slice Ao151 t470.length co151 : Value).ownBlock)) (n := t473.length) (c := co154) ?_).2.2; exact Q45); (case side3 => refine (Kd.R_reads' (e := 3) (base := w.heap.size) (ok := fun k_ => (((((((((((((some k_ ≠ (.slice Ao154 t473.length co154 : Value).ownBlock ∧ some k_ ≠ (.slice Ao162 t482.length co162 : Value).ownBlock) ∧ some k_ ≠ (.slice Ao23 t392.length co23 : Value).ownBlock) ∧ some k_ ≠ (.slice Ao26 t395.length co26 : Value).ownBlock) ∧ some k_ ≠ (.slice Ao28 t401.length co28 : Value).ownBlock) ∧ some k_ ≠ (.slice Ao32 t450.length co32 : Value).ownBlock) ∧ some k_ ≠ (.slice Ao36 t451.length co36 : Value).ownBlock) ∧ some k_ ≠ (.slice Ao38 t453.length co38 : Value).ownBlock) ∧ some k_ ≠ (.slice Ao41 t420.length co41 : Value).ownBlock) ∧ some k_ ≠ (.slice Ao46 t423.length co46 : Value).ownBlock) ∧ some k_ ≠ (.slice Ao48 t429.length co48 : Value).ownBlock) ∧ some k_ ≠ (.slice Ao148 t461.length co148 : Value).ownBlock) ∧ some k_ ≠ (.slice Ao149 t464.length co149 : Value).ownBlock) ∧ some k_ ≠ (.slice Ao151 t470.length co151 : Value).ownBlock)) (n := t476.length) (c := co160) ?_).2.2; exact Q44); (case side5 => refine (Kd.R_reads' (e := 4) (base := w.heap.size) (ok := fun k_ => ((((True ∧ some k_ ≠ (.slice Ao27 t398.length co27 : Value).ownBlock) ∧ some k_ ≠ (.slice Ao37 t452.length co37 : Value).ownBlock) ∧ some k_ ≠ (.slice Ao47 t426.length co47 : Value).ownBlock) ∧ some k_ ≠ (.slice Ao150 t467.length co150 : Value).ownBlock)) (n := t479.length) (c := co161) ?_).2.2; exact Q43); (case side7 => refine (Kd.R_reads' (e := 3) (base := w.heap.size) (ok := fun k_ => (((((((((((((some k_ ≠ (.slice Ao154 t473.length co154 : Value).ownBlock ∧ some k_ ≠ (.slice Ao160 t476.length co160 : Value).ownBlock) ∧ some k_ ≠ (.slice Ao23 t392.length co23 : Value).ownBlock) ∧ some k_ ≠ (.slice Ao26 t395.length co26 : Value).ownBlock) ∧ some k_ ≠ (.slice Ao28 t401.length co28 : Value).ownBlock) ∧ some k_ ≠ (.slice Ao32 t450.length co32 : Value).ownBlock) ∧ some k_ ≠ (.slice Ao36 t451.length co36 : Value).ownBlock) ∧ some k_ ≠ (.slice Ao38 t453.length co38 : Value).ownBlock) ∧ some k_ ≠ (.slice Ao41 t420.length co41 : Value).ownBlock) ∧ some k_ ≠ (.slice Ao46 t423.length co46 : Value).ownBlock) ∧ some k_ ≠ (.slice Ao48 t429.length co48 : Value).ownBlock) ∧ some k_ ≠ (.slice Ao148 t461.length co148 : Value).ownBlock) ∧ some k_ ≠ (.slice Ao149 t464.length co149 : Value).ownBlock) ∧ some k_ ≠ (.slice Ao151 t470.length co151 : Value).ownBlock)) (n := t482.length) (c := co162) ?_).2.2; exact Q42); (case side9 => refine (Kd.R_reads' (e := 3) (base := w.heap.size) (ok := fun k_ => (((((((some k_ ≠ (.slice Ao26 t395.length co26 : Value).ownBlock ∧ (some k_ ≠ (.slice Ao28 t401.length co28 : Value).ownBlock ∧ (some k_ ≠ (.slice Ao32 t450.length co32 : Value).ownBlock ∧ (some k_ ≠ (.slice Ao36 t451.length co36 : Value).ownBlock ∧ (some k_ ≠ (.slice Ao38 t453.length co38 : Value).ownBlock ∧ (some k_ ≠ (.slice Ao41 t420.length co41 : Value).ownBlock ∧ (some k_ ≠ (.slice Ao46 t423.length co46 : Value).ownBlock ∧ some k_ ≠ (.slice Ao48 t429.length co48 : Value).ownBlock))))))) ∧ some k_ ≠ (.slice Ao148 t461.length co148 : Value).ownBlock) ∧ some k_ ≠ (.slice Ao149 t464.length co149 : Value).ownBlock) ∧ some k_ ≠ (.slice Ao151 t470.length co151 : Value).ownBlock) ∧ some k_ ≠ (.slice Ao154 t473.length co154 : Value).ownBlock) ∧ some k_ ≠ (.slice Ao160 t476.length co160 : Value).ownBlock) ∧ some k_ ≠ (.slice Ao162 t482.length co162 : Value).ownBlock)) (n := t392.length) (c := co23) ?_).2.2; exact Q40); (case side11 => refine (Kd.R_reads' (e := 3) (base := w.heap.size) (ok := fun k_ => (((((((some k_ ≠ (.slice Ao23 t392.length co23 : Value).ownBlock ∧ (some k_ ≠ (.slice Ao28 t401.length co28 : Value).ownBlock ∧ (some k_ ≠ (.slice Ao32 t450.length co32 : Value).ownBlock ∧ (some k_ ≠ (.slice Ao36 t451.length co36 : Value).ownBlock ∧ (some k_ ≠ (.slice Ao38 t453.length co38 : Value).ownBlock ∧ (some k_ ≠ (.slice Ao41 t420.length co41 : Value).ownBlock ∧ (some k_ ≠ (.slice Ao46 t423.length co46 : Value).ownBlock ∧ some k_ ≠ (.slice Ao48 t429.length co48 : Value).ownBlock))))))) ∧ some k_ ≠ (.slice Ao148 t461.length co148 : Value).ownBlock) ∧ some k_ ≠ (.slice Ao149 t464.length co149 : Value).ownBlock) ∧ some k_ ≠ (.slice Ao151 t470.length co151 : Value).ownBlock) ∧ some k_ ≠ (.slice Ao154 t473.length co154 : Value).ownBlock) ∧ some k_ ≠ (.slice Ao160 t476.length co160 : Value).ownBlock) ∧ some k_ ≠ (.slice Ao162 t482.length co162 : Value).ownBlock)) (n := t395.length) (c := co26) ?_).2.2; exact Q39); (case side13 => refine (Kd.R_reads' (e := 4) (base := w.heap.size) (ok := fun k_ => (((some k_ ≠ (.slice Ao37 t452.length co37 : Value).ownBlock ∧ some k_ ≠ (.slice Ao47 t426.length co47 : Value).ownBlock) ∧ some k_ ≠ (.slice Ao150 t467.length co150 : Value).ownBlock) ∧ some k_ ≠ (.slice Ao161 t479.length co161 : Value).ownBlock)) (n := t398.length) (c := co27) ?_).2.2; exact Q38); (case side15 => refine (Kd.R_reads' (e := 3) (base := w.heap.size) (ok := fun k_ => (((((((some k_ ≠ (.slice Ao23 t392.length co23 : Value).ownBlock ∧ (some k_ ≠ (.slice Ao26 t395.length co26 : Value).ownBlock ∧ (some k_ ≠ (.slice Ao32 t450.length co32 : Value).ownBlock ∧ (some k_ ≠ (.slice Ao36 t451.length co36 : Value).ownBlock ∧ (some k_ ≠ (.slice Ao38 t453.length co38 : Value).ownBlock ∧ (some k_ ≠ (.slice Ao41 t420.length co41 : Value).ownBlock ∧ (some k_ ≠ (.slice Ao46 t423.length co46 : Value).ownBlock ∧ some k_ ≠ (.slice Ao48 t429.length co48 : Value).ownBlock))))))) ∧ some k_ ≠ (.slice Ao148 t461.length co148 : Value).ownBlock) ∧ some k_ ≠ (.slice Ao149 t464.length co149 : Value).ownBlock) ∧ some k_ ≠ (.slice Ao151 t470.length co151 : Value).ownBlock) ∧ some k_ ≠ (.slice Ao154 t473.length co154 : Value).ownBlock) ∧ some k_ ≠ (.slice Ao160 t476.length co160 : Value).ownBlock) ∧ some k_ ≠ (.slice Ao162 t482.length co162 : Value).ownBlock)) (n := t401.length) (c := co28) ?_).2.2; exact Q37); rintro e w185 ⟨rfl, hb⟩; refine ⟨_, rfl, ?_⟩; replace HO_407000 := Ya (Z13 Q40 hb); replace HO_407001 := Ya (Z13 Q39 hb); replace HO_407002 := Ya (Z13 Q38 hb); replace HO_407003 := Ya (Z13 Q37 hb); replace HO_420000 := Ya (Z13 Q120 hb); replace HO_420001 := Ya (Z13 Q119 hb); replace HO_420002 := Ya (Z13 Q118 hb); replace HO_420003 := Ya (Z13 Q117 hb); replace HO_435000 := Ya (Z13 Q116 hb); replace HO_435001 := Ya (Z13 Q115 hb); replace HO_435002 := Ya (Z13 Q114 hb); replace HO_435003 := Ya (Z13 Q113 hb); replace HO463 := Ya (Z13 Q125 hb); replace HO466 := Ya (Z13 Q124 hb); replace HO469 := Ya (Z13 Q123 hb); replace HO472 := Ya (Z13 Q122 hb); replace HO475 := Ya (Z13 Q45 hb); replace HO478 := Ya (Z13 Q44 hb); replace HO481 := Ya (Z13 Q43 hb); replace HO484 := Ya (Z13 Q42 hb); replace BK378 := Yb ⟨Yo4 BK378.out NB378_487.out⟩ hb; replace BK406 := Yb ⟨Yo4 BK406.out NB406_487.out⟩ hb; replace BK419 := Yb ⟨Yo4 BK419.out NB419_487.out⟩ hb; replace BK434 := Yb ⟨Yo4 BK434.out NB434_487.out⟩ hb; replace BK487 := Yb ⟨Yv4 BK487.out⟩ hb; replace HB := Yh hb; (try clear hb)))
              go_meet
              case rel => exact ⟨_, (true), Q7, H', ⟨Q149⟩, ⟨Q22⟩, ⟨Q21⟩, ⟨Q62⟩, ⟨Q20⟩, ⟨Q19⟩, ⟨Q18⟩, ⟨Q61⟩, ⟨Q17⟩, ⟨Q16⟩, ⟨Q15⟩, ⟨Q60⟩, ⟨Q14⟩, ⟨Q11⟩, ⟨Q10⟩, ⟨Q63⟩, ⟨Q9⟩, ⟨Q86⟩, ⟨Q85⟩, ⟨Q84⟩, ⟨Q83⟩, ⟨Q82⟩, ⟨Q12⟩⟩
            ·replace c164 := Bool.eq_false_iff.mpr c164
             subst c164
             have H1 : (laws_FnExactStepFocus.j2 kj80 t455 true t456 t457 t458 t459) = some r := by rw [if_neg (show ¬ (false = true) by decide)] at H; exact H
             clear H
             have H := H1
             clear H1
             have H' := Ya H
             clear H
             have hnb186 := NB487_378.out
             have hnc186 := NB378_487.out
             have hnb187 := NB487_406.out
             have hnc187 := NB406_487.out
             have hnb188 := NB487_419.out
             have hnc188 := NB419_487.out
             have hnb189 := NB487_434.out
             have hnc189 := NB434_487.out
             obtain ⟨hcz190_0, hcz190_1, hcz190_2, hcz190_3, hfz190_0, hfz190_1, hfz190_2, hfz190_3⟩ := Y4 BK487.out
             have hnb191 := NB406_378.out
             have hnc191 := NB378_406.out
             have hnb192 := NB406_419.out
             have hnc192 := NB419_406.out
             have hnb193 := NB406_434.out
             have hnc193 := NB434_406.out
             obtain ⟨hcz194_0, hcz194_1, hcz194_2, hcz194_3, hfz194_0, hfz194_1, hfz194_2, hfz194_3⟩ := Y4 BK406.out
             go_wp2_with (first | ((with_reducible refine gate_callee (f := 12) rfl ?_); refine Yz 97 Try.func12 #[.agg #[.slice Ao154 t473.length co154, .slice Ao160 t476.length co160, .slice Ao161 t479.length co161, .slice Ao162 t482.length co162], .agg #[.slice Ao23 t392.length co23, .slice Ao26 t395.length co26, .slice Ao27 t398.length co27, .slice Ao28 t401.length co28]] ?_; (with_reducible refine (laws_eqFocus.calls kj80 _ _ t473 _ _ t476 _ _ t479 _ _ t482 _ _ t392 _ _ t395 _ _ t398 _ _ t401 false _ ?side1 ((Kd.R_reads' HO475.out).2.1) ?side3 ((Kd.R_reads' HO478.out).2.1) ?side5 ((Kd.R_reads' HO481.out).2.1) ?side7 ((Kd.R_reads' HO484.out).2.1) ?side9 ((Kd.R_reads' HO_407000.out).2.1) ?side11 ((Kd.R_reads' HO_407001.out).2.1) ?side13 ((Kd.R_reads' HO_407002.out).2.1) ?side15 ((Kd.R_reads' HO_407003.out).2.1) A163.out).mono ?_); (case side1 => refine (Kd.R_reads' (e := 3) (base := w.heap.size) (ok := fun k_ => (((((((((((((some k_ ≠ (.slice Ao160 t476.length co160 : Value).ownBlock ∧ some k_ ≠ (.slice Ao162 t482.length co162 : Value).ownBlock) ∧ some k_ ≠ (.slice Ao23 t392.length co23 : Value).ownBlock) ∧ some k_ ≠ (.slice Ao26 t395.length co26 : Value).ownBlock) ∧ some k_ ≠ (.slice Ao28 t401.length co28 : Value).ownBlock) ∧ some k_ ≠ (.slice Ao32 t450.length co32 : Value).ownBlock) ∧ some k_ ≠ (.slice Ao36 t451.length co36 : Value).ownBlock) ∧ some k_ ≠ (.slice Ao38 t453.length co38 : Value).ownBlock) ∧ some k_ ≠ (.slice Ao41 t420.length co41 : Value).ownBlock) ∧ some k_ ≠ (.slice Ao46 t423.length co46 : Value).ownBlock) ∧ some k_ ≠ (.slice Ao48 t429.length co48 : Value).ownBlock) ∧ some k_ ≠ (.slice Ao148 t461.length co148 : Value).ownBlock) ∧ some k_ ≠ (.slice Ao149 t464.length co149 : Value).ownBlock) ∧ some k_ ≠ (.slice Ao151 t470.length co151 : Value).ownBlock)) (n := t473.length) (c := co154) ?_).2.2; exact Q45); (case side3 => refine (Kd.R_reads' (e := 3) (base := w.heap.size) (ok := fun k_ => (((((((((((((some k_ ≠ (.slice Ao154 t473.length co154 : Value).ownBlock ∧ some k_ ≠ (.slice Ao162 t482.length co162 : Value).ownBlock) ∧ some k_ ≠ (.slice Ao23 t392.length co23 : Value).ownBlock) ∧ some k_ ≠ (.slice Ao26 t395.length co26 : Value).ownBlock) ∧ some k_ ≠ (.slice Ao28 t401.length co28 : Value).ownBlock) ∧ some k_ ≠ (.slice Ao32 t450.length co32 : Value).ownBlock) ∧ some k_ ≠ (.slice Ao36 t451.length co36 : Value).ownBlock) ∧ some k_ ≠ (.slice Ao38 t453.length co38 : Value).ownBlock) ∧ some k_ ≠ (.slice Ao41 t420.length co41 : Value).ownBlock) ∧ some k_ ≠ (.slice Ao46 t423.length co46 : Value).ownBlock) ∧ some k_ ≠ (.slice Ao48 t429.length co48 : Value).ownBlock) ∧ some k_ ≠ (.slice Ao148 t461.length co148 : Value).ownBlock) ∧ some k_ ≠ (.slice Ao149 t464.length co149 : Value).ownBlock) ∧ some k_ ≠ (.slice Ao151 t470.length co151 : Value).ownBlock)) (n := t476.length) (c := co160) ?_).2.2; exact Q44); (case side5 => refine (Kd.R_reads' (e := 4) (base := w.heap.size) (ok := fun k_ => ((((True ∧ some k_ ≠ (.slice Ao27 t398.length co27 : Value).ownBlock) ∧ some k_ ≠ (.slice Ao37 t452.length co37 : Value).ownBlock) ∧ some k_ ≠ (.slice Ao47 t426.length co47 : Value).ownBlock) ∧ some k_ ≠ (.slice Ao150 t467.length co150 : Value).ownBlock)) (n := t479.length) (c := co161) ?_).2.2; exact Q43); (case side7 => refine (Kd.R_reads' (e := 3) (base := w.heap.size) (ok := fun k_ => (((((((((((((some k_ ≠ (.slice Ao154 t473.length co154 : Value).ownBlock ∧ some k_ ≠ (.slice Ao160 t476.length co160 : Value).ownBlock) ∧ some k_ ≠ (.slice Ao23 t392.length co23 : Value).ownBlock) ∧ some k_ ≠ (.slice Ao26 t395.length co26 : Value).ownBlock) ∧ some k_ ≠ (.slice Ao28 t401.length co28 : Value).ownBlock) ∧ some k_ ≠ (.slice Ao32 t450.length co32 : Value).ownBlock) ∧ some k_ ≠ (.slice Ao36 t451.length co36 : Value).ownBlock) ∧ some k_ ≠ (.slice Ao38 t453.length co38 : Value).ownBlock) ∧ some k_ ≠ (.slice Ao41 t420.length co41 : Value).ownBlock) ∧ some k_ ≠ (.slice Ao46 t423.length co46 : Value).ownBlock) ∧ some k_ ≠ (.slice Ao48 t429.length co48 : Value).ownBlock) ∧ some k_ ≠ (.slice Ao148 t461.length co148 : Value).ownBlock) ∧ some k_ ≠ (.slice Ao149 t464.length co149 : Value).ownBlock) ∧ some k_ ≠ (.slice Ao151 t470.length co151 : Value).ownBlock)) (n := t482.length) (c := co162) ?_).2.2; exact Q42); (case side9 => refine (Kd.R_reads' (e := 3) (base := w.heap.size) (ok := fun k_ => (((((((some k_ ≠ (.slice Ao26 t395.length co26 : Value).ownBlock ∧ (some k_ ≠ (.slice Ao28 t401.length co28 : Value).ownBlock ∧ (some k_ ≠ (.slice Ao32 t450.length co32 : Value).ownBlock ∧ (some k_ ≠ (.slice Ao36 t451.length co36 : Value).ownBlock ∧ (some k_ ≠ (.slice Ao38 t453.length co38 : Value).ownBlock ∧ (some k_ ≠ (.slice Ao41 t420.length co41 : Value).ownBlock ∧ (some k_ ≠ (.slice Ao46 t423.length co46 : Value).ownBlock ∧ some k_ ≠ (.slice Ao48 t429.length co48 : Value).ownBlock))))))) ∧ some k_ ≠ (.slice Ao148 t461.length co148 : Value).ownBlock) ∧ some k_ ≠ (.slice Ao149 t464.length co149 : Value).ownBlock) ∧ some k_ ≠ (.slice Ao151 t470.length co151 : Value).ownBlock) ∧ some k_ ≠ (.slice Ao154 t473.length co154 : Value).ownBlock) ∧ some k_ ≠ (.slice Ao160 t476.length co160 : Value).ownBlock) ∧ some k_ ≠ (.slice Ao162 t482.length co162 : Value).ownBlock)) (n := t392.length) (c := co23) ?_).2.2; exact Q40); (case side11 => refine (Kd.R_reads' (e := 3) (base := w.heap.size) (ok := fun k_ => (((((((some k_ ≠ (.slice Ao23 t392.length co23 : Value).ownBlock ∧ (some k_ ≠ (.slice Ao28 t401.length co28 : Value).ownBlock ∧ (some k_ ≠ (.slice Ao32 t450.length co32 : Value).ownBlock ∧ (some k_ ≠ (.slice Ao36 t451.length co36 : Value).ownBlock ∧ (some k_ ≠ (.slice Ao38 t453.length co38 : Value).ownBlock ∧ (some k_ ≠ (.slice Ao41 t420.length co41 : Value).ownBlock ∧ (some k_ ≠ (.slice Ao46 t423.length co46 : Value).ownBlock ∧ some k_ ≠ (.slice Ao48 t429.length co48 : Value).ownBlock))))))) ∧ some k_ ≠ (.slice Ao148 t461.length co148 : Value).ownBlock) ∧ some k_ ≠ (.slice Ao149 t464.length co149 : Value).ownBlock) ∧ some k_ ≠ (.slice Ao151 t470.length co151 : Value).ownBlock) ∧ some k_ ≠ (.slice Ao154 t473.length co154 : Value).ownBlock) ∧ some k_ ≠ (.slice Ao160 t476.length co160 : Value).ownBlock) ∧ some k_ ≠ (.slice Ao162 t482.length co162 : Value).ownBlock)) (n := t395.length) (c := co26) ?_).2.2; exact Q39); (case side13 => refine (Kd.R_reads' (e := 4) (base := w.heap.size) (ok := fun k_ => (((some k_ ≠ (.slice Ao37 t452.length co37 : Value).ownBlock ∧ some k_ ≠ (.slice Ao47 t426.length co47 : Value).ownBlock) ∧ some k_ ≠ (.slice Ao150 t467.length co150 : Value).ownBlock) ∧ some k_ ≠ (.slice Ao161 t479.length co161 : Value).ownBlock)) (n := t398.length) (c := co27) ?_).2.2; exact Q38); (case side15 => refine (Kd.R_reads' (e := 3) (base := w.heap.size) (ok := fun k_ => (((((((some k_ ≠ (.slice Ao23 t392.length co23 : Value).ownBlock ∧ (some k_ ≠ (.slice Ao26 t395.length co26 : Value).ownBlock ∧ (some k_ ≠ (.slice Ao32 t450.length co32 : Value).ownBlock ∧ (some k_ ≠ (.slice Ao36 t451.length co36 : Value).ownBlock ∧ (some k_ ≠ (.slice Ao38 t453.length co38 : Value).ownBlock ∧ (some k_ ≠ (.slice Ao41 t420.length co41 : Value).ownBlock ∧ (some k_ ≠ (.slice Ao46 t423.length co46 : Value).ownBlock ∧ some k_ ≠ (.slice Ao48 t429.length co48 : Value).ownBlock))))))) ∧ some k_ ≠ (.slice Ao148 t461.length co148 : Value).ownBlock) ∧ some k_ ≠ (.slice Ao149 t464.length co149 : Value).ownBlock) ∧ some k_ ≠ (.slice Ao151 t470.length co151 : Value).ownBlock) ∧ some k_ ≠ (.slice Ao154 t473.length co154 : Value).ownBlock) ∧ some k_ ≠ (.slice Ao160 t476.length co160 : Value).ownBlock) ∧ some k_ ≠ (.slice Ao162 t482.length co162 : Value).ownBlock)) (n := t401.length) (c := co28) ?_).2.2; exact Q37); rintro e w195 ⟨rfl, hb⟩; refine ⟨_, rfl, ?_⟩; replace HO_407000 := Ya (Z13 Q40 hb); replace HO_407001 := Ya (Z13 Q39 hb); replace HO_407002 := Ya (Z13 Q38 hb); replace HO_407003 := Ya (Z13 Q37 hb); replace HO_420000 := Ya (Z13 Q120 hb); replace HO_420001 := Ya (Z13 Q119 hb); replace HO_420002 := Ya (Z13 Q118 hb); replace HO_420003 := Ya (Z13 Q117 hb); replace HO_435000 := Ya (Z13 Q116 hb); replace HO_435001 := Ya (Z13 Q115 hb); replace HO_435002 := Ya (Z13 Q114 hb); replace HO_435003 := Ya (Z13 Q113 hb); replace HO463 := Ya (Z13 Q125 hb); replace HO466 := Ya (Z13 Q124 hb); replace HO469 := Ya (Z13 Q123 hb); replace HO472 := Ya (Z13 Q122 hb); replace HO475 := Ya (Z13 Q45 hb); replace HO478 := Ya (Z13 Q44 hb); replace HO481 := Ya (Z13 Q43 hb); replace HO484 := Ya (Z13 Q42 hb); replace BK378 := Yb ⟨Yo4 BK378.out NB378_487.out⟩ hb; replace BK406 := Yb ⟨Yo4 BK406.out NB406_487.out⟩ hb; replace BK419 := Yb ⟨Yo4 BK419.out NB419_487.out⟩ hb; replace BK434 := Yb ⟨Yo4 BK434.out NB434_487.out⟩ hb; replace BK487 := Yb ⟨Yv4 BK487.out⟩ hb; replace HB := Yh hb; (try clear hb)))
             go_meet
             case rel => exact ⟨_, (true), Q7, H', ⟨Q149⟩, ⟨Q22⟩, ⟨Q21⟩, ⟨Q62⟩, ⟨Q20⟩, ⟨Q19⟩, ⟨Q18⟩, ⟨Q61⟩, ⟨Q17⟩, ⟨Q16⟩, ⟨Q15⟩, ⟨Q60⟩, ⟨Q14⟩, ⟨Q11⟩, ⟨Q10⟩, ⟨Q63⟩, ⟨Q9⟩, ⟨Q86⟩, ⟨Q85⟩, ⟨Q84⟩, ⟨Q83⟩, ⟨Q82⟩, ⟨Q12⟩⟩
           case rest =>
            clear HC136
            try clear c1
            try clear p2
            try clear c3
            try clear c4
            try clear c5
            try clear c6
            try clear c7
            try clear c8
            try clear c9
            try clear c10
            try clear c11
            try clear c12
            try clear c13
            try clear c14
            try clear c15
            try clear c16
            try clear c17
            try clear c18
            try clear c19
            try clear c33
            try clear c34
            try clear c42
            try clear c43
            try clear c44
            try clear c50
            try clear c51
            try clear c51b0
            try clear c51b1
            try clear c52
            try clear c53
            try clear c54
            try clear c56
            try clear c57
            try clear c60
            try clear c61
            try clear c62
            try clear c64
            try clear c65
            try clear c68
            try clear c69
            try clear c70
            try clear c72
            try clear c73
            try clear c76
            try clear c79
            try clear c89
            try clear c90
            try clear c91
            try clear c94
            try clear c94b0
            try clear c96
            try clear c97
            try clear c97b0
            try clear c97b1
            try clear c98
            try clear c99
            try clear c100
            try clear c102
            try clear c103
            try clear c106
            try clear c107
            try clear c108
            try clear c110
            try clear c111
            try clear c114
            try clear c115
            try clear c116
            try clear c118
            try clear c119
            try clear c122
            try clear c125
            try clear c125b0
            try clear c126
            try clear c127
            try clear c128
            try clear c133
            try clear c133b0
            try clear c133b1
            try clear c137
            try clear c138
            try clear c139
            try clear c144
            try clear c145
            try clear c155
            try clear c156
            try clear c157
            try clear c158
            try clear c164
            try clear c165
            try clear c165b0
            try clear c165b1
            try clear c166
            try clear c167
            try clear c168
            try clear c169
            try clear c171
            try clear c172
            try clear c173
            try clear c176
            try clear c177
            try clear c178
            try clear c179
            try clear c181
            try clear c182
            try clear c183
            try clear c186
            try clear c187
            try clear c188
            try clear c189
            try clear c191
            try clear c192
            try clear c193
            try clear hcz101_0
            try clear hcz101_1
            try clear hcz101_2
            try clear hcz101_3
            try clear hcz104_0
            try clear hcz104_1
            try clear hcz104_2
            try clear hcz104_3
            try clear hcz109_0
            try clear hcz109_1
            try clear hcz109_2
            try clear hcz109_3
            try clear hcz112_0
            try clear hcz112_1
            try clear hcz112_2
            try clear hcz112_3
            try clear hcz117_0
            try clear hcz117_1
            try clear hcz117_2
            try clear hcz117_3
            try clear hcz120_0
            try clear hcz120_1
            try clear hcz120_2
            try clear hcz120_3
            try clear hcz129_0
            try clear hcz129_1
            try clear hcz129_2
            try clear hcz129_3
            try clear hcz131_0
            try clear hcz131_1
            try clear hcz131_2
            try clear hcz131_3
            try clear hcz13_0
            try clear hcz13_1
            try clear hcz13_2
            try clear hcz13_3
            try clear hcz140_0
            try clear hcz140_1
            try clear hcz140_2
            try clear hcz140_3
            try clear hcz142_0
            try clear hcz142_1
            try clear hcz142_2
            try clear hcz142_3
            try clear hcz146_0
            try clear hcz146_1
            try clear hcz146_2
            try clear hcz146_3
            try clear hcz159_0
            try clear hcz159_1
            try clear hcz159_2
            try clear hcz159_3
            try clear hcz15_0
            try clear hcz15_1
            try clear hcz15_2
            try clear hcz15_3
            try clear hcz170_0
            try clear hcz170_1
            try clear hcz170_2
            try clear hcz170_3
            try clear hcz174_0
            try clear hcz174_1
            try clear hcz174_2
            try clear hcz174_3
            try clear hcz180_0
            try clear hcz180_1
            try clear hcz180_2
            try clear hcz180_3
            try clear hcz184_0
            try clear hcz184_1
            try clear hcz184_2
            try clear hcz184_3
            try clear hcz190_0
            try clear hcz190_1
            try clear hcz190_2
            try clear hcz190_3
            try clear hcz194_0
            try clear hcz194_1
            try clear hcz194_2
            try clear hcz194_3
            try clear hcz25_0
            try clear hcz25_1
            try clear hcz25_2
            try clear hcz25_3
            try clear hcz29_0
            try clear hcz29_1
            try clear hcz29_2
            try clear hcz29_3
            try clear hcz35_0
            try clear hcz35_1
            try clear hcz35_2
            try clear hcz35_3
            try clear hcz45_0
            try clear hcz45_1
            try clear hcz45_2
            try clear hcz45_3
            try clear hcz55_0
            try clear hcz55_1
            try clear hcz55_2
            try clear hcz55_3
            try clear hcz58_0
            try clear hcz58_1
            try clear hcz58_2
            try clear hcz58_3
            try clear hcz5_0
            try clear hcz5_1
            try clear hcz5_2
            try clear hcz5_3
            try clear hcz63_0
            try clear hcz63_1
            try clear hcz63_2
            try clear hcz63_3
            try clear hcz66_0
            try clear hcz66_1
            try clear hcz66_2
            try clear hcz66_3
            try clear hcz71_0
            try clear hcz71_1
            try clear hcz71_2
            try clear hcz71_3
            try clear hcz74_0
            try clear hcz74_1
            try clear hcz74_2
            try clear hcz74_3
            try clear hcz92_0
            try clear hcz92_1
            try clear hcz92_2
            try clear hcz92_3
            try clear hfz101_0
            try clear hfz101_1
            try clear hfz101_2
            try clear hfz101_3
            try clear hfz104_0
            try clear hfz104_1
            try clear hfz104_2
            try clear hfz104_3
            try clear hfz109_0
            try clear hfz109_1
            try clear hfz109_2
            try clear hfz109_3
            try clear hfz112_0
            try clear hfz112_1
            try clear hfz112_2
            try clear hfz112_3
            try clear hfz117_0
            try clear hfz117_1
            try clear hfz117_2
            try clear hfz117_3
            try clear hfz120_0
            try clear hfz120_1
            try clear hfz120_2
            try clear hfz120_3
            try clear hfz129_0
            try clear hfz129_1
            try clear hfz129_2
            try clear hfz129_3
            try clear hfz131_0
            try clear hfz131_1
            try clear hfz131_2
            try clear hfz131_3
            try clear hfz13_0
            try clear hfz13_1
            try clear hfz13_2
            try clear hfz13_3
            try clear hfz140_0
            try clear hfz140_1
            try clear hfz140_2
            try clear hfz140_3
            try clear hfz142_0
            try clear hfz142_1
            try clear hfz142_2
            try clear hfz142_3
            try clear hfz146_0
            try clear hfz146_1
            try clear hfz146_2
            try clear hfz146_3
            try clear hfz159_0
            try clear hfz159_1
            try clear hfz159_2
            try clear hfz159_3
            try clear hfz15_0
            try clear hfz15_1
            try clear hfz15_2
            try clear hfz15_3
            try clear hfz170_0
            try clear hfz170_1
            try clear hfz170_2
            try clear hfz170_3
            try clear hfz174_0
            try clear hfz174_1
            try clear hfz174_2
            try clear hfz174_3
            try clear hfz180_0
            try clear hfz180_1
            try clear hfz180_2
            try clear hfz180_3
            try clear hfz184_0
            try clear hfz184_1
            try clear hfz184_2
            try clear hfz184_3
            try clear hfz190_0
            try clear hfz190_1
            try clear hfz190_2
            try clear hfz190_3
            try clear hfz194_0
            try clear hfz194_1
            try clear hfz194_2
            try clear hfz194_3
            try clear hfz25_0
            try clear hfz25_1
            try clear hfz25_2
            try clear hfz25_3
            try clear hfz29_0
            try clear hfz29_1
            try clear hfz29_2
            try clear hfz29_3
            try clear hfz35_0
            try clear hfz35_1
            try clear hfz35_2
            try clear hfz35_3
            try clear hfz45_0
            try clear hfz45_1
            try clear hfz45_2
            try clear hfz45_3
            try clear hfz55_0
            try clear hfz55_1
            try clear hfz55_2
            try clear hfz55_3
            try clear hfz58_0
            try clear hfz58_1
            try clear hfz58_2
            try clear hfz58_3
            try clear hfz5_0
            try clear hfz5_1
            try clear hfz5_2
            try clear hfz5_3
            try clear hfz63_0
            try clear hfz63_1
            try clear hfz63_2
            try clear hfz63_3
            try clear hfz66_0
            try clear hfz66_1
            try clear hfz66_2
            try clear hfz66_3
            try clear hfz71_0
            try clear hfz71_1
            try clear hfz71_2
            try clear hfz71_3
            try clear hfz74_0
            try clear hfz74_1
            try clear hfz74_2
            try clear hfz74_3
            try clear hfz92_0
            try clear hfz92_1
            try clear hfz92_2
            try clear hfz92_3
            try clear p2
            obtain ⟨kq, x108_135, rfl, HA, HJ135, HO_407000, HO_407001, HO_407002, HO_407003, HO_420000, HO_420001, HO_420002, HO_420003, HO_435000, HO_435001, HO_435002, HO_435003, HO_488000, HO_488001, HO_488002, HO_488003, BK378, BK406, BK419, BK434, BK487, HB⟩ := hcut
            have hl435000_135 := (Kd.R_reads' HO_435000.out).1
            rw [hl435000_135] at HO_435000
            (try simp only [hl435000_135])
            (try simp only [hl435000_135] at BK378)
            (try simp only [hl435000_135] at BK406)
            (try simp only [hl435000_135] at BK419)
            (try simp only [hl435000_135] at BK434)
            (try simp only [hl435000_135] at BK487)
            (try simp only [hl435000_135] at HO_407000)
            (try simp only [hl435000_135] at HO_407001)
            (try simp only [hl435000_135] at HO_407002)
            (try simp only [hl435000_135] at HO_407003)
            (try simp only [hl435000_135] at HO_420000)
            (try simp only [hl435000_135] at HO_420001)
            (try simp only [hl435000_135] at HO_420002)
            (try simp only [hl435000_135] at HO_420003)
            (try simp only [hl435000_135] at HO_435001)
            (try simp only [hl435000_135] at HO_435002)
            (try simp only [hl435000_135] at HO_435003)
            (try simp only [hl435000_135] at HO_488000)
            (try simp only [hl435000_135] at HO_488001)
            (try simp only [hl435000_135] at HO_488002)
            (try simp only [hl435000_135] at HO_488003)
            have hl435001_135 := (Kd.R_reads' HO_435001.out).1
            rw [hl435001_135] at HO_435001
            (try simp only [hl435001_135])
            (try simp only [hl435001_135] at BK378)
            (try simp only [hl435001_135] at BK406)
            (try simp only [hl435001_135] at BK419)
            (try simp only [hl435001_135] at BK434)
            (try simp only [hl435001_135] at BK487)
            (try simp only [hl435001_135] at HO_407000)
            (try simp only [hl435001_135] at HO_407001)
            (try simp only [hl435001_135] at HO_407002)
            (try simp only [hl435001_135] at HO_407003)
            (try simp only [hl435001_135] at HO_420000)
            (try simp only [hl435001_135] at HO_420001)
            (try simp only [hl435001_135] at HO_420002)
            (try simp only [hl435001_135] at HO_420003)
            (try simp only [hl435001_135] at HO_435000)
            (try simp only [hl435001_135] at HO_435002)
            (try simp only [hl435001_135] at HO_435003)
            (try simp only [hl435001_135] at HO_488000)
            (try simp only [hl435001_135] at HO_488001)
            (try simp only [hl435001_135] at HO_488002)
            (try simp only [hl435001_135] at HO_488003)
            have hl435002_135 := (Kd.R_reads' HO_435002.out).1
            rw [hl435002_135] at HO_435002
            (try simp only [hl435002_135])
            (try simp only [hl435002_135] at BK378)
            (try simp only [hl435002_135] at BK406)
            (try simp only [hl435002_135] at BK419)
            (try simp only [hl435002_135] at BK434)
            (try simp only [hl435002_135] at BK487)
            (try simp only [hl435002_135] at HO_407000)
            (try simp only [hl435002_135] at HO_407001)
            (try simp only [hl435002_135] at HO_407002)
            (try simp only [hl435002_135] at HO_407003)
            (try simp only [hl435002_135] at HO_420000)
            (try simp only [hl435002_135] at HO_420001)
            (try simp only [hl435002_135] at HO_420002)
            (try simp only [hl435002_135] at HO_420003)
            (try simp only [hl435002_135] at HO_435000)
            (try simp only [hl435002_135] at HO_435001)
            (try simp only [hl435002_135] at HO_435003)
            (try simp only [hl435002_135] at HO_488000)
            (try simp only [hl435002_135] at HO_488001)
            (try simp only [hl435002_135] at HO_488002)
            (try simp only [hl435002_135] at HO_488003)
            have hl435003_135 := (Kd.R_reads' HO_435003.out).1
            rw [hl435003_135] at HO_435003
            (try simp only [hl435003_135])
            (try simp only [hl435003_135] at BK378)
            (try simp only [hl435003_135] at BK406)
            (try simp only [hl435003_135] at BK419)
            (try simp only [hl435003_135] at BK434)
            (try simp only [hl435003_135] at BK487)
            (try simp only [hl435003_135] at HO_407000)
            (try simp only [hl435003_135] at HO_407001)
            (try simp only [hl435003_135] at HO_407002)
            (try simp only [hl435003_135] at HO_407003)
            (try simp only [hl435003_135] at HO_420000)
            (try simp only [hl435003_135] at HO_420001)
            (try simp only [hl435003_135] at HO_420002)
            (try simp only [hl435003_135] at HO_420003)
            (try simp only [hl435003_135] at HO_435000)
            (try simp only [hl435003_135] at HO_435001)
            (try simp only [hl435003_135] at HO_435002)
            (try simp only [hl435003_135] at HO_488000)
            (try simp only [hl435003_135] at HO_488001)
            (try simp only [hl435003_135] at HO_488002)
            (try simp only [hl435003_135] at HO_488003)
            cases kq with
            | zero => exact absurd HA.out (by simp [laws_FnExactStepFocus.j2])
            | succ kj135 =>
             have H := HA.out
             clear HA
             simp only [laws_FnExactStepFocus.j2] at H
             by_cases c196 : x108_135 = true
             ·subst c196
              have H1 : (some false) = some r := by rw [if_pos rfl] at H; exact H
              clear H
              have H := H1
              clear H1
              obtain rfl := Option.some.inj H
              go_wp2
              go_ret
              exact ⟨Q2, Q12⟩
             ·replace c196 := Bool.eq_false_iff.mpr c196
              subst c196
              have H1 : ((laws_heldFocus.f kj135 t456 t457 t458 t459 1).bind fun t489 => (if t489 < 0 then (some false) else (if t489 = t455 then (some true) else (some false)))) = some r := by rw [if_neg (show ¬ (false = true) by decide)] at H; exact H
              clear H
              have H := H1
              clear H1
              replace H := Z36.mp H
              obtain ⟨t489, A1970, H⟩ := H
              replace H : (if t489 < 0 then (some false) else (if t489 = t455 then (some true) else (some false))) = some r := H
              have A197 := Ya A1970
              clear A1970
              by_cases c198 : t489 < 0
              ·rw [if_pos c198] at H
               have c198b0 : decide (t489 < 0) = true := Z38 c198
               clear c198
               obtain rfl := Option.some.inj H
               have hnb199 := NB434_378.out
               have hnc199 := NB378_434.out
               have hnb200 := NB434_406.out
               have hnc200 := NB406_434.out
               have hnb201 := NB434_419.out
               have hnc201 := NB419_434.out
               have hnb202 := NB434_487.out
               have hnc202 := NB487_434.out
               have hz203 := Y4 BK434.out
               go_wp2_with (first | ((with_reducible refine gate_callee (f := 14) rfl ?_); refine Yz 111 Try.func14 #[.agg #[.slice Ao41 t456.length co41, .slice Ao46 t457.length co46, .slice Ao47 t458.length co47, .slice Ao48 t459.length co48], .int .i64 1] ?_; (with_reducible refine (laws_heldFocus.calls kj135 _ _ t456 _ _ t457 _ _ t458 _ _ t459 1 t489 _ (Yc (Kd.R_reads' HO_435000.out).2.2) ((Kd.R_reads' HO_435000.out).2.1) (Yc (Kd.R_reads' HO_435001.out).2.2) ((Kd.R_reads' HO_435001.out).2.1) (Yc (Kd.R_reads' HO_435002.out).2.2) ((Kd.R_reads' HO_435002.out).2.1) (Yc (Kd.R_reads' HO_435003.out).2.2) ((Kd.R_reads' HO_435003.out).2.1) A197.out).mono ?_); rintro e w204 ⟨rfl, hb⟩; refine ⟨_, rfl, ?_⟩; replace HO_407000 := Yw HO_407000 hb; replace HO_407001 := Yw HO_407001 hb; replace HO_407002 := Yw HO_407002 hb; replace HO_407003 := Yw HO_407003 hb; replace HO_420000 := Yw HO_420000 hb; replace HO_420001 := Yw HO_420001 hb; replace HO_420002 := Yw HO_420002 hb; replace HO_420003 := Yw HO_420003 hb; replace HO_435000 := Yw HO_435000 hb; replace HO_435001 := Yw HO_435001 hb; replace HO_435002 := Yw HO_435002 hb; replace HO_435003 := Yw HO_435003 hb; replace HO_488000 := Yw HO_488000 hb; replace HO_488001 := Yw HO_488001 hb; replace HO_488002 := Yw HO_488002 hb; replace HO_488003 := Yw HO_488003 hb; replace BK378 := Yb BK378 hb; replace BK406 := Yb BK406 hb; replace BK419 := Yb BK419 hb; replace BK434 := Yb BK434 hb; replace BK487 := Yb BK487 hb; replace HB := Yh hb; (try clear hb)))
               go_ret
               exact ⟨Q2, Q12⟩
              ·rw [if_neg c198] at H
               have c198b0 : decide (t489 < 0) = false := Z37 c198
               clear c198
               by_cases c205 : t489 = t455
               ·rw [if_pos c205] at H
                have c205b0 : (t489 == t455) = true := beq_iff_eq.mpr c205
                have c205b1 : (t489 != t455) = false := bne_eq_false_iff_eq.mpr c205
                clear c205
                obtain rfl := Option.some.inj H
                have hnb206 := NB434_378.out
                have hnc206 := NB378_434.out
                have hnb207 := NB434_406.out
                have hnc207 := NB406_434.out
                have hnb208 := NB434_419.out
                have hnc208 := NB419_434.out
                have hnb209 := NB434_487.out
                have hnc209 := NB487_434.out
                have hz210 := Y4 BK434.out
                go_wp2_with (first | ((with_reducible refine gate_callee (f := 14) rfl ?_); refine Yz 111 Try.func14 #[.agg #[.slice Ao41 t456.length co41, .slice Ao46 t457.length co46, .slice Ao47 t458.length co47, .slice Ao48 t459.length co48], .int .i64 1] ?_; (with_reducible refine (laws_heldFocus.calls kj135 _ _ t456 _ _ t457 _ _ t458 _ _ t459 1 t489 _ (Yc (Kd.R_reads' HO_435000.out).2.2) ((Kd.R_reads' HO_435000.out).2.1) (Yc (Kd.R_reads' HO_435001.out).2.2) ((Kd.R_reads' HO_435001.out).2.1) (Yc (Kd.R_reads' HO_435002.out).2.2) ((Kd.R_reads' HO_435002.out).2.1) (Yc (Kd.R_reads' HO_435003.out).2.2) ((Kd.R_reads' HO_435003.out).2.1) A197.out).mono ?_); rintro e w211 ⟨rfl, hb⟩; refine ⟨_, rfl, ?_⟩; replace HO_407000 := Yw HO_407000 hb; replace HO_407001 := Yw HO_407001 hb; replace HO_407002 := Yw HO_407002 hb; replace HO_407003 := Yw HO_407003 hb; replace HO_420000 := Yw HO_420000 hb; replace HO_420001 := Yw HO_420001 hb; replace HO_420002 := Yw HO_420002 hb; replace HO_420003 := Yw HO_420003 hb; replace HO_435000 := Yw HO_435000 hb; replace HO_435001 := Yw HO_435001 hb; replace HO_435002 := Yw HO_435002 hb; replace HO_435003 := Yw HO_435003 hb; replace HO_488000 := Yw HO_488000 hb; replace HO_488001 := Yw HO_488001 hb; replace HO_488002 := Yw HO_488002 hb; replace HO_488003 := Yw HO_488003 hb; replace BK378 := Yb BK378 hb; replace BK406 := Yb BK406 hb; replace BK419 := Yb BK419 hb; replace BK434 := Yb BK434 hb; replace BK487 := Yb BK487 hb; replace HB := Yh hb; (try clear hb)))
                go_ret
                exact ⟨Q2, Q12⟩
               ·rw [if_neg c205] at H
                have c205b0 : (t489 == t455) = false := beq_eq_false_iff_ne.mpr c205
                have c205b1 : (t489 != t455) = true := bne_iff_ne.mpr c205
                obtain rfl := Option.some.inj H
                have hnb212 := NB434_378.out
                have hnc212 := NB378_434.out
                have hnb213 := NB434_406.out
                have hnc213 := NB406_434.out
                have hnb214 := NB434_419.out
                have hnc214 := NB419_434.out
                have hnb215 := NB434_487.out
                have hnc215 := NB487_434.out
                have hz216 := Y4 BK434.out
                go_wp2_with (first | ((with_reducible refine gate_callee (f := 14) rfl ?_); refine Yz 111 Try.func14 #[.agg #[.slice Ao41 t456.length co41, .slice Ao46 t457.length co46, .slice Ao47 t458.length co47, .slice Ao48 t459.length co48], .int .i64 1] ?_; (with_reducible refine (laws_heldFocus.calls kj135 _ _ t456 _ _ t457 _ _ t458 _ _ t459 1 t489 _ (Yc (Kd.R_reads' HO_435000.out).2.2) ((Kd.R_reads' HO_435000.out).2.1) (Yc (Kd.R_reads' HO_435001.out).2.2) ((Kd.R_reads' HO_435001.out).2.1) (Yc (Kd.R_reads' HO_435002.out).2.2) ((Kd.R_reads' HO_435002.out).2.1) (Yc (Kd.R_reads' HO_435003.out).2.2) ((Kd.R_reads' HO_435003.out).2.1) A197.out).mono ?_); rintro e w217 ⟨rfl, hb⟩; refine ⟨_, rfl, ?_⟩; replace HO_407000 := Yw HO_407000 hb; replace HO_407001 := Yw HO_407001 hb; replace HO_407002 := Yw HO_407002 hb; replace HO_407003 := Yw HO_407003 hb; replace HO_420000 := Yw HO_420000 hb; replace HO_420001 := Yw HO_420001 hb; replace HO_420002 := Yw HO_420002 hb; replace HO_420003 := Yw HO_420003 hb; replace HO_435000 := Yw HO_435000 hb; replace HO_435001 := Yw HO_435001 hb; replace HO_435002 := Yw HO_435002 hb; replace HO_435003 := Yw HO_435003 hb; replace HO_488000 := Yw HO_488000 hb; replace HO_488001 := Yw HO_488001 hb; replace HO_488002 := Yw HO_488002 hb; replace HO_488003 := Yw HO_488003 hb; replace BK378 := Yb BK378 hb; replace BK406 := Yb BK406 hb; replace BK419 := Yb BK419 hb; replace BK434 := Yb BK434 hb; replace BK487 := Yb BK487 hb; replace HB := Yh hb; (try clear hb)))
                go_ret
                exact ⟨Q2, Q12⟩
          ·rw [if_neg c133] at H
           have c133b0 : (t460 == t455) = false := beq_eq_false_iff_ne.mpr c133
           have c133b1 : (t460 != t455) = true := bne_iff_ne.mpr c133
           obtain rfl := Option.some.inj H
           have hnb218 := NB434_378.out
           have hnc218 := NB378_434.out
           have hnb219 := NB434_406.out
           have hnc219 := NB406_434.out
           have hnb220 := NB434_419.out
           have hnc220 := NB419_434.out
           have hz221 := Y4 BK434.out
           go_wp2_with (first | ((with_reducible refine gate_callee (f := 13) rfl ?_); refine Yz 79 Try.func13 #[.agg #[.slice Ao41 t420.length co41, .slice Ao46 t423.length co46, .slice Ao47 t426.length co47, .slice Ao48 t429.length co48], .int .i64 1] ?_; (with_reducible refine (laws_markFocus.calls kj80 (fun k_ => some k_ = (.slice Ao41 t420.length co41 : Value).ownBlock) (.slice Ao41 t420.length co41) t420 (fun k_ => some k_ = (.slice Ao46 t423.length co46 : Value).ownBlock) (.slice Ao46 t423.length co46) t423 (fun k_ => some k_ = (.slice Ao47 t426.length co47 : Value).ownBlock) (.slice Ao47 t426.length co47) t426 (fun k_ => some k_ = (.slice Ao48 t429.length co48 : Value).ownBlock) (.slice Ao48 t429.length co48) t429 1 t455 t456 t457 t458 t459 w _ ?side1 (Kd.R_tight rfl HO_435000.out) ?side3 ?side4 (Kd.R_tight rfl HO_435001.out) ?side6 ?side7 (Kd.R_tight rfl HO_435002.out) (Kd.R_tight rfl HO_435003.out) ?side10 ?side11 A123.out).mono ?_); (case side1 => repeat (first | (with_reducible first | exact HB.out | apply Z5 | apply Z3 | apply Z4 | refine Z6 ?_ (Aside0.out (by assumption))) | exact HB.out)); (case side3 => exact fun k_ e_ => (HO_435000.out.1 k_ e_.symm).2.2.2.2.2.2.1); (case side4 => exact fun k_ e_ => (HO_435000.out.1 k_ e_.symm).2.2.2.2.2.2.2); (case side6 => exact fun k_ e_ => (HO_435001.out.1 k_ e_.symm).2.2.2.2.2.2.1); (case side7 => exact fun k_ e_ => (HO_435001.out.1 k_ e_.symm).2.2.2.2.2.2.2); (case side10 => exact fun k_ e_ => (HO_435003.out.1 k_ e_.symm).2.2.2.2.2.2.1); (case side11 => exact fun k_ e_ => (HO_435003.out.1 k_ e_.symm).2.2.2.2.2.2.2); rintro e w222 ⟨rfl, hy0, hy1, hy2, hy3, hb, hkp⟩; refine ⟨_, rfl, ?_⟩; replace HO_407000 := Ya (Z11 (ok' := fun k_ => some k_ ≠ (.slice Ao26 t395.length co26 : Value).ownBlock ∧ some k_ ≠ (.slice Ao28 t401.length co28 : Value).ownBlock ∧ some k_ ≠ (.slice Ao32 t450.length co32 : Value).ownBlock ∧ some k_ ≠ (.slice Ao36 t451.length co36 : Value).ownBlock ∧ some k_ ≠ (.slice Ao38 t453.length co38 : Value).ownBlock ∧ some k_ ≠ (.slice Ao41 t420.length co41 : Value).ownBlock ∧ some k_ ≠ (.slice Ao46 t423.length co46 : Value).ownBlock ∧ some k_ ≠ (.slice Ao48 t429.length co48 : Value).ownBlock) (Kd.R_keptB ((Kd.R_apart' HO_407000.out (Kd.R_typed HO_435002.out) (by decide))) hkp (fun k_ hk_ hs_ => Or.elim hs_ (fun e_ => (hk_.1.2.2.2.2.2.1) e_) (fun e_ => Or.elim e_ (fun e_ => (hk_.1.2.2.2.2.2.2.1) e_) (fun e_ => Or.elim e_ (fun e_ => (hk_.2) e_) (fun e_ => (hk_.1.2.2.2.2.2.2.2) e_))))) (fun k_ hk_ => ⟨hk_.1.1.1, hk_.1.1.2.1, hk_.1.1.2.2.1, hk_.1.1.2.2.2.1, hk_.1.1.2.2.2.2.1, hk_.1.1.2.2.2.2.2.1, hk_.1.1.2.2.2.2.2.2.1, hk_.1.1.2.2.2.2.2.2.2⟩)); replace HO_407001 := Ya (Z11 (ok' := fun k_ => some k_ ≠ (.slice Ao23 t392.length co23 : Value).ownBlock ∧ some k_ ≠ (.slice Ao28 t401.length co28 : Value).ownBlock ∧ some k_ ≠ (.slice Ao32 t450.length co32 : Value).ownBlock ∧ some k_ ≠ (.slice Ao36 t451.length co36 : Value).ownBlock ∧ some k_ ≠ (.slice Ao38 t453.length co38 : Value).ownBlock ∧ some k_ ≠ (.slice Ao41 t420.length co41 : Value).ownBlock ∧ some k_ ≠ (.slice Ao46 t423.length co46 : Value).ownBlock ∧ some k_ ≠ (.slice Ao48 t429.length co48 : Value).ownBlock) (Kd.R_keptB ((Kd.R_apart' HO_407001.out (Kd.R_typed HO_435002.out) (by decide))) hkp (fun k_ hk_ hs_ => Or.elim hs_ (fun e_ => (hk_.1.2.2.2.2.2.1) e_) (fun e_ => Or.elim e_ (fun e_ => (hk_.1.2.2.2.2.2.2.1) e_) (fun e_ => Or.elim e_ (fun e_ => (hk_.2) e_) (fun e_ => (hk_.1.2.2.2.2.2.2.2) e_))))) (fun k_ hk_ => ⟨hk_.1.1.1, hk_.1.1.2.1, hk_.1.1.2.2.1, hk_.1.1.2.2.2.1, hk_.1.1.2.2.2.2.1, hk_.1.1.2.2.2.2.2.1, hk_.1.1.2.2.2.2.2.2.1, hk_.1.1.2.2.2.2.2.2.2⟩)); replace HO_407002 := Ya (Z11 (ok' := fun k_ => some k_ ≠ (.slice Ao37 t452.length co37 : Value).ownBlock ∧ some k_ ≠ (.slice Ao47 t426.length co47 : Value).ownBlock) (Kd.R_keptB ((Kd.R_apart' (Kd.R_apart' (Kd.R_apart' HO_407002.out (Kd.R_typed HO_435000.out) (by decide)) (Kd.R_typed HO_435001.out) (by decide)) (Kd.R_typed HO_435003.out) (by decide))) hkp (fun k_ hk_ hs_ => Or.elim hs_ (fun e_ => (hk_.1.1.2) e_) (fun e_ => Or.elim e_ (fun e_ => (hk_.1.2) e_) (fun e_ => Or.elim e_ (fun e_ => (hk_.1.1.1.2) e_) (fun e_ => (hk_.2) e_))))) (fun k_ hk_ => ⟨hk_.1.1.1.1.1, hk_.1.1.1.1.2⟩)); replace HO_407003 := Ya (Z11 (ok' := fun k_ => some k_ ≠ (.slice Ao23 t392.length co23 : Value).ownBlock ∧ some k_ ≠ (.slice Ao26 t395.length co26 : Value).ownBlock ∧ some k_ ≠ (.slice Ao32 t450.length co32 : Value).ownBlock ∧ some k_ ≠ (.slice Ao36 t451.length co36 : Value).ownBlock ∧ some k_ ≠ (.slice Ao38 t453.length co38 : Value).ownBlock ∧ some k_ ≠ (.slice Ao41 t420.length co41 : Value).ownBlock ∧ some k_ ≠ (.slice Ao46 t423.length co46 : Value).ownBlock ∧ some k_ ≠ (.slice Ao48 t429.length co48 : Value).ownBlock) (Kd.R_keptB ((Kd.R_apart' HO_407003.out (Kd.R_typed HO_435002.out) (by decide))) hkp (fun k_ hk_ hs_ => Or.elim hs_ (fun e_ => (hk_.1.2.2.2.2.2.1) e_) (fun e_ => Or.elim e_ (fun e_ => (hk_.1.2.2.2.2.2.2.1) e_) (fun e_ => Or.elim e_ (fun e_ => (hk_.2) e_) (fun e_ => (hk_.1.2.2.2.2.2.2.2) e_))))) (fun k_ hk_ => ⟨hk_.1.1.1, hk_.1.1.2.1, hk_.1.1.2.2.1, hk_.1.1.2.2.2.1, hk_.1.1.2.2.2.2.1, hk_.1.1.2.2.2.2.2.1, hk_.1.1.2.2.2.2.2.2.1, hk_.1.1.2.2.2.2.2.2.2⟩)); replace HO_420000 := Ya (Z11 (ok' := fun k_ => some k_ ≠ (.slice Ao23 t392.length co23 : Value).ownBlock ∧ some k_ ≠ (.slice Ao26 t395.length co26 : Value).ownBlock ∧ some k_ ≠ (.slice Ao28 t401.length co28 : Value).ownBlock ∧ some k_ ≠ (.slice Ao36 t451.length co36 : Value).ownBlock ∧ some k_ ≠ (.slice Ao38 t453.length co38 : Value).ownBlock ∧ some k_ ≠ (.slice Ao41 t420.length co41 : Value).ownBlock ∧ some k_ ≠ (.slice Ao46 t423.length co46 : Value).ownBlock ∧ some k_ ≠ (.slice Ao48 t429.length co48 : Value).ownBlock) (Kd.R_keptB ((Kd.R_apart' HO_420000.out (Kd.R_typed HO_435002.out) (by decide))) hkp (fun k_ hk_ hs_ => Or.elim hs_ (fun e_ => (hk_.1.2.2.2.2.2.1) e_) (fun e_ => Or.elim e_ (fun e_ => (hk_.1.2.2.2.2.2.2.1) e_) (fun e_ => Or.elim e_ (fun e_ => (hk_.2) e_) (fun e_ => (hk_.1.2.2.2.2.2.2.2) e_))))) (fun k_ hk_ => ⟨hk_.1.1.1, hk_.1.1.2.1, hk_.1.1.2.2.1, hk_.1.1.2.2.2.1, hk_.1.1.2.2.2.2.1, hk_.1.1.2.2.2.2.2.1, hk_.1.1.2.2.2.2.2.2.1, hk_.1.1.2.2.2.2.2.2.2⟩)); replace HO_420001 := Ya (Z11 (ok' := fun k_ => some k_ ≠ (.slice Ao23 t392.length co23 : Value).ownBlock ∧ some k_ ≠ (.slice Ao26 t395.length co26 : Value).ownBlock ∧ some k_ ≠ (.slice Ao28 t401.length co28 : Value).ownBlock ∧ some k_ ≠ (.slice Ao32 t450.length co32 : Value).ownBlock ∧ some k_ ≠ (.slice Ao38 t453.length co38 : Value).ownBlock ∧ some k_ ≠ (.slice Ao41 t420.length co41 : Value).ownBlock ∧ some k_ ≠ (.slice Ao46 t423.length co46 : Value).ownBlock ∧ some k_ ≠ (.slice Ao48 t429.length co48 : Value).ownBlock) (Kd.R_keptB ((Kd.R_apart' HO_420001.out (Kd.R_typed HO_435002.out) (by decide))) hkp (fun k_ hk_ hs_ => Or.elim hs_ (fun e_ => (hk_.1.2.2.2.2.2.1) e_) (fun e_ => Or.elim e_ (fun e_ => (hk_.1.2.2.2.2.2.2.1) e_) (fun e_ => Or.elim e_ (fun e_ => (hk_.2) e_) (fun e_ => (hk_.1.2.2.2.2.2.2.2) e_))))) (fun k_ hk_ => ⟨hk_.1.1.1, hk_.1.1.2.1, hk_.1.1.2.2.1, hk_.1.1.2.2.2.1, hk_.1.1.2.2.2.2.1, hk_.1.1.2.2.2.2.2.1, hk_.1.1.2.2.2.2.2.2.1, hk_.1.1.2.2.2.2.2.2.2⟩)); replace HO_420002 := Ya (Z11 (ok' := fun k_ => some k_ ≠ (.slice Ao27 t398.length co27 : Value).ownBlock ∧ some k_ ≠ (.slice Ao47 t426.length co47 : Value).ownBlock) (Kd.R_keptB ((Kd.R_apart' (Kd.R_apart' (Kd.R_apart' HO_420002.out (Kd.R_typed HO_435000.out) (by decide)) (Kd.R_typed HO_435001.out) (by decide)) (Kd.R_typed HO_435003.out) (by decide))) hkp (fun k_ hk_ hs_ => Or.elim hs_ (fun e_ => (hk_.1.1.2) e_) (fun e_ => Or.elim e_ (fun e_ => (hk_.1.2) e_) (fun e_ => Or.elim e_ (fun e_ => (hk_.1.1.1.2) e_) (fun e_ => (hk_.2) e_))))) (fun k_ hk_ => ⟨hk_.1.1.1.1.1, hk_.1.1.1.1.2⟩)); replace HO_420003 := Ya (Z11 (ok' := fun k_ => some k_ ≠ (.slice Ao23 t392.length co23 : Value).ownBlock ∧ some k_ ≠ (.slice Ao26 t395.length co26 : Value).ownBlock ∧ some k_ ≠ (.slice Ao28 t401.length co28 : Value).ownBlock ∧ some k_ ≠ (.slice Ao32 t450.length co32 : Value).ownBlock ∧ some k_ ≠ (.slice Ao36 t451.length co36 : Value).ownBlock ∧ some k_ ≠ (.slice Ao41 t420.length co41 : Value).ownBlock ∧ some k_ ≠ (.slice Ao46 t423.length co46 : Value).ownBlock ∧ some k_ ≠ (.slice Ao48 t429.length co48 : Value).ownBlock) (Kd.R_keptB ((Kd.R_apart' HO_420003.out (Kd.R_typed HO_435002.out) (by decide))) hkp (fun k_ hk_ hs_ => Or.elim hs_ (fun e_ => (hk_.1.2.2.2.2.2.1) e_) (fun e_ => Or.elim e_ (fun e_ => (hk_.1.2.2.2.2.2.2.1) e_) (fun e_ => Or.elim e_ (fun e_ => (hk_.2) e_) (fun e_ => (hk_.1.2.2.2.2.2.2.2) e_))))) (fun k_ hk_ => ⟨hk_.1.1.1, hk_.1.1.2.1, hk_.1.1.2.2.1, hk_.1.1.2.2.2.1, hk_.1.1.2.2.2.2.1, hk_.1.1.2.2.2.2.2.1, hk_.1.1.2.2.2.2.2.2.1, hk_.1.1.2.2.2.2.2.2.2⟩)); replace BK378 := Ya (blk_kept (Yk BK378.out) hkp (fun hs_ => Or.elim hs_ (fun e_ => (fun e_ => (Kd.R_ne HO_435000.out BK378.out (by decide)) e_) e_) (fun e_ => Or.elim e_ (fun e_ => (fun e_ => (Kd.R_ne HO_435001.out BK378.out (by decide)) e_) e_) (fun e_ => Or.elim e_ (fun e_ => (fun e_ => (Kd.R_ne HO_435002.out BK378.out (by decide)) e_) e_) (fun e_ => (fun e_ => (Kd.R_ne HO_435003.out BK378.out (by decide)) e_) e_))))); replace BK406 := Ya (blk_kept (Yk BK406.out) hkp (fun hs_ => Or.elim hs_ (fun e_ => (fun e_ => (Kd.R_ne HO_435000.out BK406.out (by decide)) e_) e_) (fun e_ => Or.elim e_ (fun e_ => (fun e_ => (Kd.R_ne HO_435001.out BK406.out (by decide)) e_) e_) (fun e_ => Or.elim e_ (fun e_ => (fun e_ => (Kd.R_ne HO_435002.out BK406.out (by decide)) e_) e_) (fun e_ => (fun e_ => (Kd.R_ne HO_435003.out BK406.out (by decide)) e_) e_))))); replace BK419 := Ya (blk_kept (Yk BK419.out) hkp (fun hs_ => Or.elim hs_ (fun e_ => (fun e_ => (Kd.R_ne HO_435000.out BK419.out (by decide)) e_) e_) (fun e_ => Or.elim e_ (fun e_ => (fun e_ => (Kd.R_ne HO_435001.out BK419.out (by decide)) e_) e_) (fun e_ => Or.elim e_ (fun e_ => (fun e_ => (Kd.R_ne HO_435002.out BK419.out (by decide)) e_) e_) (fun e_ => (fun e_ => (Kd.R_ne HO_435003.out BK419.out (by decide)) e_) e_))))); replace BK434 := Ya (blk_kept (Yk BK434.out) hkp (fun hs_ => Or.elim hs_ (fun e_ => (fun e_ => (Kd.R_ne HO_435000.out BK434.out (by decide)) e_) e_) (fun e_ => Or.elim e_ (fun e_ => (fun e_ => (Kd.R_ne HO_435001.out BK434.out (by decide)) e_) e_) (fun e_ => Or.elim e_ (fun e_ => (fun e_ => (Kd.R_ne HO_435002.out BK434.out (by decide)) e_) e_) (fun e_ => (fun e_ => (Kd.R_ne HO_435003.out BK434.out (by decide)) e_) e_))))); replace HO_435000 := Ya (Kd.R_reok rfl hy0 (fun k_ e_ => HO_435000.out.1 k_ e_)); replace HO_435001 := Ya (Kd.R_reok rfl hy1 (fun k_ e_ => HO_435001.out.1 k_ e_)); replace HO_435002 := Ya (Kd.R_reok rfl hy2 (fun k_ e_ => HO_435002.out.1 k_ e_)); replace HO_435003 := Ya (Kd.R_reok rfl hy3 (fun k_ e_ => HO_435003.out.1 k_ e_)); replace HB := Ya hb; have hz223 := Y4 BK434.out) | ((with_reducible refine gate_callee (f := 14) rfl ?_); refine Yz 82 Try.func14 #[.agg #[.slice Ao41 t456.length co41, .slice Ao46 t457.length co46, .slice Ao47 t458.length co47, .slice Ao48 t459.length co48], .int .i64 1] ?_ (hargs := Q27); (with_reducible refine (laws_heldFocus.calls kj80 _ _ t456 _ _ t457 _ _ t458 _ _ t459 1 t460 _ (Yc (Kd.R_reads' HO_435000.out).2.2) ?side2 (Yc (Kd.R_reads' HO_435001.out).2.2) ?side4 (Yc (Kd.R_reads' HO_435002.out).2.2) ?side6 (Yc (Kd.R_reads' HO_435003.out).2.2) ?side8 A124.out).mono ?_); (case side2 => rw [show t456.length = t420.length from (Kd.R_reads' HO_435000.out).1.symm]; exact (Kd.R_reads' HO_435000.out).2.1); (case side4 => rw [show t457.length = t423.length from (Kd.R_reads' HO_435001.out).1.symm]; exact (Kd.R_reads' HO_435001.out).2.1); (case side6 => rw [show t458.length = t426.length from (Kd.R_reads' HO_435002.out).1.symm]; exact (Kd.R_reads' HO_435002.out).2.1); (case side8 => rw [show t459.length = t429.length from (Kd.R_reads' HO_435003.out).1.symm]; exact (Kd.R_reads' HO_435003.out).2.1); rintro e w224 ⟨rfl, hb⟩; refine ⟨_, rfl, ?_⟩; replace HO_407000 := Yw HO_407000 hb; replace HO_407001 := Yw HO_407001 hb; replace HO_407002 := Yw HO_407002 hb; replace HO_407003 := Yw HO_407003 hb; replace HO_420000 := Yw HO_420000 hb; replace HO_420001 := Yw HO_420001 hb; replace HO_420002 := Yw HO_420002 hb; replace HO_420003 := Yw HO_420003 hb; replace HO_435000 := Yw HO_435000 hb; replace HO_435001 := Yw HO_435001 hb; replace HO_435002 := Yw HO_435002 hb; replace HO_435003 := Yw HO_435003 hb; replace BK378 := Yb BK378 hb; replace BK406 := Yb BK406 hb; replace BK419 := Yb BK419 hb; replace BK434 := Yb BK434 hb; replace HB := Yh hb; (try clear hb)))
           go_ret
           exact ⟨Q2, Q12⟩
     ·replace c79 := Bool.eq_false_iff.mpr c79
      subst c79
      have H1 : (some false) = some r := by rw [if_neg (show ¬ (false = true) by decide)] at H; exact H
      clear H
      have H := H1
      clear H1
      obtain rfl := Option.some.inj H
      try go_wp2
      replace HO_407000 := Ya (Z10 HO_407000.out)
      replace HO_407001 := Ya (Z10 HO_407001.out)
      replace HO_407002 := Ya (Z10 HO_407002.out)
      replace HO_407003 := Ya (Z10 HO_407003.out)
      replace HO_420000 := Ya (Z10 HO_420000.out)
      replace HO_420001 := Ya (Z10 HO_420001.out)
      replace HO_420002 := Ya (Z10 HO_420002.out)
      replace HO_420003 := Ya (Z10 HO_420003.out)
      replace HO_435000 := Ya (Z10 HO_435000.out)
      replace HO_435001 := Ya (Z10 HO_435001.out)
      replace HO_435002 := Ya (Z10 HO_435002.out)
      replace HO_435003 := Ya (Z10 HO_435003.out)
      replace BK378 := Ya (Z26 BK378.out)
      replace BK406 := Ya (Z26 BK406.out)
      replace BK419 := Ya (Z26 BK419.out)
      replace BK434 := Ya (Z26 BK434.out)
      replace HB := Ya (Z4 HB.out)
      refine start_ (n := 5) (S := fun w' => w'.cell? ⟨gb419, 0, none⟩ = some (.slice Ao32 t407.length co32) ∧ w'.cell? ⟨gb419, 1, none⟩ = some (.slice Ao36 t410.length co36) ∧ w'.cell? ⟨gb419, 2, none⟩ = some (.slice Ao37 t413.length co37) ∧ w'.cell? ⟨gb419, 3, none⟩ = some (.slice Ao38 t416.length co38) ∧ w'.cell? ⟨gb378, 0, none⟩ = some (.slice A0_0 l0_0.length c0_0) ∧ w'.cell? ⟨gb378, 1, none⟩ = some (.slice A0_1 l0_1.length c0_1) ∧ w'.cell? ⟨gb378, 2, none⟩ = some (.slice A0_2 l0_2.length c0_2) ∧ w'.cell? ⟨gb378, 3, none⟩ = some (.slice A0_3 l0_3.length c0_3)) (ds := []) #[false, false, false, false, false] (by kernel_rfl) rfl rfl ⟨(Z23 BK419.out 0).trans rfl, (Z23 BK419.out 1).trans rfl, (Z23 BK419.out 2).trans rfl, (Z23 BK419.out 3).trans rfl, (Z23 BK378.out 0).trans rfl, (Z23 BK378.out 1).trans rfl, (Z23 BK378.out 2).trans rfl, (Z23 BK378.out 3).trans rfl⟩ (fun hHeld => ?_)
      generalize wc.drew = w225 at HO_407000 HO_407001 HO_407002 HO_407003 HO_420000 HO_420001 HO_420002 HO_420003 HO_435000 HO_435001 HO_435002 HO_435003 BK378 BK406 BK419 BK434 HB hHeld ⊢
      refine Ys 0 (some 51) #[true, false, false, false, false] rfl hHeld Q109 ?_
      refine Ys 1 (some 52) #[true, true, false, false, false] rfl hHeld Q109 ?_
      refine one_ (i := 2) (N := some 53) #[true, true, true, false, false] rfl rfl (by kernel_rfl) (by decide) (fun K hK => ?_)
      refine goes_ Try.func10 (by kernel_rfl) rfl #[.agg #[.slice A0_0 l0_0.length c0_0, .slice A0_1 l0_1.length c0_1, .slice A0_2 l0_2.length c0_2, .slice A0_3 l0_3.length c0_3]] (by rfl) rfl rfl Q4 ?_
      with_reducible refine (laws_toFocus.calls kj10 _ _ l0_0 _ _ l0_1 _ _ l0_2 _ _ l0_3 t436 t439 t442 t445 _ ?side1 ?side2 ?side3 ?side4 ?side5 ?side6 ?side7 ?side8 A77.out).mono ?_
      (case side1 => exact Yc (Z22 HR0_0.out HB.out))
      (case side2 => exact HC0_0.out)
      (case side3 => exact Yc (Z22 HR0_1.out HB.out))
      (case side4 => exact HC0_1.out)
      (case side5 => exact Yc (Z22 HR0_2.out HB.out))
      (case side6 => exact HC0_2.out)
      (case side7 => exact Yc (Z22 HR0_3.out HB.out))
      (case side8 => exact HC0_3.out)
      rintro e w226 ⟨v437, v440, v443, v446, rfl, ho0, ho1, ho2, ho3, hb⟩
      refine ⟨_, rfl, ?_⟩
      have HO438 := Yl (Kd.R_new' (Kd.R_new' (Kd.R_new' (Kd.R_new' (Kd.R_new' (Kd.R_new' (Kd.R_new' (Kd.R_new' (Kd.R_new' ho0 (Z17 (Yr HO_407000.out))) (Z17 (Yr HO_407001.out))) (Z17 (Yr HO_407003.out))) (Z17 (Yr HO_420000.out))) (Z17 (Yr HO_420001.out))) (Z17 (Yr HO_420003.out))) (Z17 (Yr HO_435000.out))) (Z17 (Yr HO_435001.out))) (Z17 (Yr HO_435003.out)))
      have HO441 := Yl (Kd.R_new' (Kd.R_new' (Kd.R_new' (Kd.R_new' (Kd.R_new' (Kd.R_new' (Kd.R_new' (Kd.R_new' (Kd.R_new' ho1 (Z17 (Yr HO_407000.out))) (Z17 (Yr HO_407001.out))) (Z17 (Yr HO_407003.out))) (Z17 (Yr HO_420000.out))) (Z17 (Yr HO_420001.out))) (Z17 (Yr HO_420003.out))) (Z17 (Yr HO_435000.out))) (Z17 (Yr HO_435001.out))) (Z17 (Yr HO_435003.out)))
      have HO444 := Yl (Kd.R_new' (Kd.R_new' (Kd.R_new' ho2 (Z17 (Yr HO_407002.out))) (Z17 (Yr HO_420002.out))) (Z17 (Yr HO_435002.out)))
      replace HO_407002 := Ya (Kd.R_elder' (Yr HO_407002.out) (Kd.R_base ho2) hb)
      replace HO_420002 := Ya (Kd.R_elder' (Yr HO_420002.out) (Kd.R_base ho2) hb)
      replace HO_435002 := Ya (Kd.R_elder' (Yr HO_435002.out) (Kd.R_base ho2) hb)
      have HO447 := Yl (Kd.R_new' (Kd.R_new' (Kd.R_new' (Kd.R_new' (Kd.R_new' (Kd.R_new' (Kd.R_new' (Kd.R_new' (Kd.R_new' ho3 (Z17 (Yr HO_407000.out))) (Z17 (Yr HO_407001.out))) (Z17 (Yr HO_407003.out))) (Z17 (Yr HO_420000.out))) (Z17 (Yr HO_420001.out))) (Z17 (Yr HO_420003.out))) (Z17 (Yr HO_435000.out))) (Z17 (Yr HO_435001.out))) (Z17 (Yr HO_435003.out)))
      replace HO_407000 := Ya (Z11 (Z15 (Z15 (Z15 (Z16 (Yr HO_407000.out) hb) (Kd.R_base ho0)) (Kd.R_base ho1)) (Kd.R_base ho3)) (fun _ h_ => h_.1))
      replace HO_407001 := Ya (Z11 (Z15 (Z15 (Z15 (Z16 (Yr HO_407001.out) hb) (Kd.R_base ho0)) (Kd.R_base ho1)) (Kd.R_base ho3)) (fun _ h_ => h_.1))
      replace HO_407003 := Ya (Z11 (Z15 (Z15 (Z15 (Z16 (Yr HO_407003.out) hb) (Kd.R_base ho0)) (Kd.R_base ho1)) (Kd.R_base ho3)) (fun _ h_ => h_.1))
      replace HO_420000 := Ya (Z11 (Z15 (Z15 (Z15 (Z16 (Yr HO_420000.out) hb) (Kd.R_base ho0)) (Kd.R_base ho1)) (Kd.R_base ho3)) (fun _ h_ => h_.1))
      replace HO_420001 := Ya (Z11 (Z15 (Z15 (Z15 (Z16 (Yr HO_420001.out) hb) (Kd.R_base ho0)) (Kd.R_base ho1)) (Kd.R_base ho3)) (fun _ h_ => h_.1))
      replace HO_420003 := Ya (Z11 (Z15 (Z15 (Z15 (Z16 (Yr HO_420003.out) hb) (Kd.R_base ho0)) (Kd.R_base ho1)) (Kd.R_base ho3)) (fun _ h_ => h_.1))
      replace HO_435000 := Ya (Z11 (Z15 (Z15 (Z15 (Z16 (Yr HO_435000.out) hb) (Kd.R_base ho0)) (Kd.R_base ho1)) (Kd.R_base ho3)) (fun _ h_ => h_.1))
      replace HO_435001 := Ya (Z11 (Z15 (Z15 (Z15 (Z16 (Yr HO_435001.out) hb) (Kd.R_base ho0)) (Kd.R_base ho1)) (Kd.R_base ho3)) (fun _ h_ => h_.1))
      replace HO_435003 := Ya (Z11 (Z15 (Z15 (Z15 (Z16 (Yr HO_435003.out) hb) (Kd.R_base ho0)) (Kd.R_base ho1)) (Kd.R_base ho3)) (fun _ h_ => h_.1))
      replace BK378 := Yb BK378 hb
      replace BK406 := Yb BK406 hb
      replace BK419 := Yb BK419 hb
      replace BK434 := Yb BK434 hb
      replace HB := Yh hb
      (try clear hb ho0 ho1 ho2 ho3)
      obtain ⟨Ao227, co227, eo227⟩ := Z18 HO438.out
      (first | subst eo227 | (injection eo227 with f1_ f2_ f3_; have f4_ := f1_.symm; have f5_ := f3_.symm; clear f1_ f2_ f3_; subst f4_; subst f5_))
      obtain ⟨Ao228, co228, eo228⟩ := Z18 HO441.out
      (first | subst eo228 | (injection eo228 with f1_ f2_ f3_; have f4_ := f1_.symm; have f5_ := f3_.symm; clear f1_ f2_ f3_; subst f4_; subst f5_))
      obtain ⟨Ao229, co229, eo229⟩ := Z18 HO444.out
      (first | subst eo229 | (injection eo229 with f1_ f2_ f3_; have f4_ := f1_.symm; have f5_ := f3_.symm; clear f1_ f2_ f3_; subst f4_; subst f5_))
      obtain ⟨Ao230, co230, eo230⟩ := Z18 HO447.out
      (first | subst eo230 | (injection eo230 with f1_ f2_ f3_; have f4_ := f1_.symm; have f5_ := f3_.symm; clear f1_ f2_ f3_; subst f4_; subst f5_))
      refine hK.out _ _ ⟨(Z23 BK419.out 0).trans rfl, (Z23 BK419.out 1).trans rfl, (Z23 BK419.out 2).trans rfl, (Z23 BK419.out 3).trans rfl, (Z23 BK378.out 0).trans rfl, (Z23 BK378.out 1).trans rfl, (Z23 BK378.out 2).trans rfl, (Z23 BK378.out 3).trans rfl⟩ (fun hHeld => ?_)
      clear hK K
      refine norm_ (a' := ?_) ?_ ?_
      rotate_left
      ·show Act.put _ (some 53) _ = _
       simp only [Act.put, Z0, Z1, Z2, i64_w, i32_w]
       rfl
      refine one_ (i := 3) (N := some 54) #[true, true, true, true, false] rfl rfl (by kernel_rfl) (by decide) (fun K hK => ?_)
      refine goes_ Try.func12 (by kernel_rfl) rfl #[.agg #[.slice Ao32 t407.length co32, .slice Ao36 t410.length co36, .slice Ao37 t413.length co37, .slice Ao38 t416.length co38], .agg #[.slice Ao227 t436.length co227, .slice Ao228 t439.length co228, .slice Ao229 t442.length co229, .slice Ao230 t445.length co230]] (by rfl) rfl rfl Q4 ?_
      with_reducible refine (laws_eqFocus.calls kj10 _ _ t407 _ _ t410 _ _ t413 _ _ t416 _ _ t436 _ _ t439 _ _ t442 _ _ t445 false _ ?side1 ?side2 ?side3 ?side4 ?side5 ?side6 ?side7 ?side8 ?side9 ?side10 ?side11 ?side12 ?side13 ?side14 ?side15 ?side16 A78.out).mono ?_
      (case side1 => exact Yc (Kd.R_reads' HO_420000.out).2.2)
      (case side2 => exact (Kd.R_reads' HO_420000.out).2.1)
      (case side3 => exact Yc (Kd.R_reads' HO_420001.out).2.2)
      (case side4 => exact (Kd.R_reads' HO_420001.out).2.1)
      (case side5 => exact Yc (Kd.R_reads' HO_420002.out).2.2)
      (case side6 => exact (Kd.R_reads' HO_420002.out).2.1)
      (case side7 => exact Yc (Kd.R_reads' HO_420003.out).2.2)
      (case side8 => exact (Kd.R_reads' HO_420003.out).2.1)
      (case side9 => exact Yc (Kd.R_reads' HO438.out).2.2)
      (case side10 => exact (Kd.R_reads' HO438.out).2.1)
      (case side11 => exact Yc (Kd.R_reads' HO441.out).2.2)
      (case side12 => exact (Kd.R_reads' HO441.out).2.1)
      (case side13 => exact Yc (Kd.R_reads' HO444.out).2.2)
      (case side14 => exact (Kd.R_reads' HO444.out).2.1)
      (case side15 => exact Yc (Kd.R_reads' HO447.out).2.2)
      (case side16 => exact (Kd.R_reads' HO447.out).2.1)
      rintro e w231 ⟨rfl, hb⟩
      refine ⟨_, rfl, ?_⟩
      replace HO_407000 := Yw HO_407000 hb
      replace HO_407001 := Yw HO_407001 hb
      replace HO_407002 := Yw HO_407002 hb
      replace HO_407003 := Yw HO_407003 hb
      replace HO_420000 := Yw HO_420000 hb
      replace HO_420001 := Yw HO_420001 hb
      replace HO_420002 := Yw HO_420002 hb
      replace HO_420003 := Yw HO_420003 hb
      replace HO_435000 := Yw HO_435000 hb
      replace HO_435001 := Yw HO_435001 hb
      replace HO_435002 := Yw HO_435002 hb
      replace HO_435003 := Yw HO_435003 hb
      replace HO438 := Yw HO438 hb
      replace HO441 := Yw HO441 hb
      replace HO444 := Yw HO444 hb
      replace HO447 := Yw HO447 hb
      replace BK378 := Yb BK378 hb
      replace BK406 := Yb BK406 hb
      replace BK419 := Yb BK419 hb
      replace BK434 := Yb BK434 hb
      replace HB := Yh hb
      (try clear hb)
      refine hK.out _ _ ⟨(Z23 BK419.out 0).trans rfl, (Z23 BK419.out 1).trans rfl, (Z23 BK419.out 2).trans rfl, (Z23 BK419.out 3).trans rfl, (Z23 BK378.out 0).trans rfl, (Z23 BK378.out 1).trans rfl, (Z23 BK378.out 2).trans rfl, (Z23 BK378.out 3).trans rfl⟩ (fun hHeld => ?_)
      clear hK K
      refine norm_ (a' := ?_) ?_ ?_
      rotate_left
      ·show Act.put _ (some 54) _ = _
       simp only [Act.put, Z0, Z1, Z2, i64_w, i32_w]
       rfl
      refine Yq 4 (some 55) #[true, true, true, true, true] rfl ?_
      refine done_ (by kernel_rfl) ?_
      try go_wp2
      go_ret
      exact ⟨Q2, Q12⟩
end Go.Proofs.Ytpfakdhfffehaaa.MFnExactStepFocus
