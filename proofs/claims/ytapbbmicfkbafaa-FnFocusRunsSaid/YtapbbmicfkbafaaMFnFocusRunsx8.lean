import Derived.Test.YtapbbmicfkbafaaMFnFocusRunsx0
import Derived.Test.YtapbbmicfkbafaaMFnFocusRunsx1
import Derived.Test.YtapbbmicfkbafaaMFnFocusRunsx2
import Derived.Test.YtapbbmicfkbafaaMFnFocusRunsx3
import Derived.Test.YtapbbmicfkbafaaMFnFocusRunsx5
import Derived.Test.YtapbbmicfkbafaaMFnFocusRunsx6
import Derived.Test.YtapbbmicfkbafaaMFnFocusRunsx7
namespace Go.Proofs.Ytapbbmicfkbafaa.MFnFocusRuns
open Go.RowKit Go.Proofs.YtapbbmicfkbafaaW.PrintWords Go.Proofs.YtapbbmicfkbafaaW.PrintLast Go.Proofs.YtapbbmicfkbafaaW.PrintMore
attribute [local go_sem] max2_int min2_int max_two min_two max_three min_three max_four min_four   
set_option linter.unusedVariables false
set_option linter.unusedSimpArgs false
mutual
def laws_FnFocusRuns.j0 : Nat → List Int → List Int → Int → List Int → Bool → Bool → Option (Bool)
 | 0, _, _, _, _, _, _ => none
 | k + 1, x1, x5, x6, x7, x8, x66 => if x66 = true then (some false) else ((impl_CountTurns.f k x5).bind fun bt534 => ((spec_CountTurns.f k x5).bind fun bt538 => (if (bt534.2 != bt538.2) = true then (laws_FnFocusRuns.j1 k x1 x5 x6 x7 x8 bt534.1 true) else ((laws_uSame.f k bt534.1 bt538.1).bind fun t542 => (laws_FnFocusRuns.j1 k x1 x5 x6 x7 x8 bt534.1 (!t542))))))
def laws_FnFocusRuns.j1 : Nat → List Int → List Int → Int → List Int → Bool → List Int → Bool → Option (Bool)
 | 0, _, _, _, _, _, _, _ => none
 | k + 1, x1, x5, x6, x7, x8, x11, x85 => if x85 = true then (some false) else (if x8 = true then (laws_FnFocusRuns.l0 k x1 x5 x6 x7 x11 1 x5 (x5.length : Int) 0) else (laws_FnFocusRuns.j6 k x1))
def laws_FnFocusRuns.j6 : Nat → List Int → Option (Bool)
 | 0, _ => none
 | k + 1, x1 => (spec_DrawFocusAt.f k x1).bind fun bt575 => ((impl_FocusAt.f k bt575.1 bt575.2).bind fun bt579 => ((spec_FocusAt.f k bt575.1 bt575.2).bind fun bt593 => (if (bt579.2.2.2.2 != bt593.2.2.2.2) = true then (laws_FnFocusRuns.j7 k bt575.1 bt575.2 bt579.2.2.2.2 true bt579.1 bt579.2.1 bt579.2.2.1 bt579.2.2.2.1) else ((laws_uFocus.f k bt579.1 bt579.2.1 bt579.2.2.1 bt579.2.2.2.1 bt593.1 bt593.2.1 bt593.2.2.1 bt593.2.2.2.1).bind fun t607 => (laws_FnFocusRuns.j7 k bt575.1 bt575.2 bt579.2.2.2.2 (!t607) bt579.1 bt579.2.1 bt579.2.2.1 bt579.2.2.2.1)))))
def laws_FnFocusRuns.j7 : Nat → List Int → Int → Bool → Bool → List Int → List Int → List Bool → List Int → Option (Bool)
 | 0, _, _, _, _, _, _, _, _ => none
 | k + 1, x28, x29, x31, x192, x593000, x593001, x593002, x593003 => if x192 = true then (some false) else (if x31 = true then ((impl_MixedAt.f k x28 x29).bind fun bt608 => ((impl_FocusRank.f k x593000 x593001 x593002 x593003).bind fun bt612 => (if bt608.2 = true then ((laws_uSame.f k bt608.1 x593001).bind fun t614 => (if t614 = true then (if bt612.2 = true then (some (bt612.1 == x29)) else (some false)) else (some false))) else (some false)))) else (some true))
def laws_FnFocusRuns.l0 : Nat → List Int → List Int → Int → List Int → List Int → Int → List Int → Int → Int → Option (Bool)
 | 0, _, _, _, _, _, _, _, _, _ => none
 | k + 1, x1, x5, x6, x7, x11, x15, x87, x88, x89 => if x89 < x88 then (if 0 ≤ x89 then (if x89 < (x87.length : Int) then (laws_FnFocusRuns.l0 k x1 x5 x6 x7 x11 (wrap64 (x15 * (rd x87 x89))) x87 x88 (wrap64 (x89 + 1))) else (none)) else (none)) else (if x6 < (wrap64 (x15 - 1)) then (if (x7.length : Int) = x6 then (if x6 ≥ (wrap64 (x15 - 1)) then (laws_FnFocusRuns.j3 k x1 x5 x7 x11 x15 ((x7.length : Int) != (wrap64 (x15 - 1)))) else (laws_FnFocusRuns.j3 k x1 x5 x7 x11 x15 false)) else (laws_FnFocusRuns.j3 k x1 x5 x7 x11 x15 true)) else (if x6 ≥ (wrap64 (x15 - 1)) then (laws_FnFocusRuns.j3 k x1 x5 x7 x11 x15 ((x7.length : Int) != (wrap64 (x15 - 1)))) else (laws_FnFocusRuns.j3 k x1 x5 x7 x11 x15 false)))
def laws_FnFocusRuns.j3 : Nat → List Int → List Int → List Int → List Int → Int → Bool → Option (Bool)
 | 0, _, _, _, _, _, _ => none
 | k + 1, x1, x5, x7, x11, x15, x119 => if x119 = true then (some false) else (laws_FnFocusRuns.l1 k x1 x5 x7 x15 0 x11 (x11.length : Int) 0)
def laws_FnFocusRuns.l1 : Nat → List Int → List Int → List Int → Int → Int → List Int → Int → Int → Option (Bool)
 | 0, _, _, _, _, _, _, _, _ => none
 | k + 1, x1, x5, x7, x15, x18, x120, x121, x122 => if x122 < x121 then (if 0 ≤ x122 then (if x122 < (x120.length : Int) then (laws_FnFocusRuns.l1 k x1 x5 x7 x15 (wrap64 (x18 + (rd x120 x122))) x120 x121 (wrap64 (x122 + 1))) else (none)) else (none)) else (if x18 = (wrap64 (x15 - 1)) then ((impl_StartFocus.f k x5).bind fun bt545 => (laws_FnFocusRuns.l2 k x1 bt545.2.2.2.2 x7 (x7.length : Int) 0 bt545.1 bt545.2.1 bt545.2.2.1 bt545.2.2.2.1)) else (some false))
def laws_FnFocusRuns.l2 : Nat → List Int → Bool → List Int → Int → Int → List Int → List Int → List Bool → List Int → Option (Bool)
 | 0, _, _, _, _, _, _, _, _, _ => none
 | k + 1, x1, x22, x139, x140, x141, x559000, x559001, x559002, x559003 => if x141 < x140 then (if 0 ≤ x141 then (if x141 < (x139.length : Int) then (if x141 = 60 then (laws_FnFocusRuns.j6 k x1) else ((impl_StepFocus.f k x559000 x559001 x559002 x559003).bind fun bt560 => (if x22 = true then (if bt560.2.2.2.2.2 = true then (if bt560.2.2.2.2.1 = (rd x139 x141) then (laws_FnFocusRuns.l2 k x1 x22 x139 x140 (wrap64 (x141 + 1)) bt560.1 bt560.2.1 bt560.2.2.1 bt560.2.2.2.1) else (some false)) else (some false)) else (some false)))) else (none)) else (none)) else (laws_FnFocusRuns.j6 k x1)
end
def laws_FnFocusRuns.f (k : Nat) (l0 : List Int) (l1 : List Int) : Option (Bool) := (laws_big.f l0 l1).bind fun t520 => (if t520 = true then (some true) else ((spec_DrawRunFocus.f k l0).bind fun bt521 => ((impl_RunFocus.f k bt521.1 bt521.2).bind fun bt525 => ((spec_RunFocus.f k bt521.1 bt521.2).bind fun bt529 => (if (bt525.2 != bt529.2) = true then (laws_FnFocusRuns.j0 k l1 bt521.1 bt521.2 bt525.1 bt525.2 true) else ((laws_uSame.f k bt525.1 bt529.1).bind fun t533 => (laws_FnFocusRuns.j0 k l1 bt521.1 bt521.2 bt525.1 bt525.2 (!t533))))))))
theorem laws_FnFocusRuns.mono_l : ∀ k, (∀ y0 y1 y2 y3 y4 y5, LeO (laws_FnFocusRuns.j0 k y0 y1 y2 y3 y4 y5) (laws_FnFocusRuns.j0 (k + 1) y0 y1 y2 y3 y4 y5)) ∧ (∀ y0 y1 y2 y3 y4 y5 y6, LeO (laws_FnFocusRuns.j1 k y0 y1 y2 y3 y4 y5 y6) (laws_FnFocusRuns.j1 (k + 1) y0 y1 y2 y3 y4 y5 y6)) ∧ (∀ y0, LeO (laws_FnFocusRuns.j6 k y0) (laws_FnFocusRuns.j6 (k + 1) y0)) ∧ (∀ y0 y1 y2 y3 y4 y5 y6 y7, LeO (laws_FnFocusRuns.j7 k y0 y1 y2 y3 y4 y5 y6 y7) (laws_FnFocusRuns.j7 (k + 1) y0 y1 y2 y3 y4 y5 y6 y7)) ∧ (∀ y0 y1 y2 y3 y4 y5 y6 y7 y8, LeO (laws_FnFocusRuns.l0 k y0 y1 y2 y3 y4 y5 y6 y7 y8) (laws_FnFocusRuns.l0 (k + 1) y0 y1 y2 y3 y4 y5 y6 y7 y8)) ∧ (∀ y0 y1 y2 y3 y4 y5, LeO (laws_FnFocusRuns.j3 k y0 y1 y2 y3 y4 y5) (laws_FnFocusRuns.j3 (k + 1) y0 y1 y2 y3 y4 y5)) ∧ (∀ y0 y1 y2 y3 y4 y5 y6 y7, LeO (laws_FnFocusRuns.l1 k y0 y1 y2 y3 y4 y5 y6 y7) (laws_FnFocusRuns.l1 (k + 1) y0 y1 y2 y3 y4 y5 y6 y7)) ∧ (∀ y0 y1 y2 y3 y4 y5 y6 y7 y8, LeO (laws_FnFocusRuns.l2 k y0 y1 y2 y3 y4 y5 y6 y7 y8) (laws_FnFocusRuns.l2 (k + 1) y0 y1 y2 y3 y4 y5 y6 y7 y8))
 | 0 => ⟨fun _ _ _ _ _ _ r h => by simp [laws_FnFocusRuns.j0] at h, fun _ _ _ _ _ _ _ r h => by simp [laws_FnFocusRuns.j1] at h, fun _ r h => by simp [laws_FnFocusRuns.j6] at h, fun _ _ _ _ _ _ _ _ r h => by simp [laws_FnFocusRuns.j7] at h, fun _ _ _ _ _ _ _ _ _ r h => by simp [laws_FnFocusRuns.l0] at h, fun _ _ _ _ _ _ r h => by simp [laws_FnFocusRuns.j3] at h, fun _ _ _ _ _ _ _ _ r h => by simp [laws_FnFocusRuns.l1] at h, fun _ _ _ _ _ _ _ _ _ r h => by simp [laws_FnFocusRuns.l2] at h⟩
 | k + 1 => by
  obtain ⟨ih0, ih1, ih2, ih3, ih4, ih5, ih6, ih7⟩ := laws_FnFocusRuns.mono_l k
  refine ⟨?_, ?_, ?_, ?_, ?_, ?_, ?_, ?_⟩
  ·intro y0 y1 y2 y3 y4 y5
   unfold laws_FnFocusRuns.j0
   repeat' first
   | (with_reducible exact ih0 _ _ _ _ _ _)
   | (with_reducible exact ih1 _ _ _ _ _ _ _)
   | (with_reducible exact ih2 _)
   | (with_reducible exact ih3 _ _ _ _ _ _ _ _)
   | (with_reducible exact ih4 _ _ _ _ _ _ _ _ _)
   | (with_reducible exact ih5 _ _ _ _ _ _)
   | (with_reducible exact ih6 _ _ _ _ _ _ _ _)
   | (with_reducible exact ih7 _ _ _ _ _ _ _ _ _)
   | (with_reducible exact impl_CountTurns.mono _ _)
   | (with_reducible exact impl_FocusAt.mono _ _ _)
   | (with_reducible exact impl_FocusRank.mono _ _ _ _ _)
   | (with_reducible exact impl_MixedAt.mono _ _ _)
   | (with_reducible exact impl_RunFocus.mono _ _ _)
   | (with_reducible exact impl_StartFocus.mono _ _)
   | (with_reducible exact impl_StepFocus.mono _ _ _ _ _)
   | (with_reducible exact laws_uFocus.mono _ _ _ _ _ _ _ _ _)
   | (with_reducible exact laws_uSame.mono _ _ _)
   | (with_reducible exact spec_CountTurns.mono _ _)
   | (with_reducible exact spec_DrawFocusAt.mono _ _)
   | (with_reducible exact spec_DrawRunFocus.mono _ _)
   | (with_reducible exact spec_FocusAt.mono _ _ _)
   | (with_reducible exact spec_RunFocus.mono _ _ _)
   | (with_reducible exact LeO.refl _)
   | (with_reducible exact LeO.none _)
   | (with_reducible refine LeO.ite ?_ ?_)
   | (with_reducible refine LeO.bind ?_ (fun _ => ?_))
   | exact ih0 _ _ _ _ _ _
   | exact ih1 _ _ _ _ _ _ _
   | exact ih2 _
   | exact ih3 _ _ _ _ _ _ _ _
   | exact ih4 _ _ _ _ _ _ _ _ _
   | exact ih5 _ _ _ _ _ _
   | exact ih6 _ _ _ _ _ _ _ _
   | exact ih7 _ _ _ _ _ _ _ _ _
   | exact impl_CountTurns.mono _ _
   | exact impl_FocusAt.mono _ _ _
   | exact impl_FocusRank.mono _ _ _ _ _
   | exact impl_MixedAt.mono _ _ _
   | exact impl_RunFocus.mono _ _ _
   | exact impl_StartFocus.mono _ _
   | exact impl_StepFocus.mono _ _ _ _ _
   | exact laws_uFocus.mono _ _ _ _ _ _ _ _ _
   | exact laws_uSame.mono _ _ _
   | exact spec_CountTurns.mono _ _
   | exact spec_DrawFocusAt.mono _ _
   | exact spec_DrawRunFocus.mono _ _
   | exact spec_FocusAt.mono _ _ _
   | exact spec_RunFocus.mono _ _ _
   | exact LeO.none _
   | refine LeO.ite ?_ ?_
   | refine LeO.bind ?_ (fun _ => ?_)
  ·intro y0 y1 y2 y3 y4 y5 y6
   unfold laws_FnFocusRuns.j1
   repeat' first
   | (with_reducible exact ih0 _ _ _ _ _ _)
   | (with_reducible exact ih1 _ _ _ _ _ _ _)
   | (with_reducible exact ih2 _)
   | (with_reducible exact ih3 _ _ _ _ _ _ _ _)
   | (with_reducible exact ih4 _ _ _ _ _ _ _ _ _)
   | (with_reducible exact ih5 _ _ _ _ _ _)
   | (with_reducible exact ih6 _ _ _ _ _ _ _ _)
   | (with_reducible exact ih7 _ _ _ _ _ _ _ _ _)
   | (with_reducible exact impl_CountTurns.mono _ _)
   | (with_reducible exact impl_FocusAt.mono _ _ _)
   | (with_reducible exact impl_FocusRank.mono _ _ _ _ _)
   | (with_reducible exact impl_MixedAt.mono _ _ _)
   | (with_reducible exact impl_RunFocus.mono _ _ _)
   | (with_reducible exact impl_StartFocus.mono _ _)
   | (with_reducible exact impl_StepFocus.mono _ _ _ _ _)
   | (with_reducible exact laws_uFocus.mono _ _ _ _ _ _ _ _ _)
   | (with_reducible exact laws_uSame.mono _ _ _)
   | (with_reducible exact spec_CountTurns.mono _ _)
   | (with_reducible exact spec_DrawFocusAt.mono _ _)
   | (with_reducible exact spec_DrawRunFocus.mono _ _)
   | (with_reducible exact spec_FocusAt.mono _ _ _)
   | (with_reducible exact spec_RunFocus.mono _ _ _)
   | (with_reducible exact LeO.refl _)
   | (with_reducible exact LeO.none _)
   | (with_reducible refine LeO.ite ?_ ?_)
   | (with_reducible refine LeO.bind ?_ (fun _ => ?_))
   | exact ih0 _ _ _ _ _ _
   | exact ih1 _ _ _ _ _ _ _
   | exact ih2 _
   | exact ih3 _ _ _ _ _ _ _ _
   | exact ih4 _ _ _ _ _ _ _ _ _
   | exact ih5 _ _ _ _ _ _
   | exact ih6 _ _ _ _ _ _ _ _
   | exact ih7 _ _ _ _ _ _ _ _ _
   | exact impl_CountTurns.mono _ _
   | exact impl_FocusAt.mono _ _ _
   | exact impl_FocusRank.mono _ _ _ _ _
   | exact impl_MixedAt.mono _ _ _
   | exact impl_RunFocus.mono _ _ _
   | exact impl_StartFocus.mono _ _
   | exact impl_StepFocus.mono _ _ _ _ _
   | exact laws_uFocus.mono _ _ _ _ _ _ _ _ _
   | exact laws_uSame.mono _ _ _
   | exact spec_CountTurns.mono _ _
   | exact spec_DrawFocusAt.mono _ _
   | exact spec_DrawRunFocus.mono _ _
   | exact spec_FocusAt.mono _ _ _
   | exact spec_RunFocus.mono _ _ _
   | exact LeO.none _
   | refine LeO.ite ?_ ?_
   | refine LeO.bind ?_ (fun _ => ?_)
  ·intro y0
   unfold laws_FnFocusRuns.j6
   repeat' first
   | (with_reducible exact ih0 _ _ _ _ _ _)
   | (with_reducible exact ih1 _ _ _ _ _ _ _)
   | (with_reducible exact ih2 _)
   | (with_reducible exact ih3 _ _ _ _ _ _ _ _)
   | (with_reducible exact ih4 _ _ _ _ _ _ _ _ _)
   | (with_reducible exact ih5 _ _ _ _ _ _)
   | (with_reducible exact ih6 _ _ _ _ _ _ _ _)
   | (with_reducible exact ih7 _ _ _ _ _ _ _ _ _)
   | (with_reducible exact impl_CountTurns.mono _ _)
   | (with_reducible exact impl_FocusAt.mono _ _ _)
   | (with_reducible exact impl_FocusRank.mono _ _ _ _ _)
   | (with_reducible exact impl_MixedAt.mono _ _ _)
   | (with_reducible exact impl_RunFocus.mono _ _ _)
   | (with_reducible exact impl_StartFocus.mono _ _)
   | (with_reducible exact impl_StepFocus.mono _ _ _ _ _)
   | (with_reducible exact laws_uFocus.mono _ _ _ _ _ _ _ _ _)
   | (with_reducible exact laws_uSame.mono _ _ _)
   | (with_reducible exact spec_CountTurns.mono _ _)
   | (with_reducible exact spec_DrawFocusAt.mono _ _)
   | (with_reducible exact spec_DrawRunFocus.mono _ _)
   | (with_reducible exact spec_FocusAt.mono _ _ _)
   | (with_reducible exact spec_RunFocus.mono _ _ _)
   | (with_reducible exact LeO.refl _)
   | (with_reducible exact LeO.none _)
   | (with_reducible refine LeO.ite ?_ ?_)
   | (with_reducible refine LeO.bind ?_ (fun _ => ?_))
   | exact ih0 _ _ _ _ _ _
   | exact ih1 _ _ _ _ _ _ _
   | exact ih2 _
   | exact ih3 _ _ _ _ _ _ _ _
   | exact ih4 _ _ _ _ _ _ _ _ _
   | exact ih5 _ _ _ _ _ _
   | exact ih6 _ _ _ _ _ _ _ _
   | exact ih7 _ _ _ _ _ _ _ _ _
   | exact impl_CountTurns.mono _ _
   | exact impl_FocusAt.mono _ _ _
   | exact impl_FocusRank.mono _ _ _ _ _
   | exact impl_MixedAt.mono _ _ _
   | exact impl_RunFocus.mono _ _ _
   | exact impl_StartFocus.mono _ _
   | exact impl_StepFocus.mono _ _ _ _ _
   | exact laws_uFocus.mono _ _ _ _ _ _ _ _ _
   | exact laws_uSame.mono _ _ _
   | exact spec_CountTurns.mono _ _
   | exact spec_DrawFocusAt.mono _ _
   | exact spec_DrawRunFocus.mono _ _
   | exact spec_FocusAt.mono _ _ _
   | exact spec_RunFocus.mono _ _ _
   | exact LeO.none _
   | refine LeO.ite ?_ ?_
   | refine LeO.bind ?_ (fun _ => ?_)
  ·intro y0 y1 y2 y3 y4 y5 y6 y7
   unfold laws_FnFocusRuns.j7
   repeat' first
   | (with_reducible exact ih0 _ _ _ _ _ _)
   | (with_reducible exact ih1 _ _ _ _ _ _ _)
   | (with_reducible exact ih2 _)
   | (with_reducible exact ih3 _ _ _ _ _ _ _ _)
   | (with_reducible exact ih4 _ _ _ _ _ _ _ _ _)
   | (with_reducible exact ih5 _ _ _ _ _ _)
   | (with_reducible exact ih6 _ _ _ _ _ _ _ _)
   | (with_reducible exact ih7 _ _ _ _ _ _ _ _ _)
   | (with_reducible exact impl_CountTurns.mono _ _)
   | (with_reducible exact impl_FocusAt.mono _ _ _)
   | (with_reducible exact impl_FocusRank.mono _ _ _ _ _)
   | (with_reducible exact impl_MixedAt.mono _ _ _)
   | (with_reducible exact impl_RunFocus.mono _ _ _)
   | (with_reducible exact impl_StartFocus.mono _ _)
   | (with_reducible exact impl_StepFocus.mono _ _ _ _ _)
   | (with_reducible exact laws_uFocus.mono _ _ _ _ _ _ _ _ _)
   | (with_reducible exact laws_uSame.mono _ _ _)
   | (with_reducible exact spec_CountTurns.mono _ _)
   | (with_reducible exact spec_DrawFocusAt.mono _ _)
   | (with_reducible exact spec_DrawRunFocus.mono _ _)
   | (with_reducible exact spec_FocusAt.mono _ _ _)
   | (with_reducible exact spec_RunFocus.mono _ _ _)
   | (with_reducible exact LeO.refl _)
   | (with_reducible exact LeO.none _)
   | (with_reducible refine LeO.ite ?_ ?_)
   | (with_reducible refine LeO.bind ?_ (fun _ => ?_))
   | exact ih0 _ _ _ _ _ _
   | exact ih1 _ _ _ _ _ _ _
   | exact ih2 _
   | exact ih3 _ _ _ _ _ _ _ _
   | exact ih4 _ _ _ _ _ _ _ _ _
   | exact ih5 _ _ _ _ _ _
   | exact ih6 _ _ _ _ _ _ _ _
   | exact ih7 _ _ _ _ _ _ _ _ _
   | exact impl_CountTurns.mono _ _
   | exact impl_FocusAt.mono _ _ _
   | exact impl_FocusRank.mono _ _ _ _ _
   | exact impl_MixedAt.mono _ _ _
   | exact impl_RunFocus.mono _ _ _
   | exact impl_StartFocus.mono _ _
   | exact impl_StepFocus.mono _ _ _ _ _
   | exact laws_uFocus.mono _ _ _ _ _ _ _ _ _
   | exact laws_uSame.mono _ _ _
   | exact spec_CountTurns.mono _ _
   | exact spec_DrawFocusAt.mono _ _
   | exact spec_DrawRunFocus.mono _ _
   | exact spec_FocusAt.mono _ _ _
   | exact spec_RunFocus.mono _ _ _
   | exact LeO.none _
   | refine LeO.ite ?_ ?_
   | refine LeO.bind ?_ (fun _ => ?_)
  ·intro y0 y1 y2 y3 y4 y5 y6 y7 y8
   unfold laws_FnFocusRuns.l0
   repeat' first
   | (with_reducible exact ih0 _ _ _ _ _ _)
   | (with_reducible exact ih1 _ _ _ _ _ _ _)
   | (with_reducible exact ih2 _)
   | (with_reducible exact ih3 _ _ _ _ _ _ _ _)
   | (with_reducible exact ih4 _ _ _ _ _ _ _ _ _)
   | (with_reducible exact ih5 _ _ _ _ _ _)
   | (with_reducible exact ih6 _ _ _ _ _ _ _ _)
   | (with_reducible exact ih7 _ _ _ _ _ _ _ _ _)
   | (with_reducible exact impl_CountTurns.mono _ _)
   | (with_reducible exact impl_FocusAt.mono _ _ _)
   | (with_reducible exact impl_FocusRank.mono _ _ _ _ _)
   | (with_reducible exact impl_MixedAt.mono _ _ _)
   | (with_reducible exact impl_RunFocus.mono _ _ _)
   | (with_reducible exact impl_StartFocus.mono _ _)
   | (with_reducible exact impl_StepFocus.mono _ _ _ _ _)
   | (with_reducible exact laws_uFocus.mono _ _ _ _ _ _ _ _ _)
   | (with_reducible exact laws_uSame.mono _ _ _)
   | (with_reducible exact spec_CountTurns.mono _ _)
   | (with_reducible exact spec_DrawFocusAt.mono _ _)
   | (with_reducible exact spec_DrawRunFocus.mono _ _)
   | (with_reducible exact spec_FocusAt.mono _ _ _)
   | (with_reducible exact spec_RunFocus.mono _ _ _)
   | (with_reducible exact LeO.refl _)
   | (with_reducible exact LeO.none _)
   | (with_reducible refine LeO.ite ?_ ?_)
   | (with_reducible refine LeO.bind ?_ (fun _ => ?_))
   | exact ih0 _ _ _ _ _ _
   | exact ih1 _ _ _ _ _ _ _
   | exact ih2 _
   | exact ih3 _ _ _ _ _ _ _ _
   | exact ih4 _ _ _ _ _ _ _ _ _
   | exact ih5 _ _ _ _ _ _
   | exact ih6 _ _ _ _ _ _ _ _
   | exact ih7 _ _ _ _ _ _ _ _ _
   | exact impl_CountTurns.mono _ _
   | exact impl_FocusAt.mono _ _ _
   | exact impl_FocusRank.mono _ _ _ _ _
   | exact impl_MixedAt.mono _ _ _
   | exact impl_RunFocus.mono _ _ _
   | exact impl_StartFocus.mono _ _
   | exact impl_StepFocus.mono _ _ _ _ _
   | exact laws_uFocus.mono _ _ _ _ _ _ _ _ _
   | exact laws_uSame.mono _ _ _
   | exact spec_CountTurns.mono _ _
   | exact spec_DrawFocusAt.mono _ _
   | exact spec_DrawRunFocus.mono _ _
   | exact spec_FocusAt.mono _ _ _
   | exact spec_RunFocus.mono _ _ _
   | exact LeO.none _
   | refine LeO.ite ?_ ?_
   | refine LeO.bind ?_ (fun _ => ?_)
  ·intro y0 y1 y2 y3 y4 y5
   unfold laws_FnFocusRuns.j3
   repeat' first
   | (with_reducible exact ih0 _ _ _ _ _ _)
   | (with_reducible exact ih1 _ _ _ _ _ _ _)
   | (with_reducible exact ih2 _)
   | (with_reducible exact ih3 _ _ _ _ _ _ _ _)
   | (with_reducible exact ih4 _ _ _ _ _ _ _ _ _)
   | (with_reducible exact ih5 _ _ _ _ _ _)
   | (with_reducible exact ih6 _ _ _ _ _ _ _ _)
   | (with_reducible exact ih7 _ _ _ _ _ _ _ _ _)
   | (with_reducible exact impl_CountTurns.mono _ _)
   | (with_reducible exact impl_FocusAt.mono _ _ _)
   | (with_reducible exact impl_FocusRank.mono _ _ _ _ _)
   | (with_reducible exact impl_MixedAt.mono _ _ _)
   | (with_reducible exact impl_RunFocus.mono _ _ _)
   | (with_reducible exact impl_StartFocus.mono _ _)
   | (with_reducible exact impl_StepFocus.mono _ _ _ _ _)
   | (with_reducible exact laws_uFocus.mono _ _ _ _ _ _ _ _ _)
   | (with_reducible exact laws_uSame.mono _ _ _)
   | (with_reducible exact spec_CountTurns.mono _ _)
   | (with_reducible exact spec_DrawFocusAt.mono _ _)
   | (with_reducible exact spec_DrawRunFocus.mono _ _)
   | (with_reducible exact spec_FocusAt.mono _ _ _)
   | (with_reducible exact spec_RunFocus.mono _ _ _)
   | (with_reducible exact LeO.refl _)
   | (with_reducible exact LeO.none _)
   | (with_reducible refine LeO.ite ?_ ?_)
   | (with_reducible refine LeO.bind ?_ (fun _ => ?_))
   | exact ih0 _ _ _ _ _ _
   | exact ih1 _ _ _ _ _ _ _
   | exact ih2 _
   | exact ih3 _ _ _ _ _ _ _ _
   | exact ih4 _ _ _ _ _ _ _ _ _
   | exact ih5 _ _ _ _ _ _
   | exact ih6 _ _ _ _ _ _ _ _
   | exact ih7 _ _ _ _ _ _ _ _ _
   | exact impl_CountTurns.mono _ _
   | exact impl_FocusAt.mono _ _ _
   | exact impl_FocusRank.mono _ _ _ _ _
   | exact impl_MixedAt.mono _ _ _
   | exact impl_RunFocus.mono _ _ _
   | exact impl_StartFocus.mono _ _
   | exact impl_StepFocus.mono _ _ _ _ _
   | exact laws_uFocus.mono _ _ _ _ _ _ _ _ _
   | exact laws_uSame.mono _ _ _
   | exact spec_CountTurns.mono _ _
   | exact spec_DrawFocusAt.mono _ _
   | exact spec_DrawRunFocus.mono _ _
   | exact spec_FocusAt.mono _ _ _
   | exact spec_RunFocus.mono _ _ _
   | exact LeO.none _
   | refine LeO.ite ?_ ?_
   | refine LeO.bind ?_ (fun _ => ?_)
  ·intro y0 y1 y2 y3 y4 y5 y6 y7
   unfold laws_FnFocusRuns.l1
   repeat' first
   | (with_reducible exact ih0 _ _ _ _ _ _)
   | (with_reducible exact ih1 _ _ _ _ _ _ _)
   | (with_reducible exact ih2 _)
   | (with_reducible exact ih3 _ _ _ _ _ _ _ _)
   | (with_reducible exact ih4 _ _ _ _ _ _ _ _ _)
   | (with_reducible exact ih5 _ _ _ _ _ _)
   | (with_reducible exact ih6 _ _ _ _ _ _ _ _)
   | (with_reducible exact ih7 _ _ _ _ _ _ _ _ _)
   | (with_reducible exact impl_CountTurns.mono _ _)
   | (with_reducible exact impl_FocusAt.mono _ _ _)
   | (with_reducible exact impl_FocusRank.mono _ _ _ _ _)
   | (with_reducible exact impl_MixedAt.mono _ _ _)
   | (with_reducible exact impl_RunFocus.mono _ _ _)
   | (with_reducible exact impl_StartFocus.mono _ _)
   | (with_reducible exact impl_StepFocus.mono _ _ _ _ _)
   | (with_reducible exact laws_uFocus.mono _ _ _ _ _ _ _ _ _)
   | (with_reducible exact laws_uSame.mono _ _ _)
   | (with_reducible exact spec_CountTurns.mono _ _)
   | (with_reducible exact spec_DrawFocusAt.mono _ _)
   | (with_reducible exact spec_DrawRunFocus.mono _ _)
   | (with_reducible exact spec_FocusAt.mono _ _ _)
   | (with_reducible exact spec_RunFocus.mono _ _ _)
   | (with_reducible exact LeO.refl _)
   | (with_reducible exact LeO.none _)
   | (with_reducible refine LeO.ite ?_ ?_)
   | (with_reducible refine LeO.bind ?_ (fun _ => ?_))
   | exact ih0 _ _ _ _ _ _
   | exact ih1 _ _ _ _ _ _ _
   | exact ih2 _
   | exact ih3 _ _ _ _ _ _ _ _
   | exact ih4 _ _ _ _ _ _ _ _ _
   | exact ih5 _ _ _ _ _ _
   | exact ih6 _ _ _ _ _ _ _ _
   | exact ih7 _ _ _ _ _ _ _ _ _
   | exact impl_CountTurns.mono _ _
   | exact impl_FocusAt.mono _ _ _
   | exact impl_FocusRank.mono _ _ _ _ _
   | exact impl_MixedAt.mono _ _ _
   | exact impl_RunFocus.mono _ _ _
   | exact impl_StartFocus.mono _ _
   | exact impl_StepFocus.mono _ _ _ _ _
   | exact laws_uFocus.mono _ _ _ _ _ _ _ _ _
   | exact laws_uSame.mono _ _ _
   | exact spec_CountTurns.mono _ _
   | exact spec_DrawFocusAt.mono _ _
   | exact spec_DrawRunFocus.mono _ _
   | exact spec_FocusAt.mono _ _ _
   | exact spec_RunFocus.mono _ _ _
   | exact LeO.none _
   | refine LeO.ite ?_ ?_
   | refine LeO.bind ?_ (fun _ => ?_)
  ·intro y0 y1 y2 y3 y4 y5 y6 y7 y8
   unfold laws_FnFocusRuns.l2
   repeat' first
   | (with_reducible exact ih0 _ _ _ _ _ _)
   | (with_reducible exact ih1 _ _ _ _ _ _ _)
   | (with_reducible exact ih2 _)
   | (with_reducible exact ih3 _ _ _ _ _ _ _ _)
   | (with_reducible exact ih4 _ _ _ _ _ _ _ _ _)
   | (with_reducible exact ih5 _ _ _ _ _ _)
   | (with_reducible exact ih6 _ _ _ _ _ _ _ _)
   | (with_reducible exact ih7 _ _ _ _ _ _ _ _ _)
   | (with_reducible exact impl_CountTurns.mono _ _)
   | (with_reducible exact impl_FocusAt.mono _ _ _)
   | (with_reducible exact impl_FocusRank.mono _ _ _ _ _)
   | (with_reducible exact impl_MixedAt.mono _ _ _)
   | (with_reducible exact impl_RunFocus.mono _ _ _)
   | (with_reducible exact impl_StartFocus.mono _ _)
   | (with_reducible exact impl_StepFocus.mono _ _ _ _ _)
   | (with_reducible exact laws_uFocus.mono _ _ _ _ _ _ _ _ _)
   | (with_reducible exact laws_uSame.mono _ _ _)
   | (with_reducible exact spec_CountTurns.mono _ _)
   | (with_reducible exact spec_DrawFocusAt.mono _ _)
   | (with_reducible exact spec_DrawRunFocus.mono _ _)
   | (with_reducible exact spec_FocusAt.mono _ _ _)
   | (with_reducible exact spec_RunFocus.mono _ _ _)
   | (with_reducible exact LeO.refl _)
   | (with_reducible exact LeO.none _)
   | (with_reducible refine LeO.ite ?_ ?_)
   | (with_reducible refine LeO.bind ?_ (fun _ => ?_))
   | exact ih0 _ _ _ _ _ _
   | exact ih1 _ _ _ _ _ _ _
   | exact ih2 _
   | exact ih3 _ _ _ _ _ _ _ _
   | exact ih4 _ _ _ _ _ _ _ _ _
   | exact ih5 _ _ _ _ _ _
   | exact ih6 _ _ _ _ _ _ _ _
   | exact ih7 _ _ _ _ _ _ _ _ _
   | exact impl_CountTurns.mono _ _
   | exact impl_FocusAt.mono _ _ _
   | exact impl_FocusRank.mono _ _ _ _ _
   | exact impl_MixedAt.mono _ _ _
   | exact impl_RunFocus.mono _ _ _
   | exact impl_StartFocus.mono _ _
   | exact impl_StepFocus.mono _ _ _ _ _
   | exact laws_uFocus.mono _ _ _ _ _ _ _ _ _
   | exact laws_uSame.mono _ _ _
   | exact spec_CountTurns.mono _ _
   | exact spec_DrawFocusAt.mono _ _
   | exact spec_DrawRunFocus.mono _ _
   | exact spec_FocusAt.mono _ _ _
   | exact spec_RunFocus.mono _ _ _
   | exact LeO.none _
   | refine LeO.ite ?_ ?_
   | refine LeO.bind ?_ (fun _ => ?_)
theorem laws_FnFocusRuns.mono : ∀ a0 a1 k, LeO (laws_FnFocusRuns.f k a0 a1) (laws_FnFocusRuns.f (k + 1) a0 a1) := by
 intro a0 a1 k
 obtain ⟨ih0, ih1, ih2, ih3, ih4, ih5, ih6, ih7⟩ := laws_FnFocusRuns.mono_l k
 unfold laws_FnFocusRuns.f
 repeat' first
   | (with_reducible exact ih0 _ _ _ _ _ _)
   | (with_reducible exact ih1 _ _ _ _ _ _ _)
   | (with_reducible exact ih2 _)
   | (with_reducible exact ih3 _ _ _ _ _ _ _ _)
   | (with_reducible exact ih4 _ _ _ _ _ _ _ _ _)
   | (with_reducible exact ih5 _ _ _ _ _ _)
   | (with_reducible exact ih6 _ _ _ _ _ _ _ _)
   | (with_reducible exact ih7 _ _ _ _ _ _ _ _ _)
   | (with_reducible exact impl_CountTurns.mono _ _)
   | (with_reducible exact impl_FocusAt.mono _ _ _)
   | (with_reducible exact impl_FocusRank.mono _ _ _ _ _)
   | (with_reducible exact impl_MixedAt.mono _ _ _)
   | (with_reducible exact impl_RunFocus.mono _ _ _)
   | (with_reducible exact impl_StartFocus.mono _ _)
   | (with_reducible exact impl_StepFocus.mono _ _ _ _ _)
   | (with_reducible exact laws_uFocus.mono _ _ _ _ _ _ _ _ _)
   | (with_reducible exact laws_uSame.mono _ _ _)
   | (with_reducible exact spec_CountTurns.mono _ _)
   | (with_reducible exact spec_DrawFocusAt.mono _ _)
   | (with_reducible exact spec_DrawRunFocus.mono _ _)
   | (with_reducible exact spec_FocusAt.mono _ _ _)
   | (with_reducible exact spec_RunFocus.mono _ _ _)
   | (with_reducible exact LeO.refl _)
   | (with_reducible exact LeO.none _)
   | (with_reducible refine LeO.ite ?_ ?_)
   | (with_reducible refine LeO.bind ?_ (fun _ => ?_))
   | exact ih0 _ _ _ _ _ _
   | exact ih1 _ _ _ _ _ _ _
   | exact ih2 _
   | exact ih3 _ _ _ _ _ _ _ _
   | exact ih4 _ _ _ _ _ _ _ _ _
   | exact ih5 _ _ _ _ _ _
   | exact ih6 _ _ _ _ _ _ _ _
   | exact ih7 _ _ _ _ _ _ _ _ _
   | exact impl_CountTurns.mono _ _
   | exact impl_FocusAt.mono _ _ _
   | exact impl_FocusRank.mono _ _ _ _ _
   | exact impl_MixedAt.mono _ _ _
   | exact impl_RunFocus.mono _ _ _
   | exact impl_StartFocus.mono _ _
   | exact impl_StepFocus.mono _ _ _ _ _
   | exact laws_uFocus.mono _ _ _ _ _ _ _ _ _
   | exact laws_uSame.mono _ _ _
   | exact spec_CountTurns.mono _ _
   | exact spec_DrawFocusAt.mono _ _
   | exact spec_DrawRunFocus.mono _ _
   | exact spec_FocusAt.mono _ _ _
   | exact spec_RunFocus.mono _ _ _
   | exact LeO.none _
   | refine LeO.ite ?_ ?_
   | refine LeO.bind ?_ (fun _ => ?_)
set_option maxHeartbeats 20000000 in
set_option maxRecDepth 100000 in
theorem laws_FnFocusRuns.calls (k : Nat) (A0 : Option Addr) (c0 : Nat) (l0 : List Int) (A1 : Option Addr) (c1 : Nat) (l1 : List Int) (r : Bool) (w : World) (hr0 : Kd.C (Kd.int .u8) w A0 l0.length l0) (hc0 : l0.length ≤ c0) (hr1 : Kd.C (Kd.int .u8) w A1 l1.length l1) (hc1 : l1.length ≤ c1) (h : laws_FnFocusRuns.f k l0 l1 = some r) :
  Calls Try.prog 3 #[.slice A0 l0.length c0, .slice A1 l1.length c1] w fun e w' => e = .returned (.bool r) ∧ Below w.heap.size w w' := by
 have hu33 := Try.underlying33
 have HR0 := Ya hr0
 have HC0 := Ya hc0
 clear hr0 hc0
 have HR1 := Ya hr1
 have HC1 := Ya hc1
 clear hr1 hc1
 have HB := Ya (Below.refl w.heap.size w)
 have H : ((laws_big.f l0 l1).bind fun t520 => (if t520 = true then (some true) else ((spec_DrawRunFocus.f k l0).bind fun bt521 => ((impl_RunFocus.f k bt521.1 bt521.2).bind fun bt525 => ((spec_RunFocus.f k bt521.1 bt521.2).bind fun bt529 => (if (bt525.2 != bt529.2) = true then (laws_FnFocusRuns.j0 k l1 bt521.1 bt521.2 bt525.1 bt525.2 true) else ((laws_uSame.f k bt525.1 bt529.1).bind fun t533 => (laws_FnFocusRuns.j0 k l1 bt521.1 bt521.2 bt525.1 bt525.2 (!t533))))))))) = some r := h
 clear h
 replace H := Z35.mp H
 obtain ⟨t520, A30, H⟩ := H
 replace H : (if t520 = true then (some true) else ((spec_DrawRunFocus.f k l0).bind fun bt521 => ((impl_RunFocus.f k bt521.1 bt521.2).bind fun bt525 => ((spec_RunFocus.f k bt521.1 bt521.2).bind fun bt529 => (if (bt525.2 != bt529.2) = true then (laws_FnFocusRuns.j0 k l1 bt521.1 bt521.2 bt525.1 bt525.2 true) else ((laws_uSame.f k bt525.1 bt529.1).bind fun t533 => (laws_FnFocusRuns.j0 k l1 bt521.1 bt521.2 bt525.1 bt525.2 (!t533)))))))) = some r := H
 have A3 := Ya A30
 clear A30
 by_cases c4 : t520 = true
 ·as_aux_lemma =>
   subst c4
   have H1 : (some true) = some r := by rw [if_pos rfl] at H; exact H
   clear H
   have H := H1
   clear H1
   obtain rfl := Option.some.inj H
   go_enter Try.func3, Try.ntmps3
   go_wp2_with (first | ((with_reducible refine gate_callee (f := 5) rfl ?_); refine Yz 40 Try.func5 #[.slice A0 l0.length c0, .slice A1 l1.length c1] ?_; (with_reducible refine (laws_big.calls _ _ l0 _ _ l1 true _ (Yc HR0.out) HC0.out (Yc HR1.out) HC1.out A3.out).mono ?_); rintro e w' ⟨rfl, ⟨nd, rfl⟩⟩; refine ⟨_, rfl, ?_⟩))
   go_ret
   exact ⟨Q1, Q12⟩
 ·replace c4 := Bool.eq_false_iff.mpr c4
  subst c4
  have H1 : ((spec_DrawRunFocus.f k l0).bind fun bt521 => ((impl_RunFocus.f k bt521.1 bt521.2).bind fun bt525 => ((spec_RunFocus.f k bt521.1 bt521.2).bind fun bt529 => (if (bt525.2 != bt529.2) = true then (laws_FnFocusRuns.j0 k l1 bt521.1 bt521.2 bt525.1 bt525.2 true) else ((laws_uSame.f k bt525.1 bt529.1).bind fun t533 => (laws_FnFocusRuns.j0 k l1 bt521.1 bt521.2 bt525.1 bt525.2 (!t533))))))) = some r := by rw [if_neg (show ¬ (false = true) by decide)] at H; exact H
  clear H
  have H := H1
  clear H1
  replace H := Z35.mp H
  obtain ⟨⟨t521, t522⟩, A50, H⟩ := H
  replace H : ((impl_RunFocus.f k t521 t522).bind fun bt525 => ((spec_RunFocus.f k t521 t522).bind fun bt529 => (if (bt525.2 != bt529.2) = true then (laws_FnFocusRuns.j0 k l1 t521 t522 bt525.1 bt525.2 true) else ((laws_uSame.f k bt525.1 bt529.1).bind fun t533 => (laws_FnFocusRuns.j0 k l1 t521 t522 bt525.1 bt525.2 (!t533)))))) = some r := H
  have A5 := Ya A50
  clear A50
  replace H := Z35.mp H
  obtain ⟨⟨t525, t526⟩, A60, H⟩ := H
  replace H : ((spec_RunFocus.f k t521 t522).bind fun bt529 => (if (t526 != bt529.2) = true then (laws_FnFocusRuns.j0 k l1 t521 t522 t525 t526 true) else ((laws_uSame.f k t525 bt529.1).bind fun t533 => (laws_FnFocusRuns.j0 k l1 t521 t522 t525 t526 (!t533))))) = some r := H
  have A6 := Ya A60
  clear A60
  replace H := Z35.mp H
  obtain ⟨⟨t529, t530⟩, A70, H⟩ := H
  replace H : (if (t526 != t530) = true then (laws_FnFocusRuns.j0 k l1 t521 t522 t525 t526 true) else ((laws_uSame.f k t525 t529).bind fun t533 => (laws_FnFocusRuns.j0 k l1 t521 t522 t525 t526 (!t533)))) = some r := H
  have A7 := Ya A70
  clear A70
  have HC8 := Ya H
  clear H
  go_enter Try.func3, Try.ntmps3
  go_upto_region 6 with (first | ((with_reducible refine gate_callee (f := 5) rfl ?_); refine Yz 40 Try.func5 #[.slice A0 l0.length c0, .slice A1 l1.length c1] ?_; (with_reducible refine (laws_big.calls _ _ l0 _ _ l1 false _ (Yc HR0.out) HC0.out (Yc HR1.out) HC1.out A3.out).mono ?_); rintro e w' ⟨rfl, ⟨nd, rfl⟩⟩; refine ⟨_, rfl, ?_⟩) | ((with_reducible refine gate_callee (f := 6) rfl ?_); refine Yz 43 Try.func6 #[.slice A0 l0.length c0] ?_; (with_reducible refine (spec_DrawRunFocus.calls k _ _ l0 t521 t522 _ (Yc HR0.out) HC0.out A5.out).mono ?_); rintro e w9 ⟨v523, rfl, ho0, hb⟩; refine ⟨_, rfl, ?_⟩; have HO524 := Yl ho0; replace HB := Yh hb; (try clear hb ho0); obtain ⟨Ao10, co10, rfl⟩ := Z17 HO524.out) | ((with_reducible refine gate_callee (f := 7) rfl ?_); refine Yz 49 Try.func7 #[.slice Ao10 t521.length co10, .int .i64 t522] ?_; (with_reducible refine (impl_RunFocus.calls k _ _ t521 t522 t525 t526 _ (Yc (Kd.R_reads' HO524.out).2.2) ((Kd.R_reads' HO524.out).2.1) A6.out).mono ?_); rintro e w11 ⟨v527, rfl, ho0, hb⟩; refine ⟨_, rfl, ?_⟩; have HO528 := Yl (Kd.R_new' ho0 (Z16 (Yr HO524.out))); replace HO524 := Ya (Kd.R_elder' (Yr HO524.out) (Kd.R_base ho0) hb); replace HB := Yh hb; (try clear hb ho0)) | ((with_reducible refine gate_callee (f := 8) rfl ?_); refine Yz 55 Try.func8 #[.slice Ao10 t521.length co10, .int .i64 t522] ?_; (with_reducible refine (spec_RunFocus.calls k _ _ t521 t522 t529 t530 _ (Yc (Kd.R_reads' HO524.out).2.2) ((Kd.R_reads' HO524.out).2.1) A7.out).mono ?_); rintro e w12 ⟨v531, rfl, ho0, hb⟩; refine ⟨_, rfl, ?_⟩; have HO532 := Yl (Kd.R_new' (Kd.R_new' ho0 (Z16 (Yr HO524.out))) (Z16 (Yr HO528.out))); replace HO524 := Ya (Kd.R_elder' (Yr HO524.out) (Kd.R_base ho0) hb); replace HO528 := Ya (Kd.R_elder' (Yr HO528.out) (Kd.R_base ho0) hb); replace HB := Yh hb; (try clear hb ho0)))
  (try simp only [Act.put, Z0, Z1, Z2])
  go_cut [66] (fun v66 wc => ∃ (kq : Nat) (x66_7 : Bool), v66 = .bool x66_7 ∧ Aside0 (laws_FnFocusRuns.j0 kq l1 t521 t522 t525 t526 x66_7 = some r) ∧ Aside0 (kq ≤ k) ∧ Aside0 (Kd.R (Kd.int .i64) 3 wc w.heap.size (fun k_ => some k_ ≠ (v527 : Value).ownBlock) (.slice Ao10 t521.length co10) t521) ∧ Aside0 (Kd.R (Kd.int .i64) 3 wc w.heap.size (fun k_ => some k_ ≠ ((.slice Ao10 t521.length co10) : Value).ownBlock) v527 t525) ∧ Aside0 (Below w.heap.size w wc))
  case first => as_aux_lemma =>
   have H := HC8.out
   clear HC8
   by_cases c13 : (t526 != t530) = true
   ·rw [if_pos c13] at H
    have c13b0 : (t526 != t530) = true := c13
    (try (have c13b1 : decide (t526 = t530) = false := by simpa using c13))
    (try (have c13b2 : (t526 == t530) = false := by simpa using c13))
    (try (have c13b3 : ¬ (t526 = t530) := by simpa using c13))
    clear c13
    (first | rw [c13b0] | (simp only [i64_w, i32_w]; rw [c13b0]) | skip)
    have H' := Ya H
    clear H
    go_wp2
    go_meet
    case rel => exact ⟨_, (true), Q8, H', ⟨by first | omega | exact Nat.le_refl _⟩, ⟨Yj HO524.out (fun _ hk => hk.1.2)⟩, ⟨Yj HO528.out (fun _ hk => hk.1.2)⟩, ⟨Q12⟩⟩
   ·rw [if_neg c13] at H
    have c13b0 : (t526 != t530) = false := by simpa using c13
    (try (have c13b1 : decide (t526 = t530) = true := by simpa using c13))
    (try (have c13b2 : (t526 == t530) = true := by simpa using c13))
    clear c13
    (first | rw [c13b0] | (simp only [i64_w, i32_w]; rw [c13b0]) | skip)
    replace H := Z35.mp H
    obtain ⟨t533, A140, H⟩ := H
    replace H : (laws_FnFocusRuns.j0 k l1 t521 t522 t525 t526 (!t533)) = some r := H
    have A14 := Ya A140
    clear A140
    have H' := Ya H
    clear H
    obtain ⟨Ao15, co15, rfl⟩ := Z17 HO528.out
    obtain ⟨Ao16, co16, rfl⟩ := Z17 HO532.out
    go_wp2_with (first | (go_at_call 9; (with_reducible refine (laws_uSame.calls k _ _ t525 _ _ t529 t533 _ (Yc (Kd.R_reads' HO528.out).2.2) ((Kd.R_reads' HO528.out).2.1) (Yc (Kd.R_reads' HO532.out).2.2) ((Kd.R_reads' HO532.out).2.1) A14.out).mono ?_); rintro e w' ⟨rfl, ⟨nd, rfl⟩⟩))
    go_meet
    case rel => exact ⟨_, (!t533), Q8, H', ⟨by first | omega | exact Nat.le_refl _⟩, ⟨Yj HO524.out (fun _ hk => hk.1.2)⟩, ⟨Yj HO528.out (fun _ hk => hk.1.2)⟩, ⟨Q12⟩⟩
  case rest =>
   clear HC8
   try clear c1
   try clear p2
   try clear c3
   try clear c4
   try clear c5
   try clear c6
   try clear c7
   try clear c8
   try clear c13
   try clear c13b0
   try clear c13b1
   try clear c13b2
   obtain ⟨kq, x66_7, rfl, HA, HJ7, HO_5, HO_7, HB⟩ := hcut
   cases kq with
   | zero => exact absurd HA.out (by simp [laws_FnFocusRuns.j0])
   | succ kj7 =>
    have H := HA.out
    clear HA
    simp only [laws_FnFocusRuns.j0] at H
    by_cases c17 : x66_7 = true
    ·as_aux_lemma =>
      subst c17
      have H1 : (some false) = some r := by rw [if_pos rfl] at H; exact H
      clear H
      have H := H1
      clear H1
      obtain rfl := Option.some.inj H
      go_wp2
      go_ret
      exact ⟨Q1, Q12⟩
    ·replace c17 := Bool.eq_false_iff.mpr c17
     subst c17
     have H1 : ((impl_CountTurns.f kj7 t521).bind fun bt534 => ((spec_CountTurns.f kj7 t521).bind fun bt538 => (if (bt534.2 != bt538.2) = true then (laws_FnFocusRuns.j1 kj7 l1 t521 t522 t525 t526 bt534.1 true) else ((laws_uSame.f kj7 bt534.1 bt538.1).bind fun t542 => (laws_FnFocusRuns.j1 kj7 l1 t521 t522 t525 t526 bt534.1 (!t542)))))) = some r := by rw [if_neg (show ¬ (false = true) by decide)] at H; exact H
     clear H
     have H := H1
     clear H1
     replace H := Z35.mp H
     obtain ⟨⟨t534, t535⟩, A180, H⟩ := H
     replace H : ((spec_CountTurns.f kj7 t521).bind fun bt538 => (if (t535 != bt538.2) = true then (laws_FnFocusRuns.j1 kj7 l1 t521 t522 t525 t526 t534 true) else ((laws_uSame.f kj7 t534 bt538.1).bind fun t542 => (laws_FnFocusRuns.j1 kj7 l1 t521 t522 t525 t526 t534 (!t542))))) = some r := H
     have A18 := Ya A180
     clear A180
     replace H := Z35.mp H
     obtain ⟨⟨t538, t539⟩, A190, H⟩ := H
     replace H : (if (t535 != t539) = true then (laws_FnFocusRuns.j1 kj7 l1 t521 t522 t525 t526 t534 true) else ((laws_uSame.f kj7 t534 t538).bind fun t542 => (laws_FnFocusRuns.j1 kj7 l1 t521 t522 t525 t526 t534 (!t542)))) = some r := H
     have A19 := Ya A190
     clear A190
     have HC20 := Ya H
     clear H
     go_upto_region 10 with (first | ((with_reducible refine gate_callee (f := 10) rfl ?_); refine Yz 69 Try.func10 #[.slice Ao10 t521.length co10] ?_; (with_reducible refine (impl_CountTurns.calls kj7 _ _ t521 t534 t535 _ (Yc (Kd.R_reads' HO_5.out).2.2) ((Kd.R_reads' HO_5.out).2.1) A18.out).mono ?_); rintro e w21 ⟨v536, rfl, ho0, hb⟩; refine ⟨_, rfl, ?_⟩; have HO537 := Yl (Kd.R_new' (Kd.R_new' ho0 (Z16 (Yr HO_5.out))) (Z16 (Yr HO_7.out))); replace HO_5 := Ya (Kd.R_elder' (Yr HO_5.out) (Kd.R_base ho0) hb); replace HO_7 := Ya (Kd.R_elder' (Yr HO_7.out) (Kd.R_base ho0) hb); replace HB := Yh hb; (try clear hb ho0)) | ((with_reducible refine gate_callee (f := 11) rfl ?_); refine Yz 74 Try.func11 #[.slice Ao10 t521.length co10] ?_; (with_reducible refine (spec_CountTurns.calls kj7 _ _ t521 t538 t539 _ (Yc (Kd.R_reads' HO_5.out).2.2) ((Kd.R_reads' HO_5.out).2.1) A19.out).mono ?_); rintro e w22 ⟨v540, rfl, ho0, hb⟩; refine ⟨_, rfl, ?_⟩; have HO541 := Yl (Kd.R_new' (Kd.R_new' (Kd.R_new' ho0 (Z16 (Yr HO_5.out))) (Z16 (Yr HO_7.out))) (Z16 (Yr HO537.out))); replace HO_5 := Ya (Kd.R_elder' (Yr HO_5.out) (Kd.R_base ho0) hb); replace HO_7 := Ya (Kd.R_elder' (Yr HO_7.out) (Kd.R_base ho0) hb); replace HO537 := Ya (Kd.R_elder' (Yr HO537.out) (Kd.R_base ho0) hb); replace HB := Yh hb; (try clear hb ho0)))
     (try simp only [Act.put, Z0, Z1, Z2])
     go_cut [85] (fun v85 wc => ∃ (kq : Nat) (x85_19 : Bool), v85 = .bool x85_19 ∧ Aside0 (laws_FnFocusRuns.j1 kq l1 t521 t522 t525 t526 t534 x85_19 = some r) ∧ Aside0 (kq ≤ kj7) ∧ Aside0 (Kd.R (Kd.int .i64) 3 wc w.heap.size (fun k_ => some k_ ≠ (v527 : Value).ownBlock ∧ some k_ ≠ (v536 : Value).ownBlock) (.slice Ao10 t521.length co10) t521) ∧ Aside0 (Kd.R (Kd.int .i64) 3 wc w.heap.size (fun k_ => some k_ ≠ ((.slice Ao10 t521.length co10) : Value).ownBlock ∧ some k_ ≠ (v536 : Value).ownBlock) v527 t525) ∧ Aside0 (Kd.R (Kd.int .i64) 3 wc w.heap.size (fun k_ => some k_ ≠ ((.slice Ao10 t521.length co10) : Value).ownBlock ∧ some k_ ≠ (v527 : Value).ownBlock) v536 t534) ∧ Aside0 (Below w.heap.size w wc))
     case first => as_aux_lemma =>
      have H := HC20.out
      clear HC20
      by_cases c23 : (t535 != t539) = true
      ·rw [if_pos c23] at H
       have c23b0 : (t535 != t539) = true := c23
       (try (have c23b1 : decide (t535 = t539) = false := by simpa using c23))
       (try (have c23b2 : (t535 == t539) = false := by simpa using c23))
       (try (have c23b3 : ¬ (t535 = t539) := by simpa using c23))
       clear c23
       (first | rw [c23b0] | (simp only [i64_w, i32_w]; rw [c23b0]) | skip)
       have H' := Ya H
       clear H
       go_wp2
       go_meet
       case rel => exact ⟨_, (true), Q8, H', ⟨by have := HJ7.out; first | omega | exact Nat.le_refl _⟩, ⟨Yj HO_5.out (fun _ hk => ⟨hk.1.1, hk.1.2⟩)⟩, ⟨Yj HO_7.out (fun _ hk => ⟨hk.1.1, hk.1.2⟩)⟩, ⟨Yj HO537.out (fun _ hk => ⟨hk.1.1.2, hk.1.2⟩)⟩, ⟨Q12⟩⟩
      ·rw [if_neg c23] at H
       have c23b0 : (t535 != t539) = false := by simpa using c23
       (try (have c23b1 : decide (t535 = t539) = true := by simpa using c23))
       (try (have c23b2 : (t535 == t539) = true := by simpa using c23))
       clear c23
       (first | rw [c23b0] | (simp only [i64_w, i32_w]; rw [c23b0]) | skip)
       replace H := Z35.mp H
       obtain ⟨t542, A240, H⟩ := H
       replace H : (laws_FnFocusRuns.j1 kj7 l1 t521 t522 t525 t526 t534 (!t542)) = some r := H
       have A24 := Ya A240
       clear A240
       have H' := Ya H
       clear H
       obtain ⟨Ao25, co25, rfl⟩ := Z17 HO537.out
       obtain ⟨Ao26, co26, rfl⟩ := Z17 HO541.out
       go_wp2_with (first | (go_at_call 9; (with_reducible refine (laws_uSame.calls kj7 _ _ t534 _ _ t538 t542 _ (Yc (Kd.R_reads' HO537.out).2.2) ((Kd.R_reads' HO537.out).2.1) (Yc (Kd.R_reads' HO541.out).2.2) ((Kd.R_reads' HO541.out).2.1) A24.out).mono ?_); rintro e w' ⟨rfl, ⟨nd, rfl⟩⟩))
       go_meet
       case rel => exact ⟨_, (!t542), Q8, H', ⟨by have := HJ7.out; first | omega | exact Nat.le_refl _⟩, ⟨Yj HO_5.out (fun _ hk => ⟨hk.1.1, hk.1.2⟩)⟩, ⟨Yj HO_7.out (fun _ hk => ⟨hk.1.1, hk.1.2⟩)⟩, ⟨Yj HO537.out (fun _ hk => ⟨hk.1.1.2, hk.1.2⟩)⟩, ⟨Q12⟩⟩
     case rest =>
      clear HC20
      try clear c1
      try clear c2
      try clear p2
      try clear c3
      try clear c4
      try clear c5
      try clear c6
      try clear c7
      try clear c8
      try clear c10
      try clear c11
      try clear c13
      try clear c13b0
      try clear c13b1
      try clear c13b2
      try clear c17
      try clear c23
      try clear c23b0
      try clear c23b1
      try clear c23b2
      try clear p2
      obtain ⟨kq, x85_19, rfl, HA, HJ19, HO_5, HO_7, HO_11, HB⟩ := hcut
      cases kq with
      | zero => exact absurd HA.out (by simp [laws_FnFocusRuns.j1])
      | succ kj19 =>
       have H := HA.out
       clear HA
       simp only [laws_FnFocusRuns.j1] at H
       by_cases c27 : x85_19 = true
       ·as_aux_lemma =>
         subst c27
         have H1 : (some false) = some r := by rw [if_pos rfl] at H; exact H
         clear H
         have H := H1
         clear H1
         obtain rfl := Option.some.inj H
         go_wp2
         go_ret
         exact ⟨Q1, Q12⟩
       ·replace c27 := Bool.eq_false_iff.mpr c27
        subst c27
        have H1 : (if t526 = true then (laws_FnFocusRuns.l0 kj19 l1 t521 t522 t525 t534 1 t521 (t521.length : Int) 0) else (laws_FnFocusRuns.j6 kj19 l1)) = some r := by rw [if_neg (show ¬ (false = true) by decide)] at H; exact H
        clear H
        have H := H1
        clear H1
        have HC28 := Ya H
        clear H
        go_upto_if 86 with (fail)
        go_cut [] (fun wc => ∃ (kq : Nat), Aside0 (laws_FnFocusRuns.j6 kq l1 = some r) ∧ Aside0 (kq ≤ kj19) ∧ Aside0 (Below w.heap.size w wc))
        case first =>
         have H := HC28.out
         clear HC28
         by_cases c29 : t526 = true
         ·subst c29
          have H1 : (laws_FnFocusRuns.l0 kj19 l1 t521 t522 t525 t534 1 t521 (t521.length : Int) 0) = some r := by rw [if_pos rfl] at H; exact H
          clear H
          have H := H1
          clear H1
          have H' := Ya H
          clear H
          go_wp2
          go_loopg [15, 89] kj19 (fun kq v15 v89 w' => ∃ (x15_3 : Int) (x89_3 : Int), v15 = .int .i64 x15_3 ∧ v89 = .int .i64 x89_3 ∧ Aside0 (laws_FnFocusRuns.l0 kq l1 t521 t522 t525 t534 x15_3 t521 (t521.length : Int) x89_3 = some r) ∧ Aside0 (kq ≤ kj19) ∧ Aside0 (Kd.R (Kd.int .i64) 3 w' w.heap.size (fun k_ => some k_ ≠ (v527 : Value).ownBlock ∧ some k_ ≠ (v536 : Value).ownBlock) (.slice Ao10 t521.length co10) t521) ∧ Aside0 (Kd.R (Kd.int .i64) 3 w' w.heap.size (fun k_ => some k_ ≠ ((.slice Ao10 t521.length co10) : Value).ownBlock ∧ some k_ ≠ (v536 : Value).ownBlock ∧ some k_ ≠ ((.slice Ao10 t521.length co10) : Value).ownBlock) v527 t525) ∧ Aside0 (Kd.R (Kd.int .i64) 3 w' w.heap.size (fun k_ => some k_ ≠ ((.slice Ao10 t521.length co10) : Value).ownBlock ∧ some k_ ≠ (v527 : Value).ownBlock ∧ some k_ ≠ ((.slice Ao10 t521.length co10) : Value).ownBlock) v536 t534) ∧ Aside0 (Kd.R (Kd.int .i64) 3 w' w.heap.size (fun k_ => some k_ ≠ (v527 : Value).ownBlock ∧ some k_ ≠ (v536 : Value).ownBlock) (.slice Ao10 t521.length co10) t521) ∧ Aside0 (Below w.heap.size w w'))
          case atStart => exact ⟨(1), (0), Q8, Q8, H', ⟨Nat.le_refl _⟩, ⟨Q16⟩, ⟨Yj HO_7.out (fun _ hk => ⟨hk.1, ⟨hk.2, hk.1⟩⟩)⟩, ⟨Yj HO_11.out (fun _ hk => ⟨hk.1, ⟨hk.2, hk.1⟩⟩)⟩, ⟨Q16⟩, ⟨Q12⟩⟩
          case round =>
           clear H'
           try clear c1
           try clear c2
           try clear p2
           try clear c3
           try clear c4
           try clear c5
           try clear c6
           try clear c7
           try clear c8
           try clear c10
           try clear c11
           try clear c13
           try clear c13b0
           try clear c13b1
           try clear c13b2
           try clear c17
           try clear c23
           try clear c23b0
           try clear c23b1
           try clear c23b2
           try clear c27
           try clear c29
           try clear p2
           obtain ⟨x15_3, x89_3, rfl, rfl, HA, HK3, HO_5, HO_7, HO_11, HO_87, HB⟩ := hrel
           cases gk with
           | zero => exact absurd HA.out (by simp [laws_FnFocusRuns.l0])
           | succ k3 =>
            have H := HA.out
            clear HA
            simp only [laws_FnFocusRuns.l0] at H
            by_cases c30 : x89_3 < (t521.length : Int)
            ·as_aux_lemma =>
              rw [if_pos c30] at H
              have c30b0 := Z37 c30
              clear c30
              (first | rw [c30b0] | (simp only [i64_w, i32_w]; rw [c30b0]) | skip)
              by_cases c31 : 0 ≤ x89_3
              ·rw [if_pos c31] at H
               have c31b0 := Z37 c31
               clear c31
               by_cases c32 : x89_3 < (t521.length : Int)
               ·rw [if_pos c32] at H
                have c32b0 := Z37 c32
                clear c32
                have H' := Ya H
                clear H
                have p543 : 0 ≤ (x89_3 : Int) := Z29 Q3
                have q543 : x89_3 < (t521.length : Int) := Z29 Q3
                obtain ⟨ad543, e543, hx543_0⟩ := Kd.at_int (Kd.R_reads' HO_87.out).2.2 x89_3 p543 q543
                cases e543
                replace p543 := eq_true p543
                replace q543 := eq_true q543
                go_wp2
                go_roundg k3
                case measure => have := HJ7.out; have := HJ19.out; have := HK3.out; omega
                case rel => exact ⟨(wrap64 (x15_3 * (rd t521 x89_3))), (wrap64 (x89_3 + 1)), Q8, Q8, H', ⟨by have := HJ7.out; have := HJ19.out; have := HK3.out; omega⟩, ⟨Q16⟩, ⟨Q34⟩, ⟨by (with_reducible repeat (first | apply Z8 | apply Z9 | apply Z10)); exact HO_11.out⟩, ⟨by (with_reducible repeat (first | apply Z8 | apply Z9 | apply Z10)); exact HO_87.out⟩, ⟨Q12⟩⟩
               ·rw [if_neg c32] at H
                exact absurd H (by simp)
              ·rw [if_neg c31] at H
               exact absurd H (by simp)
            ·rw [if_neg c30] at H
             have c30b0 := Z36 c30
             clear c30
             (first | rw [c30b0] | (simp only [i64_w, i32_w]; rw [c30b0]) | skip)
             have HC33 := Ya H
             clear H
             go_upto_region 19 with (fail)
             go_cut [119] (fun v119 wc => ∃ (kq : Nat) (x119_32 : Bool), v119 = .bool x119_32 ∧ Aside0 (laws_FnFocusRuns.j3 kq l1 t521 t525 t534 x15_3 x119_32 = some r) ∧ Aside0 (kq ≤ k3) ∧ Aside0 (Kd.R (Kd.int .i64) 3 wc w.heap.size (fun k_ => some k_ ≠ (v527 : Value).ownBlock ∧ some k_ ≠ (v536 : Value).ownBlock) (.slice Ao10 t521.length co10) t521) ∧ Aside0 (Kd.R (Kd.int .i64) 3 wc w.heap.size (fun k_ => some k_ ≠ ((.slice Ao10 t521.length co10) : Value).ownBlock ∧ some k_ ≠ (v536 : Value).ownBlock) v527 t525) ∧ Aside0 (Kd.R (Kd.int .i64) 3 wc w.heap.size (fun k_ => some k_ ≠ ((.slice Ao10 t521.length co10) : Value).ownBlock ∧ some k_ ≠ (v527 : Value).ownBlock) v536 t534) ∧ Aside0 (Below w.heap.size w wc))
             case first => as_aux_lemma =>
              have H := HC33.out
              clear HC33
              by_cases c34 : t522 < (wrap64 (x15_3 - 1))
              ·rw [if_pos c34] at H
               have c34b0 := Z37 c34
               clear c34
               (first | rw [c34b0] | (simp only [i64_w, i32_w]; rw [c34b0]) | skip)
               by_cases c35 : (t525.length : Int) = t522
               ·rw [if_pos c35] at H
                have c35b0 : ((t525.length : Int) == t522) = true := beq_iff_eq.mpr c35
                have c35b1 : ((t525.length : Int) != t522) = false := bne_eq_false_iff_eq.mpr c35
                clear c35
                by_cases c36 : t522 ≥ (wrap64 (x15_3 - 1))
                ·rw [if_pos c36] at H
                 have c36b0 : decide ((wrap64 (x15_3 - 1)) ≤ t522) = true := Z37 c36
                 clear c36
                 have H' := Ya H
                 clear H
                 obtain ⟨Ao37, co37, rfl⟩ := Z17 HO_7.out
                 go_wp2
                 go_meet
                 case rel => exact ⟨_, (((t525.length : Int) != (wrap64 (x15_3 - 1)))), Q8, H', ⟨Q25⟩, ⟨Q16⟩, ⟨Yj HO_7.out (fun _ hk => ⟨hk.1, hk.2.1⟩)⟩, ⟨Yj HO_11.out (fun _ hk => ⟨hk.1, hk.2.1⟩)⟩, ⟨Q12⟩⟩
                ·rw [if_neg c36] at H
                 have c36b0 : decide ((wrap64 (x15_3 - 1)) ≤ t522) = false := Z36 c36
                 clear c36
                 have H' := Ya H
                 clear H
                 obtain ⟨Ao38, co38, rfl⟩ := Z17 HO_7.out
                 go_wp2
                 go_meet
                 case rel => exact ⟨_, (false), Q8, H', ⟨Q25⟩, ⟨Q16⟩, ⟨Yj HO_7.out (fun _ hk => ⟨hk.1, hk.2.1⟩)⟩, ⟨Yj HO_11.out (fun _ hk => ⟨hk.1, hk.2.1⟩)⟩, ⟨Q12⟩⟩
               ·rw [if_neg c35] at H
                have c35b0 : ((t525.length : Int) == t522) = false := beq_eq_false_iff_ne.mpr c35
                have c35b1 : ((t525.length : Int) != t522) = true := bne_iff_ne.mpr c35
                have H' := Ya H
                clear H
                obtain ⟨Ao39, co39, rfl⟩ := Z17 HO_7.out
                go_wp2
                go_meet
                case rel => exact ⟨_, (true), Q8, H', ⟨Q25⟩, ⟨Q16⟩, ⟨Yj HO_7.out (fun _ hk => ⟨hk.1, hk.2.1⟩)⟩, ⟨Yj HO_11.out (fun _ hk => ⟨hk.1, hk.2.1⟩)⟩, ⟨Q12⟩⟩
              ·rw [if_neg c34] at H
               have c34b0 := Z36 c34
               clear c34
               (first | rw [c34b0] | (simp only [i64_w, i32_w]; rw [c34b0]) | skip)
               by_cases c40 : t522 ≥ (wrap64 (x15_3 - 1))
               ·rw [if_pos c40] at H
                have c40b0 : decide ((wrap64 (x15_3 - 1)) ≤ t522) = true := Z37 c40
                clear c40
                have H' := Ya H
                clear H
                obtain ⟨Ao41, co41, rfl⟩ := Z17 HO_7.out
                go_wp2
                go_meet
                case rel => exact ⟨_, (((t525.length : Int) != (wrap64 (x15_3 - 1)))), Q8, H', ⟨Q25⟩, ⟨Q16⟩, ⟨Yj HO_7.out (fun _ hk => ⟨hk.1, hk.2.1⟩)⟩, ⟨Yj HO_11.out (fun _ hk => ⟨hk.1, hk.2.1⟩)⟩, ⟨Q12⟩⟩
               ·rw [if_neg c40] at H
                have c40b0 : decide ((wrap64 (x15_3 - 1)) ≤ t522) = false := Z36 c40
                clear c40
                have H' := Ya H
                clear H
                go_wp2
                go_meet
                case rel => exact ⟨_, (false), Q8, H', ⟨Q25⟩, ⟨Q16⟩, ⟨Yj HO_7.out (fun _ hk => ⟨hk.1, hk.2.1⟩)⟩, ⟨Yj HO_11.out (fun _ hk => ⟨hk.1, hk.2.1⟩)⟩, ⟨Q12⟩⟩
             case rest =>
              clear HC33
              try clear c1
              try clear c2
              try clear p2
              try clear c3
              try clear c4
              try clear c5
              try clear p5
              try clear q5
              try clear hx5
              try clear c6
              try clear p6
              try clear c7
              try clear c8
              try clear c10
              try clear c11
              try clear c13
              try clear c13b0
              try clear c13b1
              try clear c13b2
              try clear c17
              try clear c23
              try clear c23b0
              try clear c23b1
              try clear c23b2
              try clear c27
              try clear c29
              try clear c30
              try clear c30b0
              try clear c31
              try clear c31b0
              try clear c32
              try clear c32b0
              try clear c34
              try clear c34b0
              try clear c35
              try clear c35b0
              try clear c35b1
              try clear c36
              try clear c36b0
              try clear c40
              try clear c40b0
              try clear hx543_0
              try clear p2
              try clear p543
              try clear q543
              obtain ⟨kq, x119_32, rfl, HA, HJ32, HO_5, HO_7, HO_11, HB⟩ := hcut
              cases kq with
              | zero => exact absurd HA.out (by simp [laws_FnFocusRuns.j3])
              | succ kj32 =>
               have H := HA.out
               clear HA
               simp only [laws_FnFocusRuns.j3] at H
               by_cases c42 : x119_32 = true
               ·as_aux_lemma =>
                 subst c42
                 have H1 : (some false) = some r := by rw [if_pos rfl] at H; exact H
                 clear H
                 have H := H1
                 clear H1
                 obtain rfl := Option.some.inj H
                 go_wp2
                 go_ret
                 exact ⟨Q1, Q12⟩
               ·replace c42 := Bool.eq_false_iff.mpr c42
                subst c42
                have H1 : (laws_FnFocusRuns.l1 kj32 l1 t521 t525 x15_3 0 t534 (t534.length : Int) 0) = some r := by rw [if_neg (show ¬ (false = true) by decide)] at H; exact H
                clear H
                have H := H1
                clear H1
                have H' := Ya H
                clear H
                obtain ⟨Ao43, co43, rfl⟩ := Z17 HO_11.out
                go_wp2
                go_loopg [18, 122] kj32 (fun kq v18 v122 w' => ∃ (x18_5 : Int) (x122_5 : Int), v18 = .int .i64 x18_5 ∧ v122 = .int .i64 x122_5 ∧ Aside0 (laws_FnFocusRuns.l1 kq l1 t521 t525 x15_3 x18_5 t534 (t534.length : Int) x122_5 = some r) ∧ Aside0 (kq ≤ kj32) ∧ Aside0 (Kd.R (Kd.int .i64) 3 w' w.heap.size (fun k_ => some k_ ≠ (v527 : Value).ownBlock ∧ some k_ ≠ ((.slice Ao43 t534.length co43) : Value).ownBlock) (.slice Ao10 t521.length co10) t521) ∧ Aside0 (Kd.R (Kd.int .i64) 3 w' w.heap.size (fun k_ => some k_ ≠ ((.slice Ao10 t521.length co10) : Value).ownBlock ∧ some k_ ≠ ((.slice Ao43 t534.length co43) : Value).ownBlock) v527 t525) ∧ Aside0 (Kd.R (Kd.int .i64) 3 w' w.heap.size (fun k_ => some k_ ≠ ((.slice Ao10 t521.length co10) : Value).ownBlock ∧ some k_ ≠ (v527 : Value).ownBlock) (.slice Ao43 t534.length co43) t534) ∧ Aside0 (Below w.heap.size w w'))
                case atStart => exact ⟨(0), (0), Q8, Q8, H', ⟨Nat.le_refl _⟩, ⟨Q16⟩, ⟨Q34⟩, ⟨by (with_reducible repeat (first | apply Z8 | apply Z9 | apply Z10)); exact HO_11.out⟩, ⟨Q12⟩⟩
                case round =>
                 clear H'
                 try clear c1
                 try clear c2
                 try clear p2
                 try clear c3
                 try clear c4
                 try clear c5
                 try clear p5
                 try clear q5
                 try clear hx5
                 try clear c6
                 try clear p6
                 try clear c7
                 try clear c8
                 try clear c10
                 try clear c11
                 try clear c13
                 try clear c13b0
                 try clear c13b1
                 try clear c13b2
                 try clear c17
                 try clear c23
                 try clear c23b0
                 try clear c23b1
                 try clear c23b2
                 try clear c27
                 try clear c29
                 try clear c30
                 try clear c30b0
                 try clear c31
                 try clear c31b0
                 try clear c32
                 try clear c32b0
                 try clear c34
                 try clear c34b0
                 try clear c35
                 try clear c35b0
                 try clear c35b1
                 try clear c36
                 try clear c36b0
                 try clear c40
                 try clear c40b0
                 try clear c42
                 try clear hx543_0
                 try clear p2
                 try clear p5
                 try clear p543
                 try clear p6
                 try clear q5
                 try clear q543
                 obtain ⟨x18_5, x122_5, rfl, rfl, HA, HK5, HO_5, HO_7, HO_120, HB⟩ := hrel
                 cases gk with
                 | zero => exact absurd HA.out (by simp [laws_FnFocusRuns.l1])
                 | succ k5 =>
                  have H := HA.out
                  clear HA
                  simp only [laws_FnFocusRuns.l1] at H
                  by_cases c44 : x122_5 < (t534.length : Int)
                  ·as_aux_lemma =>
                    rw [if_pos c44] at H
                    have c44b0 := Z37 c44
                    clear c44
                    by_cases c45 : 0 ≤ x122_5
                    ·rw [if_pos c45] at H
                     have c45b0 := Z37 c45
                     clear c45
                     by_cases c46 : x122_5 < (t534.length : Int)
                     ·rw [if_pos c46] at H
                      have c46b0 := Z37 c46
                      clear c46
                      have H' := Ya H
                      clear H
                      have p544 : 0 ≤ (x122_5 : Int) := Z29 Q3
                      have q544 : x122_5 < (t534.length : Int) := Z29 Q3
                      obtain ⟨ad544, e544, hx544_0⟩ := Kd.at_int (Kd.R_reads' HO_120.out).2.2 x122_5 p544 q544
                      cases e544
                      replace p544 := eq_true p544
                      replace q544 := eq_true q544
                      go_wp2
                      go_roundg k5
                      case measure => have := HJ7.out; have := HJ19.out; have := HK3.out; have := HJ32.out; have := HK5.out; omega
                      case rel => exact ⟨(wrap64 (x18_5 + (rd t534 x122_5))), (wrap64 (x122_5 + 1)), Q8, Q8, H', ⟨by have := HJ7.out; have := HJ19.out; have := HK3.out; have := HJ32.out; have := HK5.out; omega⟩, ⟨Q16⟩, ⟨Q34⟩, ⟨by (with_reducible repeat (first | apply Z8 | apply Z9 | apply Z10)); exact HO_120.out⟩, ⟨Q12⟩⟩
                     ·rw [if_neg c46] at H
                      exact absurd H (by simp)
                    ·rw [if_neg c45] at H
                     exact absurd H (by simp)
                  ·rw [if_neg c44] at H
                   have c44b0 := Z36 c44
                   clear c44
                   by_cases c47 : x18_5 = (wrap64 (x15_3 - 1))
                   ·rw [if_pos c47] at H
                    have c47b0 : (x18_5 == (wrap64 (x15_3 - 1))) = true := beq_iff_eq.mpr c47
                    have c47b1 : (x18_5 != (wrap64 (x15_3 - 1))) = false := bne_eq_false_iff_eq.mpr c47
                    clear c47
                    replace H := Z35.mp H
                    obtain ⟨⟨t545, t548, t551, t554, t557⟩, A480, H⟩ := H
                    replace H : (laws_FnFocusRuns.l2 k5 l1 t557 t525 (t525.length : Int) 0 t545 t548 t551 t554) = some r := H
                    have A48 := Ya A480
                    clear A480
                    have H' := Ya H
                    clear H
                    go_wp2_with (first | ((with_reducible refine gate_callee (f := 12) rfl ?_); refine Yz 136 Try.func12 #[.slice Ao10 t521.length co10] ?_; (with_reducible refine (impl_StartFocus.calls k5 _ _ t521 t545 t548 t551 t554 t557 _ (Yc (Kd.R_reads' HO_5.out).2.2) ((Kd.R_reads' HO_5.out).2.1) A48.out).mono ?_); rintro e w49 ⟨v546, v549, v552, v555, rfl, ho0, ho1, ho2, ho3, hb⟩; refine ⟨_, rfl, ?_⟩; have HO547 := Yl (Kd.R_new' (Kd.R_new' (Kd.R_new' ho0 (Z16 (Yr HO_5.out))) (Z16 (Yr HO_7.out))) (Z16 (Yr HO_120.out))); have HO550 := Yl (Kd.R_new' (Kd.R_new' (Kd.R_new' ho1 (Z16 (Yr HO_5.out))) (Z16 (Yr HO_7.out))) (Z16 (Yr HO_120.out))); have HO553 := Yl ho2; have HO556 := Yl (Kd.R_new' (Kd.R_new' (Kd.R_new' ho3 (Z16 (Yr HO_5.out))) (Z16 (Yr HO_7.out))) (Z16 (Yr HO_120.out))); replace HO_5 := Ya (Z11 (Z14 (Z14 (Z14 (Z15 (Yr HO_5.out) hb) (Kd.R_base ho0)) (Kd.R_base ho1)) (Kd.R_base ho3)) (fun _ h_ => h_.1)); replace HO_7 := Ya (Z11 (Z14 (Z14 (Z14 (Z15 (Yr HO_7.out) hb) (Kd.R_base ho0)) (Kd.R_base ho1)) (Kd.R_base ho3)) (fun _ h_ => h_.1)); replace HO_120 := Ya (Z11 (Z14 (Z14 (Z14 (Z15 (Yr HO_120.out) hb) (Kd.R_base ho0)) (Kd.R_base ho1)) (Kd.R_base ho3)) (fun _ h_ => h_.1)); replace HB := Yh hb; (try clear hb ho0 ho1 ho2 ho3)) | ((with_reducible refine gate_dst (N := 21) rfl ?_); (try (refine gate_guard (by rfl) ?_; dsimp only)); refine Yx 21 YN4 33 ?_; intro gb558 hg w50 hbox hb; replace HO_5 := Yw HO_5 hb; replace HO_7 := Yw HO_7 hb; replace HO_120 := Yw HO_120 hb; replace HO547 := Yw HO547 hb; replace HO550 := Yw HO550 hb; replace HO553 := Yw HO553 hb; replace HO556 := Yw HO556 hb; have BK558 := Ya hbox; have GE558 := Yg hg; replace HB := Yh hb; clear hb hbox hg; obtain ⟨Ao51, co51, rfl⟩ := Z17 HO547.out; obtain ⟨hcz52_0, hcz52_1, hcz52_2, hcz52_3, hfz52_0, hfz52_1, hfz52_2, hfz52_3⟩ := Y4 BK558.out; obtain ⟨Ao53, co53, rfl⟩ := Z17 HO550.out; obtain ⟨Ao54, co54, rfl⟩ := Z17 HO553.out; obtain ⟨Ao55, co55, rfl⟩ := Z17 HO556.out; obtain ⟨Ao56, co56, rfl⟩ := Z17 HO_7.out))
                    go_loopg [141] k5 (fun kq v141 w' => ∃ (x141_6 : Int) (x559000_6 : List Int) (x559001_6 : List Int) (x559002_6 : List Bool) (x559003_6 : List Int) (u559000 : Value) (u559001 : Value) (u559002 : Value) (u559003 : Value), v141 = .int .i64 x141_6 ∧ Aside0 (laws_FnFocusRuns.l2 kq l1 t557 t525 (t525.length : Int) x141_6 x559000_6 x559001_6 x559002_6 x559003_6 = some r) ∧ Aside0 (kq ≤ k5) ∧ Aside0 (Kd.R (Kd.int .i64) 3 w' w.heap.size (fun k_ => some k_ ≠ (u559000 : Value).ownBlock ∧ some k_ ≠ (u559001 : Value).ownBlock ∧ some k_ ≠ (u559003 : Value).ownBlock) (.slice Ao56 t525.length co56) t525) ∧ Aside0 (Kd.R (Kd.int .i64) 3 w' w.heap.size (fun k_ => some k_ ≠ ((.slice Ao56 t525.length co56) : Value).ownBlock ∧ some k_ ≠ (u559001 : Value).ownBlock ∧ some k_ ≠ (u559003 : Value).ownBlock) u559000 x559000_6) ∧ Aside0 (Kd.R (Kd.int .i64) 3 w' w.heap.size (fun k_ => some k_ ≠ ((.slice Ao56 t525.length co56) : Value).ownBlock ∧ some k_ ≠ (u559000 : Value).ownBlock ∧ some k_ ≠ (u559003 : Value).ownBlock) u559001 x559001_6) ∧ Aside0 (Kd.R Kd.bool 4 w' w.heap.size (fun _ => True) u559002 x559002_6) ∧ Aside0 (Kd.R (Kd.int .i64) 3 w' w.heap.size (fun k_ => some k_ ≠ ((.slice Ao56 t525.length co56) : Value).ownBlock ∧ some k_ ≠ (u559000 : Value).ownBlock ∧ some k_ ≠ (u559001 : Value).ownBlock) u559003 x559003_6) ∧ Aside0 (w'.heap[gb558]? = some (.cells #[u559000, u559001, u559002, u559003] 33 (0, 0))) ∧ Aside0 (Below w.heap.size w w'))
                    case atStart => exact ⟨(0), (t545), (t548), (t551), (t554), (.slice Ao51 t545.length co51), (.slice Ao53 t548.length co53), (.slice Ao54 t551.length co54), (.slice Ao55 t554.length co55), Q8, H', ⟨Nat.le_refl _⟩, ⟨Yj (Yf4 HO_7.out BK558.out) (fun _ hk => ⟨hk.1.1.1.2, ⟨hk.1.1.2, hk.1.2⟩⟩)⟩, ⟨Yj (Yf4 HO547.out BK558.out) (fun _ hk => ⟨hk.1.1.2, ⟨hk.1.1.1.1.1, hk.1.1.1.1.2⟩⟩)⟩, ⟨Yj (Yf4 HO550.out BK558.out) (fun _ hk => ⟨hk.1.1.2, ⟨hk.1.1.1.1.1, hk.1.1.1.1.2⟩⟩)⟩, ⟨Yj (Yf4 HO553.out BK558.out) (fun _ hk => trivial)⟩, ⟨Yj (Yf4 HO556.out BK558.out) (fun _ hk => ⟨hk.1.1.2, ⟨hk.1.1.1.1.1, hk.1.1.1.1.2⟩⟩)⟩, ⟨by (with_reducible repeat (first | refine Z24 ?_ _ | refine Z25 ?_ | refine Z26 ?_ _)); refine Z28 (cs := #[.slice Ao51 t545.length co51, .slice Ao53 t548.length co53, .slice Ao54 t551.length co54, .slice none 0 0]) ?_ 3 _ rfl; (with_reducible repeat (first | refine Z24 ?_ _ | refine Z25 ?_ | refine Z26 ?_ _)); refine Z28 (cs := #[.slice Ao51 t545.length co51, .slice Ao53 t548.length co53, .slice none 0 0, .slice none 0 0]) ?_ 2 _ rfl; (with_reducible repeat (first | refine Z24 ?_ _ | refine Z25 ?_ | refine Z26 ?_ _)); refine Z28 (cs := #[.slice Ao51 t545.length co51, .slice none 0 0, .slice none 0 0, .slice none 0 0]) ?_ 1 _ rfl; (with_reducible repeat (first | refine Z24 ?_ _ | refine Z25 ?_ | refine Z26 ?_ _)); refine Z28 (cs := YN4) ?_ 0 _ rfl; (with_reducible repeat (first | refine Z24 ?_ _ | refine Z25 ?_ | refine Z26 ?_ _)); exact BK558.out⟩, ⟨Q12⟩⟩
                    case round =>
                     clear H'
                     try clear c1
                     try clear c2
                     try clear p2
                     try clear c3
                     try clear c4
                     try clear c5
                     try clear p5
                     try clear q5
                     try clear hx5
                     try clear c6
                     try clear p6
                     try clear c7
                     try clear c8
                     try clear c10
                     try clear c11
                     try clear c12
                     try clear c13
                     try clear c13b0
                     try clear c13b1
                     try clear c13b2
                     try clear c17
                     try clear c23
                     try clear c23b0
                     try clear c23b1
                     try clear c23b2
                     try clear c27
                     try clear c29
                     try clear c30
                     try clear c30b0
                     try clear c31
                     try clear c31b0
                     try clear c32
                     try clear c32b0
                     try clear c34
                     try clear c34b0
                     try clear c35
                     try clear c35b0
                     try clear c35b1
                     try clear c36
                     try clear c36b0
                     try clear c40
                     try clear c40b0
                     try clear c42
                     try clear c44
                     try clear c44b0
                     try clear c45
                     try clear c45b0
                     try clear c46
                     try clear c46b0
                     try clear c47
                     try clear c47b0
                     try clear c47b1
                     try clear p54
                     try clear q54
                     try clear hx54
                     try clear hcz52_0
                     try clear hcz52_1
                     try clear hcz52_2
                     try clear hcz52_3
                     try clear hfz52_0
                     try clear hfz52_1
                     try clear hfz52_2
                     try clear hfz52_3
                     try clear hx543_0
                     try clear hx544_0
                     try clear p2
                     try clear p5
                     try clear p543
                     try clear p544
                     try clear p6
                     try clear q5
                     try clear q543
                     try clear q544
                     obtain ⟨x141_6, x559000_6, x559001_6, x559002_6, x559003_6, u559000, u559001, u559002, u559003, rfl, HA, HK6, HO_139, HO_559000, HO_559001, HO_559002, HO_559003, BK558, HB⟩ := hrel
                     cases gk with
                     | zero => exact absurd HA.out (by simp [laws_FnFocusRuns.l2])
                     | succ k6 =>
                      have H := HA.out
                      clear HA
                      simp only [laws_FnFocusRuns.l2] at H
                      by_cases c57 : x141_6 < (t525.length : Int)
                      ·rw [if_pos c57] at H
                       have c57b0 := Z37 c57
                       clear c57
                       by_cases c58 : 0 ≤ x141_6
                       ·rw [if_pos c58] at H
                        have c58b0 := Z37 c58
                        clear c58
                        by_cases c59 : x141_6 < (t525.length : Int)
                        ·rw [if_pos c59] at H
                         have c59b0 := Z37 c59
                         clear c59
                         by_cases c60 : x141_6 = 60
                         ·as_aux_lemma =>
                           rw [if_pos c60] at H
                           have c60b0 : (x141_6 == 60) = true := beq_iff_eq.mpr c60
                           have c60b1 : (x141_6 != 60) = false := bne_eq_false_iff_eq.mpr c60
                           clear c60
                           have H' := Ya H
                           clear H
                           have p559 : 0 ≤ (x141_6 : Int) := Z29 Q3
                           have q559 : x141_6 < (t525.length : Int) := Z29 Q3
                           obtain ⟨ad559, e559, hx559_0⟩ := Kd.at_int (Kd.R_reads' HO_139.out).2.2 x141_6 p559 q559
                           cases e559
                           replace p559 := eq_true p559
                           replace q559 := eq_true q559
                           go_wp2
                           go_meet
                           case rel => exact ⟨_, H', ⟨Q37⟩, ⟨Q12⟩⟩
                         ·rw [if_neg c60] at H
                          have c60b0 : (x141_6 == 60) = false := beq_eq_false_iff_ne.mpr c60
                          have c60b1 : (x141_6 != 60) = true := bne_iff_ne.mpr c60
                          replace H := Z35.mp H
                          obtain ⟨⟨t560, t563, t566, t569, t572, t573⟩, A610, H⟩ := H
                          replace H : (if t557 = true then (if t573 = true then (if t572 = (rd t525 x141_6) then (laws_FnFocusRuns.l2 k6 l1 t557 t525 (t525.length : Int) (wrap64 (x141_6 + 1)) t560 t563 t566 t569) else (some false)) else (some false)) else (some false)) = some r := H
                          have A61 := Ya A610
                          clear A610
                          by_cases c62 : t557 = true
                          ·subst c62
                           have H1 : (if t573 = true then (if t572 = (rd t525 x141_6) then (laws_FnFocusRuns.l2 k6 l1 true t525 (t525.length : Int) (wrap64 (x141_6 + 1)) t560 t563 t566 t569) else (some false)) else (some false)) = some r := by rw [if_pos rfl] at H; exact H
                           clear H
                           have H := H1
                           clear H1
                           by_cases c63 : t573 = true
                           ·subst c63
                            have H1 : (if t572 = (rd t525 x141_6) then (laws_FnFocusRuns.l2 k6 l1 true t525 (t525.length : Int) (wrap64 (x141_6 + 1)) t560 t563 t566 t569) else (some false)) = some r := by rw [if_pos rfl] at H; exact H
                            clear H
                            have H := H1
                            clear H1
                            by_cases c64 : t572 = (rd t525 x141_6)
                            ·rw [if_pos c64] at H
                             have c64b0 : (t572 == (rd t525 x141_6)) = true := beq_iff_eq.mpr c64
                             have c64b1 : (t572 != (rd t525 x141_6)) = false := bne_eq_false_iff_eq.mpr c64
                             clear c64
                             have H' := Ya H
                             clear H
                             have p559 : 0 ≤ (x141_6 : Int) := Z29 Q3
                             have q559 : x141_6 < (t525.length : Int) := Z29 Q3
                             obtain ⟨ad559, e559, hx559_0⟩ := Kd.at_int (Kd.R_reads' HO_139.out).2.2 x141_6 p559 q559
                             cases e559
                             replace p559 := eq_true p559
                             replace q559 := eq_true q559
                             obtain ⟨hcz65_0, hcz65_1, hcz65_2, hcz65_3, hfz65_0, hfz65_1, hfz65_2, hfz65_3⟩ := Y4 BK558.out
                             obtain ⟨Ao66, co66, rfl⟩ := Z17 HO_559000.out
                             obtain ⟨Ao67, co67, rfl⟩ := Z17 HO_559001.out
                             obtain ⟨Ao68, co68, rfl⟩ := Z17 HO_559002.out
                             obtain ⟨Ao69, co69, rfl⟩ := Z17 HO_559003.out
                             go_wp2_with (first | ((with_reducible refine gate_callee (f := 13) rfl ?_); refine Yz 150 Try.func13 #[.agg #[.slice Ao66 x559000_6.length co66, .slice Ao67 x559001_6.length co67, .slice Ao68 x559002_6.length co68, .slice Ao69 x559003_6.length co69]] ?_; (with_reducible refine (impl_StepFocus.calls k6 _ _ x559000_6 _ _ x559001_6 _ _ x559002_6 _ _ x559003_6 t560 t563 t566 t569 t572 true _ (Yc (Kd.R_reads' HO_559000.out).2.2) ((Kd.R_reads' HO_559000.out).2.1) (Yc (Kd.R_reads' HO_559001.out).2.2) ((Kd.R_reads' HO_559001.out).2.1) (Yc (Kd.R_reads' HO_559002.out).2.2) ((Kd.R_reads' HO_559002.out).2.1) (Yc (Kd.R_reads' HO_559003.out).2.2) ((Kd.R_reads' HO_559003.out).2.1) A61.out).mono ?_); rintro e w70 ⟨v561, v564, v567, v570, rfl, ho0, ho1, ho2, ho3, hb⟩; refine ⟨_, rfl, ?_⟩; have HO562 := Yl (Kd.R_new' (Kd.R_new' (Kd.R_new' (Kd.R_new' ho0 (Z16 (Yr HO_139.out))) (Z16 (Yr HO_559000.out))) (Z16 (Yr HO_559001.out))) (Z16 (Yr HO_559003.out))); have HO565 := Yl (Kd.R_new' (Kd.R_new' (Kd.R_new' (Kd.R_new' ho1 (Z16 (Yr HO_139.out))) (Z16 (Yr HO_559000.out))) (Z16 (Yr HO_559001.out))) (Z16 (Yr HO_559003.out))); have HO568 := Yl (Kd.R_new' ho2 (Z16 (Yr HO_559002.out))); replace HO_559002 := Ya (Kd.R_elder' (Yr HO_559002.out) (Kd.R_base ho2) hb); have HO571 := Yl (Kd.R_new' (Kd.R_new' (Kd.R_new' (Kd.R_new' ho3 (Z16 (Yr HO_139.out))) (Z16 (Yr HO_559000.out))) (Z16 (Yr HO_559001.out))) (Z16 (Yr HO_559003.out))); replace HO_139 := Ya (Z11 (Z14 (Z14 (Z14 (Z15 (Yr HO_139.out) hb) (Kd.R_base ho0)) (Kd.R_base ho1)) (Kd.R_base ho3)) (fun _ h_ => h_.1)); replace HO_559000 := Ya (Z11 (Z14 (Z14 (Z14 (Z15 (Yr HO_559000.out) hb) (Kd.R_base ho0)) (Kd.R_base ho1)) (Kd.R_base ho3)) (fun _ h_ => h_.1)); replace HO_559001 := Ya (Z11 (Z14 (Z14 (Z14 (Z15 (Yr HO_559001.out) hb) (Kd.R_base ho0)) (Kd.R_base ho1)) (Kd.R_base ho3)) (fun _ h_ => h_.1)); replace HO_559003 := Ya (Z11 (Z14 (Z14 (Z14 (Z15 (Yr HO_559003.out) hb) (Kd.R_base ho0)) (Kd.R_base ho1)) (Kd.R_base ho3)) (fun _ h_ => h_.1)); replace BK558 := Yb BK558 hb; replace HB := Yh hb; (try clear hb ho0 ho1 ho2 ho3)) | ((with_reducible refine gate_dst (N := 25) rfl ?_); (try (refine gate_guard (by rfl) ?_; dsimp only)); refine Yx 25 YN4 33 ?_; intro gb574 hg w71 hbox hb; replace HO_139 := Yw HO_139 hb; replace HO_559000 := Yw HO_559000 hb; replace HO_559001 := Yw HO_559001 hb; replace HO_559002 := Yw HO_559002 hb; replace HO_559003 := Yw HO_559003 hb; replace HO562 := Yw HO562 hb; replace HO565 := Yw HO565 hb; replace HO568 := Yw HO568 hb; replace HO571 := Yw HO571 hb; have BK574 := Ya hbox; have GE574 := Yg hg; replace HB := Yh hb; have NB558_574 := Yn BK558 hg; have NB574_558 := Ym BK558 hg; replace BK558 := Yb BK558 hb; clear hb hbox hg; obtain ⟨Ao72, co72, rfl⟩ := Z17 HO562.out; have hnb73 := NB574_558.out; have hnc73 := NB558_574.out; obtain ⟨hcz74_0, hcz74_1, hcz74_2, hcz74_3, hfz74_0, hfz74_1, hfz74_2, hfz74_3⟩ := Y4 BK574.out; obtain ⟨Ao75, co75, rfl⟩ := Z17 HO565.out; obtain ⟨Ao76, co76, rfl⟩ := Z17 HO568.out; obtain ⟨Ao77, co77, rfl⟩ := Z17 HO571.out; obtain ⟨hcz78_0, hcz78_1, hcz78_2, hcz78_3, hfz78_0, hfz78_1, hfz78_2, hfz78_3⟩ := Y4 BK558.out))
                             go_roundg k6
                             case measure => have := HJ7.out; have := HJ19.out; have := HK3.out; have := HJ32.out; have := HK5.out; have := HK6.out; omega
                             case rel => exact ⟨(wrap64 (x141_6 + 1)), (t560), (t563), (t566), (t569), (.slice Ao72 t560.length co72), (.slice Ao75 t563.length co75), (.slice Ao76 t566.length co76), (.slice Ao77 t569.length co77), Q8, H', ⟨by have := HJ7.out; have := HJ19.out; have := HK3.out; have := HJ32.out; have := HK5.out; have := HK6.out; omega⟩, ⟨Yj (Yd4 HO_139.out BK574.out BK558.out) (fun _ hk => ⟨hk.1.1.1.1.2, ⟨hk.1.1.1.2, hk.1.1.2⟩⟩)⟩, ⟨Yj (Yd4 HO562.out BK574.out BK558.out) (fun _ hk => ⟨hk.1.1.1.1.1.2, ⟨hk.1.1.1.1.1.1.1, hk.1.1.1.1.1.1.2⟩⟩)⟩, ⟨Yj (Yd4 HO565.out BK574.out BK558.out) (fun _ hk => ⟨hk.1.1.1.1.1.2, ⟨hk.1.1.1.1.1.1.1, hk.1.1.1.1.1.1.2⟩⟩)⟩, ⟨Yj (Yd4 HO568.out BK574.out BK558.out) (fun _ hk => trivial)⟩, ⟨Yj (Yd4 HO571.out BK574.out BK558.out) (fun _ hk => ⟨hk.1.1.1.1.1.2, ⟨hk.1.1.1.1.1.1.1, hk.1.1.1.1.1.1.2⟩⟩)⟩, ⟨by (with_reducible repeat (first | refine Z24 ?_ _ | refine Z25 ?_ | refine Z26 ?_ _)); refine Z28 (cs := #[.slice Ao72 t560.length co72, .slice Ao75 t563.length co75, .slice Ao76 t566.length co76, .slice Ao69 x559003_6.length co69]) ?_ 3 _ rfl; (with_reducible repeat (first | refine Z24 ?_ _ | refine Z25 ?_ | refine Z26 ?_ _)); refine Z28 (cs := #[.slice Ao72 t560.length co72, .slice Ao75 t563.length co75, .slice Ao68 x559002_6.length co68, .slice Ao69 x559003_6.length co69]) ?_ 2 _ rfl; (with_reducible repeat (first | refine Z24 ?_ _ | refine Z25 ?_ | refine Z26 ?_ _)); refine Z28 (cs := #[.slice Ao72 t560.length co72, .slice Ao67 x559001_6.length co67, .slice Ao68 x559002_6.length co68, .slice Ao69 x559003_6.length co69]) ?_ 1 _ rfl; (with_reducible repeat (first | refine Z24 ?_ _ | refine Z25 ?_ | refine Z26 ?_ _)); refine Z28 (cs := #[.slice Ao66 x559000_6.length co66, .slice Ao67 x559001_6.length co67, .slice Ao68 x559002_6.length co68, .slice Ao69 x559003_6.length co69]) ?_ 0 _ rfl; (with_reducible repeat (first | refine Z24 ?_ _ | refine Z25 ?_ | refine Z26 ?_ _)); refine blk_far ?_ NB558_574.out _; (with_reducible repeat (first | refine Z24 ?_ _ | refine Z25 ?_ | refine Z26 ?_ _)); refine blk_far ?_ NB558_574.out _; (with_reducible repeat (first | refine Z24 ?_ _ | refine Z25 ?_ | refine Z26 ?_ _)); refine blk_far ?_ NB558_574.out _; (with_reducible repeat (first | refine Z24 ?_ _ | refine Z25 ?_ | refine Z26 ?_ _)); refine blk_far ?_ NB558_574.out _; (with_reducible repeat (first | refine Z24 ?_ _ | refine Z25 ?_ | refine Z26 ?_ _)); exact BK558.out⟩, ⟨Q12⟩⟩
                            ·as_aux_lemma =>
                              rw [if_neg c64] at H
                              have c64b0 : (t572 == (rd t525 x141_6)) = false := beq_eq_false_iff_ne.mpr c64
                              have c64b1 : (t572 != (rd t525 x141_6)) = true := bne_iff_ne.mpr c64
                              obtain rfl := Option.some.inj H
                              have p559 : 0 ≤ (x141_6 : Int) := Z29 Q3
                              have q559 : x141_6 < (t525.length : Int) := Z29 Q3
                              obtain ⟨ad559, e559, hx559_0⟩ := Kd.at_int (Kd.R_reads' HO_139.out).2.2 x141_6 p559 q559
                              cases e559
                              replace p559 := eq_true p559
                              replace q559 := eq_true q559
                              obtain ⟨hcz79_0, hcz79_1, hcz79_2, hcz79_3, hfz79_0, hfz79_1, hfz79_2, hfz79_3⟩ := Y4 BK558.out
                              obtain ⟨Ao80, co80, rfl⟩ := Z17 HO_559000.out
                              obtain ⟨Ao81, co81, rfl⟩ := Z17 HO_559001.out
                              obtain ⟨Ao82, co82, rfl⟩ := Z17 HO_559002.out
                              obtain ⟨Ao83, co83, rfl⟩ := Z17 HO_559003.out
                              go_wp2_with (first | ((with_reducible refine gate_callee (f := 13) rfl ?_); refine Yz 150 Try.func13 #[.agg #[.slice Ao80 x559000_6.length co80, .slice Ao81 x559001_6.length co81, .slice Ao82 x559002_6.length co82, .slice Ao83 x559003_6.length co83]] ?_; (with_reducible refine (impl_StepFocus.calls k6 _ _ x559000_6 _ _ x559001_6 _ _ x559002_6 _ _ x559003_6 t560 t563 t566 t569 t572 true _ (Yc (Kd.R_reads' HO_559000.out).2.2) ((Kd.R_reads' HO_559000.out).2.1) (Yc (Kd.R_reads' HO_559001.out).2.2) ((Kd.R_reads' HO_559001.out).2.1) (Yc (Kd.R_reads' HO_559002.out).2.2) ((Kd.R_reads' HO_559002.out).2.1) (Yc (Kd.R_reads' HO_559003.out).2.2) ((Kd.R_reads' HO_559003.out).2.1) A61.out).mono ?_); rintro e w84 ⟨v561, v564, v567, v570, rfl, ho0, ho1, ho2, ho3, hb⟩; refine ⟨_, rfl, ?_⟩; have HO562 := Yl (Kd.R_new' (Kd.R_new' (Kd.R_new' (Kd.R_new' ho0 (Z16 (Yr HO_139.out))) (Z16 (Yr HO_559000.out))) (Z16 (Yr HO_559001.out))) (Z16 (Yr HO_559003.out))); have HO565 := Yl (Kd.R_new' (Kd.R_new' (Kd.R_new' (Kd.R_new' ho1 (Z16 (Yr HO_139.out))) (Z16 (Yr HO_559000.out))) (Z16 (Yr HO_559001.out))) (Z16 (Yr HO_559003.out))); have HO568 := Yl (Kd.R_new' ho2 (Z16 (Yr HO_559002.out))); replace HO_559002 := Ya (Kd.R_elder' (Yr HO_559002.out) (Kd.R_base ho2) hb); have HO571 := Yl (Kd.R_new' (Kd.R_new' (Kd.R_new' (Kd.R_new' ho3 (Z16 (Yr HO_139.out))) (Z16 (Yr HO_559000.out))) (Z16 (Yr HO_559001.out))) (Z16 (Yr HO_559003.out))); replace HO_139 := Ya (Z11 (Z14 (Z14 (Z14 (Z15 (Yr HO_139.out) hb) (Kd.R_base ho0)) (Kd.R_base ho1)) (Kd.R_base ho3)) (fun _ h_ => h_.1)); replace HO_559000 := Ya (Z11 (Z14 (Z14 (Z14 (Z15 (Yr HO_559000.out) hb) (Kd.R_base ho0)) (Kd.R_base ho1)) (Kd.R_base ho3)) (fun _ h_ => h_.1)); replace HO_559001 := Ya (Z11 (Z14 (Z14 (Z14 (Z15 (Yr HO_559001.out) hb) (Kd.R_base ho0)) (Kd.R_base ho1)) (Kd.R_base ho3)) (fun _ h_ => h_.1)); replace HO_559003 := Ya (Z11 (Z14 (Z14 (Z14 (Z15 (Yr HO_559003.out) hb) (Kd.R_base ho0)) (Kd.R_base ho1)) (Kd.R_base ho3)) (fun _ h_ => h_.1)); replace BK558 := Yb BK558 hb; replace HB := Yh hb; (try clear hb ho0 ho1 ho2 ho3)) | ((with_reducible refine gate_dst (N := 25) rfl ?_); (try (refine gate_guard (by rfl) ?_; dsimp only)); refine Yx 25 YN4 33 ?_; intro gb574 hg w85 hbox hb; replace HO_139 := Yw HO_139 hb; replace HO_559000 := Yw HO_559000 hb; replace HO_559001 := Yw HO_559001 hb; replace HO_559002 := Yw HO_559002 hb; replace HO_559003 := Yw HO_559003 hb; replace HO562 := Yw HO562 hb; replace HO565 := Yw HO565 hb; replace HO568 := Yw HO568 hb; replace HO571 := Yw HO571 hb; have BK574 := Ya hbox; have GE574 := Yg hg; replace HB := Yh hb; have NB558_574 := Yn BK558 hg; have NB574_558 := Ym BK558 hg; replace BK558 := Yb BK558 hb; clear hb hbox hg; obtain ⟨Ao86, co86, rfl⟩ := Z17 HO562.out; have hnb87 := NB574_558.out; have hnc87 := NB558_574.out; obtain ⟨hcz88_0, hcz88_1, hcz88_2, hcz88_3, hfz88_0, hfz88_1, hfz88_2, hfz88_3⟩ := Y4 BK574.out; obtain ⟨Ao89, co89, rfl⟩ := Z17 HO565.out; obtain ⟨Ao90, co90, rfl⟩ := Z17 HO568.out; obtain ⟨Ao91, co91, rfl⟩ := Z17 HO571.out))
                              go_ret
                              exact ⟨Q1, Q12⟩
                           ·as_aux_lemma =>
                             replace c63 := Bool.eq_false_iff.mpr c63
                             subst c63
                             have H1 : (some false) = some r := by rw [if_neg (show ¬ (false = true) by decide)] at H; exact H
                             clear H
                             have H := H1
                             clear H1
                             obtain rfl := Option.some.inj H
                             have p559 : 0 ≤ (x141_6 : Int) := Z29 Q3
                             have q559 : x141_6 < (t525.length : Int) := Z29 Q3
                             obtain ⟨ad559, e559, hx559_0⟩ := Kd.at_int (Kd.R_reads' HO_139.out).2.2 x141_6 p559 q559
                             cases e559
                             replace p559 := eq_true p559
                             replace q559 := eq_true q559
                             obtain ⟨hcz92_0, hcz92_1, hcz92_2, hcz92_3, hfz92_0, hfz92_1, hfz92_2, hfz92_3⟩ := Y4 BK558.out
                             obtain ⟨Ao93, co93, rfl⟩ := Z17 HO_559000.out
                             obtain ⟨Ao94, co94, rfl⟩ := Z17 HO_559001.out
                             obtain ⟨Ao95, co95, rfl⟩ := Z17 HO_559002.out
                             obtain ⟨Ao96, co96, rfl⟩ := Z17 HO_559003.out
                             go_wp2_with (first | ((with_reducible refine gate_callee (f := 13) rfl ?_); refine Yz 150 Try.func13 #[.agg #[.slice Ao93 x559000_6.length co93, .slice Ao94 x559001_6.length co94, .slice Ao95 x559002_6.length co95, .slice Ao96 x559003_6.length co96]] ?_; (with_reducible refine (impl_StepFocus.calls k6 _ _ x559000_6 _ _ x559001_6 _ _ x559002_6 _ _ x559003_6 t560 t563 t566 t569 t572 false _ (Yc (Kd.R_reads' HO_559000.out).2.2) ((Kd.R_reads' HO_559000.out).2.1) (Yc (Kd.R_reads' HO_559001.out).2.2) ((Kd.R_reads' HO_559001.out).2.1) (Yc (Kd.R_reads' HO_559002.out).2.2) ((Kd.R_reads' HO_559002.out).2.1) (Yc (Kd.R_reads' HO_559003.out).2.2) ((Kd.R_reads' HO_559003.out).2.1) A61.out).mono ?_); rintro e w97 ⟨v561, v564, v567, v570, rfl, ho0, ho1, ho2, ho3, hb⟩; refine ⟨_, rfl, ?_⟩; have HO562 := Yl (Kd.R_new' (Kd.R_new' (Kd.R_new' (Kd.R_new' ho0 (Z16 (Yr HO_139.out))) (Z16 (Yr HO_559000.out))) (Z16 (Yr HO_559001.out))) (Z16 (Yr HO_559003.out))); have HO565 := Yl (Kd.R_new' (Kd.R_new' (Kd.R_new' (Kd.R_new' ho1 (Z16 (Yr HO_139.out))) (Z16 (Yr HO_559000.out))) (Z16 (Yr HO_559001.out))) (Z16 (Yr HO_559003.out))); have HO568 := Yl (Kd.R_new' ho2 (Z16 (Yr HO_559002.out))); replace HO_559002 := Ya (Kd.R_elder' (Yr HO_559002.out) (Kd.R_base ho2) hb); have HO571 := Yl (Kd.R_new' (Kd.R_new' (Kd.R_new' (Kd.R_new' ho3 (Z16 (Yr HO_139.out))) (Z16 (Yr HO_559000.out))) (Z16 (Yr HO_559001.out))) (Z16 (Yr HO_559003.out))); replace HO_139 := Ya (Z11 (Z14 (Z14 (Z14 (Z15 (Yr HO_139.out) hb) (Kd.R_base ho0)) (Kd.R_base ho1)) (Kd.R_base ho3)) (fun _ h_ => h_.1)); replace HO_559000 := Ya (Z11 (Z14 (Z14 (Z14 (Z15 (Yr HO_559000.out) hb) (Kd.R_base ho0)) (Kd.R_base ho1)) (Kd.R_base ho3)) (fun _ h_ => h_.1)); replace HO_559001 := Ya (Z11 (Z14 (Z14 (Z14 (Z15 (Yr HO_559001.out) hb) (Kd.R_base ho0)) (Kd.R_base ho1)) (Kd.R_base ho3)) (fun _ h_ => h_.1)); replace HO_559003 := Ya (Z11 (Z14 (Z14 (Z14 (Z15 (Yr HO_559003.out) hb) (Kd.R_base ho0)) (Kd.R_base ho1)) (Kd.R_base ho3)) (fun _ h_ => h_.1)); replace BK558 := Yb BK558 hb; replace HB := Yh hb; (try clear hb ho0 ho1 ho2 ho3)) | ((with_reducible refine gate_dst (N := 25) rfl ?_); (try (refine gate_guard (by rfl) ?_; dsimp only)); refine Yx 25 YN4 33 ?_; intro gb574 hg w98 hbox hb; replace HO_139 := Yw HO_139 hb; replace HO_559000 := Yw HO_559000 hb; replace HO_559001 := Yw HO_559001 hb; replace HO_559002 := Yw HO_559002 hb; replace HO_559003 := Yw HO_559003 hb; replace HO562 := Yw HO562 hb; replace HO565 := Yw HO565 hb; replace HO568 := Yw HO568 hb; replace HO571 := Yw HO571 hb; have BK574 := Ya hbox; have GE574 := Yg hg; replace HB := Yh hb; have NB558_574 := Yn BK558 hg; have NB574_558 := Ym BK558 hg; replace BK558 := Yb BK558 hb; clear hb hbox hg; obtain ⟨Ao99, co99, rfl⟩ := Z17 HO562.out; have hnb100 := NB574_558.out; have hnc100 := NB558_574.out; obtain ⟨hcz101_0, hcz101_1, hcz101_2, hcz101_3, hfz101_0, hfz101_1, hfz101_2, hfz101_3⟩ := Y4 BK574.out; obtain ⟨Ao102, co102, rfl⟩ := Z17 HO565.out; obtain ⟨Ao103, co103, rfl⟩ := Z17 HO568.out; obtain ⟨Ao104, co104, rfl⟩ := Z17 HO571.out))
                             go_ret
                             exact ⟨Q1, Q12⟩
                          ·as_aux_lemma =>
                            replace c62 := Bool.eq_false_iff.mpr c62
                            subst c62
                            have H1 : (some false) = some r := by rw [if_neg (show ¬ (false = true) by decide)] at H; exact H
                            clear H
                            have H := H1
                            clear H1
                            obtain rfl := Option.some.inj H
                            have p559 : 0 ≤ (x141_6 : Int) := Z29 Q3
                            have q559 : x141_6 < (t525.length : Int) := Z29 Q3
                            obtain ⟨ad559, e559, hx559_0⟩ := Kd.at_int (Kd.R_reads' HO_139.out).2.2 x141_6 p559 q559
                            cases e559
                            replace p559 := eq_true p559
                            replace q559 := eq_true q559
                            obtain ⟨hcz105_0, hcz105_1, hcz105_2, hcz105_3, hfz105_0, hfz105_1, hfz105_2, hfz105_3⟩ := Y4 BK558.out
                            obtain ⟨Ao106, co106, rfl⟩ := Z17 HO_559000.out
                            obtain ⟨Ao107, co107, rfl⟩ := Z17 HO_559001.out
                            obtain ⟨Ao108, co108, rfl⟩ := Z17 HO_559002.out
                            obtain ⟨Ao109, co109, rfl⟩ := Z17 HO_559003.out
                            go_wp2_with (first | ((with_reducible refine gate_callee (f := 13) rfl ?_); refine Yz 150 Try.func13 #[.agg #[.slice Ao106 x559000_6.length co106, .slice Ao107 x559001_6.length co107, .slice Ao108 x559002_6.length co108, .slice Ao109 x559003_6.length co109]] ?_; (with_reducible refine (impl_StepFocus.calls k6 _ _ x559000_6 _ _ x559001_6 _ _ x559002_6 _ _ x559003_6 t560 t563 t566 t569 t572 t573 _ (Yc (Kd.R_reads' HO_559000.out).2.2) ((Kd.R_reads' HO_559000.out).2.1) (Yc (Kd.R_reads' HO_559001.out).2.2) ((Kd.R_reads' HO_559001.out).2.1) (Yc (Kd.R_reads' HO_559002.out).2.2) ((Kd.R_reads' HO_559002.out).2.1) (Yc (Kd.R_reads' HO_559003.out).2.2) ((Kd.R_reads' HO_559003.out).2.1) A61.out).mono ?_); rintro e w110 ⟨v561, v564, v567, v570, rfl, ho0, ho1, ho2, ho3, hb⟩; refine ⟨_, rfl, ?_⟩; have HO562 := Yl (Kd.R_new' (Kd.R_new' (Kd.R_new' (Kd.R_new' ho0 (Z16 (Yr HO_139.out))) (Z16 (Yr HO_559000.out))) (Z16 (Yr HO_559001.out))) (Z16 (Yr HO_559003.out))); have HO565 := Yl (Kd.R_new' (Kd.R_new' (Kd.R_new' (Kd.R_new' ho1 (Z16 (Yr HO_139.out))) (Z16 (Yr HO_559000.out))) (Z16 (Yr HO_559001.out))) (Z16 (Yr HO_559003.out))); have HO568 := Yl (Kd.R_new' ho2 (Z16 (Yr HO_559002.out))); replace HO_559002 := Ya (Kd.R_elder' (Yr HO_559002.out) (Kd.R_base ho2) hb); have HO571 := Yl (Kd.R_new' (Kd.R_new' (Kd.R_new' (Kd.R_new' ho3 (Z16 (Yr HO_139.out))) (Z16 (Yr HO_559000.out))) (Z16 (Yr HO_559001.out))) (Z16 (Yr HO_559003.out))); replace HO_139 := Ya (Z11 (Z14 (Z14 (Z14 (Z15 (Yr HO_139.out) hb) (Kd.R_base ho0)) (Kd.R_base ho1)) (Kd.R_base ho3)) (fun _ h_ => h_.1)); replace HO_559000 := Ya (Z11 (Z14 (Z14 (Z14 (Z15 (Yr HO_559000.out) hb) (Kd.R_base ho0)) (Kd.R_base ho1)) (Kd.R_base ho3)) (fun _ h_ => h_.1)); replace HO_559001 := Ya (Z11 (Z14 (Z14 (Z14 (Z15 (Yr HO_559001.out) hb) (Kd.R_base ho0)) (Kd.R_base ho1)) (Kd.R_base ho3)) (fun _ h_ => h_.1)); replace HO_559003 := Ya (Z11 (Z14 (Z14 (Z14 (Z15 (Yr HO_559003.out) hb) (Kd.R_base ho0)) (Kd.R_base ho1)) (Kd.R_base ho3)) (fun _ h_ => h_.1)); replace BK558 := Yb BK558 hb; replace HB := Yh hb; (try clear hb ho0 ho1 ho2 ho3)) | ((with_reducible refine gate_dst (N := 25) rfl ?_); (try (refine gate_guard (by rfl) ?_; dsimp only)); refine Yx 25 YN4 33 ?_; intro gb574 hg w111 hbox hb; replace HO_139 := Yw HO_139 hb; replace HO_559000 := Yw HO_559000 hb; replace HO_559001 := Yw HO_559001 hb; replace HO_559002 := Yw HO_559002 hb; replace HO_559003 := Yw HO_559003 hb; replace HO562 := Yw HO562 hb; replace HO565 := Yw HO565 hb; replace HO568 := Yw HO568 hb; replace HO571 := Yw HO571 hb; have BK574 := Ya hbox; have GE574 := Yg hg; replace HB := Yh hb; have NB558_574 := Yn BK558 hg; have NB574_558 := Ym BK558 hg; replace BK558 := Yb BK558 hb; clear hb hbox hg; obtain ⟨Ao112, co112, rfl⟩ := Z17 HO562.out; have hnb113 := NB574_558.out; have hnc113 := NB558_574.out; obtain ⟨hcz114_0, hcz114_1, hcz114_2, hcz114_3, hfz114_0, hfz114_1, hfz114_2, hfz114_3⟩ := Y4 BK574.out; obtain ⟨Ao115, co115, rfl⟩ := Z17 HO565.out; obtain ⟨Ao116, co116, rfl⟩ := Z17 HO568.out; obtain ⟨Ao117, co117, rfl⟩ := Z17 HO571.out))
                            go_ret
                            exact ⟨Q1, Q12⟩
                        ·rw [if_neg c59] at H
                         exact absurd H (by simp)
                       ·rw [if_neg c58] at H
                        exact absurd H (by simp)
                      ·as_aux_lemma =>
                        rw [if_neg c57] at H
                        have c57b0 := Z36 c57
                        clear c57
                        have H' := Ya H
                        clear H
                        go_wp2
                        go_meet
                        case rel => exact ⟨_, H', ⟨Q37⟩, ⟨Q12⟩⟩
                   ·as_aux_lemma =>
                     rw [if_neg c47] at H
                     have c47b0 : (x18_5 == (wrap64 (x15_3 - 1))) = false := beq_eq_false_iff_ne.mpr c47
                     have c47b1 : (x18_5 != (wrap64 (x15_3 - 1))) = true := bne_iff_ne.mpr c47
                     obtain rfl := Option.some.inj H
                     go_wp2
                     go_ret
                     exact ⟨Q1, Q12⟩
         ·as_aux_lemma =>
           replace c29 := Bool.eq_false_iff.mpr c29
           subst c29
           have H1 : (laws_FnFocusRuns.j6 kj19 l1) = some r := by rw [if_neg (show ¬ (false = true) by decide)] at H; exact H
           clear H
           have H := H1
           clear H1
           have H' := Ya H
           clear H
           go_wp2
           go_meet
           case rel => exact ⟨_, H', ⟨by have := HJ7.out; have := HJ19.out; first | omega | exact Nat.le_refl _⟩, ⟨Q12⟩⟩
        case rest => as_aux_lemma =>
         clear HC28
         try clear c1
         try clear c2
         try clear p2
         try clear c3
         try clear c4
         try clear c5
         try clear p5
         try clear q5
         try clear hx5
         try clear c6
         try clear p6
         try clear c7
         try clear c8
         try clear c10
         try clear c11
         try clear c12
         try clear c13
         try clear c13b0
         try clear c13b1
         try clear c13b2
         try clear c17
         try clear c23
         try clear c23b0
         try clear c23b1
         try clear c23b2
         try clear c27
         try clear c29
         try clear c30
         try clear c30b0
         try clear c31
         try clear c31b0
         try clear c32
         try clear c32b0
         try clear c34
         try clear c34b0
         try clear c35
         try clear c35b0
         try clear c35b1
         try clear c36
         try clear c36b0
         try clear c40
         try clear c40b0
         try clear c42
         try clear c44
         try clear c44b0
         try clear c45
         try clear c45b0
         try clear c46
         try clear c46b0
         try clear c47
         try clear c47b0
         try clear c47b1
         try clear p54
         try clear q54
         try clear hx54
         try clear p55
         try clear q55
         try clear hx55
         try clear c57
         try clear c57b0
         try clear c58
         try clear c58b0
         try clear c59
         try clear c59b0
         try clear c60
         try clear c60b0
         try clear c60b1
         try clear c62
         try clear c63
         try clear c64
         try clear c64b0
         try clear c64b1
         try clear p64
         try clear c73
         try clear c87
         try clear c100
         try clear c113
         try clear hcz101_0
         try clear hcz101_1
         try clear hcz101_2
         try clear hcz101_3
         try clear hcz105_0
         try clear hcz105_1
         try clear hcz105_2
         try clear hcz105_3
         try clear hcz114_0
         try clear hcz114_1
         try clear hcz114_2
         try clear hcz114_3
         try clear hcz52_0
         try clear hcz52_1
         try clear hcz52_2
         try clear hcz52_3
         try clear hcz65_0
         try clear hcz65_1
         try clear hcz65_2
         try clear hcz65_3
         try clear hcz74_0
         try clear hcz74_1
         try clear hcz74_2
         try clear hcz74_3
         try clear hcz78_0
         try clear hcz78_1
         try clear hcz78_2
         try clear hcz78_3
         try clear hcz79_0
         try clear hcz79_1
         try clear hcz79_2
         try clear hcz79_3
         try clear hcz88_0
         try clear hcz88_1
         try clear hcz88_2
         try clear hcz88_3
         try clear hcz92_0
         try clear hcz92_1
         try clear hcz92_2
         try clear hcz92_3
         try clear hfz101_0
         try clear hfz101_1
         try clear hfz101_2
         try clear hfz101_3
         try clear hfz105_0
         try clear hfz105_1
         try clear hfz105_2
         try clear hfz105_3
         try clear hfz114_0
         try clear hfz114_1
         try clear hfz114_2
         try clear hfz114_3
         try clear hfz52_0
         try clear hfz52_1
         try clear hfz52_2
         try clear hfz52_3
         try clear hfz65_0
         try clear hfz65_1
         try clear hfz65_2
         try clear hfz65_3
         try clear hfz74_0
         try clear hfz74_1
         try clear hfz74_2
         try clear hfz74_3
         try clear hfz78_0
         try clear hfz78_1
         try clear hfz78_2
         try clear hfz78_3
         try clear hfz79_0
         try clear hfz79_1
         try clear hfz79_2
         try clear hfz79_3
         try clear hfz88_0
         try clear hfz88_1
         try clear hfz88_2
         try clear hfz88_3
         try clear hfz92_0
         try clear hfz92_1
         try clear hfz92_2
         try clear hfz92_3
         try clear hx543_0
         try clear hx544_0
         try clear hx559_0
         try clear p2
         try clear p5
         try clear p54
         try clear p543
         try clear p544
         try clear p559
         try clear p6
         try clear q5
         try clear q54
         try clear q543
         try clear q544
         try clear q559
         obtain ⟨kq, HA, HJ27, HB⟩ := hcut
         cases kq with
         | zero => exact absurd HA.out (by simp [laws_FnFocusRuns.j6])
         | succ kj27 =>
          have H := HA.out
          clear HA
          simp only [laws_FnFocusRuns.j6] at H
          replace H := Z35.mp H
          obtain ⟨⟨t575, t576⟩, A1180, H⟩ := H
          replace H : ((impl_FocusAt.f kj27 t575 t576).bind fun bt579 => ((spec_FocusAt.f kj27 t575 t576).bind fun bt593 => (if (bt579.2.2.2.2 != bt593.2.2.2.2) = true then (laws_FnFocusRuns.j7 kj27 t575 t576 bt579.2.2.2.2 true bt579.1 bt579.2.1 bt579.2.2.1 bt579.2.2.2.1) else ((laws_uFocus.f kj27 bt579.1 bt579.2.1 bt579.2.2.1 bt579.2.2.2.1 bt593.1 bt593.2.1 bt593.2.2.1 bt593.2.2.2.1).bind fun t607 => (laws_FnFocusRuns.j7 kj27 t575 t576 bt579.2.2.2.2 (!t607) bt579.1 bt579.2.1 bt579.2.2.1 bt579.2.2.2.1))))) = some r := H
          have A118 := Ya A1180
          clear A1180
          replace H := Z35.mp H
          obtain ⟨⟨t579, t582, t585, t588, t591⟩, A1190, H⟩ := H
          replace H : ((spec_FocusAt.f kj27 t575 t576).bind fun bt593 => (if (t591 != bt593.2.2.2.2) = true then (laws_FnFocusRuns.j7 kj27 t575 t576 t591 true t579 t582 t585 t588) else ((laws_uFocus.f kj27 t579 t582 t585 t588 bt593.1 bt593.2.1 bt593.2.2.1 bt593.2.2.2.1).bind fun t607 => (laws_FnFocusRuns.j7 kj27 t575 t576 t591 (!t607) t579 t582 t585 t588)))) = some r := H
          have A119 := Ya A1190
          clear A1190
          replace H := Z35.mp H
          obtain ⟨⟨t593, t596, t599, t602, t605⟩, A1200, H⟩ := H
          replace H : (if (t591 != t605) = true then (laws_FnFocusRuns.j7 kj27 t575 t576 t591 true t579 t582 t585 t588) else ((laws_uFocus.f kj27 t579 t582 t585 t588 t593 t596 t599 t602).bind fun t607 => (laws_FnFocusRuns.j7 kj27 t575 t576 t591 (!t607) t579 t582 t585 t588))) = some r := H
          have A120 := Ya A1200
          clear A1200
          have HC121 := Ya H
          clear H
          go_upto_region 42 with (first | ((with_reducible refine gate_callee (f := 14) rfl ?_); refine Yz 169 Try.func14 #[.slice A1 l1.length c1] ?_; (with_reducible refine (spec_DrawFocusAt.calls kj27 _ _ l1 t575 t576 _ (Yc (Z21 HR1.out HB.out)) HC1.out A118.out).mono ?_); rintro e w122 ⟨v577, rfl, ho0, hb⟩; refine ⟨_, rfl, ?_⟩; have HO578 := Yl ho0; replace HB := Yh hb; (try clear hb ho0); obtain ⟨Ao123, co123, rfl⟩ := Z17 HO578.out) | ((with_reducible refine gate_callee (f := 15) rfl ?_); refine Yz 175 Try.func15 #[.slice Ao123 t575.length co123, .int .i64 t576] ?_; (with_reducible refine (impl_FocusAt.calls kj27 _ _ t575 t576 t579 t582 t585 t588 t591 _ (Yc (Kd.R_reads' HO578.out).2.2) ((Kd.R_reads' HO578.out).2.1) A119.out).mono ?_); rintro e w124 ⟨v580, v583, v586, v589, rfl, ho0, ho1, ho2, ho3, hb⟩; refine ⟨_, rfl, ?_⟩; have HO581 := Yl (Kd.R_new' ho0 (Z16 (Yr HO578.out))); have HO584 := Yl (Kd.R_new' ho1 (Z16 (Yr HO578.out))); have HO587 := Yl ho2; have HO590 := Yl (Kd.R_new' ho3 (Z16 (Yr HO578.out))); replace HO578 := Ya (Z11 (Z14 (Z14 (Z14 (Z15 (Yr HO578.out) hb) (Kd.R_base ho0)) (Kd.R_base ho1)) (Kd.R_base ho3)) (fun _ h_ => h_.1)); replace HB := Yh hb; (try clear hb ho0 ho1 ho2 ho3)) | ((with_reducible refine gate_dst (N := 30) rfl ?_); (try (refine gate_guard (by rfl) ?_; dsimp only)); refine Yx 30 YN4 33 ?_; intro gb592 hg w125 hbox hb; replace HO578 := Yw HO578 hb; replace HO581 := Yw HO581 hb; replace HO584 := Yw HO584 hb; replace HO587 := Yw HO587 hb; replace HO590 := Yw HO590 hb; have BK592 := Ya hbox; have GE592 := Yg hg; replace HB := Yh hb; clear hb hbox hg; obtain ⟨Ao126, co126, rfl⟩ := Z17 HO581.out; obtain ⟨hcz127_0, hcz127_1, hcz127_2, hcz127_3, hfz127_0, hfz127_1, hfz127_2, hfz127_3⟩ := Y4 BK592.out; obtain ⟨Ao128, co128, rfl⟩ := Z17 HO584.out; obtain ⟨Ao129, co129, rfl⟩ := Z17 HO587.out; obtain ⟨Ao130, co130, rfl⟩ := Z17 HO590.out) | ((with_reducible refine gate_callee (f := 16) rfl ?_); refine Yz 181 Try.func16 #[.slice Ao123 t575.length co123, .int .i64 t576] ?_; (with_reducible refine (spec_FocusAt.calls kj27 _ _ t575 t576 t593 t596 t599 t602 t605 _ ?side1 ((Kd.R_reads' HO578.out).2.1) A120.out).mono ?_); (case side1 => refine (Kd.R_reads' (e := 3) (base := w.heap.size) (ok := fun k_ => (((True ∧ some k_ ≠ (.slice Ao126 t579.length co126 : Value).ownBlock) ∧ some k_ ≠ (.slice Ao128 t582.length co128 : Value).ownBlock) ∧ some k_ ≠ (.slice Ao130 t588.length co130 : Value).ownBlock)) (n := t575.length) (c := co123) ?_).2.2; exact (Yj (Yf4 HO578.out BK592.out) (fun _ h_ => h_.1))); rintro e w131 ⟨v594, v597, v600, v603, rfl, ho0, ho1, ho2, ho3, hb⟩; refine ⟨_, rfl, ?_⟩; have HO595 := Yl (Kd.R_new' (Kd.R_new' (Kd.R_new' (Kd.R_new' ho0 (Z16 (Yj (Yf4 HO578.out BK592.out) (fun _ h_ => h_.1)))) (Z16 (Yj (Yf4 HO581.out BK592.out) (fun _ h_ => h_.1)))) (Z16 (Yj (Yf4 HO584.out BK592.out) (fun _ h_ => h_.1)))) (Z16 (Yj (Yf4 HO590.out BK592.out) (fun _ h_ => h_.1)))); have HO598 := Yl (Kd.R_new' (Kd.R_new' (Kd.R_new' (Kd.R_new' ho1 (Z16 (Yj (Yf4 HO578.out BK592.out) (fun _ h_ => h_.1)))) (Z16 (Yj (Yf4 HO581.out BK592.out) (fun _ h_ => h_.1)))) (Z16 (Yj (Yf4 HO584.out BK592.out) (fun _ h_ => h_.1)))) (Z16 (Yj (Yf4 HO590.out BK592.out) (fun _ h_ => h_.1)))); have HO601 := Yl (Kd.R_new' ho2 (Z16 (Yj (Yf4 HO587.out BK592.out) (fun _ h_ => h_.1)))); replace HO587 := Ya (Kd.R_elder' (Yj (Yf4 HO587.out BK592.out) (fun _ h_ => h_.1)) (Kd.R_base ho2) hb); have HO604 := Yl (Kd.R_new' (Kd.R_new' (Kd.R_new' (Kd.R_new' ho3 (Z16 (Yj (Yf4 HO578.out BK592.out) (fun _ h_ => h_.1)))) (Z16 (Yj (Yf4 HO581.out BK592.out) (fun _ h_ => h_.1)))) (Z16 (Yj (Yf4 HO584.out BK592.out) (fun _ h_ => h_.1)))) (Z16 (Yj (Yf4 HO590.out BK592.out) (fun _ h_ => h_.1)))); replace HO578 := Ya (Z11 (Z14 (Z14 (Z14 (Z15 (Yj (Yf4 HO578.out BK592.out) (fun _ h_ => h_.1)) hb) (Kd.R_base ho0)) (Kd.R_base ho1)) (Kd.R_base ho3)) (fun _ h_ => h_.1)); replace HO581 := Ya (Z11 (Z14 (Z14 (Z14 (Z15 (Yj (Yf4 HO581.out BK592.out) (fun _ h_ => h_.1)) hb) (Kd.R_base ho0)) (Kd.R_base ho1)) (Kd.R_base ho3)) (fun _ h_ => h_.1)); replace HO584 := Ya (Z11 (Z14 (Z14 (Z14 (Z15 (Yj (Yf4 HO584.out BK592.out) (fun _ h_ => h_.1)) hb) (Kd.R_base ho0)) (Kd.R_base ho1)) (Kd.R_base ho3)) (fun _ h_ => h_.1)); replace HO590 := Ya (Z11 (Z14 (Z14 (Z14 (Z15 (Yj (Yf4 HO590.out BK592.out) (fun _ h_ => h_.1)) hb) (Kd.R_base ho0)) (Kd.R_base ho1)) (Kd.R_base ho3)) (fun _ h_ => h_.1)); replace BK592 := Yb ⟨Yv4 BK592.out⟩ hb; replace HB := Yh hb; (try clear hb ho0 ho1 ho2 ho3)) | ((with_reducible refine gate_dst (N := 32) rfl ?_); (try (refine gate_guard (by rfl) ?_; dsimp only)); refine Yx 32 YN4 33 ?_; intro gb606 hg w132 hbox hb; replace HO578 := Yw HO578 hb; replace HO581 := Yw HO581 hb; replace HO584 := Yw HO584 hb; replace HO587 := Yw HO587 hb; replace HO590 := Yw HO590 hb; replace HO595 := Yw HO595 hb; replace HO598 := Yw HO598 hb; replace HO601 := Yw HO601 hb; replace HO604 := Yw HO604 hb; have BK606 := Ya hbox; have GE606 := Yg hg; replace HB := Yh hb; have NB592_606 := Yn BK592 hg; have NB606_592 := Ym BK592 hg; replace BK592 := Yb BK592 hb; clear hb hbox hg; obtain ⟨Ao133, co133, rfl⟩ := Z17 HO595.out; have hnb134 := NB606_592.out; have hnc134 := NB592_606.out; obtain ⟨hcz135_0, hcz135_1, hcz135_2, hcz135_3, hfz135_0, hfz135_1, hfz135_2, hfz135_3⟩ := Y4 BK606.out; obtain ⟨Ao136, co136, rfl⟩ := Z17 HO598.out; obtain ⟨Ao137, co137, rfl⟩ := Z17 HO601.out; obtain ⟨Ao138, co138, rfl⟩ := Z17 HO604.out))
          (try simp only [Act.put, Z0, Z1, Z2])
          go_cut [192] (fun v192 wc => ∃ (kq : Nat) (x192_120 : Bool), v192 = .bool x192_120 ∧ Aside0 (laws_FnFocusRuns.j7 kq t575 t576 t591 x192_120 t579 t582 t585 t588 = some r) ∧ Aside0 (kq ≤ kj27) ∧ Aside0 (Kd.R (Kd.int .i64) 3 wc w.heap.size (fun k_ => some k_ ≠ ((.slice Ao126 t579.length co126) : Value).ownBlock ∧ some k_ ≠ ((.slice Ao128 t582.length co128) : Value).ownBlock ∧ some k_ ≠ ((.slice Ao130 t588.length co130) : Value).ownBlock ∧ some k_ ≠ ((.slice Ao133 t593.length co133) : Value).ownBlock ∧ some k_ ≠ ((.slice Ao136 t596.length co136) : Value).ownBlock ∧ some k_ ≠ ((.slice Ao138 t602.length co138) : Value).ownBlock) (.slice Ao123 t575.length co123) t575) ∧ Aside0 (Kd.R (Kd.int .i64) 3 wc w.heap.size (fun k_ => some k_ ≠ ((.slice Ao123 t575.length co123) : Value).ownBlock ∧ some k_ ≠ ((.slice Ao128 t582.length co128) : Value).ownBlock ∧ some k_ ≠ ((.slice Ao130 t588.length co130) : Value).ownBlock ∧ some k_ ≠ ((.slice Ao133 t593.length co133) : Value).ownBlock ∧ some k_ ≠ ((.slice Ao136 t596.length co136) : Value).ownBlock ∧ some k_ ≠ ((.slice Ao138 t602.length co138) : Value).ownBlock) (.slice Ao126 t579.length co126) t579) ∧ Aside0 (Kd.R (Kd.int .i64) 3 wc w.heap.size (fun k_ => some k_ ≠ ((.slice Ao123 t575.length co123) : Value).ownBlock ∧ some k_ ≠ ((.slice Ao126 t579.length co126) : Value).ownBlock ∧ some k_ ≠ ((.slice Ao130 t588.length co130) : Value).ownBlock ∧ some k_ ≠ ((.slice Ao133 t593.length co133) : Value).ownBlock ∧ some k_ ≠ ((.slice Ao136 t596.length co136) : Value).ownBlock ∧ some k_ ≠ ((.slice Ao138 t602.length co138) : Value).ownBlock) (.slice Ao128 t582.length co128) t582) ∧ Aside0 (Kd.R Kd.bool 4 wc w.heap.size (fun k_ => some k_ ≠ ((.slice Ao137 t599.length co137) : Value).ownBlock) (.slice Ao129 t585.length co129) t585) ∧ Aside0 (Kd.R (Kd.int .i64) 3 wc w.heap.size (fun k_ => some k_ ≠ ((.slice Ao123 t575.length co123) : Value).ownBlock ∧ some k_ ≠ ((.slice Ao126 t579.length co126) : Value).ownBlock ∧ some k_ ≠ ((.slice Ao128 t582.length co128) : Value).ownBlock ∧ some k_ ≠ ((.slice Ao133 t593.length co133) : Value).ownBlock ∧ some k_ ≠ ((.slice Ao136 t596.length co136) : Value).ownBlock ∧ some k_ ≠ ((.slice Ao138 t602.length co138) : Value).ownBlock) (.slice Ao130 t588.length co130) t588) ∧ Aside0 (Kd.R (Kd.int .i64) 3 wc w.heap.size (fun k_ => some k_ ≠ ((.slice Ao123 t575.length co123) : Value).ownBlock ∧ some k_ ≠ ((.slice Ao126 t579.length co126) : Value).ownBlock ∧ some k_ ≠ ((.slice Ao128 t582.length co128) : Value).ownBlock ∧ some k_ ≠ ((.slice Ao130 t588.length co130) : Value).ownBlock ∧ some k_ ≠ ((.slice Ao136 t596.length co136) : Value).ownBlock ∧ some k_ ≠ ((.slice Ao138 t602.length co138) : Value).ownBlock) (.slice Ao133 t593.length co133) t593) ∧ Aside0 (Kd.R (Kd.int .i64) 3 wc w.heap.size (fun k_ => some k_ ≠ ((.slice Ao123 t575.length co123) : Value).ownBlock ∧ some k_ ≠ ((.slice Ao126 t579.length co126) : Value).ownBlock ∧ some k_ ≠ ((.slice Ao128 t582.length co128) : Value).ownBlock ∧ some k_ ≠ ((.slice Ao130 t588.length co130) : Value).ownBlock ∧ some k_ ≠ ((.slice Ao133 t593.length co133) : Value).ownBlock ∧ some k_ ≠ ((.slice Ao138 t602.length co138) : Value).ownBlock) (.slice Ao136 t596.length co136) t596) ∧ Aside0 (Kd.R Kd.bool 4 wc w.heap.size (fun k_ => some k_ ≠ ((.slice Ao129 t585.length co129) : Value).ownBlock) (.slice Ao137 t599.length co137) t599) ∧ Aside0 (Kd.R (Kd.int .i64) 3 wc w.heap.size (fun k_ => some k_ ≠ ((.slice Ao123 t575.length co123) : Value).ownBlock ∧ some k_ ≠ ((.slice Ao126 t579.length co126) : Value).ownBlock ∧ some k_ ≠ ((.slice Ao128 t582.length co128) : Value).ownBlock ∧ some k_ ≠ ((.slice Ao130 t588.length co130) : Value).ownBlock ∧ some k_ ≠ ((.slice Ao133 t593.length co133) : Value).ownBlock ∧ some k_ ≠ ((.slice Ao136 t596.length co136) : Value).ownBlock) (.slice Ao138 t602.length co138) t602) ∧ Aside0 (wc.heap[gb592]? = some (.cells #[(.slice Ao126 t579.length co126), (.slice Ao128 t582.length co128), (.slice Ao129 t585.length co129), (.slice Ao130 t588.length co130)] 33 (0, 0))) ∧ Aside0 (wc.heap[gb606]? = some (.cells #[(.slice Ao133 t593.length co133), (.slice Ao136 t596.length co136), (.slice Ao137 t599.length co137), (.slice Ao138 t602.length co138)] 33 (0, 0))) ∧ Aside0 (Below w.heap.size w wc))
          case first =>
           have H := HC121.out
           clear HC121
           by_cases c139 : (t591 != t605) = true
           ·rw [if_pos c139] at H
            have c139b0 : (t591 != t605) = true := c139
            (try (have c139b1 : decide (t591 = t605) = false := by simpa using c139))
            (try (have c139b2 : (t591 == t605) = false := by simpa using c139))
            (try (have c139b3 : ¬ (t591 = t605) := by simpa using c139))
            clear c139
            (first | rw [c139b0] | (simp only [i64_w, i32_w]; rw [c139b0]) | skip)
            have H' := Ya H
            clear H
            go_wp2
            go_meet
            case rel => exact ⟨_, (true), Q8, H', ⟨by have := HJ7.out; have := HJ19.out; have := HJ27.out; first | omega | exact Nat.le_refl _⟩, ⟨Yj (Yf4 HO578.out BK606.out) (fun _ hk => ⟨hk.1.1.1.1.1.1.2, ⟨hk.1.1.1.1.1.2, ⟨hk.1.1.1.1.2, ⟨hk.1.1.1.2, ⟨hk.1.1.2, hk.1.2⟩⟩⟩⟩⟩)⟩, ⟨Yj (Yf4 HO581.out BK606.out) (fun _ hk => ⟨hk.1.1.1.1.2, ⟨hk.1.1.1.1.1.1, ⟨hk.1.1.1.1.1.2, ⟨hk.1.1.1.2, ⟨hk.1.1.2, hk.1.2⟩⟩⟩⟩⟩)⟩, ⟨Yj (Yf4 HO584.out BK606.out) (fun _ hk => ⟨hk.1.1.1.1.2, ⟨hk.1.1.1.1.1.1, ⟨hk.1.1.1.1.1.2, ⟨hk.1.1.1.2, ⟨hk.1.1.2, hk.1.2⟩⟩⟩⟩⟩)⟩, ⟨Yj (Yf4 HO587.out BK606.out) (fun _ hk => hk.1.2)⟩, ⟨Yj (Yf4 HO590.out BK606.out) (fun _ hk => ⟨hk.1.1.1.1.2, ⟨hk.1.1.1.1.1.1, ⟨hk.1.1.1.1.1.2, ⟨hk.1.1.1.2, ⟨hk.1.1.2, hk.1.2⟩⟩⟩⟩⟩)⟩, ⟨Yj (Yf4 HO595.out BK606.out) (fun _ hk => ⟨hk.1.1.1.1.2, ⟨hk.1.1.1.2, ⟨hk.1.1.2, ⟨hk.1.2, ⟨hk.1.1.1.1.1.1, hk.1.1.1.1.1.2⟩⟩⟩⟩⟩)⟩, ⟨Yj (Yf4 HO598.out BK606.out) (fun _ hk => ⟨hk.1.1.1.1.2, ⟨hk.1.1.1.2, ⟨hk.1.1.2, ⟨hk.1.2, ⟨hk.1.1.1.1.1.1, hk.1.1.1.1.1.2⟩⟩⟩⟩⟩)⟩, ⟨Yj (Yf4 HO601.out BK606.out) (fun _ hk => hk.1.2)⟩, ⟨Yj (Yf4 HO604.out BK606.out) (fun _ hk => ⟨hk.1.1.1.1.2, ⟨hk.1.1.1.2, ⟨hk.1.1.2, ⟨hk.1.2, ⟨hk.1.1.1.1.1.1, hk.1.1.1.1.1.2⟩⟩⟩⟩⟩)⟩, ⟨by (with_reducible repeat (first | refine Z24 ?_ _ | refine Z25 ?_ | refine Z26 ?_ _)); refine blk_far ?_ NB592_606.out _; (with_reducible repeat (first | refine Z24 ?_ _ | refine Z25 ?_ | refine Z26 ?_ _)); refine blk_far ?_ NB592_606.out _; (with_reducible repeat (first | refine Z24 ?_ _ | refine Z25 ?_ | refine Z26 ?_ _)); refine blk_far ?_ NB592_606.out _; (with_reducible repeat (first | refine Z24 ?_ _ | refine Z25 ?_ | refine Z26 ?_ _)); refine blk_far ?_ NB592_606.out _; (with_reducible repeat (first | refine Z24 ?_ _ | refine Z25 ?_ | refine Z26 ?_ _)); exact BK592.out⟩, ⟨by (with_reducible repeat (first | refine Z24 ?_ _ | refine Z25 ?_ | refine Z26 ?_ _)); refine Z28 (cs := #[.slice Ao133 t593.length co133, .slice Ao136 t596.length co136, .slice Ao137 t599.length co137, .slice none 0 0]) ?_ 3 _ rfl; (with_reducible repeat (first | refine Z24 ?_ _ | refine Z25 ?_ | refine Z26 ?_ _)); refine Z28 (cs := #[.slice Ao133 t593.length co133, .slice Ao136 t596.length co136, .slice none 0 0, .slice none 0 0]) ?_ 2 _ rfl; (with_reducible repeat (first | refine Z24 ?_ _ | refine Z25 ?_ | refine Z26 ?_ _)); refine Z28 (cs := #[.slice Ao133 t593.length co133, .slice none 0 0, .slice none 0 0, .slice none 0 0]) ?_ 1 _ rfl; (with_reducible repeat (first | refine Z24 ?_ _ | refine Z25 ?_ | refine Z26 ?_ _)); refine Z28 (cs := YN4) ?_ 0 _ rfl; (with_reducible repeat (first | refine Z24 ?_ _ | refine Z25 ?_ | refine Z26 ?_ _)); exact BK606.out⟩, ⟨Q12⟩⟩
           ·rw [if_neg c139] at H
            have c139b0 : (t591 != t605) = false := by simpa using c139
            (try (have c139b1 : decide (t591 = t605) = true := by simpa using c139))
            (try (have c139b2 : (t591 == t605) = true := by simpa using c139))
            clear c139
            (first | rw [c139b0] | (simp only [i64_w, i32_w]; rw [c139b0]) | skip)
            replace H := Z35.mp H
            obtain ⟨t607, A1400, H⟩ := H
            replace H : (laws_FnFocusRuns.j7 kj27 t575 t576 t591 (!t607) t579 t582 t585 t588) = some r := H
            have A140 := Ya A1400
            clear A1400
            have H' := Ya H
            clear H
            have hnb141 := NB592_606.out
            have hnc141 := NB606_592.out
            obtain ⟨hcz142_0, hcz142_1, hcz142_2, hcz142_3, hfz142_0, hfz142_1, hfz142_2, hfz142_3⟩ := Y4 BK592.out
            obtain ⟨hcz143_0, hcz143_1, hcz143_2, hcz143_3, hfz143_0, hfz143_1, hfz143_2, hfz143_3⟩ := Y4 BK606.out
            go_wp2_with (first | (go_at_call 17; (with_reducible refine (laws_uFocus.calls kj27 _ _ t579 _ _ t582 _ _ t585 _ _ t588 _ _ t593 _ _ t596 _ _ t599 _ _ t602 t607 _ ?side1 ((Kd.R_reads' HO581.out).2.1) ?side3 ((Kd.R_reads' HO584.out).2.1) ?side5 ((Kd.R_reads' HO587.out).2.1) ?side7 ((Kd.R_reads' HO590.out).2.1) ?side9 ((Kd.R_reads' HO595.out).2.1) ?side11 ((Kd.R_reads' HO598.out).2.1) ?side13 ((Kd.R_reads' HO601.out).2.1) ?side15 ((Kd.R_reads' HO604.out).2.1) A140.out).mono ?_); (case side1 => refine (Kd.R_reads' (e := 3) (base := w.heap.size) (ok := fun k_ => (((((some k_ ≠ (.slice Ao128 t582.length co128 : Value).ownBlock ∧ some k_ ≠ (.slice Ao130 t588.length co130 : Value).ownBlock) ∧ some k_ ≠ (.slice Ao123 t575.length co123 : Value).ownBlock) ∧ some k_ ≠ (.slice Ao133 t593.length co133 : Value).ownBlock) ∧ some k_ ≠ (.slice Ao136 t596.length co136 : Value).ownBlock) ∧ some k_ ≠ (.slice Ao138 t602.length co138 : Value).ownBlock)) (n := t579.length) (c := co126) ?_).2.2; exact (Yj (Yf4 HO581.out BK606.out) (fun _ h_ => h_.1))); (case side3 => refine (Kd.R_reads' (e := 3) (base := w.heap.size) (ok := fun k_ => (((((some k_ ≠ (.slice Ao126 t579.length co126 : Value).ownBlock ∧ some k_ ≠ (.slice Ao130 t588.length co130 : Value).ownBlock) ∧ some k_ ≠ (.slice Ao123 t575.length co123 : Value).ownBlock) ∧ some k_ ≠ (.slice Ao133 t593.length co133 : Value).ownBlock) ∧ some k_ ≠ (.slice Ao136 t596.length co136 : Value).ownBlock) ∧ some k_ ≠ (.slice Ao138 t602.length co138 : Value).ownBlock)) (n := t582.length) (c := co128) ?_).2.2; exact (Yj (Yf4 HO584.out BK606.out) (fun _ h_ => h_.1))); (case side5 => refine (Kd.R_reads' (e := 4) (base := w.heap.size) (ok := fun k_ => (True ∧ some k_ ≠ (.slice Ao137 t599.length co137 : Value).ownBlock)) (n := t585.length) (c := co129) ?_).2.2; exact (Yj (Yf4 HO587.out BK606.out) (fun _ h_ => h_.1))); (case side7 => refine (Kd.R_reads' (e := 3) (base := w.heap.size) (ok := fun k_ => (((((some k_ ≠ (.slice Ao126 t579.length co126 : Value).ownBlock ∧ some k_ ≠ (.slice Ao128 t582.length co128 : Value).ownBlock) ∧ some k_ ≠ (.slice Ao123 t575.length co123 : Value).ownBlock) ∧ some k_ ≠ (.slice Ao133 t593.length co133 : Value).ownBlock) ∧ some k_ ≠ (.slice Ao136 t596.length co136 : Value).ownBlock) ∧ some k_ ≠ (.slice Ao138 t602.length co138 : Value).ownBlock)) (n := t588.length) (c := co130) ?_).2.2; exact (Yj (Yf4 HO590.out BK606.out) (fun _ h_ => h_.1))); (case side9 => refine (Kd.R_reads' (e := 3) (base := w.heap.size) (ok := fun k_ => (((((some k_ ≠ (.slice Ao136 t596.length co136 : Value).ownBlock ∧ some k_ ≠ (.slice Ao138 t602.length co138 : Value).ownBlock) ∧ some k_ ≠ (.slice Ao123 t575.length co123 : Value).ownBlock) ∧ some k_ ≠ (.slice Ao126 t579.length co126 : Value).ownBlock) ∧ some k_ ≠ (.slice Ao128 t582.length co128 : Value).ownBlock) ∧ some k_ ≠ (.slice Ao130 t588.length co130 : Value).ownBlock)) (n := t593.length) (c := co133) ?_).2.2; exact (Yj (Yf4 HO595.out BK606.out) (fun _ h_ => h_.1))); (case side11 => refine (Kd.R_reads' (e := 3) (base := w.heap.size) (ok := fun k_ => (((((some k_ ≠ (.slice Ao133 t593.length co133 : Value).ownBlock ∧ some k_ ≠ (.slice Ao138 t602.length co138 : Value).ownBlock) ∧ some k_ ≠ (.slice Ao123 t575.length co123 : Value).ownBlock) ∧ some k_ ≠ (.slice Ao126 t579.length co126 : Value).ownBlock) ∧ some k_ ≠ (.slice Ao128 t582.length co128 : Value).ownBlock) ∧ some k_ ≠ (.slice Ao130 t588.length co130 : Value).ownBlock)) (n := t596.length) (c := co136) ?_).2.2; exact (Yj (Yf4 HO598.out BK606.out) (fun _ h_ => h_.1))); (case side13 => refine (Kd.R_reads' (e := 4) (base := w.heap.size) (ok := fun k_ => (True ∧ some k_ ≠ (.slice Ao129 t585.length co129 : Value).ownBlock)) (n := t599.length) (c := co137) ?_).2.2; exact (Yj (Yf4 HO601.out BK606.out) (fun _ h_ => h_.1))); (case side15 => refine (Kd.R_reads' (e := 3) (base := w.heap.size) (ok := fun k_ => (((((some k_ ≠ (.slice Ao133 t593.length co133 : Value).ownBlock ∧ some k_ ≠ (.slice Ao136 t596.length co136 : Value).ownBlock) ∧ some k_ ≠ (.slice Ao123 t575.length co123 : Value).ownBlock) ∧ some k_ ≠ (.slice Ao126 t579.length co126 : Value).ownBlock) ∧ some k_ ≠ (.slice Ao128 t582.length co128 : Value).ownBlock) ∧ some k_ ≠ (.slice Ao130 t588.length co130 : Value).ownBlock)) (n := t602.length) (c := co138) ?_).2.2; exact (Yj (Yf4 HO604.out BK606.out) (fun _ h_ => h_.1))); rintro e w144 ⟨rfl, hb⟩; replace HO578 := Ya (Z12 (Yj (Yf4 HO578.out BK606.out) (fun _ h_ => h_.1)) hb); replace HO581 := Ya (Z12 (Yj (Yf4 HO581.out BK606.out) (fun _ h_ => h_.1)) hb); replace HO584 := Ya (Z12 (Yj (Yf4 HO584.out BK606.out) (fun _ h_ => h_.1)) hb); replace HO587 := Ya (Z12 (Yj (Yf4 HO587.out BK606.out) (fun _ h_ => h_.1)) hb); replace HO590 := Ya (Z12 (Yj (Yf4 HO590.out BK606.out) (fun _ h_ => h_.1)) hb); replace HO595 := Ya (Z12 (Yj (Yf4 HO595.out BK606.out) (fun _ h_ => h_.1)) hb); replace HO598 := Ya (Z12 (Yj (Yf4 HO598.out BK606.out) (fun _ h_ => h_.1)) hb); replace HO601 := Ya (Z12 (Yj (Yf4 HO601.out BK606.out) (fun _ h_ => h_.1)) hb); replace HO604 := Ya (Z12 (Yj (Yf4 HO604.out BK606.out) (fun _ h_ => h_.1)) hb); replace BK592 := Yb ⟨Yo4 BK592.out NB592_606.out⟩ hb; replace BK606 := Yb ⟨Yv4 BK606.out⟩ hb; replace HB := Yh hb; (try clear hb)))
            go_meet
            case rel => exact ⟨_, (!t607), Q8, H', ⟨by have := HJ7.out; have := HJ19.out; have := HJ27.out; first | omega | exact Nat.le_refl _⟩, ⟨Yj HO578.out (fun _ hk => ⟨hk.1.1.1.1.1.2, ⟨hk.1.1.1.1.2, ⟨hk.1.1.1.2, ⟨hk.1.1.2, ⟨hk.1.2, hk.2⟩⟩⟩⟩⟩)⟩, ⟨Yj HO581.out (fun _ hk => ⟨hk.1.1.1.2, ⟨hk.1.1.1.1.1, ⟨hk.1.1.1.1.2, ⟨hk.1.1.2, ⟨hk.1.2, hk.2⟩⟩⟩⟩⟩)⟩, ⟨Yj HO584.out (fun _ hk => ⟨hk.1.1.1.2, ⟨hk.1.1.1.1.1, ⟨hk.1.1.1.1.2, ⟨hk.1.1.2, ⟨hk.1.2, hk.2⟩⟩⟩⟩⟩)⟩, ⟨Yj HO587.out (fun _ hk => hk.2)⟩, ⟨Yj HO590.out (fun _ hk => ⟨hk.1.1.1.2, ⟨hk.1.1.1.1.1, ⟨hk.1.1.1.1.2, ⟨hk.1.1.2, ⟨hk.1.2, hk.2⟩⟩⟩⟩⟩)⟩, ⟨Yj HO595.out (fun _ hk => ⟨hk.1.1.1.2, ⟨hk.1.1.2, ⟨hk.1.2, ⟨hk.2, ⟨hk.1.1.1.1.1, hk.1.1.1.1.2⟩⟩⟩⟩⟩)⟩, ⟨Yj HO598.out (fun _ hk => ⟨hk.1.1.1.2, ⟨hk.1.1.2, ⟨hk.1.2, ⟨hk.2, ⟨hk.1.1.1.1.1, hk.1.1.1.1.2⟩⟩⟩⟩⟩)⟩, ⟨Yj HO601.out (fun _ hk => hk.2)⟩, ⟨Yj HO604.out (fun _ hk => ⟨hk.1.1.1.2, ⟨hk.1.1.2, ⟨hk.1.2, ⟨hk.2, ⟨hk.1.1.1.1.1, hk.1.1.1.1.2⟩⟩⟩⟩⟩)⟩, ⟨by (with_reducible repeat (first | refine Z24 ?_ _ | refine Z25 ?_ | refine Z26 ?_ _)); exact BK592.out⟩, ⟨by (with_reducible repeat (first | refine Z24 ?_ _ | refine Z25 ?_ | refine Z26 ?_ _)); exact BK606.out⟩, ⟨Q12⟩⟩
          case rest => as_aux_lemma =>
           clear HC121
           try clear c1
           try clear c2
           try clear p2
           try clear c3
           try clear c4
           try clear c5
           try clear p5
           try clear q5
           try clear hx5
           try clear c6
           try clear p6
           try clear c7
           try clear c8
           try clear c10
           try clear c11
           try clear c12
           try clear c13
           try clear c13b0
           try clear c13b1
           try clear c13b2
           try clear c14
           try clear c15
           try clear c16
           try clear c17
           try clear c23
           try clear c23b0
           try clear c23b1
           try clear c23b2
           try clear c27
           try clear c29
           try clear c30
           try clear c30b0
           try clear c31
           try clear c31b0
           try clear c32
           try clear c32b0
           try clear c34
           try clear c34b0
           try clear c35
           try clear c35b0
           try clear c35b1
           try clear c36
           try clear c36b0
           try clear c40
           try clear c40b0
           try clear c42
           try clear c44
           try clear c44b0
           try clear c45
           try clear c45b0
           try clear c46
           try clear c46b0
           try clear c47
           try clear c47b0
           try clear c47b1
           try clear p54
           try clear q54
           try clear hx54
           try clear p55
           try clear q55
           try clear hx55
           try clear c57
           try clear c57b0
           try clear c58
           try clear c58b0
           try clear c59
           try clear c59b0
           try clear c60
           try clear c60b0
           try clear c60b1
           try clear c62
           try clear c63
           try clear c64
           try clear c64b0
           try clear c64b1
           try clear p64
           try clear c73
           try clear c87
           try clear c100
           try clear c113
           try clear c134
           try clear c139
           try clear c139b0
           try clear c139b1
           try clear c139b2
           try clear c141
           try clear hcz101_0
           try clear hcz101_1
           try clear hcz101_2
           try clear hcz101_3
           try clear hcz105_0
           try clear hcz105_1
           try clear hcz105_2
           try clear hcz105_3
           try clear hcz114_0
           try clear hcz114_1
           try clear hcz114_2
           try clear hcz114_3
           try clear hcz127_0
           try clear hcz127_1
           try clear hcz127_2
           try clear hcz127_3
           try clear hcz135_0
           try clear hcz135_1
           try clear hcz135_2
           try clear hcz135_3
           try clear hcz142_0
           try clear hcz142_1
           try clear hcz142_2
           try clear hcz142_3
           try clear hcz143_0
           try clear hcz143_1
           try clear hcz143_2
           try clear hcz143_3
           try clear hcz52_0
           try clear hcz52_1
           try clear hcz52_2
           try clear hcz52_3
           try clear hcz65_0
           try clear hcz65_1
           try clear hcz65_2
           try clear hcz65_3
           try clear hcz74_0
           try clear hcz74_1
           try clear hcz74_2
           try clear hcz74_3
           try clear hcz78_0
           try clear hcz78_1
           try clear hcz78_2
           try clear hcz78_3
           try clear hcz79_0
           try clear hcz79_1
           try clear hcz79_2
           try clear hcz79_3
           try clear hcz88_0
           try clear hcz88_1
           try clear hcz88_2
           try clear hcz88_3
           try clear hcz92_0
           try clear hcz92_1
           try clear hcz92_2
           try clear hcz92_3
           try clear hfz101_0
           try clear hfz101_1
           try clear hfz101_2
           try clear hfz101_3
           try clear hfz105_0
           try clear hfz105_1
           try clear hfz105_2
           try clear hfz105_3
           try clear hfz114_0
           try clear hfz114_1
           try clear hfz114_2
           try clear hfz114_3
           try clear hfz127_0
           try clear hfz127_1
           try clear hfz127_2
           try clear hfz127_3
           try clear hfz135_0
           try clear hfz135_1
           try clear hfz135_2
           try clear hfz135_3
           try clear hfz142_0
           try clear hfz142_1
           try clear hfz142_2
           try clear hfz142_3
           try clear hfz143_0
           try clear hfz143_1
           try clear hfz143_2
           try clear hfz143_3
           try clear hfz52_0
           try clear hfz52_1
           try clear hfz52_2
           try clear hfz52_3
           try clear hfz65_0
           try clear hfz65_1
           try clear hfz65_2
           try clear hfz65_3
           try clear hfz74_0
           try clear hfz74_1
           try clear hfz74_2
           try clear hfz74_3
           try clear hfz78_0
           try clear hfz78_1
           try clear hfz78_2
           try clear hfz78_3
           try clear hfz79_0
           try clear hfz79_1
           try clear hfz79_2
           try clear hfz79_3
           try clear hfz88_0
           try clear hfz88_1
           try clear hfz88_2
           try clear hfz88_3
           try clear hfz92_0
           try clear hfz92_1
           try clear hfz92_2
           try clear hfz92_3
           try clear hx543_0
           try clear hx544_0
           try clear hx559_0
           try clear p2
           try clear p5
           try clear p54
           try clear p543
           try clear p544
           try clear p55
           try clear p559
           try clear p6
           try clear p64
           try clear q5
           try clear q54
           try clear q543
           try clear q544
           try clear q55
           try clear q559
           obtain ⟨kq, x192_120, rfl, HA, HJ120, HO_28, HO_593000, HO_593001, HO_593002, HO_593003, HO_607000, HO_607001, HO_607002, HO_607003, BK592, BK606, HB⟩ := hcut
           cases kq with
           | zero => exact absurd HA.out (by simp [laws_FnFocusRuns.j7])
           | succ kj120 =>
            have H := HA.out
            clear HA
            simp only [laws_FnFocusRuns.j7] at H
            by_cases c145 : x192_120 = true
            ·subst c145
             have H1 : (some false) = some r := by rw [if_pos rfl] at H; exact H
             clear H
             have H := H1
             clear H1
             obtain rfl := Option.some.inj H
             go_wp2
             go_ret
             exact ⟨Q1, Q12⟩
            ·replace c145 := Bool.eq_false_iff.mpr c145
             subst c145
             have H1 : (if t591 = true then ((impl_MixedAt.f kj120 t575 t576).bind fun bt608 => ((impl_FocusRank.f kj120 t579 t582 t585 t588).bind fun bt612 => (if bt608.2 = true then ((laws_uSame.f kj120 bt608.1 t582).bind fun t614 => (if t614 = true then (if bt612.2 = true then (some (bt612.1 == t576)) else (some false)) else (some false))) else (some false)))) else (some true)) = some r := by rw [if_neg (show ¬ (false = true) by decide)] at H; exact H
             clear H
             have H := H1
             clear H1
             by_cases c146 : t591 = true
             ·subst c146
              have H1 : ((impl_MixedAt.f kj120 t575 t576).bind fun bt608 => ((impl_FocusRank.f kj120 t579 t582 t585 t588).bind fun bt612 => (if bt608.2 = true then ((laws_uSame.f kj120 bt608.1 t582).bind fun t614 => (if t614 = true then (if bt612.2 = true then (some (bt612.1 == t576)) else (some false)) else (some false))) else (some false)))) = some r := by rw [if_pos rfl] at H; exact H
              clear H
              have H := H1
              clear H1
              replace H := Z35.mp H
              obtain ⟨⟨t608, t609⟩, A1470, H⟩ := H
              replace H : ((impl_FocusRank.f kj120 t579 t582 t585 t588).bind fun bt612 => (if t609 = true then ((laws_uSame.f kj120 t608 t582).bind fun t614 => (if t614 = true then (if bt612.2 = true then (some (bt612.1 == t576)) else (some false)) else (some false))) else (some false))) = some r := H
              have A147 := Ya A1470
              clear A1470
              replace H := Z35.mp H
              obtain ⟨⟨t612, t613⟩, A1480, H⟩ := H
              replace H : (if t609 = true then ((laws_uSame.f kj120 t608 t582).bind fun t614 => (if t614 = true then (if t613 = true then (some (t612 == t576)) else (some false)) else (some false))) else (some false)) = some r := H
              have A148 := Ya A1480
              clear A1480
              by_cases c149 : t609 = true
              ·subst c149
               have H1 : ((laws_uSame.f kj120 t608 t582).bind fun t614 => (if t614 = true then (if t613 = true then (some (t612 == t576)) else (some false)) else (some false))) = some r := by rw [if_pos rfl] at H; exact H
               clear H
               have H := H1
               clear H1
               replace H := Z35.mp H
               obtain ⟨t614, A1500, H⟩ := H
               replace H : (if t614 = true then (if t613 = true then (some (t612 == t576)) else (some false)) else (some false)) = some r := H
               have A150 := Ya A1500
               clear A1500
               by_cases c151 : t614 = true
               ·subst c151
                have H1 : (if t613 = true then (some (t612 == t576)) else (some false)) = some r := by rw [if_pos rfl] at H; exact H
                clear H
                have H := H1
                clear H1
                by_cases c152 : t613 = true
                ·subst c152
                 have H1 : (some (t612 == t576)) = some r := by rw [if_pos rfl] at H; exact H
                 clear H
                 have H := H1
                 clear H1
                 obtain rfl := Option.some.inj H
                 go_wp2_with (first | ((with_reducible refine gate_callee (f := 18) rfl ?_); refine Yz 197 Try.func18 #[.slice Ao123 t575.length co123, .int .i64 t576] ?_; (with_reducible refine (impl_MixedAt.calls kj120 _ _ t575 t576 t608 true _ (Yc (Kd.R_reads' HO_28.out).2.2) ((Kd.R_reads' HO_28.out).2.1) A147.out).mono ?_); rintro e w153 ⟨v610, rfl, ho0, hb⟩; refine ⟨_, rfl, ?_⟩; replace HO_593002 := Yw HO_593002 hb; replace HO_607002 := Yw HO_607002 hb; have HO611 := Yl (Kd.R_new' (Kd.R_new' (Kd.R_new' (Kd.R_new' (Kd.R_new' (Kd.R_new' (Kd.R_new' ho0 (Z16 (Yr HO_28.out))) (Z16 (Yr HO_593000.out))) (Z16 (Yr HO_593001.out))) (Z16 (Yr HO_593003.out))) (Z16 (Yr HO_607000.out))) (Z16 (Yr HO_607001.out))) (Z16 (Yr HO_607003.out))); replace HO_28 := Ya (Kd.R_elder' (Yr HO_28.out) (Kd.R_base ho0) hb); replace HO_593000 := Ya (Kd.R_elder' (Yr HO_593000.out) (Kd.R_base ho0) hb); replace HO_593001 := Ya (Kd.R_elder' (Yr HO_593001.out) (Kd.R_base ho0) hb); replace HO_593003 := Ya (Kd.R_elder' (Yr HO_593003.out) (Kd.R_base ho0) hb); replace HO_607000 := Ya (Kd.R_elder' (Yr HO_607000.out) (Kd.R_base ho0) hb); replace HO_607001 := Ya (Kd.R_elder' (Yr HO_607001.out) (Kd.R_base ho0) hb); replace HO_607003 := Ya (Kd.R_elder' (Yr HO_607003.out) (Kd.R_base ho0) hb); replace BK592 := Yb BK592 hb; replace BK606 := Yb BK606 hb; replace HB := Yh hb; (try clear hb ho0); have hnb154 := NB592_606.out; have hnc154 := NB606_592.out; have hz155 := Y4 BK592.out) | ((with_reducible refine gate_callee (f := 19) rfl ?_); refine Yz 202 Try.func19 #[.agg #[.slice Ao126 t579.length co126, .slice Ao128 t582.length co128, .slice Ao129 t585.length co129, .slice Ao130 t588.length co130]] ?_; (with_reducible refine (impl_FocusRank.calls kj120 _ _ t579 _ _ t582 _ _ t585 _ _ t588 t612 true _ (Yc (Kd.R_reads' HO_593000.out).2.2) ((Kd.R_reads' HO_593000.out).2.1) (Yc (Kd.R_reads' HO_593001.out).2.2) ((Kd.R_reads' HO_593001.out).2.1) (Yc (Kd.R_reads' HO_593002.out).2.2) ((Kd.R_reads' HO_593002.out).2.1) (Yc (Kd.R_reads' HO_593003.out).2.2) ((Kd.R_reads' HO_593003.out).2.1) A148.out).mono ?_); rintro e w156 ⟨rfl, hb⟩; refine ⟨_, rfl, ?_⟩; replace HO_28 := Yw HO_28 hb; replace HO_593000 := Yw HO_593000 hb; replace HO_593001 := Yw HO_593001 hb; replace HO_593002 := Yw HO_593002 hb; replace HO_593003 := Yw HO_593003 hb; replace HO_607000 := Yw HO_607000 hb; replace HO_607001 := Yw HO_607001 hb; replace HO_607002 := Yw HO_607002 hb; replace HO_607003 := Yw HO_607003 hb; replace HO611 := Yw HO611 hb; replace BK592 := Yb BK592 hb; replace BK606 := Yb BK606 hb; replace HB := Yh hb; (try clear hb); have hz157 := Y4 BK592.out; obtain ⟨Ao158, co158, rfl⟩ := Z17 HO611.out) | (go_at_call 9; (with_reducible refine (laws_uSame.calls kj120 _ _ t608 _ _ t582 true _ (Yc (Kd.R_reads' HO611.out).2.2) ((Kd.R_reads' HO611.out).2.1) (Yc (Kd.R_reads' HO_593001.out).2.2) ((Kd.R_reads' HO_593001.out).2.1) A150.out).mono ?_); rintro e w' ⟨rfl, ⟨nd, rfl⟩⟩))
                 go_ret
                 exact ⟨Q1, Q12⟩
                ·replace c152 := Bool.eq_false_iff.mpr c152
                 subst c152
                 have H1 : (some false) = some r := by rw [if_neg (show ¬ (false = true) by decide)] at H; exact H
                 clear H
                 have H := H1
                 clear H1
                 obtain rfl := Option.some.inj H
                 go_wp2_with (first | ((with_reducible refine gate_callee (f := 18) rfl ?_); refine Yz 197 Try.func18 #[.slice Ao123 t575.length co123, .int .i64 t576] ?_; (with_reducible refine (impl_MixedAt.calls kj120 _ _ t575 t576 t608 true _ (Yc (Kd.R_reads' HO_28.out).2.2) ((Kd.R_reads' HO_28.out).2.1) A147.out).mono ?_); rintro e w159 ⟨v610, rfl, ho0, hb⟩; refine ⟨_, rfl, ?_⟩; replace HO_593002 := Yw HO_593002 hb; replace HO_607002 := Yw HO_607002 hb; have HO611 := Yl (Kd.R_new' (Kd.R_new' (Kd.R_new' (Kd.R_new' (Kd.R_new' (Kd.R_new' (Kd.R_new' ho0 (Z16 (Yr HO_28.out))) (Z16 (Yr HO_593000.out))) (Z16 (Yr HO_593001.out))) (Z16 (Yr HO_593003.out))) (Z16 (Yr HO_607000.out))) (Z16 (Yr HO_607001.out))) (Z16 (Yr HO_607003.out))); replace HO_28 := Ya (Kd.R_elder' (Yr HO_28.out) (Kd.R_base ho0) hb); replace HO_593000 := Ya (Kd.R_elder' (Yr HO_593000.out) (Kd.R_base ho0) hb); replace HO_593001 := Ya (Kd.R_elder' (Yr HO_593001.out) (Kd.R_base ho0) hb); replace HO_593003 := Ya (Kd.R_elder' (Yr HO_593003.out) (Kd.R_base ho0) hb); replace HO_607000 := Ya (Kd.R_elder' (Yr HO_607000.out) (Kd.R_base ho0) hb); replace HO_607001 := Ya (Kd.R_elder' (Yr HO_607001.out) (Kd.R_base ho0) hb); replace HO_607003 := Ya (Kd.R_elder' (Yr HO_607003.out) (Kd.R_base ho0) hb); replace BK592 := Yb BK592 hb; replace BK606 := Yb BK606 hb; replace HB := Yh hb; (try clear hb ho0); have hnb160 := NB592_606.out; have hnc160 := NB606_592.out; have hz161 := Y4 BK592.out) | ((with_reducible refine gate_callee (f := 19) rfl ?_); refine Yz 202 Try.func19 #[.agg #[.slice Ao126 t579.length co126, .slice Ao128 t582.length co128, .slice Ao129 t585.length co129, .slice Ao130 t588.length co130]] ?_; (with_reducible refine (impl_FocusRank.calls kj120 _ _ t579 _ _ t582 _ _ t585 _ _ t588 t612 false _ (Yc (Kd.R_reads' HO_593000.out).2.2) ((Kd.R_reads' HO_593000.out).2.1) (Yc (Kd.R_reads' HO_593001.out).2.2) ((Kd.R_reads' HO_593001.out).2.1) (Yc (Kd.R_reads' HO_593002.out).2.2) ((Kd.R_reads' HO_593002.out).2.1) (Yc (Kd.R_reads' HO_593003.out).2.2) ((Kd.R_reads' HO_593003.out).2.1) A148.out).mono ?_); rintro e w162 ⟨rfl, hb⟩; refine ⟨_, rfl, ?_⟩; replace HO_28 := Yw HO_28 hb; replace HO_593000 := Yw HO_593000 hb; replace HO_593001 := Yw HO_593001 hb; replace HO_593002 := Yw HO_593002 hb; replace HO_593003 := Yw HO_593003 hb; replace HO_607000 := Yw HO_607000 hb; replace HO_607001 := Yw HO_607001 hb; replace HO_607002 := Yw HO_607002 hb; replace HO_607003 := Yw HO_607003 hb; replace HO611 := Yw HO611 hb; replace BK592 := Yb BK592 hb; replace BK606 := Yb BK606 hb; replace HB := Yh hb; (try clear hb); have hz163 := Y4 BK592.out; obtain ⟨Ao164, co164, rfl⟩ := Z17 HO611.out) | (go_at_call 9; (with_reducible refine (laws_uSame.calls kj120 _ _ t608 _ _ t582 true _ (Yc (Kd.R_reads' HO611.out).2.2) ((Kd.R_reads' HO611.out).2.1) (Yc (Kd.R_reads' HO_593001.out).2.2) ((Kd.R_reads' HO_593001.out).2.1) A150.out).mono ?_); rintro e w' ⟨rfl, ⟨nd, rfl⟩⟩))
                 go_ret
                 exact ⟨Q1, Q12⟩
               ·replace c151 := Bool.eq_false_iff.mpr c151
                subst c151
                have H1 : (some false) = some r := by rw [if_neg (show ¬ (false = true) by decide)] at H; exact H
                clear H
                have H := H1
                clear H1
                obtain rfl := Option.some.inj H
                go_wp2_with (first | ((with_reducible refine gate_callee (f := 18) rfl ?_); refine Yz 197 Try.func18 #[.slice Ao123 t575.length co123, .int .i64 t576] ?_; (with_reducible refine (impl_MixedAt.calls kj120 _ _ t575 t576 t608 true _ (Yc (Kd.R_reads' HO_28.out).2.2) ((Kd.R_reads' HO_28.out).2.1) A147.out).mono ?_); rintro e w165 ⟨v610, rfl, ho0, hb⟩; refine ⟨_, rfl, ?_⟩; replace HO_593002 := Yw HO_593002 hb; replace HO_607002 := Yw HO_607002 hb; have HO611 := Yl (Kd.R_new' (Kd.R_new' (Kd.R_new' (Kd.R_new' (Kd.R_new' (Kd.R_new' (Kd.R_new' ho0 (Z16 (Yr HO_28.out))) (Z16 (Yr HO_593000.out))) (Z16 (Yr HO_593001.out))) (Z16 (Yr HO_593003.out))) (Z16 (Yr HO_607000.out))) (Z16 (Yr HO_607001.out))) (Z16 (Yr HO_607003.out))); replace HO_28 := Ya (Kd.R_elder' (Yr HO_28.out) (Kd.R_base ho0) hb); replace HO_593000 := Ya (Kd.R_elder' (Yr HO_593000.out) (Kd.R_base ho0) hb); replace HO_593001 := Ya (Kd.R_elder' (Yr HO_593001.out) (Kd.R_base ho0) hb); replace HO_593003 := Ya (Kd.R_elder' (Yr HO_593003.out) (Kd.R_base ho0) hb); replace HO_607000 := Ya (Kd.R_elder' (Yr HO_607000.out) (Kd.R_base ho0) hb); replace HO_607001 := Ya (Kd.R_elder' (Yr HO_607001.out) (Kd.R_base ho0) hb); replace HO_607003 := Ya (Kd.R_elder' (Yr HO_607003.out) (Kd.R_base ho0) hb); replace BK592 := Yb BK592 hb; replace BK606 := Yb BK606 hb; replace HB := Yh hb; (try clear hb ho0); have hnb166 := NB592_606.out; have hnc166 := NB606_592.out; have hz167 := Y4 BK592.out) | ((with_reducible refine gate_callee (f := 19) rfl ?_); refine Yz 202 Try.func19 #[.agg #[.slice Ao126 t579.length co126, .slice Ao128 t582.length co128, .slice Ao129 t585.length co129, .slice Ao130 t588.length co130]] ?_; (with_reducible refine (impl_FocusRank.calls kj120 _ _ t579 _ _ t582 _ _ t585 _ _ t588 t612 t613 _ (Yc (Kd.R_reads' HO_593000.out).2.2) ((Kd.R_reads' HO_593000.out).2.1) (Yc (Kd.R_reads' HO_593001.out).2.2) ((Kd.R_reads' HO_593001.out).2.1) (Yc (Kd.R_reads' HO_593002.out).2.2) ((Kd.R_reads' HO_593002.out).2.1) (Yc (Kd.R_reads' HO_593003.out).2.2) ((Kd.R_reads' HO_593003.out).2.1) A148.out).mono ?_); rintro e w168 ⟨rfl, hb⟩; refine ⟨_, rfl, ?_⟩; replace HO_28 := Yw HO_28 hb; replace HO_593000 := Yw HO_593000 hb; replace HO_593001 := Yw HO_593001 hb; replace HO_593002 := Yw HO_593002 hb; replace HO_593003 := Yw HO_593003 hb; replace HO_607000 := Yw HO_607000 hb; replace HO_607001 := Yw HO_607001 hb; replace HO_607002 := Yw HO_607002 hb; replace HO_607003 := Yw HO_607003 hb; replace HO611 := Yw HO611 hb; replace BK592 := Yb BK592 hb; replace BK606 := Yb BK606 hb; replace HB := Yh hb; (try clear hb); have hz169 := Y4 BK592.out; obtain ⟨Ao170, co170, rfl⟩ := Z17 HO611.out) | (go_at_call 9; (with_reducible refine (laws_uSame.calls kj120 _ _ t608 _ _ t582 false _ (Yc (Kd.R_reads' HO611.out).2.2) ((Kd.R_reads' HO611.out).2.1) (Yc (Kd.R_reads' HO_593001.out).2.2) ((Kd.R_reads' HO_593001.out).2.1) A150.out).mono ?_); rintro e w' ⟨rfl, ⟨nd, rfl⟩⟩))
                go_ret
                exact ⟨Q1, Q12⟩
              ·replace c149 := Bool.eq_false_iff.mpr c149
               subst c149
               have H1 : (some false) = some r := by rw [if_neg (show ¬ (false = true) by decide)] at H; exact H
               clear H
               have H := H1
               clear H1
               obtain rfl := Option.some.inj H
               go_wp2_with (first | ((with_reducible refine gate_callee (f := 18) rfl ?_); refine Yz 197 Try.func18 #[.slice Ao123 t575.length co123, .int .i64 t576] ?_; (with_reducible refine (impl_MixedAt.calls kj120 _ _ t575 t576 t608 false _ (Yc (Kd.R_reads' HO_28.out).2.2) ((Kd.R_reads' HO_28.out).2.1) A147.out).mono ?_); rintro e w171 ⟨v610, rfl, ho0, hb⟩; refine ⟨_, rfl, ?_⟩; replace HO_593002 := Yw HO_593002 hb; replace HO_607002 := Yw HO_607002 hb; have HO611 := Yl (Kd.R_new' (Kd.R_new' (Kd.R_new' (Kd.R_new' (Kd.R_new' (Kd.R_new' (Kd.R_new' ho0 (Z16 (Yr HO_28.out))) (Z16 (Yr HO_593000.out))) (Z16 (Yr HO_593001.out))) (Z16 (Yr HO_593003.out))) (Z16 (Yr HO_607000.out))) (Z16 (Yr HO_607001.out))) (Z16 (Yr HO_607003.out))); replace HO_28 := Ya (Kd.R_elder' (Yr HO_28.out) (Kd.R_base ho0) hb); replace HO_593000 := Ya (Kd.R_elder' (Yr HO_593000.out) (Kd.R_base ho0) hb); replace HO_593001 := Ya (Kd.R_elder' (Yr HO_593001.out) (Kd.R_base ho0) hb); replace HO_593003 := Ya (Kd.R_elder' (Yr HO_593003.out) (Kd.R_base ho0) hb); replace HO_607000 := Ya (Kd.R_elder' (Yr HO_607000.out) (Kd.R_base ho0) hb); replace HO_607001 := Ya (Kd.R_elder' (Yr HO_607001.out) (Kd.R_base ho0) hb); replace HO_607003 := Ya (Kd.R_elder' (Yr HO_607003.out) (Kd.R_base ho0) hb); replace BK592 := Yb BK592 hb; replace BK606 := Yb BK606 hb; replace HB := Yh hb; (try clear hb ho0); have hnb172 := NB592_606.out; have hnc172 := NB606_592.out; have hz173 := Y4 BK592.out) | ((with_reducible refine gate_callee (f := 19) rfl ?_); refine Yz 202 Try.func19 #[.agg #[.slice Ao126 t579.length co126, .slice Ao128 t582.length co128, .slice Ao129 t585.length co129, .slice Ao130 t588.length co130]] ?_; (with_reducible refine (impl_FocusRank.calls kj120 _ _ t579 _ _ t582 _ _ t585 _ _ t588 t612 t613 _ (Yc (Kd.R_reads' HO_593000.out).2.2) ((Kd.R_reads' HO_593000.out).2.1) (Yc (Kd.R_reads' HO_593001.out).2.2) ((Kd.R_reads' HO_593001.out).2.1) (Yc (Kd.R_reads' HO_593002.out).2.2) ((Kd.R_reads' HO_593002.out).2.1) (Yc (Kd.R_reads' HO_593003.out).2.2) ((Kd.R_reads' HO_593003.out).2.1) A148.out).mono ?_); rintro e w174 ⟨rfl, hb⟩; refine ⟨_, rfl, ?_⟩; replace HO_28 := Yw HO_28 hb; replace HO_593000 := Yw HO_593000 hb; replace HO_593001 := Yw HO_593001 hb; replace HO_593002 := Yw HO_593002 hb; replace HO_593003 := Yw HO_593003 hb; replace HO_607000 := Yw HO_607000 hb; replace HO_607001 := Yw HO_607001 hb; replace HO_607002 := Yw HO_607002 hb; replace HO_607003 := Yw HO_607003 hb; replace HO611 := Yw HO611 hb; replace BK592 := Yb BK592 hb; replace BK606 := Yb BK606 hb; replace HB := Yh hb; (try clear hb)))
               go_ret
               exact ⟨Q1, Q12⟩
             ·replace c146 := Bool.eq_false_iff.mpr c146
              subst c146
              have H1 : (some true) = some r := by rw [if_neg (show ¬ (false = true) by decide)] at H; exact H
              clear H
              have H := H1
              clear H1
              obtain rfl := Option.some.inj H
              go_wp2
              go_ret
              exact ⟨Q1, Q12⟩
def laws_FnFocusRuns.Pure : Prop := ∀ (l0 : List Int) (l1 : List Int), l0.length ≤ maxLen → l0.length * 1 ≤ 140737488351232 → (∀ x ∈ l0, (Lit.int .u8 x).wf = true) → l1.length ≤ maxLen → l1.length * 1 ≤ 140737488351232 → (∀ x ∈ l1, (Lit.int .u8 x).wf = true) → ∃ k, laws_FnFocusRuns.f k l0 l1 = some true
theorem laws_FnFocusRuns.walk (P : laws_FnFocusRuns.Pure) (a0 : Option Addr) (len0 cap0 : Nat) (z0 : List Int) (a1 : Option Addr) (len1 cap1 : Nat) (z1 : List Int) (w : World) (w0 : (a0 = none ∧ len0 = 0 ∧ cap0 = 0 ∧ z0 = []) ∨ ∃ x, a0 = some x ∧ len0 ≤ cap0 ∧ cap0 ≤ maxLen ∧ z0.length = cap0 ∧ (∀ i, i < z0.length → w.cell? (x.add i) = some (.int .u8 (z0.getD i 0))) ∧ ∀ n ∈ z0, (Lit.int .u8 n).wf = true) (y0 : len0 * 1 ≤ 140737488351232) (w1 : (a1 = none ∧ len1 = 0 ∧ cap1 = 0 ∧ z1 = []) ∨ ∃ x, a1 = some x ∧ len1 ≤ cap1 ∧ cap1 ≤ maxLen ∧ z1.length = cap1 ∧ (∀ i, i < z1.length → w.cell? (x.add i) = some (.int .u8 (z1.getD i 0))) ∧ ∀ n ∈ z1, (Lit.int .u8 n).wf = true) (y1 : len1 * 1 ≤ 140737488351232) :
  Calls Try.prog 3 #[.slice a0 len0 cap0, .slice a1 len1 cap1] w fun e w' => e = .returned (.bool true) ∧ Below w.heap.size w w' := by
 obtain ⟨l0, rfl, hr0, hm0, hw0, hc0⟩ := ReadsInt.ofRowC w0
 obtain ⟨l1, rfl, hr1, hm1, hw1, hc1⟩ := ReadsInt.ofRowC w1
 obtain ⟨k, h⟩ := P l0 l1 hm0 y0 hw0 hm1 y1 hw1
 refine (laws_FnFocusRuns.calls k _ _ l0 _ _ l1 true w (Kd.C_of_reads (d := (0 : Int)) (h1 := fun _ => rfl) hr0) hc0 (Kd.C_of_reads (d := (0 : Int)) (h1 := fun _ => rfl) hr1) hc1 h).mono ?_
 rintro e w' ⟨rfl, hd⟩
 exact ⟨rfl, hd⟩
end Go.Proofs.Ytapbbmicfkbafaa.MFnFocusRuns
