import Derived.Test.YtapbbmicfkbafaaMFnFocusStepsx0
import Derived.Test.YtapbbmicfkbafaaMFnFocusStepsx3
import Derived.Test.YtapbbmicfkbafaaMFnFocusStepsx4
import Derived.Test.YtapbbmicfkbafaaMFnFocusStepsx6
namespace Go.Proofs.Ytapbbmicfkbafaa.MFnFocusSteps
open Go.RowKit Go.Proofs.YtapbbmicfkbafaaW.PrintWords Go.Proofs.YtapbbmicfkbafaaW.PrintLast Go.Proofs.YtapbbmicfkbafaaW.PrintMore
attribute [local go_sem] max2_int min2_int max_two min_two max_three min_three max_four min_four   
set_option linter.unusedVariables false
set_option linter.unusedSimpArgs false
mutual
def spec_l1Cur_focus.j0 : Nat → List Int → Bool → List Int → Int → Int → List Int → List Int → List Bool → List Int → Option (List Int × List Int × List Bool × List Int × Int × Int)
 | 0, _, _, _, _, _, _, _, _, _ => none
 | k + 1, x3, x31, x1000, x1001, x1002, x379000, x379001, x379002, x379003 => if x31 = true then ((spec_raProduct.f k x3).bind fun t383 => ((spec_foAt.f k x3 (wrap64 (t383 - 1))).bind fun bt384 => (spec_l1Cur_focus.j1 k x3 x1000 x1001 x1002 bt384.1 bt384.2.1 bt384.2.2.1 bt384.2.2.2.1))) else (spec_l1Cur_focus.j1 k x3 x1000 x1001 x1002 x379000 x379001 x379002 x379003)
def spec_l1Cur_focus.j1 : Nat → List Int → List Int → Int → Int → List Int → List Int → List Bool → List Int → Option (List Int × List Int × List Bool × List Int × Int × Int)
 | 0, _, _, _, _, _, _, _, _ => none
 | k + 1, x3, x1000, x1001, x1002, x379000, x379001, x379002, x379003 => (spec_l1Cur_pick.f x1000 x1001 x1002 16).bind fun bt397 => (if bt397.1 = 0 then (spec_l1Cur_focus.j2 k x3 bt397.1 (decide ((x3.length : Int) > 0)) x1000 bt397.2.1 bt397.2.2 x379000 x379001 x379002 x379003) else (spec_l1Cur_focus.j2 k x3 bt397.1 false x1000 bt397.2.1 bt397.2.2 x379000 x379001 x379002 x379003))
def spec_l1Cur_focus.j2 : Nat → List Int → Int → Bool → List Int → Int → Int → List Int → List Int → List Bool → List Int → Option (List Int × List Int × List Bool × List Int × Int × Int)
 | 0, _, _, _, _, _, _, _, _, _, _ => none
 | k + 1, x3, x6, x42, x1000, x1001, x1002, x379000, x379001, x379002, x379003 => if x42 = true then ((spec_l1Cur_pick.f x1000 x1001 x1002 (x3.length : Int)).bind fun bt400 => ((spec_l1Cur_among.f x1000 bt400.2.1 bt400.2.2 (([0, 1, (-1), 12] : List Int))).bind fun bt406 => (if 0 ≤ bt400.1 then (if bt400.1 < (x379001.length : Int) then (some (x379000, (x379001.set (bt400.1 : Int).toNat bt406.1), x379002, x379003, bt406.2.1, bt406.2.2)) else (none)) else (none)))) else (if x6 = 1 then ((spec_l1Cur_pick.f x1000 x1001 x1002 (x379003.length : Int)).bind fun bt410 => ((spec_l1Cur_among.f x1000 bt410.2.1 bt410.2.2 (([0, 1, 2, (-1), 99] : List Int))).bind fun bt416 => (if 0 ≤ bt410.1 then (if bt410.1 < (x379003.length : Int) then (some (x379000, x379001, x379002, (x379003.set (bt410.1 : Int).toNat bt416.1), bt416.2.1, bt416.2.2)) else (none)) else (none)))) else (if x6 = 2 then (spec_l1Cur_focus.j3 k x3 x6 (decide ((x3.length : Int) > 0)) x1000 x1001 x1002 x379000 x379001 x379002 x379003) else (spec_l1Cur_focus.j3 k x3 x6 false x1000 x1001 x1002 x379000 x379001 x379002 x379003)))
def spec_l1Cur_focus.j3 : Nat → List Int → Int → Bool → List Int → Int → Int → List Int → List Int → List Bool → List Int → Option (List Int × List Int × List Bool × List Int × Int × Int)
 | 0, _, _, _, _, _, _, _, _, _, _ => none
 | k + 1, x3, x6, x74, x1000, x1001, x1002, x379000, x379001, x379002, x379003 => if x74 = true then ((spec_l1Cur_pick.f x1000 x1001 x1002 (x3.length : Int)).bind fun bt420 => (if 0 ≤ bt420.1 then (if bt420.1 < (x379002.length : Int) then (some (x379000, x379001, (x379002.set (bt420.1 : Int).toNat (!(rdOf false x379002 bt420.1))), x379003, bt420.2.1, bt420.2.2)) else (none)) else (none))) else (if x6 = 3 then (if x379002.length < 140737488355328 then (some (x379000, x379001, (x379002 ++ [true]), x379003, x1001, x1002)) else (none)) else (some (x379000, x379001, x379002, x379003, x1001, x1002)))
end
def spec_l1Cur_focus.f (k : Nat) (s0_0 : List Int) (s0_1 : Int) (s0_2 : Int) : Option (List Int × List Int × List Bool × List Int × Int × Int) := (spec_l1Cur_small.f k s0_0 s0_1 s0_2).bind fun bt354 => ((spec_foBases.f k bt354.1).bind fun t359 => (if t359 = true then ((spec_raProduct.f k bt354.1).bind fun t360 => ((spec_l1Least.f t360 400).bind fun t361 => ((spec_l1Cur_pick.f s0_0 bt354.2.1 bt354.2.2 t361).bind fun bt362 => ((spec_foAt.f k bt354.1 bt362.1).bind fun bt365 => ((spec_l1Cur_one.f s0_0 bt362.2.1 bt362.2.2 6).bind fun bt379 => (if bt379.1 = true then ((spec_raProduct.f k bt354.1).bind fun t382 => (spec_l1Cur_focus.j0 k bt354.1 (decide (t382 < 400)) s0_0 bt379.2.1 bt379.2.2 bt365.1 bt365.2.1 bt365.2.2.1 bt365.2.2.2.1)) else (spec_l1Cur_focus.j0 k bt354.1 false s0_0 bt379.2.1 bt379.2.2 bt365.1 bt365.2.1 bt365.2.2.1 bt365.2.2.2.1))))))) else (some (bt354.1, ([] : List Int), ([] : List Bool), ([] : List Int), bt354.2.1, bt354.2.2))))
theorem spec_l1Cur_focus.mono_l : ∀ k, (∀ y0 y1 y2 y3 y4 y5 y6 y7 y8, LeO (spec_l1Cur_focus.j0 k y0 y1 y2 y3 y4 y5 y6 y7 y8) (spec_l1Cur_focus.j0 (k + 1) y0 y1 y2 y3 y4 y5 y6 y7 y8)) ∧ (∀ y0 y1 y2 y3 y4 y5 y6 y7, LeO (spec_l1Cur_focus.j1 k y0 y1 y2 y3 y4 y5 y6 y7) (spec_l1Cur_focus.j1 (k + 1) y0 y1 y2 y3 y4 y5 y6 y7)) ∧ (∀ y0 y1 y2 y3 y4 y5 y6 y7 y8 y9, LeO (spec_l1Cur_focus.j2 k y0 y1 y2 y3 y4 y5 y6 y7 y8 y9) (spec_l1Cur_focus.j2 (k + 1) y0 y1 y2 y3 y4 y5 y6 y7 y8 y9)) ∧ (∀ y0 y1 y2 y3 y4 y5 y6 y7 y8 y9, LeO (spec_l1Cur_focus.j3 k y0 y1 y2 y3 y4 y5 y6 y7 y8 y9) (spec_l1Cur_focus.j3 (k + 1) y0 y1 y2 y3 y4 y5 y6 y7 y8 y9))
 | 0 => ⟨fun _ _ _ _ _ _ _ _ _ r h => by simp [spec_l1Cur_focus.j0] at h, fun _ _ _ _ _ _ _ _ r h => by simp [spec_l1Cur_focus.j1] at h, fun _ _ _ _ _ _ _ _ _ _ r h => by simp [spec_l1Cur_focus.j2] at h, fun _ _ _ _ _ _ _ _ _ _ r h => by simp [spec_l1Cur_focus.j3] at h⟩
 | k + 1 => by
  obtain ⟨ih0, ih1, ih2, ih3⟩ := spec_l1Cur_focus.mono_l k
  refine ⟨?_, ?_, ?_, ?_⟩
  ·intro y0 y1 y2 y3 y4 y5 y6 y7 y8
   unfold spec_l1Cur_focus.j0
   repeat' first
   | (with_reducible exact ih0 _ _ _ _ _ _ _ _ _)
   | (with_reducible exact ih1 _ _ _ _ _ _ _ _)
   | (with_reducible exact ih2 _ _ _ _ _ _ _ _ _ _)
   | (with_reducible exact ih3 _ _ _ _ _ _ _ _ _ _)
   | (with_reducible exact spec_foAt.mono _ _ _)
   | (with_reducible exact spec_foBases.mono _ _)
   | (with_reducible exact spec_l1Cur_small.mono _ _ _ _)
   | (with_reducible exact spec_raProduct.mono _ _)
   | (with_reducible exact LeO.refl _)
   | (with_reducible exact LeO.none _)
   | (with_reducible refine LeO.ite ?_ ?_)
   | (with_reducible refine LeO.bind ?_ (fun _ => ?_))
   | exact ih0 _ _ _ _ _ _ _ _ _
   | exact ih1 _ _ _ _ _ _ _ _
   | exact ih2 _ _ _ _ _ _ _ _ _ _
   | exact ih3 _ _ _ _ _ _ _ _ _ _
   | exact spec_foAt.mono _ _ _
   | exact spec_foBases.mono _ _
   | exact spec_l1Cur_small.mono _ _ _ _
   | exact spec_raProduct.mono _ _
   | exact LeO.none _
   | refine LeO.ite ?_ ?_
   | refine LeO.bind ?_ (fun _ => ?_)
  ·intro y0 y1 y2 y3 y4 y5 y6 y7
   unfold spec_l1Cur_focus.j1
   repeat' first
   | (with_reducible exact ih0 _ _ _ _ _ _ _ _ _)
   | (with_reducible exact ih1 _ _ _ _ _ _ _ _)
   | (with_reducible exact ih2 _ _ _ _ _ _ _ _ _ _)
   | (with_reducible exact ih3 _ _ _ _ _ _ _ _ _ _)
   | (with_reducible exact spec_foAt.mono _ _ _)
   | (with_reducible exact spec_foBases.mono _ _)
   | (with_reducible exact spec_l1Cur_small.mono _ _ _ _)
   | (with_reducible exact spec_raProduct.mono _ _)
   | (with_reducible exact LeO.refl _)
   | (with_reducible exact LeO.none _)
   | (with_reducible refine LeO.ite ?_ ?_)
   | (with_reducible refine LeO.bind ?_ (fun _ => ?_))
   | exact ih0 _ _ _ _ _ _ _ _ _
   | exact ih1 _ _ _ _ _ _ _ _
   | exact ih2 _ _ _ _ _ _ _ _ _ _
   | exact ih3 _ _ _ _ _ _ _ _ _ _
   | exact spec_foAt.mono _ _ _
   | exact spec_foBases.mono _ _
   | exact spec_l1Cur_small.mono _ _ _ _
   | exact spec_raProduct.mono _ _
   | exact LeO.none _
   | refine LeO.ite ?_ ?_
   | refine LeO.bind ?_ (fun _ => ?_)
  ·intro y0 y1 y2 y3 y4 y5 y6 y7 y8 y9
   unfold spec_l1Cur_focus.j2
   repeat' first
   | (with_reducible exact ih0 _ _ _ _ _ _ _ _ _)
   | (with_reducible exact ih1 _ _ _ _ _ _ _ _)
   | (with_reducible exact ih2 _ _ _ _ _ _ _ _ _ _)
   | (with_reducible exact ih3 _ _ _ _ _ _ _ _ _ _)
   | (with_reducible exact spec_foAt.mono _ _ _)
   | (with_reducible exact spec_foBases.mono _ _)
   | (with_reducible exact spec_l1Cur_small.mono _ _ _ _)
   | (with_reducible exact spec_raProduct.mono _ _)
   | (with_reducible exact LeO.refl _)
   | (with_reducible exact LeO.none _)
   | (with_reducible refine LeO.ite ?_ ?_)
   | (with_reducible refine LeO.bind ?_ (fun _ => ?_))
   | exact ih0 _ _ _ _ _ _ _ _ _
   | exact ih1 _ _ _ _ _ _ _ _
   | exact ih2 _ _ _ _ _ _ _ _ _ _
   | exact ih3 _ _ _ _ _ _ _ _ _ _
   | exact spec_foAt.mono _ _ _
   | exact spec_foBases.mono _ _
   | exact spec_l1Cur_small.mono _ _ _ _
   | exact spec_raProduct.mono _ _
   | exact LeO.none _
   | refine LeO.ite ?_ ?_
   | refine LeO.bind ?_ (fun _ => ?_)
  ·intro y0 y1 y2 y3 y4 y5 y6 y7 y8 y9
   unfold spec_l1Cur_focus.j3
   repeat' first
   | (with_reducible exact ih0 _ _ _ _ _ _ _ _ _)
   | (with_reducible exact ih1 _ _ _ _ _ _ _ _)
   | (with_reducible exact ih2 _ _ _ _ _ _ _ _ _ _)
   | (with_reducible exact ih3 _ _ _ _ _ _ _ _ _ _)
   | (with_reducible exact spec_foAt.mono _ _ _)
   | (with_reducible exact spec_foBases.mono _ _)
   | (with_reducible exact spec_l1Cur_small.mono _ _ _ _)
   | (with_reducible exact spec_raProduct.mono _ _)
   | (with_reducible exact LeO.refl _)
   | (with_reducible exact LeO.none _)
   | (with_reducible refine LeO.ite ?_ ?_)
   | (with_reducible refine LeO.bind ?_ (fun _ => ?_))
   | exact ih0 _ _ _ _ _ _ _ _ _
   | exact ih1 _ _ _ _ _ _ _ _
   | exact ih2 _ _ _ _ _ _ _ _ _ _
   | exact ih3 _ _ _ _ _ _ _ _ _ _
   | exact spec_foAt.mono _ _ _
   | exact spec_foBases.mono _ _
   | exact spec_l1Cur_small.mono _ _ _ _
   | exact spec_raProduct.mono _ _
   | exact LeO.none _
   | refine LeO.ite ?_ ?_
   | refine LeO.bind ?_ (fun _ => ?_)
theorem spec_l1Cur_focus.mono : ∀ a0 a1 a2 k, LeO (spec_l1Cur_focus.f k a0 a1 a2) (spec_l1Cur_focus.f (k + 1) a0 a1 a2) := by
 intro a0 a1 a2 k
 obtain ⟨ih0, ih1, ih2, ih3⟩ := spec_l1Cur_focus.mono_l k
 unfold spec_l1Cur_focus.f
 repeat' first
   | (with_reducible exact ih0 _ _ _ _ _ _ _ _ _)
   | (with_reducible exact ih1 _ _ _ _ _ _ _ _)
   | (with_reducible exact ih2 _ _ _ _ _ _ _ _ _ _)
   | (with_reducible exact ih3 _ _ _ _ _ _ _ _ _ _)
   | (with_reducible exact spec_foAt.mono _ _ _)
   | (with_reducible exact spec_foBases.mono _ _)
   | (with_reducible exact spec_l1Cur_small.mono _ _ _ _)
   | (with_reducible exact spec_raProduct.mono _ _)
   | (with_reducible exact LeO.refl _)
   | (with_reducible exact LeO.none _)
   | (with_reducible refine LeO.ite ?_ ?_)
   | (with_reducible refine LeO.bind ?_ (fun _ => ?_))
   | exact ih0 _ _ _ _ _ _ _ _ _
   | exact ih1 _ _ _ _ _ _ _ _
   | exact ih2 _ _ _ _ _ _ _ _ _ _
   | exact ih3 _ _ _ _ _ _ _ _ _ _
   | exact spec_foAt.mono _ _ _
   | exact spec_foBases.mono _ _
   | exact spec_l1Cur_small.mono _ _ _ _
   | exact spec_raProduct.mono _ _
   | exact LeO.none _
   | refine LeO.ite ?_ ?_
   | refine LeO.bind ?_ (fun _ => ?_)
def spec_l1Cur_focus.T9 : Bool × List (List Nat × List Nat) := (true, [([], []), ([0], [0]), ([], []), ([], []), ([3], [3]), ([2, 4], [2, 4]), ([], []), ([], []), ([6, 7, 5], [6, 7]), ([1, 5, 0, 1, 2, 3, 4, 5, 6, 7, 8], [1, 5]), ([9, 8, 8, 0, 1, 2, 3, 4, 5, 6, 7, 8], [8, 9])])
def spec_l1Cur_focus.B9 : List Nat := [0, 1, 0, 0, 8, 28, 0, 0, 252, 511, 1023]
theorem spec_l1Cur_focus.tab9 : rtab .any (opsOf Try.f62 9) = spec_l1Cur_focus.T9 := by kernel_rfl
theorem spec_l1Cur_focus.bits9 : waitsOk spec_l1Cur_focus.T9.2 spec_l1Cur_focus.B9 = true := by kernel_rfl
def spec_l1Cur_focus.T11 : Bool × List (List Nat × List Nat) := (true, [([], []), ([0], [0]), ([], []), ([], []), ([3], [3]), ([4], [4]), ([2, 5], [2, 5]), ([], []), ([], []), ([7, 8, 6], [7, 8]), ([1, 6, 0, 1, 2, 3, 4, 5, 6, 7, 8, 9], [1, 6]), ([10, 9, 9, 0, 1, 2, 3, 4, 5, 6, 7, 8, 9], [9, 10])])
def spec_l1Cur_focus.B11 : List Nat := [0, 1, 0, 0, 8, 24, 60, 0, 0, 508, 1023, 2047]
theorem spec_l1Cur_focus.tab11 : rtab .any (opsOf Try.f62 11) = spec_l1Cur_focus.T11 := by kernel_rfl
theorem spec_l1Cur_focus.bits11 : waitsOk spec_l1Cur_focus.T11.2 spec_l1Cur_focus.B11 = true := by kernel_rfl
def spec_l1Cur_focus.T14 : Bool × List (List Nat × List Nat) := (true, [([], []), ([0], [0]), ([], []), ([], []), ([3], [3]), ([], []), ([4, 5], [4, 5]), ([6], [6]), ([7], [7]), ([1, 2, 0, 1, 2, 3, 4, 5, 6, 7, 8], [1, 2]), ([9, 8, 0, 1, 2, 3, 4, 5, 6, 7, 8], [8, 9])])
def spec_l1Cur_focus.B14 : List Nat := [0, 1, 0, 0, 8, 0, 56, 120, 248, 511, 1023]
theorem spec_l1Cur_focus.tab14 : rtab .any (opsOf Try.f62 14) = spec_l1Cur_focus.T14 := by kernel_rfl
theorem spec_l1Cur_focus.bits14 : waitsOk spec_l1Cur_focus.T14.2 spec_l1Cur_focus.B14 = true := by kernel_rfl
set_option maxHeartbeats 8000000 in
set_option maxRecDepth 100000 in
theorem spec_l1Cur_focus.calls (k : Nat) (g : Nat) (s0_0 : List Int) (s0_1 : Int) (s0_2 : Int) (r1 : List Int) (r2 : List Int) (r3 : List Bool) (r4 : List Int) (r5 : Int) (r6 : Int) (w0 w : World) (hI : IsS52 w0 w g s0_0 s0_1 s0_2) (hB : Below w0.heap.size w0 w) (h : spec_l1Cur_focus.f k s0_0 s0_1 s0_2 = some (r1, r2, r3, r4, r5, r6)) :
  Calls Try.prog 62 #[.pointer (some ⟨g, 0, none⟩)] w fun e w' => ∃ v0_ v1_ v2_ v3_ : Value, e = .returned (.agg #[v0_, v1_, v2_, v3_]) ∧ Kd.R (Kd.int .i64) 3 w' w.heap.size (fun k_ => some k_ ≠ (v1_ : Value).ownBlock ∧ some k_ ≠ (v3_ : Value).ownBlock) v0_ r1 ∧ Kd.R (Kd.int .i64) 3 w' w.heap.size (fun k_ => some k_ ≠ (v0_ : Value).ownBlock ∧ some k_ ≠ (v3_ : Value).ownBlock) v1_ r2 ∧ Kd.R Kd.bool 4 w' w.heap.size (fun _ => True) v2_ r3 ∧ Kd.R (Kd.int .i64) 3 w' w.heap.size (fun k_ => some k_ ≠ (v0_ : Value).ownBlock ∧ some k_ ≠ (v1_ : Value).ownBlock) v3_ r4 ∧ IsS52 w0 w' g s0_0 r5 r6 ∧ Below w0.heap.size w0 w' ∧ KeepBut w w' g none := by
 have hu33 := Try.underlying33
 have HI0 := Ya hI
 have HK := Ya (KeepBut.refl w g none)
 have HL := Ya hB.size
 clear hI
 have HW0 := Ya hB.size
 have HB := Ya hB
 clear hB
 have H : ((spec_l1Cur_small.f k s0_0 s0_1 s0_2).bind fun bt354 => ((spec_foBases.f k bt354.1).bind fun t359 => (if t359 = true then ((spec_raProduct.f k bt354.1).bind fun t360 => ((spec_l1Least.f t360 400).bind fun t361 => ((spec_l1Cur_pick.f s0_0 bt354.2.1 bt354.2.2 t361).bind fun bt362 => ((spec_foAt.f k bt354.1 bt362.1).bind fun bt365 => ((spec_l1Cur_one.f s0_0 bt362.2.1 bt362.2.2 6).bind fun bt379 => (if bt379.1 = true then ((spec_raProduct.f k bt354.1).bind fun t382 => (spec_l1Cur_focus.j0 k bt354.1 (decide (t382 < 400)) s0_0 bt379.2.1 bt379.2.2 bt365.1 bt365.2.1 bt365.2.2.1 bt365.2.2.2.1)) else (spec_l1Cur_focus.j0 k bt354.1 false s0_0 bt379.2.1 bt379.2.2 bt365.1 bt365.2.1 bt365.2.2.1 bt365.2.2.2.1))))))) else (some (bt354.1, ([] : List Int), ([] : List Bool), ([] : List Int), bt354.2.1, bt354.2.2))))) = some (r1, r2, r3, r4, r5, r6) := h
 clear h
 replace H := Z37.mp H
 obtain ⟨⟨t354, t357, t358⟩, A20, H⟩ := H
 replace H : ((spec_foBases.f k t354).bind fun t359 => (if t359 = true then ((spec_raProduct.f k t354).bind fun t360 => ((spec_l1Least.f t360 400).bind fun t361 => ((spec_l1Cur_pick.f s0_0 t357 t358 t361).bind fun bt362 => ((spec_foAt.f k t354 bt362.1).bind fun bt365 => ((spec_l1Cur_one.f s0_0 bt362.2.1 bt362.2.2 6).bind fun bt379 => (if bt379.1 = true then ((spec_raProduct.f k t354).bind fun t382 => (spec_l1Cur_focus.j0 k t354 (decide (t382 < 400)) s0_0 bt379.2.1 bt379.2.2 bt365.1 bt365.2.1 bt365.2.2.1 bt365.2.2.2.1)) else (spec_l1Cur_focus.j0 k t354 false s0_0 bt379.2.1 bt379.2.2 bt365.1 bt365.2.1 bt365.2.2.1 bt365.2.2.2.1))))))) else (some (t354, ([] : List Int), ([] : List Bool), ([] : List Int), t357, t358)))) = some (r1, r2, r3, r4, r5, r6) := H
 have A2 := Ya A20
 clear A20
 replace H := Z37.mp H
 obtain ⟨t359, A30, H⟩ := H
 replace H : (if t359 = true then ((spec_raProduct.f k t354).bind fun t360 => ((spec_l1Least.f t360 400).bind fun t361 => ((spec_l1Cur_pick.f s0_0 t357 t358 t361).bind fun bt362 => ((spec_foAt.f k t354 bt362.1).bind fun bt365 => ((spec_l1Cur_one.f s0_0 bt362.2.1 bt362.2.2 6).bind fun bt379 => (if bt379.1 = true then ((spec_raProduct.f k t354).bind fun t382 => (spec_l1Cur_focus.j0 k t354 (decide (t382 < 400)) s0_0 bt379.2.1 bt379.2.2 bt365.1 bt365.2.1 bt365.2.2.1 bt365.2.2.2.1)) else (spec_l1Cur_focus.j0 k t354 false s0_0 bt379.2.1 bt379.2.2 bt365.1 bt365.2.1 bt365.2.2.1 bt365.2.2.2.1))))))) else (some (t354, ([] : List Int), ([] : List Bool), ([] : List Int), t357, t358))) = some (r1, r2, r3, r4, r5, r6) := H
 have A3 := Ya A30
 clear A30
 by_cases c4 : t359 = true
 ·subst c4
  have H1 : ((spec_raProduct.f k t354).bind fun t360 => ((spec_l1Least.f t360 400).bind fun t361 => ((spec_l1Cur_pick.f s0_0 t357 t358 t361).bind fun bt362 => ((spec_foAt.f k t354 bt362.1).bind fun bt365 => ((spec_l1Cur_one.f s0_0 bt362.2.1 bt362.2.2 6).bind fun bt379 => (if bt379.1 = true then ((spec_raProduct.f k t354).bind fun t382 => (spec_l1Cur_focus.j0 k t354 (decide (t382 < 400)) s0_0 bt379.2.1 bt379.2.2 bt365.1 bt365.2.1 bt365.2.2.1 bt365.2.2.2.1)) else (spec_l1Cur_focus.j0 k t354 false s0_0 bt379.2.1 bt379.2.2 bt365.1 bt365.2.1 bt365.2.2.1 bt365.2.2.2.1))))))) = some (r1, r2, r3, r4, r5, r6) := by rw [if_pos rfl] at H; exact H
  clear H
  have H := H1
  clear H1
  replace H := Z37.mp H
  obtain ⟨t360, A50, H⟩ := H
  replace H : ((spec_l1Least.f t360 400).bind fun t361 => ((spec_l1Cur_pick.f s0_0 t357 t358 t361).bind fun bt362 => ((spec_foAt.f k t354 bt362.1).bind fun bt365 => ((spec_l1Cur_one.f s0_0 bt362.2.1 bt362.2.2 6).bind fun bt379 => (if bt379.1 = true then ((spec_raProduct.f k t354).bind fun t382 => (spec_l1Cur_focus.j0 k t354 (decide (t382 < 400)) s0_0 bt379.2.1 bt379.2.2 bt365.1 bt365.2.1 bt365.2.2.1 bt365.2.2.2.1)) else (spec_l1Cur_focus.j0 k t354 false s0_0 bt379.2.1 bt379.2.2 bt365.1 bt365.2.1 bt365.2.2.1 bt365.2.2.2.1)))))) = some (r1, r2, r3, r4, r5, r6) := H
  have A5 := Ya A50
  clear A50
  replace H := Z37.mp H
  obtain ⟨t361, A60, H⟩ := H
  replace H : ((spec_l1Cur_pick.f s0_0 t357 t358 t361).bind fun bt362 => ((spec_foAt.f k t354 bt362.1).bind fun bt365 => ((spec_l1Cur_one.f s0_0 bt362.2.1 bt362.2.2 6).bind fun bt379 => (if bt379.1 = true then ((spec_raProduct.f k t354).bind fun t382 => (spec_l1Cur_focus.j0 k t354 (decide (t382 < 400)) s0_0 bt379.2.1 bt379.2.2 bt365.1 bt365.2.1 bt365.2.2.1 bt365.2.2.2.1)) else (spec_l1Cur_focus.j0 k t354 false s0_0 bt379.2.1 bt379.2.2 bt365.1 bt365.2.1 bt365.2.2.1 bt365.2.2.2.1))))) = some (r1, r2, r3, r4, r5, r6) := H
  have A6 := Ya A60
  clear A60
  replace H := Z37.mp H
  obtain ⟨⟨t362, t363, t364⟩, A70, H⟩ := H
  replace H : ((spec_foAt.f k t354 t362).bind fun bt365 => ((spec_l1Cur_one.f s0_0 t363 t364 6).bind fun bt379 => (if bt379.1 = true then ((spec_raProduct.f k t354).bind fun t382 => (spec_l1Cur_focus.j0 k t354 (decide (t382 < 400)) s0_0 bt379.2.1 bt379.2.2 bt365.1 bt365.2.1 bt365.2.2.1 bt365.2.2.2.1)) else (spec_l1Cur_focus.j0 k t354 false s0_0 bt379.2.1 bt379.2.2 bt365.1 bt365.2.1 bt365.2.2.1 bt365.2.2.2.1)))) = some (r1, r2, r3, r4, r5, r6) := H
  have A7 := Ya A70
  clear A70
  replace H := Z37.mp H
  obtain ⟨⟨t365, t368, t371, t374, t377⟩, A80, H⟩ := H
  replace H : ((spec_l1Cur_one.f s0_0 t363 t364 6).bind fun bt379 => (if bt379.1 = true then ((spec_raProduct.f k t354).bind fun t382 => (spec_l1Cur_focus.j0 k t354 (decide (t382 < 400)) s0_0 bt379.2.1 bt379.2.2 t365 t368 t371 t374)) else (spec_l1Cur_focus.j0 k t354 false s0_0 bt379.2.1 bt379.2.2 t365 t368 t371 t374))) = some (r1, r2, r3, r4, r5, r6) := H
  have A8 := Ya A80
  clear A80
  have HC9 := Ya H
  clear H
  go_enter Try.func62, Try.ntmps62
  go_upto_region 5 with (first | ((with_reducible refine gate_dst (N := 2) rfl ?_); (try (refine gate_guard (by rfl) ?_; dsimp only)); refine Yx 2 YN4 33 ?_; intro gb353 hg w10 hbox hb; replace HB := Ya (Z8 Q21 hb); have BK353 := Ya hbox; have GW353 := Ya ((by rw [hg]; exact (keep_size (w := w) (g := g) (row := none) Q3) : w.heap.size ≤ gb353)); have GE353 := Ya ((Nat.le_trans HW0.out (by rw [hg]; exact (keep_size (w := w) (g := g) (row := none) Q3) : w.heap.size ≤ gb353) : w0.heap.size ≤ gb353)); replace HK := Ya (KeepBut.trans Q3 (KeepBut.of_below hb g none) (.inl rfl)); have NB0_353 := Ya ((by rw [hg]; exact Nat.ne_of_lt (IsS52.lt (show IsS52 w0 _ g s0_0 s0_1 s0_2 from by repeat (first | (with_reducible first | exact HI0.out | apply IsS52.alloc | apply IsS52.drewN | apply IsS52.drew | apply IsS52.set_1 | apply IsS52.set_2) | exact HI0.out))) : g ≠ gb353)); have NB353_0 := Ya ((by rw [hg]; exact Nat.ne_of_gt (IsS52.lt (show IsS52 w0 _ g s0_0 s0_1 s0_2 from by repeat (first | (with_reducible first | exact HI0.out | apply IsS52.alloc | apply IsS52.drewN | apply IsS52.drew | apply IsS52.set_1 | apply IsS52.set_2) | exact HI0.out))) : gb353 ≠ g)); replace HI0 := Ya (IsS52.below Q20 hb); clear hb hbox hg) | ((with_reducible refine gate_callee (f := 27) rfl ?_); refine Yz 9 Try.func27 #[.pointer (some ⟨g, 0, none⟩)] ?_; (with_reducible refine (spec_l1Cur_small.calls k g s0_0 s0_1 s0_2 t354 t357 t358 w0 _ ?side1 ?side2 A2.out).mono ?_); (case side1 => repeat (first | (with_reducible first | exact HI0.out | apply IsS52.alloc | apply IsS52.drewN | apply IsS52.drew | apply IsS52.set_1 | apply IsS52.set_2 | refine IsS52.far ?_ NB0_353.out _) | exact HI0.out)); (case side2 => repeat (first | (with_reducible first | exact HB.out | apply Z5 | apply Z3 | apply Z4 | refine Z6 ?_ (IsS52.ge HI0.out) | refine Z6 ?_ GE353.out) | exact HB.out)); rintro e w11 ⟨v355, rfl, ho0, hi, hb, hk⟩; refine ⟨_, rfl, ?_⟩; replace BK353 := Ya (KeepBut.blk hk (g' := gb353) (o := .cells YN4 33 (0, 0)) (Yk BK353.out) NB353_0.out (by simp)); have HO356 := Ya (Kd.R_lower ho0 (keep_size (w := w) (g := g) (row := none) Q16)); replace HK := Ya (KeepBut.trans Q16 hk (.inl rfl)); replace HB := Ya hb; replace HI0 := Ya hi; (try clear hb hk hi ho0); obtain ⟨Ao12, co12, rfl⟩ := Z19 HO356.out) | ((with_reducible refine gate_callee (f := 32) rfl ?_); refine Yz 11 Try.func32 #[.slice Ao12 t354.length co12] ?_; (with_reducible refine (spec_foBases.calls k _ _ t354 true _ (Yc (Kd.R_reads' HO356.out).2.2) ((Kd.R_reads' HO356.out).2.1) A3.out).mono ?_); rintro e w' ⟨rfl, ⟨nd, rfl⟩⟩; refine ⟨_, rfl, ?_⟩; (try (rw [drewN_self w11]; generalize hq_ : World.drewN w11 _ = w11; replace HO356 : Aside0 (Kd.R (Kd.int .i64) 3 w11 w.heap.size (fun _ => True) (.slice Ao12 t354.length co12) t354) := ⟨by rw [← hq_]; exact (Yr HO356.out)⟩; replace BK353 : Aside0 (w11.heap[gb353]? = some (.cells YN4 33 (0, 0))) := ⟨Q70⟩; replace HK : Aside0 (KeepBut w w11 g none) := ⟨by rw [← hq_]; exact Q16⟩; replace HB : Aside0 (Below w0.heap.size w0 w11) := ⟨by rw [← hq_]; exact Q29⟩; replace HI0 : Aside0 (IsS52 w0 w11 g s0_0 t357 t358) := ⟨by rw [← hq_]; exact Q22⟩; clear hq_))) | ((with_reducible refine gate_callee (f := 40) rfl ?_); refine Yz 19 Try.func40 #[.slice Ao12 t354.length co12] ?_; (with_reducible refine (spec_raProduct.calls k _ _ t354 t360 _ (Yc (Kd.R_reads' HO356.out).2.2) ((Kd.R_reads' HO356.out).2.1) A5.out).mono ?_); rintro e w' ⟨rfl, ⟨nd, rfl⟩⟩; refine ⟨_, rfl, ?_⟩; (try (rw [drewN_self w11]; generalize hq_ : World.drewN w11 _ = w11; replace HO356 : Aside0 (Kd.R (Kd.int .i64) 3 w11 w.heap.size (fun _ => True) (.slice Ao12 t354.length co12) t354) := ⟨by rw [← hq_]; exact (Yr HO356.out)⟩; replace BK353 : Aside0 (w11.heap[gb353]? = some (.cells YN4 33 (0, 0))) := ⟨Q70⟩; replace HK : Aside0 (KeepBut w w11 g none) := ⟨by rw [← hq_]; exact Q16⟩; replace HB : Aside0 (Below w0.heap.size w0 w11) := ⟨by rw [← hq_]; exact Q29⟩; replace HI0 : Aside0 (IsS52 w0 w11 g s0_0 t357 t358) := ⟨by rw [← hq_]; exact Q22⟩; clear hq_))) | ((with_reducible refine gate_callee (f := 73) rfl ?_); refine Yz 20 Try.func73 #[.int .i64 t360, .int .i64 400] ?_; (with_reducible refine (spec_l1Least.calls t360 400 t361 _ A6.out).mono ?_); rintro e w' ⟨rfl, ⟨nd, rfl⟩⟩; refine ⟨_, rfl, ?_⟩; (try (rw [drewN_self w11]; generalize hq_ : World.drewN w11 _ = w11; replace HO356 : Aside0 (Kd.R (Kd.int .i64) 3 w11 w.heap.size (fun _ => True) (.slice Ao12 t354.length co12) t354) := ⟨by rw [← hq_]; exact (Yr HO356.out)⟩; replace BK353 : Aside0 (w11.heap[gb353]? = some (.cells YN4 33 (0, 0))) := ⟨Q70⟩; replace HK : Aside0 (KeepBut w w11 g none) := ⟨by rw [← hq_]; exact Q16⟩; replace HB : Aside0 (Below w0.heap.size w0 w11) := ⟨by rw [← hq_]; exact Q29⟩; replace HI0 : Aside0 (IsS52 w0 w11 g s0_0 t357 t358) := ⟨by rw [← hq_]; exact Q22⟩; clear hq_))) | ((with_reducible refine gate_callee (f := 56) rfl ?_); refine Yz 21 Try.func56 #[.pointer (some ⟨g, 0, none⟩), .int .i64 t361] ?_; (with_reducible refine (spec_l1Cur_pick.calls g s0_0 t357 t358 t361 t362 t363 t364 w0 _ ?side1 ?side2 A7.out).mono ?_); (case side1 => repeat (first | (with_reducible first | exact HI0.out | apply IsS52.alloc | apply IsS52.drewN | apply IsS52.drew | apply IsS52.set_1 | apply IsS52.set_2 | refine IsS52.far ?_ NB0_353.out _) | exact HI0.out)); (case side2 => repeat (first | (with_reducible first | exact HB.out | apply Z5 | apply Z3 | apply Z4 | refine Z6 ?_ (IsS52.ge HI0.out) | refine Z6 ?_ GE353.out) | exact HB.out)); rintro e w13 ⟨rfl, hi, hb, hk⟩; refine ⟨_, rfl, ?_⟩; replace BK353 := Ya (KeepBut.blk hk (g' := gb353) (o := .cells YN4 33 (0, 0)) (Yk BK353.out) NB353_0.out (by simp)); replace HO356 := Ya (Z12 (Kd.R_keep (IsS52.apart (show IsS52 w0 _ g s0_0 t357 t358 from by repeat (first | (with_reducible first | exact HI0.out | apply IsS52.alloc | apply IsS52.drewN | apply IsS52.drew | apply IsS52.set_1 | apply IsS52.set_2 | refine IsS52.far ?_ NB0_353.out _) | exact HI0.out)) (Yr HO356.out) (by decide)) hk (fun _ h => h.2)) (fun _ h => h.1)); replace HK := Ya (KeepBut.trans Q16 hk (.inl rfl)); replace HB := Ya hb; replace HI0 := Ya hi; (try clear hb hk hi)) | ((with_reducible refine gate_callee (f := 43) rfl ?_); refine Yz 22 Try.func43 #[.slice Ao12 t354.length co12, .int .i64 t362] ?_; (with_reducible refine (spec_foAt.calls k _ _ t354 t362 t365 t368 t371 t374 t377 _ (Yc (Kd.R_reads' HO356.out).2.2) ((Kd.R_reads' HO356.out).2.1) A8.out).mono ?_); rintro e w14 ⟨v366, v369, v372, v375, rfl, ho0, ho1, ho2, ho3, hb⟩; refine ⟨_, rfl, ?_⟩; have HO367 := Ya (Kd.R_lower (Kd.R_new' ho0 (Z18 (Yr HO356.out))) (keep_size (w := w) (g := g) (row := none) Q16)); have HO370 := Ya (Kd.R_lower (Kd.R_new' ho1 (Z18 (Yr HO356.out))) (keep_size (w := w) (g := g) (row := none) Q16)); have HO373 := Ya (Kd.R_lower ho2 (keep_size (w := w) (g := g) (row := none) Q16)); have HO376 := Ya (Kd.R_lower (Kd.R_new' ho3 (Z18 (Yr HO356.out))) (keep_size (w := w) (g := g) (row := none) Q16)); replace HO356 := Ya (Z12 (Z16 (Z16 (Z16 (Z17 (Yr HO356.out) hb) (Kd.R_base ho0)) (Kd.R_base ho1)) (Kd.R_base ho3)) (fun _ h_ => h_.1)); replace BK353 := Yb BK353 hb; replace HK := Ya (KeepBut.trans Q16 (KeepBut.of_below hb g none) (.inl rfl)); replace HB := Ya (Z8 Q29 hb); replace HI0 := Ya (IsS52.below Q22 hb); (try clear hb ho0 ho1 ho2 ho3)) | ((with_reducible refine gate_dst (N := 4) rfl ?_); (try (refine gate_guard (by rfl) ?_; dsimp only)); refine Yx 4 YN4 33 ?_; intro gb378 hg w15 hbox hb; replace HO356 := Yw HO356 hb; replace HO367 := Yw HO367 hb; replace HO370 := Yw HO370 hb; replace HO373 := Yw HO373 hb; replace HO376 := Yw HO376 hb; replace HB := Ya (Z8 Q29 hb); have BK378 := Ya hbox; have GW378 := Ya ((by rw [hg]; exact (keep_size (w := w) (g := g) (row := none) Q16) : w.heap.size ≤ gb378)); have GE378 := Ya ((Nat.le_trans HW0.out (by rw [hg]; exact (keep_size (w := w) (g := g) (row := none) Q16) : w.heap.size ≤ gb378) : w0.heap.size ≤ gb378)); replace HK := Ya (KeepBut.trans Q16 (KeepBut.of_below hb g none) (.inl rfl)); have NB353_378 := Yn BK353 hg; have NB378_353 := Ym BK353 hg; replace BK353 := Yb BK353 hb; have NB0_378 := Ya ((by rw [hg]; exact Nat.ne_of_lt (IsS52.lt (show IsS52 w0 _ g s0_0 t363 t364 from by repeat (first | (with_reducible first | exact HI0.out | apply IsS52.alloc | apply IsS52.drewN | apply IsS52.drew | apply IsS52.set_1 | apply IsS52.set_2 | refine IsS52.far ?_ NB0_353.out _) | exact HI0.out))) : g ≠ gb378)); have NB378_0 := Ya ((by rw [hg]; exact Nat.ne_of_gt (IsS52.lt (show IsS52 w0 _ g s0_0 t363 t364 from by repeat (first | (with_reducible first | exact HI0.out | apply IsS52.alloc | apply IsS52.drewN | apply IsS52.drew | apply IsS52.set_1 | apply IsS52.set_2 | refine IsS52.far ?_ NB0_353.out _) | exact HI0.out))) : gb378 ≠ g)); replace HI0 := Ya (IsS52.below Q22 hb); clear hb hbox hg; obtain ⟨Ao16, co16, rfl⟩ := Z19 HO367.out; have hnb17 := NB378_353.out; have hnc17 := NB353_378.out; have hnb18 := NB378_0.out; have hnc18 := NB0_378.out; obtain ⟨hcz19_0, hcz19_1, hcz19_2, hcz19_3, hfz19_0, hfz19_1, hfz19_2, hfz19_3⟩ := Y4 BK378.out; obtain ⟨Ao20, co20, rfl⟩ := Z19 HO370.out; obtain ⟨Ao21, co21, rfl⟩ := Z19 HO373.out; obtain ⟨Ao22, co22, rfl⟩ := Z19 HO376.out))
  (try simp only [Act.put, Z0, Z1, Z2])
  go_cut [31] (fun v31 wc => ∃ (kq : Nat) (x31_8 : Bool) (x1001_8 : Int) (x1002_8 : Int), v31 = .bool x31_8 ∧ Aside0 (spec_l1Cur_focus.j0 kq t354 x31_8 s0_0 x1001_8 x1002_8 t365 t368 t371 t374 = some (r1, r2, r3, r4, r5, r6)) ∧ Aside0 (kq ≤ k) ∧ Aside0 (Kd.R (Kd.int .i64) 3 wc w.heap.size (fun k_ => some k_ ≠ ((.slice Ao16 t365.length co16) : Value).ownBlock ∧ some k_ ≠ ((.slice Ao20 t368.length co20) : Value).ownBlock ∧ some k_ ≠ ((.slice Ao22 t374.length co22) : Value).ownBlock) (.slice Ao12 t354.length co12) t354) ∧ Aside0 (Kd.R (Kd.int .i64) 3 wc w.heap.size (fun k_ => some k_ ≠ ((.slice Ao12 t354.length co12) : Value).ownBlock ∧ some k_ ≠ ((.slice Ao20 t368.length co20) : Value).ownBlock ∧ some k_ ≠ ((.slice Ao22 t374.length co22) : Value).ownBlock) (.slice Ao16 t365.length co16) t365) ∧ Aside0 (Kd.R (Kd.int .i64) 3 wc w.heap.size (fun k_ => some k_ ≠ ((.slice Ao12 t354.length co12) : Value).ownBlock ∧ some k_ ≠ ((.slice Ao16 t365.length co16) : Value).ownBlock ∧ some k_ ≠ ((.slice Ao22 t374.length co22) : Value).ownBlock) (.slice Ao20 t368.length co20) t368) ∧ Aside0 (Kd.R Kd.bool 4 wc w.heap.size (fun _ => True) (.slice Ao21 t371.length co21) t371) ∧ Aside0 (Kd.R (Kd.int .i64) 3 wc w.heap.size (fun k_ => some k_ ≠ ((.slice Ao12 t354.length co12) : Value).ownBlock ∧ some k_ ≠ ((.slice Ao16 t365.length co16) : Value).ownBlock ∧ some k_ ≠ ((.slice Ao20 t368.length co20) : Value).ownBlock) (.slice Ao22 t374.length co22) t374) ∧ Aside0 (wc.heap[gb353]? = some (.cells #[(.slice none 0 0), (.slice none 0 0), (.slice none 0 0), (.slice none 0 0)] 33 (0, 0))) ∧ Aside0 (wc.heap[gb378]? = some (.cells #[(.slice Ao16 t365.length co16), (.slice Ao20 t368.length co20), (.slice Ao21 t371.length co21), (.slice Ao22 t374.length co22)] 33 (0, 0))) ∧ Aside0 (IsS52 w0 wc g s0_0 x1001_8 x1002_8) ∧ Aside0 (KeepBut w wc g none) ∧ Aside0 (Below w0.heap.size w0 wc))
  case first =>
   have H := HC9.out
   clear HC9
   replace H := Z37.mp H
   obtain ⟨⟨t379, t380, t381⟩, A230, H⟩ := H
   replace H : (if t379 = true then ((spec_raProduct.f k t354).bind fun t382 => (spec_l1Cur_focus.j0 k t354 (decide (t382 < 400)) s0_0 t380 t381 t365 t368 t371 t374)) else (spec_l1Cur_focus.j0 k t354 false s0_0 t380 t381 t365 t368 t371 t374)) = some (r1, r2, r3, r4, r5, r6) := H
   have A23 := Ya A230
   clear A230
   by_cases c24 : t379 = true
   ·subst c24
    have H1 : ((spec_raProduct.f k t354).bind fun t382 => (spec_l1Cur_focus.j0 k t354 (decide (t382 < 400)) s0_0 t380 t381 t365 t368 t371 t374)) = some (r1, r2, r3, r4, r5, r6) := by rw [if_pos rfl] at H; exact H
    clear H
    have H := H1
    clear H1
    replace H := Z37.mp H
    obtain ⟨t382, A250, H⟩ := H
    replace H : (spec_l1Cur_focus.j0 k t354 (decide (t382 < 400)) s0_0 t380 t381 t365 t368 t371 t374) = some (r1, r2, r3, r4, r5, r6) := H
    have A25 := Ya A250
    clear A250
    have H' := Ya H
    clear H
    go_wp2_with (first | ((with_reducible refine gate_callee (f := 54) rfl ?_); refine Yz 26 Try.func54 #[.pointer (some ⟨g, 0, none⟩), .int .i64 6] ?_; (with_reducible refine (spec_l1Cur_one.calls g s0_0 t363 t364 6 true t380 t381 w0 _ ?side1 ?side2 A23.out).mono ?_); (case side1 => repeat (first | (with_reducible first | exact HI0.out | apply IsS52.alloc | apply IsS52.drewN | apply IsS52.drew | apply IsS52.set_1 | apply IsS52.set_2 | refine IsS52.far ?_ NB0_353.out _ | refine IsS52.far ?_ NB0_378.out _) | exact HI0.out)); (case side2 => repeat (first | (with_reducible first | exact HB.out | apply Z5 | apply Z3 | apply Z4 | refine Z6 ?_ (IsS52.ge HI0.out) | refine Z6 ?_ GE353.out | refine Z6 ?_ GE378.out) | exact HB.out)); rintro e w26 ⟨rfl, hi, hb, hk⟩; refine ⟨_, rfl, ?_⟩; replace BK353 := Ya (KeepBut.blk hk (g' := gb353) (o := .cells YN4 33 (0, 0)) (Yk (Yo4 BK353.out NB353_378.out)) NB353_0.out (by simp)); replace HO356 := Ya (Z12 (Kd.R_keep (IsS52.apart (show IsS52 w0 _ g s0_0 t363 t364 from by repeat (first | (with_reducible first | exact HI0.out | apply IsS52.alloc | apply IsS52.drewN | apply IsS52.drew | apply IsS52.set_1 | apply IsS52.set_2 | refine IsS52.far ?_ NB0_353.out _ | refine IsS52.far ?_ NB0_378.out _) | exact HI0.out)) (Yj (Yf4 HO356.out BK378.out) (fun _ h_ => h_.1)) (by decide)) hk (fun _ h => h.2)) (fun _ h => h.1)); replace HO367 := Ya (Z12 (Kd.R_keep (IsS52.apart (show IsS52 w0 _ g s0_0 t363 t364 from by repeat (first | (with_reducible first | exact HI0.out | apply IsS52.alloc | apply IsS52.drewN | apply IsS52.drew | apply IsS52.set_1 | apply IsS52.set_2 | refine IsS52.far ?_ NB0_353.out _ | refine IsS52.far ?_ NB0_378.out _) | exact HI0.out)) (Yj (Yf4 HO367.out BK378.out) (fun _ h_ => h_.1)) (by decide)) hk (fun _ h => h.2)) (fun _ h => h.1)); replace HO370 := Ya (Z12 (Kd.R_keep (IsS52.apart (show IsS52 w0 _ g s0_0 t363 t364 from by repeat (first | (with_reducible first | exact HI0.out | apply IsS52.alloc | apply IsS52.drewN | apply IsS52.drew | apply IsS52.set_1 | apply IsS52.set_2 | refine IsS52.far ?_ NB0_353.out _ | refine IsS52.far ?_ NB0_378.out _) | exact HI0.out)) (Yj (Yf4 HO370.out BK378.out) (fun _ h_ => h_.1)) (by decide)) hk (fun _ h => h.2)) (fun _ h => h.1)); replace HO373 := Ya (Z12 (Kd.R_keep (IsS52.apart (show IsS52 w0 _ g s0_0 t363 t364 from by repeat (first | (with_reducible first | exact HI0.out | apply IsS52.alloc | apply IsS52.drewN | apply IsS52.drew | apply IsS52.set_1 | apply IsS52.set_2 | refine IsS52.far ?_ NB0_353.out _ | refine IsS52.far ?_ NB0_378.out _) | exact HI0.out)) (Yj (Yf4 HO373.out BK378.out) (fun _ h_ => h_.1)) (by decide)) hk (fun _ h => h.2)) (fun _ h => h.1)); replace HO376 := Ya (Z12 (Kd.R_keep (IsS52.apart (show IsS52 w0 _ g s0_0 t363 t364 from by repeat (first | (with_reducible first | exact HI0.out | apply IsS52.alloc | apply IsS52.drewN | apply IsS52.drew | apply IsS52.set_1 | apply IsS52.set_2 | refine IsS52.far ?_ NB0_353.out _ | refine IsS52.far ?_ NB0_378.out _) | exact HI0.out)) (Yj (Yf4 HO376.out BK378.out) (fun _ h_ => h_.1)) (by decide)) hk (fun _ h => h.2)) (fun _ h => h.1)); replace BK378 := Ya (KeepBut.blk hk (g' := gb378) (o := .cells #[.slice Ao16 t365.length co16, .slice Ao20 t368.length co20, .slice Ao21 t371.length co21, .slice Ao22 t374.length co22] 33 (0, 0)) (Yk (Yv4 BK378.out)) NB378_0.out (by simp)); replace HK := Ya (KeepBut.trans Q4 hk (.inl rfl)); replace HB := Ya hb; replace HI0 := Ya hi; (try clear hb hk hi)) | (go_at_call 40; (with_reducible refine (spec_raProduct.calls k _ _ t354 t382 _ (Yc (Kd.R_reads' HO356.out).2.2) ((Kd.R_reads' HO356.out).2.1) A25.out).mono ?_); rintro e w' ⟨rfl, ⟨nd, rfl⟩⟩))
    go_meet
    case rel => exact ⟨_, (decide (t382 < 400)), (t380), (t381), Q9, H', ⟨Q46⟩, ⟨Yj HO356.out (fun _ hk => ⟨hk.1.1.2, ⟨hk.1.2, hk.2⟩⟩)⟩, ⟨Yj HO367.out (fun _ hk => ⟨hk.2, ⟨hk.1.1, hk.1.2⟩⟩)⟩, ⟨Yj HO370.out (fun _ hk => ⟨hk.2, ⟨hk.1.1, hk.1.2⟩⟩)⟩, ⟨by (with_reducible repeat (first | apply Z9 | apply Z10 | apply Z11)); exact HO373.out⟩, ⟨Yj HO376.out (fun _ hk => ⟨hk.2, ⟨hk.1.1, hk.1.2⟩⟩)⟩, ⟨Q38⟩, ⟨Q37⟩, ⟨Q15⟩, ⟨Q17⟩, ⟨Q18⟩⟩
   ·replace c24 := Bool.eq_false_iff.mpr c24
    subst c24
    have H1 : (spec_l1Cur_focus.j0 k t354 false s0_0 t380 t381 t365 t368 t371 t374) = some (r1, r2, r3, r4, r5, r6) := by rw [if_neg (show ¬ (false = true) by decide)] at H; exact H
    clear H
    have H := H1
    clear H1
    have H' := Ya H
    clear H
    go_wp2_with (first | ((with_reducible refine gate_callee (f := 54) rfl ?_); refine Yz 26 Try.func54 #[.pointer (some ⟨g, 0, none⟩), .int .i64 6] ?_; (with_reducible refine (spec_l1Cur_one.calls g s0_0 t363 t364 6 false t380 t381 w0 _ ?side1 ?side2 A23.out).mono ?_); (case side1 => repeat (first | (with_reducible first | exact HI0.out | apply IsS52.alloc | apply IsS52.drewN | apply IsS52.drew | apply IsS52.set_1 | apply IsS52.set_2 | refine IsS52.far ?_ NB0_353.out _ | refine IsS52.far ?_ NB0_378.out _) | exact HI0.out)); (case side2 => repeat (first | (with_reducible first | exact HB.out | apply Z5 | apply Z3 | apply Z4 | refine Z6 ?_ (IsS52.ge HI0.out) | refine Z6 ?_ GE353.out | refine Z6 ?_ GE378.out) | exact HB.out)); rintro e w27 ⟨rfl, hi, hb, hk⟩; refine ⟨_, rfl, ?_⟩; replace BK353 := Ya (KeepBut.blk hk (g' := gb353) (o := .cells YN4 33 (0, 0)) (Yk (Yo4 BK353.out NB353_378.out)) NB353_0.out (by simp)); replace HO356 := Ya (Z12 (Kd.R_keep (IsS52.apart (show IsS52 w0 _ g s0_0 t363 t364 from by repeat (first | (with_reducible first | exact HI0.out | apply IsS52.alloc | apply IsS52.drewN | apply IsS52.drew | apply IsS52.set_1 | apply IsS52.set_2 | refine IsS52.far ?_ NB0_353.out _ | refine IsS52.far ?_ NB0_378.out _) | exact HI0.out)) (Yj (Yf4 HO356.out BK378.out) (fun _ h_ => h_.1)) (by decide)) hk (fun _ h => h.2)) (fun _ h => h.1)); replace HO367 := Ya (Z12 (Kd.R_keep (IsS52.apart (show IsS52 w0 _ g s0_0 t363 t364 from by repeat (first | (with_reducible first | exact HI0.out | apply IsS52.alloc | apply IsS52.drewN | apply IsS52.drew | apply IsS52.set_1 | apply IsS52.set_2 | refine IsS52.far ?_ NB0_353.out _ | refine IsS52.far ?_ NB0_378.out _) | exact HI0.out)) (Yj (Yf4 HO367.out BK378.out) (fun _ h_ => h_.1)) (by decide)) hk (fun _ h => h.2)) (fun _ h => h.1)); replace HO370 := Ya (Z12 (Kd.R_keep (IsS52.apart (show IsS52 w0 _ g s0_0 t363 t364 from by repeat (first | (with_reducible first | exact HI0.out | apply IsS52.alloc | apply IsS52.drewN | apply IsS52.drew | apply IsS52.set_1 | apply IsS52.set_2 | refine IsS52.far ?_ NB0_353.out _ | refine IsS52.far ?_ NB0_378.out _) | exact HI0.out)) (Yj (Yf4 HO370.out BK378.out) (fun _ h_ => h_.1)) (by decide)) hk (fun _ h => h.2)) (fun _ h => h.1)); replace HO373 := Ya (Z12 (Kd.R_keep (IsS52.apart (show IsS52 w0 _ g s0_0 t363 t364 from by repeat (first | (with_reducible first | exact HI0.out | apply IsS52.alloc | apply IsS52.drewN | apply IsS52.drew | apply IsS52.set_1 | apply IsS52.set_2 | refine IsS52.far ?_ NB0_353.out _ | refine IsS52.far ?_ NB0_378.out _) | exact HI0.out)) (Yj (Yf4 HO373.out BK378.out) (fun _ h_ => h_.1)) (by decide)) hk (fun _ h => h.2)) (fun _ h => h.1)); replace HO376 := Ya (Z12 (Kd.R_keep (IsS52.apart (show IsS52 w0 _ g s0_0 t363 t364 from by repeat (first | (with_reducible first | exact HI0.out | apply IsS52.alloc | apply IsS52.drewN | apply IsS52.drew | apply IsS52.set_1 | apply IsS52.set_2 | refine IsS52.far ?_ NB0_353.out _ | refine IsS52.far ?_ NB0_378.out _) | exact HI0.out)) (Yj (Yf4 HO376.out BK378.out) (fun _ h_ => h_.1)) (by decide)) hk (fun _ h => h.2)) (fun _ h => h.1)); replace BK378 := Ya (KeepBut.blk hk (g' := gb378) (o := .cells #[.slice Ao16 t365.length co16, .slice Ao20 t368.length co20, .slice Ao21 t371.length co21, .slice Ao22 t374.length co22] 33 (0, 0)) (Yk (Yv4 BK378.out)) NB378_0.out (by simp)); replace HK := Ya (KeepBut.trans Q4 hk (.inl rfl)); replace HB := Ya hb; replace HI0 := Ya hi; (try clear hb hk hi)))
    go_meet
    case rel => exact ⟨_, (false), (t380), (t381), Q9, H', ⟨Q46⟩, ⟨Yj HO356.out (fun _ hk => ⟨hk.1.1.2, ⟨hk.1.2, hk.2⟩⟩)⟩, ⟨Yj HO367.out (fun _ hk => ⟨hk.2, ⟨hk.1.1, hk.1.2⟩⟩)⟩, ⟨Yj HO370.out (fun _ hk => ⟨hk.2, ⟨hk.1.1, hk.1.2⟩⟩)⟩, ⟨by (with_reducible repeat (first | apply Z9 | apply Z10 | apply Z11)); exact HO373.out⟩, ⟨Yj HO376.out (fun _ hk => ⟨hk.2, ⟨hk.1.1, hk.1.2⟩⟩)⟩, ⟨Q38⟩, ⟨Q37⟩, ⟨Q15⟩, ⟨Q17⟩, ⟨Q18⟩⟩
  case rest =>
   clear HC9
   try clear c1
   try clear c2
   try clear p2
   try clear c3
   try clear c4
   try clear c5
   try clear c6
   try clear c7
   try clear c17
   try clear c18
   try clear c24
   try clear c27
   try clear hcz19_0
   try clear hcz19_1
   try clear hcz19_2
   try clear hcz19_3
   try clear hfz19_0
   try clear hfz19_1
   try clear hfz19_2
   try clear hfz19_3
   obtain ⟨kq, x31_8, x1001_8, x1002_8, rfl, HA, HJ8, HO_3, HO_379000, HO_379001, HO_379002, HO_379003, BK353, BK378, HI0, HK, HB⟩ := hcut
   cases kq with
   | zero => exact absurd HA.out (by simp [spec_l1Cur_focus.j0])
   | succ kj8 =>
    have H := HA.out
    clear HA
    simp only [spec_l1Cur_focus.j0] at H
    have HC28 := Ya H
    clear H
    go_upto_if 31 with (fail)
    go_cut [] (fun wc => ∃ (kq : Nat) (x379000_27 : List Int) (x379001_27 : List Int) (x379002_27 : List Bool) (x379003_27 : List Int) (u379000 : Value) (u379001 : Value) (u379002 : Value) (u379003 : Value), Aside0 (spec_l1Cur_focus.j1 kq t354 s0_0 x1001_8 x1002_8 x379000_27 x379001_27 x379002_27 x379003_27 = some (r1, r2, r3, r4, r5, r6)) ∧ Aside0 (kq ≤ kj8) ∧ Aside0 (Kd.R (Kd.int .i64) 3 wc w.heap.size (fun k_ => some k_ ≠ (u379000 : Value).ownBlock ∧ some k_ ≠ (u379001 : Value).ownBlock ∧ some k_ ≠ (u379003 : Value).ownBlock) (.slice Ao12 t354.length co12) t354) ∧ Aside0 (Kd.R (Kd.int .i64) 3 wc w.heap.size (fun k_ => some k_ ≠ ((.slice Ao12 t354.length co12) : Value).ownBlock ∧ some k_ ≠ (u379001 : Value).ownBlock ∧ some k_ ≠ (u379003 : Value).ownBlock) u379000 x379000_27) ∧ Aside0 (Kd.R (Kd.int .i64) 3 wc w.heap.size (fun k_ => some k_ ≠ ((.slice Ao12 t354.length co12) : Value).ownBlock ∧ some k_ ≠ (u379000 : Value).ownBlock ∧ some k_ ≠ (u379003 : Value).ownBlock) u379001 x379001_27) ∧ Aside0 (Kd.R Kd.bool 4 wc w.heap.size (fun _ => True) u379002 x379002_27) ∧ Aside0 (Kd.R (Kd.int .i64) 3 wc w.heap.size (fun k_ => some k_ ≠ ((.slice Ao12 t354.length co12) : Value).ownBlock ∧ some k_ ≠ (u379000 : Value).ownBlock ∧ some k_ ≠ (u379001 : Value).ownBlock) u379003 x379003_27) ∧ Aside0 (wc.heap[gb353]? = some (.cells #[(.slice none 0 0), (.slice none 0 0), (.slice none 0 0), (.slice none 0 0)] 33 (0, 0))) ∧ Aside0 (wc.heap[gb378]? = some (.cells #[u379000, u379001, u379002, u379003] 33 (0, 0))) ∧ Aside0 (IsS52 w0 wc g s0_0 x1001_8 x1002_8) ∧ Aside0 (KeepBut w wc g none) ∧ Aside0 (Below w0.heap.size w0 wc))
    case first =>
     have H := HC28.out
     clear HC28
     by_cases c29 : x31_8 = true
     ·subst c29
      have H1 : ((spec_raProduct.f kj8 t354).bind fun t383 => ((spec_foAt.f kj8 t354 (wrap64 (t383 - 1))).bind fun bt384 => (spec_l1Cur_focus.j1 kj8 t354 s0_0 x1001_8 x1002_8 bt384.1 bt384.2.1 bt384.2.2.1 bt384.2.2.2.1))) = some (r1, r2, r3, r4, r5, r6) := by rw [if_pos rfl] at H; exact H
      clear H
      have H := H1
      clear H1
      replace H := Z37.mp H
      obtain ⟨t383, A300, H⟩ := H
      replace H : ((spec_foAt.f kj8 t354 (wrap64 (t383 - 1))).bind fun bt384 => (spec_l1Cur_focus.j1 kj8 t354 s0_0 x1001_8 x1002_8 bt384.1 bt384.2.1 bt384.2.2.1 bt384.2.2.2.1)) = some (r1, r2, r3, r4, r5, r6) := H
      have A30 := Ya A300
      clear A300
      replace H := Z37.mp H
      obtain ⟨⟨t384, t387, t390, t393, t396⟩, A310, H⟩ := H
      replace H : (spec_l1Cur_focus.j1 kj8 t354 s0_0 x1001_8 x1002_8 t384 t387 t390 t393) = some (r1, r2, r3, r4, r5, r6) := H
      have A31 := Ya A310
      clear A310
      have H' := Ya H
      clear H
      go_wp2_with (first | ((with_reducible refine gate_callee (f := 40) rfl ?_); refine Yz 35 Try.func40 #[.slice Ao12 t354.length co12] ?_; (with_reducible refine (spec_raProduct.calls kj8 _ _ t354 t383 _ (Yc (Kd.R_reads' HO_3.out).2.2) ((Kd.R_reads' HO_3.out).2.1) A30.out).mono ?_); rintro e w' ⟨rfl, ⟨nd, rfl⟩⟩; refine ⟨_, rfl, ?_⟩; (try (rw [drewN_self wc]; generalize hq_ : World.drewN wc _ = wc; replace HO_3 : Aside0 (Kd.R (Kd.int .i64) 3 wc w.heap.size (fun k_ => some k_ ≠ (.slice Ao16 t365.length co16 : Value).ownBlock ∧ some k_ ≠ (.slice Ao20 t368.length co20 : Value).ownBlock ∧ some k_ ≠ (.slice Ao22 t374.length co22 : Value).ownBlock) (.slice Ao12 t354.length co12) t354) := ⟨by rw [← hq_]; exact (Yr HO_3.out)⟩; replace HO_379000 : Aside0 (Kd.R (Kd.int .i64) 3 wc w.heap.size (fun k_ => some k_ ≠ (.slice Ao12 t354.length co12 : Value).ownBlock ∧ some k_ ≠ (.slice Ao20 t368.length co20 : Value).ownBlock ∧ some k_ ≠ (.slice Ao22 t374.length co22 : Value).ownBlock) (.slice Ao16 t365.length co16) t365) := ⟨by rw [← hq_]; exact (Yr HO_379000.out)⟩; replace HO_379001 : Aside0 (Kd.R (Kd.int .i64) 3 wc w.heap.size (fun k_ => some k_ ≠ (.slice Ao12 t354.length co12 : Value).ownBlock ∧ some k_ ≠ (.slice Ao16 t365.length co16 : Value).ownBlock ∧ some k_ ≠ (.slice Ao22 t374.length co22 : Value).ownBlock) (.slice Ao20 t368.length co20) t368) := ⟨by rw [← hq_]; exact (Yr HO_379001.out)⟩; replace HO_379002 : Aside0 (Kd.R Kd.bool 4 wc w.heap.size (fun _ => True) (.slice Ao21 t371.length co21) t371) := ⟨by rw [← hq_]; exact (Yr HO_379002.out)⟩; replace HO_379003 : Aside0 (Kd.R (Kd.int .i64) 3 wc w.heap.size (fun k_ => some k_ ≠ (.slice Ao12 t354.length co12 : Value).ownBlock ∧ some k_ ≠ (.slice Ao16 t365.length co16 : Value).ownBlock ∧ some k_ ≠ (.slice Ao20 t368.length co20 : Value).ownBlock) (.slice Ao22 t374.length co22) t374) := ⟨by rw [← hq_]; exact (Yr HO_379003.out)⟩; replace BK353 : Aside0 (wc.heap[gb353]? = some (.cells YN4 33 (0, 0))) := ⟨Q70⟩; replace BK378 : Aside0 (wc.heap[gb378]? = some (.cells #[.slice Ao16 t365.length co16, .slice Ao20 t368.length co20, .slice Ao21 t371.length co21, .slice Ao22 t374.length co22] 33 (0, 0))) := ⟨by rw [← hq_]; exact (Yk BK378.out)⟩; replace HK : Aside0 (KeepBut w wc g none) := ⟨by rw [← hq_]; exact Q4⟩; replace HB : Aside0 (Below w0.heap.size w0 wc) := ⟨by rw [← hq_]; exact Q25⟩; replace HI0 : Aside0 (IsS52 w0 wc g s0_0 x1001_8 x1002_8) := ⟨by rw [← hq_]; exact Q24⟩; clear hq_))) | ((with_reducible refine gate_callee (f := 43) rfl ?_); refine Yz 37 Try.func43 #[.slice Ao12 t354.length co12, .int .i64 (wrap64 (t383 - 1))] ?_; (with_reducible refine (spec_foAt.calls kj8 _ _ t354 (wrap64 (t383 - 1)) t384 t387 t390 t393 t396 _ (Yc (Kd.R_reads' HO_3.out).2.2) ((Kd.R_reads' HO_3.out).2.1) A31.out).mono ?_); rintro e w32 ⟨v385, v388, v391, v394, rfl, ho0, ho1, ho2, ho3, hb⟩; refine ⟨_, rfl, ?_⟩; have HO386 := Ya (Kd.R_lower (Kd.R_new' (Kd.R_new' (Kd.R_new' (Kd.R_new' ho0 (Z18 (Yr HO_3.out))) (Z18 (Yr HO_379000.out))) (Z18 (Yr HO_379001.out))) (Z18 (Yr HO_379003.out))) (keep_size (w := w) (g := g) (row := none) Q4)); have HO389 := Ya (Kd.R_lower (Kd.R_new' (Kd.R_new' (Kd.R_new' (Kd.R_new' ho1 (Z18 (Yr HO_3.out))) (Z18 (Yr HO_379000.out))) (Z18 (Yr HO_379001.out))) (Z18 (Yr HO_379003.out))) (keep_size (w := w) (g := g) (row := none) Q4)); have HO392 := Ya (Kd.R_lower (Kd.R_new' ho2 (Z18 (Yr HO_379002.out))) (keep_size (w := w) (g := g) (row := none) Q4)); replace HO_379002 := Ya (Kd.R_elder' (Yr HO_379002.out) (Kd.R_base ho2) hb); have HO395 := Ya (Kd.R_lower (Kd.R_new' (Kd.R_new' (Kd.R_new' (Kd.R_new' ho3 (Z18 (Yr HO_3.out))) (Z18 (Yr HO_379000.out))) (Z18 (Yr HO_379001.out))) (Z18 (Yr HO_379003.out))) (keep_size (w := w) (g := g) (row := none) Q4)); replace HO_3 := Ya (Z12 (Z16 (Z16 (Z16 (Z17 (Yr HO_3.out) hb) (Kd.R_base ho0)) (Kd.R_base ho1)) (Kd.R_base ho3)) (fun _ h_ => h_.1)); replace HO_379000 := Ya (Z12 (Z16 (Z16 (Z16 (Z17 (Yr HO_379000.out) hb) (Kd.R_base ho0)) (Kd.R_base ho1)) (Kd.R_base ho3)) (fun _ h_ => h_.1)); replace HO_379001 := Ya (Z12 (Z16 (Z16 (Z16 (Z17 (Yr HO_379001.out) hb) (Kd.R_base ho0)) (Kd.R_base ho1)) (Kd.R_base ho3)) (fun _ h_ => h_.1)); replace HO_379003 := Ya (Z12 (Z16 (Z16 (Z16 (Z17 (Yr HO_379003.out) hb) (Kd.R_base ho0)) (Kd.R_base ho1)) (Kd.R_base ho3)) (fun _ h_ => h_.1)); replace BK353 := Yb BK353 hb; replace BK378 := Yb BK378 hb; replace HK := Ya (KeepBut.trans Q4 (KeepBut.of_below hb g none) (.inl rfl)); replace HB := Ya (Z8 Q25 hb); replace HI0 := Ya (IsS52.below Q24 hb); (try clear hb ho0 ho1 ho2 ho3); obtain ⟨Ao33, co33, rfl⟩ := Z19 HO386.out; have hnb34 := NB378_353.out; have hnc34 := NB353_378.out; have hnb35 := NB378_0.out; have hnc35 := NB0_378.out; obtain ⟨hcz36_0, hcz36_1, hcz36_2, hcz36_3, hfz36_0, hfz36_1, hfz36_2, hfz36_3⟩ := Y4 BK378.out; obtain ⟨Ao37, co37, rfl⟩ := Z19 HO389.out; obtain ⟨Ao38, co38, rfl⟩ := Z19 HO392.out; obtain ⟨Ao39, co39, rfl⟩ := Z19 HO395.out))
      go_meet
      case rel => exact ⟨_, (t384), (t387), (t390), (t393), (.slice Ao33 t384.length co33), (.slice Ao37 t387.length co37), (.slice Ao38 t390.length co38), (.slice Ao39 t393.length co39), H', ⟨by have := HJ8.out; first | omega | exact Nat.le_refl _⟩, ⟨Yj (Yf4 HO_3.out BK378.out) (fun _ hk => ⟨hk.1.1.1.2, ⟨hk.1.1.2, hk.1.2⟩⟩)⟩, ⟨Yj (Yf4 HO386.out BK378.out) (fun _ hk => ⟨hk.1.1.1.1.2, ⟨hk.1.1.1.1.1.1, hk.1.1.1.1.1.2⟩⟩)⟩, ⟨Yj (Yf4 HO389.out BK378.out) (fun _ hk => ⟨hk.1.1.1.1.2, ⟨hk.1.1.1.1.1.1, hk.1.1.1.1.1.2⟩⟩)⟩, ⟨Yj (Yf4 HO392.out BK378.out) (fun _ hk => trivial)⟩, ⟨Yj (Yf4 HO395.out BK378.out) (fun _ hk => ⟨hk.1.1.1.1.2, ⟨hk.1.1.1.1.1.1, hk.1.1.1.1.1.2⟩⟩)⟩, ⟨by (with_reducible repeat (first | refine Z26 ?_ _ | refine Z27 ?_ | refine Z28 ?_ _)); refine blk_far ?_ NB353_378.out _; (with_reducible repeat (first | refine Z26 ?_ _ | refine Z27 ?_ | refine Z28 ?_ _)); refine blk_far ?_ NB353_378.out _; (with_reducible repeat (first | refine Z26 ?_ _ | refine Z27 ?_ | refine Z28 ?_ _)); refine blk_far ?_ NB353_378.out _; (with_reducible repeat (first | refine Z26 ?_ _ | refine Z27 ?_ | refine Z28 ?_ _)); refine blk_far ?_ NB353_378.out _; (with_reducible repeat (first | refine Z26 ?_ _ | refine Z27 ?_ | refine Z28 ?_ _)); exact BK353.out⟩, ⟨by (with_reducible repeat (first | refine Z26 ?_ _ | refine Z27 ?_ | refine Z28 ?_ _)); refine Z30 (cs := #[.slice Ao33 t384.length co33, .slice Ao37 t387.length co37, .slice Ao38 t390.length co38, .slice Ao22 t374.length co22]) ?_ 3 _ rfl; (with_reducible repeat (first | refine Z26 ?_ _ | refine Z27 ?_ | refine Z28 ?_ _)); refine Z30 (cs := #[.slice Ao33 t384.length co33, .slice Ao37 t387.length co37, .slice Ao21 t371.length co21, .slice Ao22 t374.length co22]) ?_ 2 _ rfl; (with_reducible repeat (first | refine Z26 ?_ _ | refine Z27 ?_ | refine Z28 ?_ _)); refine Z30 (cs := #[.slice Ao33 t384.length co33, .slice Ao20 t368.length co20, .slice Ao21 t371.length co21, .slice Ao22 t374.length co22]) ?_ 1 _ rfl; (with_reducible repeat (first | refine Z26 ?_ _ | refine Z27 ?_ | refine Z28 ?_ _)); refine Z30 (cs := #[.slice Ao16 t365.length co16, .slice Ao20 t368.length co20, .slice Ao21 t371.length co21, .slice Ao22 t374.length co22]) ?_ 0 _ rfl; (with_reducible repeat (first | refine Z26 ?_ _ | refine Z27 ?_ | refine Z28 ?_ _)); exact BK378.out⟩, ⟨Q15⟩, ⟨Q17⟩, ⟨Q18⟩⟩
     ·replace c29 := Bool.eq_false_iff.mpr c29
      subst c29
      have H1 : (spec_l1Cur_focus.j1 kj8 t354 s0_0 x1001_8 x1002_8 t365 t368 t371 t374) = some (r1, r2, r3, r4, r5, r6) := by rw [if_neg (show ¬ (false = true) by decide)] at H; exact H
      clear H
      have H := H1
      clear H1
      have H' := Ya H
      clear H
      go_wp2
      go_meet
      case rel => exact ⟨_, (t365), (t368), (t371), (t374), (.slice Ao16 t365.length co16), (.slice Ao20 t368.length co20), (.slice Ao21 t371.length co21), (.slice Ao22 t374.length co22), H', ⟨by have := HJ8.out; first | omega | exact Nat.le_refl _⟩, ⟨Q39⟩, ⟨Q62⟩, ⟨Q61⟩, ⟨Q60⟩, ⟨Q59⟩, ⟨Q38⟩, ⟨Q37⟩, ⟨Q15⟩, ⟨Q17⟩, ⟨Q18⟩⟩
    case rest =>
     clear HC28
     try clear c1
     try clear c2
     try clear p2
     try clear c3
     try clear c4
     try clear c5
     try clear c6
     try clear p6
     try clear c7
     try clear c17
     try clear c18
     try clear c24
     try clear c27
     try clear c29
     try clear c32
     try clear c34
     try clear c35
     try clear hcz19_0
     try clear hcz19_1
     try clear hcz19_2
     try clear hcz19_3
     try clear hcz36_0
     try clear hcz36_1
     try clear hcz36_2
     try clear hcz36_3
     try clear hfz19_0
     try clear hfz19_1
     try clear hfz19_2
     try clear hfz19_3
     try clear hfz36_0
     try clear hfz36_1
     try clear hfz36_2
     try clear hfz36_3
     try clear p2
     obtain ⟨kq, x379000_27, x379001_27, x379002_27, x379003_27, u379000, u379001, u379002, u379003, HA, HJ27, HO_3, HO_379000, HO_379001, HO_379002, HO_379003, BK353, BK378, HI0, HK, HB⟩ := hcut
     cases kq with
     | zero => exact absurd HA.out (by simp [spec_l1Cur_focus.j1])
     | succ kj27 =>
      have H := HA.out
      clear HA
      simp only [spec_l1Cur_focus.j1] at H
      replace H := Z37.mp H
      obtain ⟨⟨t397, t398, t399⟩, A400, H⟩ := H
      replace H : (if t397 = 0 then (spec_l1Cur_focus.j2 kj27 t354 t397 (decide ((t354.length : Int) > 0)) s0_0 t398 t399 x379000_27 x379001_27 x379002_27 x379003_27) else (spec_l1Cur_focus.j2 kj27 t354 t397 false s0_0 t398 t399 x379000_27 x379001_27 x379002_27 x379003_27)) = some (r1, r2, r3, r4, r5, r6) := H
      have A40 := Ya A400
      clear A400
      have HC41 := Ya H
      clear H
      go_upto_region 8 with (first | ((with_reducible refine gate_callee (f := 56) rfl ?_); refine Yz 41 Try.func56 #[.pointer (some ⟨g, 0, none⟩), .int .i64 16] ?_; (with_reducible refine (spec_l1Cur_pick.calls g s0_0 x1001_8 x1002_8 16 t397 t398 t399 w0 _ ?side1 ?side2 A40.out).mono ?_); (case side1 => repeat (first | (with_reducible first | exact HI0.out | apply IsS52.alloc | apply IsS52.drewN | apply IsS52.drew | apply IsS52.set_1 | apply IsS52.set_2 | refine IsS52.far ?_ NB0_353.out _ | refine IsS52.far ?_ NB0_378.out _) | exact HI0.out)); (case side2 => repeat (first | (with_reducible first | exact HB.out | apply Z5 | apply Z3 | apply Z4 | refine Z6 ?_ (IsS52.ge HI0.out) | refine Z6 ?_ GE353.out | refine Z6 ?_ GE378.out) | exact HB.out)); rintro e w42 ⟨rfl, hi, hb, hk⟩; refine ⟨_, rfl, ?_⟩; replace HO_3 := Ya (Z12 (Kd.R_keep (IsS52.apart (show IsS52 w0 _ g s0_0 x1001_8 x1002_8 from by repeat (first | (with_reducible first | exact HI0.out | apply IsS52.alloc | apply IsS52.drewN | apply IsS52.drew | apply IsS52.set_1 | apply IsS52.set_2 | refine IsS52.far ?_ NB0_353.out _ | refine IsS52.far ?_ NB0_378.out _) | exact HI0.out)) (Yr HO_3.out) (by decide)) hk (fun _ h => h.2)) (fun _ h => h.1)); replace HO_379000 := Ya (Z12 (Kd.R_keep (IsS52.apart (show IsS52 w0 _ g s0_0 x1001_8 x1002_8 from by repeat (first | (with_reducible first | exact HI0.out | apply IsS52.alloc | apply IsS52.drewN | apply IsS52.drew | apply IsS52.set_1 | apply IsS52.set_2 | refine IsS52.far ?_ NB0_353.out _ | refine IsS52.far ?_ NB0_378.out _) | exact HI0.out)) (Yr HO_379000.out) (by decide)) hk (fun _ h => h.2)) (fun _ h => h.1)); replace HO_379001 := Ya (Z12 (Kd.R_keep (IsS52.apart (show IsS52 w0 _ g s0_0 x1001_8 x1002_8 from by repeat (first | (with_reducible first | exact HI0.out | apply IsS52.alloc | apply IsS52.drewN | apply IsS52.drew | apply IsS52.set_1 | apply IsS52.set_2 | refine IsS52.far ?_ NB0_353.out _ | refine IsS52.far ?_ NB0_378.out _) | exact HI0.out)) (Yr HO_379001.out) (by decide)) hk (fun _ h => h.2)) (fun _ h => h.1)); replace HO_379002 := Ya (Z12 (Kd.R_keep (IsS52.apart (show IsS52 w0 _ g s0_0 x1001_8 x1002_8 from by repeat (first | (with_reducible first | exact HI0.out | apply IsS52.alloc | apply IsS52.drewN | apply IsS52.drew | apply IsS52.set_1 | apply IsS52.set_2 | refine IsS52.far ?_ NB0_353.out _ | refine IsS52.far ?_ NB0_378.out _) | exact HI0.out)) (Yr HO_379002.out) (by decide)) hk (fun _ h => h.2)) (fun _ h => h.1)); replace HO_379003 := Ya (Z12 (Kd.R_keep (IsS52.apart (show IsS52 w0 _ g s0_0 x1001_8 x1002_8 from by repeat (first | (with_reducible first | exact HI0.out | apply IsS52.alloc | apply IsS52.drewN | apply IsS52.drew | apply IsS52.set_1 | apply IsS52.set_2 | refine IsS52.far ?_ NB0_353.out _ | refine IsS52.far ?_ NB0_378.out _) | exact HI0.out)) (Yr HO_379003.out) (by decide)) hk (fun _ h => h.2)) (fun _ h => h.1)); replace BK353 := Ya (KeepBut.blk hk (g' := gb353) (o := .cells YN4 33 (0, 0)) (Yk BK353.out) NB353_0.out (by simp)); replace BK378 := Ya (KeepBut.blk hk (g' := gb378) (o := .cells #[u379000, u379001, u379002, u379003] 33 (0, 0)) (Yk BK378.out) NB378_0.out (by simp)); replace HK := Ya (KeepBut.trans Q4 hk (.inl rfl)); replace HB := Ya hb; replace HI0 := Ya hi; (try clear hb hk hi)))
      (try simp only [Act.put, Z0, Z1, Z2])
      go_cut [42] (fun v42 wc => ∃ (kq : Nat) (x42_40 : Bool), v42 = .bool x42_40 ∧ Aside0 (spec_l1Cur_focus.j2 kq t354 t397 x42_40 s0_0 t398 t399 x379000_27 x379001_27 x379002_27 x379003_27 = some (r1, r2, r3, r4, r5, r6)) ∧ Aside0 (kq ≤ kj27) ∧ Aside0 (Kd.R (Kd.int .i64) 3 wc w.heap.size (fun k_ => some k_ ≠ (u379000 : Value).ownBlock ∧ some k_ ≠ (u379001 : Value).ownBlock ∧ some k_ ≠ (u379003 : Value).ownBlock) (.slice Ao12 t354.length co12) t354) ∧ Aside0 (Kd.R (Kd.int .i64) 3 wc w.heap.size (fun k_ => some k_ ≠ ((.slice Ao12 t354.length co12) : Value).ownBlock ∧ some k_ ≠ (u379001 : Value).ownBlock ∧ some k_ ≠ (u379003 : Value).ownBlock) u379000 x379000_27) ∧ Aside0 (Kd.R (Kd.int .i64) 3 wc w.heap.size (fun k_ => some k_ ≠ ((.slice Ao12 t354.length co12) : Value).ownBlock ∧ some k_ ≠ (u379000 : Value).ownBlock ∧ some k_ ≠ (u379003 : Value).ownBlock) u379001 x379001_27) ∧ Aside0 (Kd.R Kd.bool 4 wc w.heap.size (fun _ => True) u379002 x379002_27) ∧ Aside0 (Kd.R (Kd.int .i64) 3 wc w.heap.size (fun k_ => some k_ ≠ ((.slice Ao12 t354.length co12) : Value).ownBlock ∧ some k_ ≠ (u379000 : Value).ownBlock ∧ some k_ ≠ (u379001 : Value).ownBlock) u379003 x379003_27) ∧ Aside0 (wc.heap[gb353]? = some (.cells #[(.slice none 0 0), (.slice none 0 0), (.slice none 0 0), (.slice none 0 0)] 33 (0, 0))) ∧ Aside0 (wc.heap[gb378]? = some (.cells #[u379000, u379001, u379002, u379003] 33 (0, 0))) ∧ Aside0 (IsS52 w0 wc g s0_0 t398 t399) ∧ Aside0 (KeepBut w wc g none) ∧ Aside0 (Below w0.heap.size w0 wc))
      case first =>
       have H := HC41.out
       clear HC41
       by_cases c43 : t397 = 0
       ·rw [if_pos c43] at H
        have c43b0 : (t397 == 0) = true := beq_iff_eq.mpr c43
        have c43b1 : (t397 != 0) = false := bne_eq_false_iff_eq.mpr c43
        clear c43
        (first | rw [c43b0] | (simp only [i64_w, i32_w]; rw [c43b0]) | skip)
        have H' := Ya H
        clear H
        go_wp2
        go_meet
        case rel => exact ⟨_, (decide ((t354.length : Int) > 0)), Q9, H', ⟨by have := HJ8.out; have := HJ27.out; first | omega | exact Nat.le_refl _⟩, ⟨Q39⟩, ⟨Q62⟩, ⟨Q61⟩, ⟨Q60⟩, ⟨Q59⟩, ⟨Q38⟩, ⟨Q37⟩, ⟨Q15⟩, ⟨Q17⟩, ⟨Q18⟩⟩
       ·rw [if_neg c43] at H
        have c43b0 : (t397 == 0) = false := beq_eq_false_iff_ne.mpr c43
        have c43b1 : (t397 != 0) = true := bne_iff_ne.mpr c43
        (first | rw [c43b0] | (simp only [i64_w, i32_w]; rw [c43b0]) | skip)
        have H' := Ya H
        clear H
        go_wp2
        go_meet
        case rel => exact ⟨_, (false), Q9, H', ⟨by have := HJ8.out; have := HJ27.out; first | omega | exact Nat.le_refl _⟩, ⟨Q39⟩, ⟨Q62⟩, ⟨Q61⟩, ⟨Q60⟩, ⟨Q59⟩, ⟨Q38⟩, ⟨Q37⟩, ⟨Q15⟩, ⟨Q17⟩, ⟨Q18⟩⟩
      case rest =>
       clear HC41
       try clear c1
       try clear c2
       try clear p2
       try clear c3
       try clear c4
       try clear c5
       try clear c6
       try clear p6
       try clear c7
       try clear c17
       try clear c18
       try clear c24
       try clear c27
       try clear c29
       try clear c32
       try clear c34
       try clear c35
       try clear c40
       try clear c43
       try clear c43b0
       try clear c43b1
       try clear hcz19_0
       try clear hcz19_1
       try clear hcz19_2
       try clear hcz19_3
       try clear hcz36_0
       try clear hcz36_1
       try clear hcz36_2
       try clear hcz36_3
       try clear hfz19_0
       try clear hfz19_1
       try clear hfz19_2
       try clear hfz19_3
       try clear hfz36_0
       try clear hfz36_1
       try clear hfz36_2
       try clear hfz36_3
       try clear p2
       try clear p6
       obtain ⟨kq, x42_40, rfl, HA, HJ40, HO_3, HO_379000, HO_379001, HO_379002, HO_379003, BK353, BK378, HI0, HK, HB⟩ := hcut
       cases kq with
       | zero => exact absurd HA.out (by simp [spec_l1Cur_focus.j2])
       | succ kj40 =>
        have H := HA.out
        clear HA
        simp only [spec_l1Cur_focus.j2] at H
        by_cases c44 : x42_40 = true
        ·subst c44
         have H1 : ((spec_l1Cur_pick.f s0_0 t398 t399 (t354.length : Int)).bind fun bt400 => ((spec_l1Cur_among.f s0_0 bt400.2.1 bt400.2.2 (([0, 1, (-1), 12] : List Int))).bind fun bt406 => (if 0 ≤ bt400.1 then (if bt400.1 < (x379001_27.length : Int) then (some (x379000_27, (x379001_27.set (bt400.1 : Int).toNat bt406.1), x379002_27, x379003_27, bt406.2.1, bt406.2.2)) else (none)) else (none)))) = some (r1, r2, r3, r4, r5, r6) := by rw [if_pos rfl] at H; exact H
         clear H
         have H := H1
         clear H1
         replace H := Z37.mp H
         obtain ⟨⟨t400, t401, t402⟩, A450, H⟩ := H
         replace H : ((spec_l1Cur_among.f s0_0 t401 t402 (([0, 1, (-1), 12] : List Int))).bind fun bt406 => (if 0 ≤ t400 then (if t400 < (x379001_27.length : Int) then (some (x379000_27, (x379001_27.set (t400 : Int).toNat bt406.1), x379002_27, x379003_27, bt406.2.1, bt406.2.2)) else (none)) else (none))) = some (r1, r2, r3, r4, r5, r6) := H
         have A45 := Ya A450
         clear A450
         obtain ⟨y403, hy403⟩ : ∃ y_ : List Int, y_ = (([0, 1, (-1), 12] : List Int)) := ⟨_, rfl⟩
         replace H : ((spec_l1Cur_among.f s0_0 t401 t402 y403).bind fun bt406 => (if 0 ≤ t400 then (if t400 < (x379001_27.length : Int) then (some (x379000_27, (x379001_27.set (t400 : Int).toNat bt406.1), x379002_27, x379003_27, bt406.2.1, bt406.2.2)) else (none)) else (none))) = some (r1, r2, r3, r4, r5, r6) := by first | (rw [hy403]; with_reducible exact H) | (have H2_ := (Option.bind_some _ _).symm.trans H; rw [hy403]; with_reducible exact H2_) | (have H2_ := (Option.bind_some _ _).symm.trans H; with_reducible exact H2_) | with_reducible exact H | (rw [hy403]; exact H) | exact H
         have Ny403 := Ya hy403
         clear hy403
         replace H := Z37.mp H
         obtain ⟨⟨t406, t407, t408⟩, A460, H⟩ := H
         replace H : (if 0 ≤ t400 then (if t400 < (x379001_27.length : Int) then (some (x379000_27, (x379001_27.set (t400 : Int).toNat t406), x379002_27, x379003_27, t407, t408)) else (none)) else (none)) = some (r1, r2, r3, r4, r5, r6) := H
         have A46 := Ya A460
         clear A460
         by_cases c47 : 0 ≤ t400
         ·rw [if_pos c47] at H
          have c47b0 := Z39 c47
          clear c47
          by_cases c48 : t400 < (x379001_27.length : Int)
          ·rw [if_pos c48] at H
           have c48b0 := Z39 c48
           clear c48
           obtain ⟨y409, hy409⟩ : ∃ y_ : List Int, y_ = (x379001_27.set (t400 : Int).toNat t406) := ⟨_, rfl⟩
           replace H : (some (x379000_27, y409, x379002_27, x379003_27, t407, t408)) = some (r1, r2, r3, r4, r5, r6) := by first | (rw [hy409]; with_reducible exact H) | (have H2_ := (Option.bind_some _ _).symm.trans H; rw [hy409]; with_reducible exact H2_) | (have H2_ := (Option.bind_some _ _).symm.trans H; with_reducible exact H2_) | with_reducible exact H | (rw [hy409]; exact H) | exact H
           have Ny409 := Ya hy409
           clear hy409
           simp only [Option.some.injEq, Prod.mk.injEq] at H
           obtain ⟨rfl, rfl, rfl, rfl, rfl, rfl⟩ := H
           try go_wp2
           replace HO_3 := Ya (Z11 HO_3.out)
           replace HO_379000 := Ya (Z11 HO_379000.out)
           replace HO_379001 := Ya (Z11 HO_379001.out)
           replace HO_379002 := Ya (Z11 HO_379002.out)
           replace HO_379003 := Ya (Z11 HO_379003.out)
           replace BK353 := Ya (Z27 BK353.out)
           replace BK378 := Ya (Z27 BK378.out)
           replace HI0 := Ya (IsS52.drew HI0.out)
           replace HK := Ya (keep_drew HK.out)
           replace HB := Ya (Z4 HB.out)
           refine start_ (n := 11) (S := fun w' => w'.cell? ⟨gb378, 0, none⟩ = some (u379000) ∧ w'.cell? ⟨gb378, 1, none⟩ = some (u379001) ∧ w'.cell? ⟨gb378, 2, none⟩ = some (u379002) ∧ w'.cell? ⟨gb378, 3, none⟩ = some (u379003)) (ds := [10]) (YA 11 0) (by kernel_rfl) rfl rfl (Yz4 BK378.out) (fun hHeld => ?_); refine with_tabW spec_l1Cur_focus.tab9 spec_l1Cur_focus.bits9 (fun HT_ HW_ => ?_)
           generalize wc.drew = w50 at HO_3 HO_379000 HO_379001 HO_379002 HO_379003 BK353 BK378 HI0 HK HB hHeld ⊢
           refine Yp 0 (some 50) (YA 11 1) rfl HT_.out ?_
           refine Yp 2 (some 52) (YA 11 5) rfl HT_.out ?_
           refine Yp 3 (some 53) (YA 11 13) rfl HT_.out ?_
           refine Yp 4 (some 54) (YA 11 29) rfl HT_.out ?_
           refine Yp 6 (some 56) (YA 11 93) rfl HT_.out ?_
           refine Yt 1 (some 51) (YA 11 95) rfl HT_.out HW_.out hHeld Q8 ?_
           refine join_ (σ := Value) 3 (YA 11 255) (fun s_ => [(55, .int .i64 t400), (57, s_)]) (fun s_ w' => (w'.cell? ⟨gb378, 0, none⟩ = some (u379000) ∧ w'.cell? ⟨gb378, 1, none⟩ = some (u379001) ∧ w'.cell? ⟨gb378, 2, none⟩ = some (u379002) ∧ w'.cell? ⟨gb378, 3, none⟩ = some (u379003)) ∧ (Kd.R (Kd.int .i64) 3 w' w.heap.size (fun k_ => some k_ ≠ (.slice Ao12 t354.length co12 : Value).ownBlock ∧ some k_ ≠ (u379000 : Value).ownBlock ∧ some k_ ≠ (u379001 : Value).ownBlock ∧ some k_ ≠ (u379003 : Value).ownBlock) s_ y403) ∧ (Kd.R (Kd.int .i64) 3 w' w.heap.size (fun k_ => some k_ ≠ (s_ : Value).ownBlock ∧ some k_ ≠ (u379000 : Value).ownBlock ∧ some k_ ≠ (u379001 : Value).ownBlock ∧ some k_ ≠ (u379003 : Value).ownBlock) (.slice Ao12 t354.length co12) t354) ∧ (Kd.R (Kd.int .i64) 3 w' w.heap.size (fun k_ => some k_ ≠ (s_ : Value).ownBlock ∧ some k_ ≠ (.slice Ao12 t354.length co12 : Value).ownBlock ∧ some k_ ≠ (u379001 : Value).ownBlock ∧ some k_ ≠ (u379003 : Value).ownBlock) u379000 x379000_27) ∧ (Kd.R (Kd.int .i64) 3 w' w.heap.size (fun k_ => some k_ ≠ (s_ : Value).ownBlock ∧ some k_ ≠ (.slice Ao12 t354.length co12 : Value).ownBlock ∧ some k_ ≠ (u379000 : Value).ownBlock ∧ some k_ ≠ (u379003 : Value).ownBlock) u379001 x379001_27) ∧ (Kd.R Kd.bool 4 w' w.heap.size (fun _ => True) u379002 x379002_27) ∧ (Kd.R (Kd.int .i64) 3 w' w.heap.size (fun k_ => some k_ ≠ (s_ : Value).ownBlock ∧ some k_ ≠ (.slice Ao12 t354.length co12 : Value).ownBlock ∧ some k_ ≠ (u379000 : Value).ownBlock ∧ some k_ ≠ (u379001 : Value).ownBlock) u379003 x379003_27) ∧ (w'.heap[gb353]? = some (.cells YN4 33 (0, 0))) ∧ (w'.heap[gb378]? = some (.cells #[u379000, u379001, u379002, u379003] 33 (0, 0))) ∧ (IsS52 w0 w' g s0_0 t401 t402) ∧ (KeepBut w w' g none) ∧ (Below w0.heap.size w0 w')) ?_ ?_
           rotate_left
           ·intro hCont
            refine two_ (i := 5) (j := 7) (Ni := some 55) (Nj := some 57) (YA 11 127) (YA 11 223) rfl rfl rfl rfl (two_of HT_.out (by kernel_rfl)) (by decide) (by decide) (fun K hK => ?_) (fun K hK => ?_)
            ·skip
             refine goes_ Try.func56 (by kernel_rfl) rfl #[.pointer (some ⟨g, 0, none⟩), .int .i64 (t354.length : Int)] (by rfl) rfl rfl Q5 ?_
             with_reducible refine (spec_l1Cur_pick.calls g s0_0 t398 t399 (t354.length : Int) t400 t401 t402 w0 _ ?side1 ?side2 A45.out).mono ?_
             (case side1 => repeat (first | (with_reducible first | exact HI0.out | apply IsS52.alloc | apply IsS52.drewN | apply IsS52.drew | apply IsS52.set_1 | apply IsS52.set_2 | refine IsS52.far ?_ NB0_353.out _ | refine IsS52.far ?_ NB0_378.out _) | exact HI0.out))
             (case side2 => repeat (first | (with_reducible first | exact HB.out | apply Z5 | apply Z3 | apply Z4 | refine Z6 ?_ (IsS52.ge HI0.out) | refine Z6 ?_ GE353.out | refine Z6 ?_ GE378.out) | exact HB.out))
             rintro e w51 ⟨rfl, hi, hb, hk⟩
             refine ⟨_, rfl, ?_⟩
             replace HO_3 := Ya (Z12 (Kd.R_keep (IsS52.apart (show IsS52 w0 _ g s0_0 t398 t399 from by repeat (first | (with_reducible first | exact HI0.out | apply IsS52.alloc | apply IsS52.drewN | apply IsS52.drew | apply IsS52.set_1 | apply IsS52.set_2 | refine IsS52.far ?_ NB0_353.out _ | refine IsS52.far ?_ NB0_378.out _) | exact HI0.out)) (Yr HO_3.out) (by decide)) hk (fun _ h => h.2)) (fun _ h => h.1))
             replace HO_379000 := Ya (Z12 (Kd.R_keep (IsS52.apart (show IsS52 w0 _ g s0_0 t398 t399 from by repeat (first | (with_reducible first | exact HI0.out | apply IsS52.alloc | apply IsS52.drewN | apply IsS52.drew | apply IsS52.set_1 | apply IsS52.set_2 | refine IsS52.far ?_ NB0_353.out _ | refine IsS52.far ?_ NB0_378.out _) | exact HI0.out)) (Yr HO_379000.out) (by decide)) hk (fun _ h => h.2)) (fun _ h => h.1))
             replace HO_379001 := Ya (Z12 (Kd.R_keep (IsS52.apart (show IsS52 w0 _ g s0_0 t398 t399 from by repeat (first | (with_reducible first | exact HI0.out | apply IsS52.alloc | apply IsS52.drewN | apply IsS52.drew | apply IsS52.set_1 | apply IsS52.set_2 | refine IsS52.far ?_ NB0_353.out _ | refine IsS52.far ?_ NB0_378.out _) | exact HI0.out)) (Yr HO_379001.out) (by decide)) hk (fun _ h => h.2)) (fun _ h => h.1))
             replace HO_379002 := Ya (Z12 (Kd.R_keep (IsS52.apart (show IsS52 w0 _ g s0_0 t398 t399 from by repeat (first | (with_reducible first | exact HI0.out | apply IsS52.alloc | apply IsS52.drewN | apply IsS52.drew | apply IsS52.set_1 | apply IsS52.set_2 | refine IsS52.far ?_ NB0_353.out _ | refine IsS52.far ?_ NB0_378.out _) | exact HI0.out)) (Yr HO_379002.out) (by decide)) hk (fun _ h => h.2)) (fun _ h => h.1))
             replace HO_379003 := Ya (Z12 (Kd.R_keep (IsS52.apart (show IsS52 w0 _ g s0_0 t398 t399 from by repeat (first | (with_reducible first | exact HI0.out | apply IsS52.alloc | apply IsS52.drewN | apply IsS52.drew | apply IsS52.set_1 | apply IsS52.set_2 | refine IsS52.far ?_ NB0_353.out _ | refine IsS52.far ?_ NB0_378.out _) | exact HI0.out)) (Yr HO_379003.out) (by decide)) hk (fun _ h => h.2)) (fun _ h => h.1))
             replace BK353 := Ya (KeepBut.blk hk (g' := gb353) (o := .cells YN4 33 (0, 0)) (Yk BK353.out) NB353_0.out (by simp))
             replace BK378 := Ya (KeepBut.blk hk (g' := gb378) (o := .cells #[u379000, u379001, u379002, u379003] 33 (0, 0)) (Yk BK378.out) NB378_0.out (by simp))
             replace HK := Ya (KeepBut.trans Q4 hk (.inl rfl))
             replace HB := Ya hb
             replace HI0 := Ya hi
             (try clear hb hk hi)
             refine hK.out _ _ (Yz4 BK378.out) (fun hHeld => ?_)
             clear hK K
             refine norm_ (a' := ?_) ?_ ?_
             rotate_left
             ·show Act.put _ (some 55) _ = _
              simp only [Act.put, Z0, Z1, Z2, i64_w, i32_w]
              rfl
             refine one_ (i := 7) (N := some 57) (YA 11 255) rfl rfl (one_of HT_.out (by kernel_rfl)) (by decide) (fun K hK => ?_)
             refine Kd.R_lit_step (Kd.int .i64) _ 3 ?hg (N := 57) ?hd (xs := ([0, 1, (-1), 12] : List Int)) (inner := [.int .i64 0, .int .i64 1, .int .i64 (-1), .int .i64 12]) (ok := fun _ => True) (okp := fun _ => True) ?hr ?hp (fun _ hk => hk) trivial (Below.refl _ _) (Nat.le_refl _) (by simp) ?_; (case hd => rfl); (case hg => rfl); (case hr => first | (go_simp; done) | (go_simp; rfl)); (case hp => exact (Reps.one (show Kd.M (Kd.int .i64) _ _ _ 0 [.int .i64 0] from rfl) (Reps.one (show Kd.M (Kd.int .i64) _ _ _ 1 [.int .i64 1] from rfl) (Reps.one (show Kd.M (Kd.int .i64) _ _ _ (-1) [.int .i64 (-1)] from rfl) (Reps.one (show Kd.M (Kd.int .i64) _ _ _ 12 [.int .i64 12] from rfl) (Reps.none _ _))))))
             intro v404 w52 ho53 hb hg_ hnew_
             clear hg_ hnew_
             (first | rw [← Ny403.out] at ho53 | (simp only [Int.reduceToNat] at ho53; rw [← Ny403.out] at ho53))
             replace HO_379002 := Yw HO_379002 hb
             have HO405 := Ya (Kd.R_lower (Kd.R_new' (Kd.R_new' (Kd.R_new' (Kd.R_new' ho53 (Z18 (Yr HO_3.out))) (Z18 (Yr HO_379000.out))) (Z18 (Yr HO_379001.out))) (Z18 (Yr HO_379003.out))) (keep_size (w := w) (g := g) (row := none) Q4))
             replace HO_3 := Ya (Kd.R_elder' (Yr HO_3.out) (Kd.R_base ho53) hb)
             replace HO_379000 := Ya (Kd.R_elder' (Yr HO_379000.out) (Kd.R_base ho53) hb)
             replace HO_379001 := Ya (Kd.R_elder' (Yr HO_379001.out) (Kd.R_base ho53) hb)
             replace HO_379003 := Ya (Kd.R_elder' (Yr HO_379003.out) (Kd.R_base ho53) hb)
             replace BK353 := Yb BK353 hb
             replace BK378 := Yb BK378 hb
             replace HK := Ya (KeepBut.trans Q4 (KeepBut.of_below hb g none) (.inl rfl))
             replace HB := Ya (Z8 Q25 hb)
             replace HI0 := Ya (IsS52.below Q24 hb)
             clear hb ho53
             refine hK.out _ _ (Yz4 BK378.out) (fun hHeld => ?_)
             clear hK K
             refine norm_ (a' := ?_) ?_ ?_
             rotate_left
             ·show Act.put _ (some 57) _ = _
              simp only [Act.put, Z0, Z1, Z2, i64_w, i32_w]
              rfl
             exact norm_ Q36 (hCont (v404) _ ⟨hHeld, (Yj HO405.out (fun _ hk => ⟨hk.1.1.1.2, ⟨hk.1.1.2, ⟨hk.1.2, hk.2⟩⟩⟩)), (Yj HO_3.out (fun _ hk => ⟨hk.2, ⟨hk.1.1, ⟨hk.1.2.1, hk.1.2.2⟩⟩⟩)), (Yj HO_379000.out (fun _ hk => ⟨hk.2, ⟨hk.1.1, ⟨hk.1.2.1, hk.1.2.2⟩⟩⟩)), (Yj HO_379001.out (fun _ hk => ⟨hk.2, ⟨hk.1.1, ⟨hk.1.2.1, hk.1.2.2⟩⟩⟩)), (Yr HO_379002.out), (Yj HO_379003.out (fun _ hk => ⟨hk.2, ⟨hk.1.1, ⟨hk.1.2.1, hk.1.2.2⟩⟩⟩)), (Yk BK353.out), (Yk BK378.out), Q24, Q4, Q25⟩)
            ·skip
             refine Kd.R_lit_step (Kd.int .i64) _ 3 ?hg (N := 57) ?hd (xs := ([0, 1, (-1), 12] : List Int)) (inner := [.int .i64 0, .int .i64 1, .int .i64 (-1), .int .i64 12]) (ok := fun _ => True) (okp := fun _ => True) ?hr ?hp (fun _ hk => hk) trivial (Below.refl _ _) (Nat.le_refl _) (by simp) ?_; (case hd => rfl); (case hg => rfl); (case hr => first | (go_simp; done) | (go_simp; rfl)); (case hp => exact (Reps.one (show Kd.M (Kd.int .i64) _ _ _ 0 [.int .i64 0] from rfl) (Reps.one (show Kd.M (Kd.int .i64) _ _ _ 1 [.int .i64 1] from rfl) (Reps.one (show Kd.M (Kd.int .i64) _ _ _ (-1) [.int .i64 (-1)] from rfl) (Reps.one (show Kd.M (Kd.int .i64) _ _ _ 12 [.int .i64 12] from rfl) (Reps.none _ _))))))
             intro v404 w51 ho52 hb hg_ hnew_
             clear hg_ hnew_
             (first | rw [← Ny403.out] at ho52 | (simp only [Int.reduceToNat] at ho52; rw [← Ny403.out] at ho52))
             replace HO_379002 := Yw HO_379002 hb
             have HO405 := Ya (Kd.R_lower (Kd.R_new' (Kd.R_new' (Kd.R_new' (Kd.R_new' ho52 (Z18 (Yr HO_3.out))) (Z18 (Yr HO_379000.out))) (Z18 (Yr HO_379001.out))) (Z18 (Yr HO_379003.out))) (keep_size (w := w) (g := g) (row := none) Q4))
             replace HO_3 := Ya (Kd.R_elder' (Yr HO_3.out) (Kd.R_base ho52) hb)
             replace HO_379000 := Ya (Kd.R_elder' (Yr HO_379000.out) (Kd.R_base ho52) hb)
             replace HO_379001 := Ya (Kd.R_elder' (Yr HO_379001.out) (Kd.R_base ho52) hb)
             replace HO_379003 := Ya (Kd.R_elder' (Yr HO_379003.out) (Kd.R_base ho52) hb)
             replace BK353 := Yb BK353 hb
             replace BK378 := Yb BK378 hb
             replace HK := Ya (KeepBut.trans Q4 (KeepBut.of_below hb g none) (.inl rfl))
             replace HB := Ya (Z8 Q25 hb)
             replace HI0 := Ya (IsS52.below Q24 hb)
             clear hb ho52
             refine hK.out _ _ (Yz4 BK378.out) (fun hHeld => ?_)
             clear hK K
             refine norm_ (a' := ?_) ?_ ?_
             rotate_left
             ·show Act.put _ (some 57) _ = _
              simp only [Act.put, Z0, Z1, Z2, i64_w, i32_w]
              rfl
             refine one_ (i := 5) (N := some 55) (YA 11 255) rfl rfl (one_of HT_.out (by kernel_rfl)) (by decide) (fun K hK => ?_)
             refine goes_ Try.func56 (by kernel_rfl) rfl #[.pointer (some ⟨g, 0, none⟩), .int .i64 (t354.length : Int)] (by rfl) rfl rfl Q5 ?_
             with_reducible refine (spec_l1Cur_pick.calls g s0_0 t398 t399 (t354.length : Int) t400 t401 t402 w0 _ ?side1 ?side2 A45.out).mono ?_
             (case side1 => repeat (first | (with_reducible first | exact HI0.out | apply IsS52.alloc | apply IsS52.drewN | apply IsS52.drew | apply IsS52.set_1 | apply IsS52.set_2 | refine IsS52.far ?_ NB0_353.out _ | refine IsS52.far ?_ NB0_378.out _) | exact HI0.out))
             (case side2 => repeat (first | (with_reducible first | exact HB.out | apply Z5 | apply Z3 | apply Z4 | refine Z6 ?_ (IsS52.ge HI0.out) | refine Z6 ?_ GE353.out | refine Z6 ?_ GE378.out) | exact HB.out))
             rintro e w53 ⟨rfl, hi, hb, hk⟩
             refine ⟨_, rfl, ?_⟩
             replace HO_3 := Ya (Z12 (Kd.R_keep (IsS52.apart (show IsS52 w0 _ g s0_0 t398 t399 from by repeat (first | (with_reducible first | exact HI0.out | apply IsS52.alloc | apply IsS52.drewN | apply IsS52.drew | apply IsS52.set_1 | apply IsS52.set_2 | refine IsS52.far ?_ NB0_353.out _ | refine IsS52.far ?_ NB0_378.out _) | exact HI0.out)) (Yr HO_3.out) (by decide)) hk (fun _ h => h.2)) (fun _ h => h.1))
             replace HO_379000 := Ya (Z12 (Kd.R_keep (IsS52.apart (show IsS52 w0 _ g s0_0 t398 t399 from by repeat (first | (with_reducible first | exact HI0.out | apply IsS52.alloc | apply IsS52.drewN | apply IsS52.drew | apply IsS52.set_1 | apply IsS52.set_2 | refine IsS52.far ?_ NB0_353.out _ | refine IsS52.far ?_ NB0_378.out _) | exact HI0.out)) (Yr HO_379000.out) (by decide)) hk (fun _ h => h.2)) (fun _ h => h.1))
             replace HO_379001 := Ya (Z12 (Kd.R_keep (IsS52.apart (show IsS52 w0 _ g s0_0 t398 t399 from by repeat (first | (with_reducible first | exact HI0.out | apply IsS52.alloc | apply IsS52.drewN | apply IsS52.drew | apply IsS52.set_1 | apply IsS52.set_2 | refine IsS52.far ?_ NB0_353.out _ | refine IsS52.far ?_ NB0_378.out _) | exact HI0.out)) (Yr HO_379001.out) (by decide)) hk (fun _ h => h.2)) (fun _ h => h.1))
             replace HO_379002 := Ya (Z12 (Kd.R_keep (IsS52.apart (show IsS52 w0 _ g s0_0 t398 t399 from by repeat (first | (with_reducible first | exact HI0.out | apply IsS52.alloc | apply IsS52.drewN | apply IsS52.drew | apply IsS52.set_1 | apply IsS52.set_2 | refine IsS52.far ?_ NB0_353.out _ | refine IsS52.far ?_ NB0_378.out _) | exact HI0.out)) (Yr HO_379002.out) (by decide)) hk (fun _ h => h.2)) (fun _ h => h.1))
             replace HO_379003 := Ya (Z12 (Kd.R_keep (IsS52.apart (show IsS52 w0 _ g s0_0 t398 t399 from by repeat (first | (with_reducible first | exact HI0.out | apply IsS52.alloc | apply IsS52.drewN | apply IsS52.drew | apply IsS52.set_1 | apply IsS52.set_2 | refine IsS52.far ?_ NB0_353.out _ | refine IsS52.far ?_ NB0_378.out _) | exact HI0.out)) (Yr HO_379003.out) (by decide)) hk (fun _ h => h.2)) (fun _ h => h.1))
             replace BK353 := Ya (KeepBut.blk hk (g' := gb353) (o := .cells YN4 33 (0, 0)) (Yk BK353.out) NB353_0.out (by simp))
             replace BK378 := Ya (KeepBut.blk hk (g' := gb378) (o := .cells #[u379000, u379001, u379002, u379003] 33 (0, 0)) (Yk BK378.out) NB378_0.out (by simp))
             replace HO405 := Ya (Z12 (Kd.R_keep (IsS52.apart (show IsS52 w0 _ g s0_0 t398 t399 from by repeat (first | (with_reducible first | exact HI0.out | apply IsS52.alloc | apply IsS52.drewN | apply IsS52.drew | apply IsS52.set_1 | apply IsS52.set_2 | refine IsS52.far ?_ NB0_353.out _ | refine IsS52.far ?_ NB0_378.out _) | exact HI0.out)) (Yr HO405.out) (by decide)) hk (fun _ h => h.2)) (fun _ h => h.1))
             replace HK := Ya (KeepBut.trans Q4 hk (.inl rfl))
             replace HB := Ya hb
             replace HI0 := Ya hi
             (try clear hb hk hi)
             refine hK.out _ _ (Yz4 BK378.out) (fun hHeld => ?_)
             clear hK K
             refine norm_ (a' := ?_) ?_ ?_
             rotate_left
             ·show Act.put _ (some 55) _ = _
              simp only [Act.put, Z0, Z1, Z2, i64_w, i32_w]
              rfl
             exact norm_ Q36 (hCont (v404) _ ⟨hHeld, (Yj HO405.out (fun _ hk => ⟨hk.1.1.1.2, ⟨hk.1.1.2, ⟨hk.1.2, hk.2⟩⟩⟩)), (Yj HO_3.out (fun _ hk => ⟨hk.2, ⟨hk.1.1, ⟨hk.1.2.1, hk.1.2.2⟩⟩⟩)), (Yj HO_379000.out (fun _ hk => ⟨hk.2, ⟨hk.1.1, ⟨hk.1.2.1, hk.1.2.2⟩⟩⟩)), (Yj HO_379001.out (fun _ hk => ⟨hk.2, ⟨hk.1.1, ⟨hk.1.2.1, hk.1.2.2⟩⟩⟩)), (Yr HO_379002.out), (Yj HO_379003.out (fun _ hk => ⟨hk.2, ⟨hk.1.1, ⟨hk.1.2.1, hk.1.2.2⟩⟩⟩)), (Yk BK353.out), (Yk BK378.out), Q24, Q4, Q25⟩)
           rintro v404 w54 ⟨hS_, h0_, h1_, h2_, h3_, h4_, h5_, h6_, h7_, h8_, h9_, h10_⟩
           have HO405 : Aside0 (Kd.R (Kd.int .i64) 3 w54 w.heap.size (fun k_ => some k_ ≠ (.slice Ao12 t354.length co12 : Value).ownBlock ∧ some k_ ≠ (u379000 : Value).ownBlock ∧ some k_ ≠ (u379001 : Value).ownBlock ∧ some k_ ≠ (u379003 : Value).ownBlock) v404 y403) := ⟨h0_⟩
           replace HO_3 : Aside0 (Kd.R (Kd.int .i64) 3 w54 w.heap.size (fun k_ => some k_ ≠ (v404 : Value).ownBlock ∧ some k_ ≠ (u379000 : Value).ownBlock ∧ some k_ ≠ (u379001 : Value).ownBlock ∧ some k_ ≠ (u379003 : Value).ownBlock) (.slice Ao12 t354.length co12) t354) := ⟨h1_⟩
           replace HO_379000 : Aside0 (Kd.R (Kd.int .i64) 3 w54 w.heap.size (fun k_ => some k_ ≠ (v404 : Value).ownBlock ∧ some k_ ≠ (.slice Ao12 t354.length co12 : Value).ownBlock ∧ some k_ ≠ (u379001 : Value).ownBlock ∧ some k_ ≠ (u379003 : Value).ownBlock) u379000 x379000_27) := ⟨h2_⟩
           replace HO_379001 : Aside0 (Kd.R (Kd.int .i64) 3 w54 w.heap.size (fun k_ => some k_ ≠ (v404 : Value).ownBlock ∧ some k_ ≠ (.slice Ao12 t354.length co12 : Value).ownBlock ∧ some k_ ≠ (u379000 : Value).ownBlock ∧ some k_ ≠ (u379003 : Value).ownBlock) u379001 x379001_27) := ⟨h3_⟩
           replace HO_379002 : Aside0 (Kd.R Kd.bool 4 w54 w.heap.size (fun _ => True) u379002 x379002_27) := ⟨h4_⟩
           replace HO_379003 : Aside0 (Kd.R (Kd.int .i64) 3 w54 w.heap.size (fun k_ => some k_ ≠ (v404 : Value).ownBlock ∧ some k_ ≠ (.slice Ao12 t354.length co12 : Value).ownBlock ∧ some k_ ≠ (u379000 : Value).ownBlock ∧ some k_ ≠ (u379001 : Value).ownBlock) u379003 x379003_27) := ⟨h5_⟩
           replace BK353 : Aside0 (w54.heap[gb353]? = some (.cells YN4 33 (0, 0))) := ⟨h6_⟩
           replace BK378 : Aside0 (w54.heap[gb378]? = some (.cells #[u379000, u379001, u379002, u379003] 33 (0, 0))) := ⟨h7_⟩
           replace HI0 : Aside0 (IsS52 w0 w54 g s0_0 t401 t402) := ⟨h8_⟩
           replace HK : Aside0 (KeepBut w w54 g none) := ⟨h9_⟩
           replace HB : Aside0 (Below w0.heap.size w0 w54) := ⟨h10_⟩
           clear h0_ h1_ h2_ h3_ h4_ h5_ h6_ h7_ h8_ h9_ h10_
           have hHeld : w54.cell? ⟨gb378, 0, none⟩ = some (u379000) ∧ w54.cell? ⟨gb378, 1, none⟩ = some (u379001) ∧ w54.cell? ⟨gb378, 2, none⟩ = some (u379002) ∧ w54.cell? ⟨gb378, 3, none⟩ = some (u379003) := hS_
           obtain ⟨Ao55, co55, eo55⟩ := Z19 HO405.out
           (first | subst eo55 | (injection eo55 with f1_ f2_ f3_; have f4_ := f1_.symm; have f5_ := f3_.symm; clear f1_ f2_ f3_; subst f4_; subst f5_))
           refine norm_ (a' := ?_) ?_ ?_
           rotate_left
           ·simp only [putAll, Act.put, Z0, Z1, Z2]
            rfl
           refine one_ (i := 8) (N := some 58) (YA 11 511) rfl rfl (one_of HT_.out (by kernel_rfl)) (by decide) (fun K hK => ?_)
           refine goes_ Try.func28 (by kernel_rfl) rfl #[.pointer (some ⟨g, 0, none⟩), .slice Ao55 y403.length co55] (by rfl) rfl rfl Q5 ?_
           with_reducible refine (spec_l1Cur_among.calls g s0_0 t401 t402 _ _ y403 t406 t407 t408 w0 _ ?side1 ?side2 ?side3 ?side4 ?side5 A46.out).mono ?_
           (case side1 => repeat (first | (with_reducible first | exact HI0.out | apply IsS52.alloc | apply IsS52.drewN | apply IsS52.drew | apply IsS52.set_1 | apply IsS52.set_2 | refine IsS52.far ?_ NB0_353.out _ | refine IsS52.far ?_ NB0_378.out _) | exact HI0.out))
           (case side2 => repeat (first | (with_reducible first | exact HB.out | apply Z5 | apply Z3 | apply Z4 | refine Z6 ?_ (IsS52.ge HI0.out) | refine Z6 ?_ GE353.out | refine Z6 ?_ GE378.out) | exact HB.out))
           (case side3 => exact Yc (Kd.R_reads' HO405.out).2.2)
           (case side4 => exact (Kd.R_reads' HO405.out).2.1)
           (case side5 => exact far_slice (IsS52.own_ne HI0.out HO405.out (by decide)))
           rintro e w56 ⟨rfl, hi, hb, hk⟩
           refine ⟨_, rfl, ?_⟩
           replace HO_3 := Ya (Z12 (Kd.R_keep (IsS52.apart (show IsS52 w0 _ g s0_0 t401 t402 from by repeat (first | (with_reducible first | exact HI0.out | apply IsS52.alloc | apply IsS52.drewN | apply IsS52.drew | apply IsS52.set_1 | apply IsS52.set_2 | refine IsS52.far ?_ NB0_353.out _ | refine IsS52.far ?_ NB0_378.out _) | exact HI0.out)) (Yr HO_3.out) (by decide)) hk (fun _ h => h.2)) (fun _ h => h.1))
           replace HO_379000 := Ya (Z12 (Kd.R_keep (IsS52.apart (show IsS52 w0 _ g s0_0 t401 t402 from by repeat (first | (with_reducible first | exact HI0.out | apply IsS52.alloc | apply IsS52.drewN | apply IsS52.drew | apply IsS52.set_1 | apply IsS52.set_2 | refine IsS52.far ?_ NB0_353.out _ | refine IsS52.far ?_ NB0_378.out _) | exact HI0.out)) (Yr HO_379000.out) (by decide)) hk (fun _ h => h.2)) (fun _ h => h.1))
           replace HO_379001 := Ya (Z12 (Kd.R_keep (IsS52.apart (show IsS52 w0 _ g s0_0 t401 t402 from by repeat (first | (with_reducible first | exact HI0.out | apply IsS52.alloc | apply IsS52.drewN | apply IsS52.drew | apply IsS52.set_1 | apply IsS52.set_2 | refine IsS52.far ?_ NB0_353.out _ | refine IsS52.far ?_ NB0_378.out _) | exact HI0.out)) (Yr HO_379001.out) (by decide)) hk (fun _ h => h.2)) (fun _ h => h.1))
           replace HO_379002 := Ya (Z12 (Kd.R_keep (IsS52.apart (show IsS52 w0 _ g s0_0 t401 t402 from by repeat (first | (with_reducible first | exact HI0.out | apply IsS52.alloc | apply IsS52.drewN | apply IsS52.drew | apply IsS52.set_1 | apply IsS52.set_2 | refine IsS52.far ?_ NB0_353.out _ | refine IsS52.far ?_ NB0_378.out _) | exact HI0.out)) (Yr HO_379002.out) (by decide)) hk (fun _ h => h.2)) (fun _ h => h.1))
           replace HO_379003 := Ya (Z12 (Kd.R_keep (IsS52.apart (show IsS52 w0 _ g s0_0 t401 t402 from by repeat (first | (with_reducible first | exact HI0.out | apply IsS52.alloc | apply IsS52.drewN | apply IsS52.drew | apply IsS52.set_1 | apply IsS52.set_2 | refine IsS52.far ?_ NB0_353.out _ | refine IsS52.far ?_ NB0_378.out _) | exact HI0.out)) (Yr HO_379003.out) (by decide)) hk (fun _ h => h.2)) (fun _ h => h.1))
           replace BK353 := Ya (KeepBut.blk hk (g' := gb353) (o := .cells YN4 33 (0, 0)) (Yk BK353.out) NB353_0.out (by simp))
           replace BK378 := Ya (KeepBut.blk hk (g' := gb378) (o := .cells #[u379000, u379001, u379002, u379003] 33 (0, 0)) (Yk BK378.out) NB378_0.out (by simp))
           replace HO405 := Ya (Z12 (Kd.R_keep (IsS52.apart (show IsS52 w0 _ g s0_0 t401 t402 from by repeat (first | (with_reducible first | exact HI0.out | apply IsS52.alloc | apply IsS52.drewN | apply IsS52.drew | apply IsS52.set_1 | apply IsS52.set_2 | refine IsS52.far ?_ NB0_353.out _ | refine IsS52.far ?_ NB0_378.out _) | exact HI0.out)) (Yr HO405.out) (by decide)) hk (fun _ h => h.2)) (fun _ h => h.1))
           replace HK := Ya (KeepBut.trans Q4 hk (.inl rfl))
           replace HB := Ya hb
           replace HI0 := Ya hi
           (try clear hb hk hi)
           have p49 : 0 ≤ (t400 : Int) := Z31 Q2
           have q49 : (t400 : Int) < ((x379001_27.length : Int) : Int) := Z31 Q2
           obtain ⟨go49, co49, eo49, gb49, gl49, cl49, HG49⟩ := Kd.R_form HO_379001.out (by omega)
           (first | cases eo49 | (injection eo49 with ea_ en_ ec_; (first | subst ea_ | (injection ea_ with ea_; subst ea_)); subst ec_; clear en_))
           have GB49 := Ya gb49
           have GG49 := Ya HG49
           clear gb49 gl49 HG49
           obtain ⟨hx49_0, hf49_0⟩ := Kd.R_celln 0 HO_379001.out (t400 : Int) p49 q49
           replace p49 := eq_true p49
           replace q49 := eq_true q49
           have HN0_go49 := Ya (show g ≠ go49 from by have h_ := IsS52.own_ne HI0.out HO_379001.out (by decide); intro e_; exact h_ (by rw [e_]; rfl))
           have HP57 := Kd.R_putn HO_379001.out (t400 : Int) t406
           rw [← Ny409.out] at HP57
           have HQ57 := Ya HP57
           clear HP57
           refine hK.out _ _ (Yz4 BK378.out) (fun hHeld => ?_)
           clear hK K
           refine norm_ (a' := ?_) ?_ ?_
           rotate_left
           ·show Act.put _ (some 58) _ = _
            simp only [Act.put, Z0, Z1, Z2, i64_w, i32_w]
            rfl
           refine Yp 9 (some 59) (YA 11 1023) rfl HT_.out ?_
           refine last_ (i := 10) (N := none) (YA 11 2047) rfl rfl (one_of HT_.out (by kernel_rfl)) (by decide) (fun K hK => ?_)
           refine skip_ (w1 := ?_) (by rfl) rfl ?_ ?_
           rotate_left
           ·go_simp
            rfl
           refine hK.out _ _ ?_
           clear hK K
           refine done_ (done_of HT_.out (by kernel_rfl)) ?_
           replace HO_3 : Aside0 (Kd.R (Kd.int .i64) 3 (w56.setCell ⟨go49, (t400 : Int).toNat, none⟩ (.int .i64 t406)) w.heap.size (fun k_ => some k_ ≠ (u379000 : Value).ownBlock ∧ some k_ ≠ (.slice (some ⟨go49, 0, none⟩) x379001_27.length co49 : Value).ownBlock ∧ some k_ ≠ (u379003 : Value).ownBlock ∧ some k_ ≠ (.slice Ao55 y403.length co55 : Value).ownBlock) (.slice Ao12 t354.length co12) t354) := ⟨Yj (Z13 (p := ⟨go49, (t400 : Int).toNat, none⟩) (Z12 HO_3.out (fun k_ hk => (⟨hk, fun e_ => hk.2.2.1 (by rw [e_]; rfl)⟩ : _ ∧ k_ ≠ go49))) (fun _ hk => hk.2) (.int .i64 t406)) (fun _ hk => ⟨hk.1.2.1, ⟨hk.1.2.2.1, ⟨hk.1.2.2.2, hk.1.1⟩⟩⟩)⟩
           replace HO_379000 : Aside0 (Kd.R (Kd.int .i64) 3 (w56.setCell ⟨go49, (t400 : Int).toNat, none⟩ (.int .i64 t406)) w.heap.size (fun k_ => some k_ ≠ (.slice Ao12 t354.length co12 : Value).ownBlock ∧ some k_ ≠ (.slice (some ⟨go49, 0, none⟩) x379001_27.length co49 : Value).ownBlock ∧ some k_ ≠ (u379003 : Value).ownBlock ∧ some k_ ≠ (.slice Ao55 y403.length co55 : Value).ownBlock) u379000 x379000_27) := ⟨Yj (Z13 (p := ⟨go49, (t400 : Int).toNat, none⟩) (Z12 HO_379000.out (fun k_ hk => (⟨hk, fun e_ => hk.2.2.1 (by rw [e_]; rfl)⟩ : _ ∧ k_ ≠ go49))) (fun _ hk => hk.2) (.int .i64 t406)) (fun _ hk => ⟨hk.1.2.1, ⟨hk.1.2.2.1, ⟨hk.1.2.2.2, hk.1.1⟩⟩⟩)⟩
           replace HO_379002 : Aside0 (Kd.R Kd.bool 4 (w56.setCell ⟨go49, (t400 : Int).toNat, none⟩ (.int .i64 t406)) w.heap.size (fun _ => True) u379002 x379002_27) := ⟨Yj (Z13 (p := ⟨go49, (t400 : Int).toNat, none⟩) (Z15 HO_379002.out GG49.out (by decide)) (fun _ hk => hk.2) (.int .i64 t406)) (fun _ hk => trivial)⟩
           replace HO_379003 : Aside0 (Kd.R (Kd.int .i64) 3 (w56.setCell ⟨go49, (t400 : Int).toNat, none⟩ (.int .i64 t406)) w.heap.size (fun k_ => some k_ ≠ (.slice Ao12 t354.length co12 : Value).ownBlock ∧ some k_ ≠ (u379000 : Value).ownBlock ∧ some k_ ≠ (.slice (some ⟨go49, 0, none⟩) x379001_27.length co49 : Value).ownBlock ∧ some k_ ≠ (.slice Ao55 y403.length co55 : Value).ownBlock) u379003 x379003_27) := ⟨Yj (Z13 (p := ⟨go49, (t400 : Int).toNat, none⟩) (Z12 HO_379003.out (fun k_ hk => (⟨hk, fun e_ => hk.2.2.2 (by rw [e_]; rfl)⟩ : _ ∧ k_ ≠ go49))) (fun _ hk => hk.2) (.int .i64 t406)) (fun _ hk => ⟨hk.1.2.1, ⟨hk.1.2.2.1, ⟨hk.1.2.2.2, hk.1.1⟩⟩⟩)⟩
           replace HO405 : Aside0 (Kd.R (Kd.int .i64) 3 (w56.setCell ⟨go49, (t400 : Int).toNat, none⟩ (.int .i64 t406)) w.heap.size (fun k_ => some k_ ≠ (.slice Ao12 t354.length co12 : Value).ownBlock ∧ some k_ ≠ (u379000 : Value).ownBlock ∧ some k_ ≠ (.slice (some ⟨go49, 0, none⟩) x379001_27.length co49 : Value).ownBlock ∧ some k_ ≠ (u379003 : Value).ownBlock) (.slice Ao55 y403.length co55) y403) := ⟨Yj (Z13 (p := ⟨go49, (t400 : Int).toNat, none⟩) (Z12 HO405.out (fun k_ hk => (⟨hk, fun e_ => hk.2.2.1 (by rw [e_]; rfl)⟩ : _ ∧ k_ ≠ go49))) (fun _ hk => hk.2) (.int .i64 t406)) (fun _ hk => ⟨hk.1.1, ⟨hk.1.2.1, ⟨hk.1.2.2.1, hk.1.2.2.2⟩⟩⟩)⟩
           replace BK353 : Aside0 ((w56.setCell ⟨go49, (t400 : Int).toNat, none⟩ (.int .i64 t406)).heap[gb353]? = some (.cells YN4 33 (0, 0))) := ⟨by (with_reducible repeat (first | refine Z26 ?_ _ | refine Z27 ?_ | refine Z28 ?_ _)); refine blk_far ?_ (by have h_ := Kd.R_ne HO_379001.out BK353.out (by decide); intro e_; exact h_ (by rw [e_]; rfl)) _; (with_reducible repeat (first | refine Z26 ?_ _ | refine Z27 ?_ | refine Z28 ?_ _)); exact BK353.out⟩
           replace BK378 : Aside0 ((w56.setCell ⟨go49, (t400 : Int).toNat, none⟩ (.int .i64 t406)).heap[gb378]? = some (.cells #[u379000, .slice (some ⟨go49, 0, none⟩) x379001_27.length co49, u379002, u379003] 33 (0, 0))) := ⟨by (with_reducible repeat (first | refine Z26 ?_ _ | refine Z27 ?_ | refine Z28 ?_ _)); refine blk_far ?_ (by have h_ := Kd.R_ne HO_379001.out BK378.out (by decide); intro e_; exact h_ (by rw [e_]; rfl)) _; (with_reducible repeat (first | refine Z26 ?_ _ | refine Z27 ?_ | refine Z28 ?_ _)); exact BK378.out⟩
           replace HO_379001 : Aside0 (Kd.R (Kd.int .i64) 3 (w56.setCell ⟨go49, (t400 : Int).toNat, none⟩ (.int .i64 t406)) w.heap.size (fun k_ => some k_ ≠ (.slice Ao12 t354.length co12 : Value).ownBlock ∧ some k_ ≠ (u379000 : Value).ownBlock ∧ some k_ ≠ (u379003 : Value).ownBlock ∧ some k_ ≠ (.slice Ao55 y403.length co55 : Value).ownBlock) (.slice (some ⟨go49, 0, none⟩) x379001_27.length co49) y409) := ⟨Yj HQ57.out (fun _ hk => ⟨hk.2.1, ⟨hk.2.2.1, ⟨hk.2.2.2, hk.1⟩⟩⟩)⟩
           replace HK : Aside0 (KeepBut w (w56.setCell ⟨go49, (t400 : Int).toNat, none⟩ (.int .i64 t406)) g none) := ⟨by repeat (first | (with_reducible first | exact HK.out | apply KeepBut.set_ | apply keep_drewN | apply keep_drew | apply keep_alloc | refine keep_far ?_ GB49.out _ | refine keep_far ?_ GW353.out _ | refine keep_far ?_ GW378.out _) | exact HK.out)⟩
           replace HB : Aside0 (Below w0.heap.size w0 (w56.setCell ⟨go49, (t400 : Int).toNat, none⟩ (.int .i64 t406))) := ⟨by repeat (first | (with_reducible first | exact HB.out | apply Z5 | apply Z3 | apply Z4 | refine Z6 ?_ (Nat.le_trans HL.out GB49.out) | refine Z6 ?_ (IsS52.ge HI0.out) | refine Z6 ?_ GE353.out | refine Z6 ?_ GE378.out) | exact HB.out)⟩
           replace HI0 : Aside0 (IsS52 w0 (w56.setCell ⟨go49, (t400 : Int).toNat, none⟩ (.int .i64 t406)) g s0_0 t407 t408) := ⟨by repeat (first | (with_reducible first | exact HI0.out | apply IsS52.alloc | apply IsS52.drewN | apply IsS52.drew | apply IsS52.set_1 | apply IsS52.set_2 | refine IsS52.far ?_ HN0_go49.out _ | refine IsS52.far ?_ NB0_353.out _ | refine IsS52.far ?_ NB0_378.out _) | exact HI0.out)⟩
           generalize (w56.setCell ⟨go49, (t400 : Int).toNat, none⟩ (.int .i64 t406)) = w58 at HO_3 HO_379000 HO_379001 HO_379002 HO_379003 HO405 BK353 BK378 HI0 HK HB ⊢
           have hnb59 := NB378_353.out
           have hnc59 := NB353_378.out
           have hnb60 := NB378_0.out
           have hnc60 := NB0_378.out
           obtain ⟨hcz61_0, hcz61_1, hcz61_2, hcz61_3, hfz61_0, hfz61_1, hfz61_2, hfz61_3⟩ := Y4 BK378.out
           obtain ⟨Ao62, co62, rfl⟩ := Z19 HO_379000.out
           have hnb63 := NB353_0.out
           have hnc63 := NB0_353.out
           obtain ⟨hcz64_0, hcz64_1, hcz64_2, hcz64_3, hfz64_0, hfz64_1, hfz64_2, hfz64_3⟩ := Y4 BK353.out
           obtain ⟨Ao65, co65, rfl⟩ := Z19 HO_379002.out
           obtain ⟨Ao66, co66, rfl⟩ := Z19 HO_379003.out
           try go_wp2
           refine bodyPost_ret (results_cell_row rfl _ _ gb353 33 #[.slice Ao62 x379000_27.length co62, .slice (some ⟨go49, 0, none⟩) x379001_27.length co49, .slice Ao65 x379002_27.length co65, .slice Ao66 x379003_27.length co66] (0, 0) _ rfl (Yk (Yv4 BK353.out)) Try.underlying33 rfl (by kernel_rfl)) rfl ?_
           exact ⟨_, _, _, _, Q1, Yj (Yf4 HO_379000.out BK353.out) (fun _ hk => ⟨hk.1.2.1, hk.1.2.2.1⟩), Yj (Yf4 HO_379001.out BK353.out) (fun _ hk => ⟨hk.1.2.1, hk.1.2.2.1⟩), Yj (Yf4 HO_379002.out BK353.out) (fun _ hk => trivial), Yj (Yf4 HO_379003.out BK353.out) (fun _ hk => ⟨hk.1.2.1, hk.1.2.2.1⟩), Q15, Q18, Q17⟩
          ·rw [if_neg c48] at H
           exact absurd H (by simp)
         ·rw [if_neg c47] at H
          exact absurd H (by simp)
        ·replace c44 := Bool.eq_false_iff.mpr c44
         subst c44
         have H1 : (if t397 = 1 then ((spec_l1Cur_pick.f s0_0 t398 t399 (x379003_27.length : Int)).bind fun bt410 => ((spec_l1Cur_among.f s0_0 bt410.2.1 bt410.2.2 (([0, 1, 2, (-1), 99] : List Int))).bind fun bt416 => (if 0 ≤ bt410.1 then (if bt410.1 < (x379003_27.length : Int) then (some (x379000_27, x379001_27, x379002_27, (x379003_27.set (bt410.1 : Int).toNat bt416.1), bt416.2.1, bt416.2.2)) else (none)) else (none)))) else (if t397 = 2 then (spec_l1Cur_focus.j3 kj40 t354 t397 (decide ((t354.length : Int) > 0)) s0_0 t398 t399 x379000_27 x379001_27 x379002_27 x379003_27) else (spec_l1Cur_focus.j3 kj40 t354 t397 false s0_0 t398 t399 x379000_27 x379001_27 x379002_27 x379003_27))) = some (r1, r2, r3, r4, r5, r6) := by rw [if_neg (show ¬ (false = true) by decide)] at H; exact H
         clear H
         have H := H1
         clear H1
         by_cases c67 : t397 = 1
         ·rw [if_pos c67] at H
          have c67b0 : (t397 == 1) = true := beq_iff_eq.mpr c67
          have c67b1 : (t397 != 1) = false := bne_eq_false_iff_eq.mpr c67
          clear c67
          replace H := Z37.mp H
          obtain ⟨⟨t410, t411, t412⟩, A680, H⟩ := H
          replace H : ((spec_l1Cur_among.f s0_0 t411 t412 (([0, 1, 2, (-1), 99] : List Int))).bind fun bt416 => (if 0 ≤ t410 then (if t410 < (x379003_27.length : Int) then (some (x379000_27, x379001_27, x379002_27, (x379003_27.set (t410 : Int).toNat bt416.1), bt416.2.1, bt416.2.2)) else (none)) else (none))) = some (r1, r2, r3, r4, r5, r6) := H
          have A68 := Ya A680
          clear A680
          obtain ⟨y413, hy413⟩ : ∃ y_ : List Int, y_ = (([0, 1, 2, (-1), 99] : List Int)) := ⟨_, rfl⟩
          replace H : ((spec_l1Cur_among.f s0_0 t411 t412 y413).bind fun bt416 => (if 0 ≤ t410 then (if t410 < (x379003_27.length : Int) then (some (x379000_27, x379001_27, x379002_27, (x379003_27.set (t410 : Int).toNat bt416.1), bt416.2.1, bt416.2.2)) else (none)) else (none))) = some (r1, r2, r3, r4, r5, r6) := by first | (rw [hy413]; with_reducible exact H) | (have H2_ := (Option.bind_some _ _).symm.trans H; rw [hy413]; with_reducible exact H2_) | (have H2_ := (Option.bind_some _ _).symm.trans H; with_reducible exact H2_) | with_reducible exact H | (rw [hy413]; exact H) | exact H
          have Ny413 := Ya hy413
          clear hy413
          replace H := Z37.mp H
          obtain ⟨⟨t416, t417, t418⟩, A690, H⟩ := H
          replace H : (if 0 ≤ t410 then (if t410 < (x379003_27.length : Int) then (some (x379000_27, x379001_27, x379002_27, (x379003_27.set (t410 : Int).toNat t416), t417, t418)) else (none)) else (none)) = some (r1, r2, r3, r4, r5, r6) := H
          have A69 := Ya A690
          clear A690
          by_cases c70 : 0 ≤ t410
          ·rw [if_pos c70] at H
           have c70b0 := Z39 c70
           clear c70
           by_cases c71 : t410 < (x379003_27.length : Int)
           ·rw [if_pos c71] at H
            have c71b0 := Z39 c71
            clear c71
            obtain ⟨y419, hy419⟩ : ∃ y_ : List Int, y_ = (x379003_27.set (t410 : Int).toNat t416) := ⟨_, rfl⟩
            replace H : (some (x379000_27, x379001_27, x379002_27, y419, t417, t418)) = some (r1, r2, r3, r4, r5, r6) := by first | (rw [hy419]; with_reducible exact H) | (have H2_ := (Option.bind_some _ _).symm.trans H; rw [hy419]; with_reducible exact H2_) | (have H2_ := (Option.bind_some _ _).symm.trans H; with_reducible exact H2_) | with_reducible exact H | (rw [hy419]; exact H) | exact H
            have Ny419 := Ya hy419
            clear hy419
            simp only [Option.some.injEq, Prod.mk.injEq] at H
            obtain ⟨rfl, rfl, rfl, rfl, rfl, rfl⟩ := H
            try go_wp2
            replace HO_3 := Ya (Z11 HO_3.out)
            replace HO_379000 := Ya (Z11 HO_379000.out)
            replace HO_379001 := Ya (Z11 HO_379001.out)
            replace HO_379002 := Ya (Z11 HO_379002.out)
            replace HO_379003 := Ya (Z11 HO_379003.out)
            replace BK353 := Ya (Z27 BK353.out)
            replace BK378 := Ya (Z27 BK378.out)
            replace HI0 := Ya (IsS52.drew HI0.out)
            replace HK := Ya (keep_drew HK.out)
            replace HB := Ya (Z4 HB.out)
            obtain ⟨Ao74, co74, eo74⟩ := Z19 HO_379003.out
            (first | subst eo74 | (injection eo74 with f1_ f2_ f3_; have f4_ := f1_.symm; have f5_ := f3_.symm; clear f1_ f2_ f3_; subst f4_; subst f5_))
            refine start_ (n := 12) (S := fun w' => w'.cell? ⟨gb378, 0, none⟩ = some (u379000) ∧ w'.cell? ⟨gb378, 1, none⟩ = some (u379001) ∧ w'.cell? ⟨gb378, 2, none⟩ = some (u379002) ∧ w'.cell? ⟨gb378, 3, none⟩ = some (.slice Ao74 x379003_27.length co74)) (ds := [11]) (YA 12 0) (by kernel_rfl) rfl rfl (Yz4 BK378.out) (fun hHeld => ?_); refine with_tabW spec_l1Cur_focus.tab11 spec_l1Cur_focus.bits11 (fun HT_ HW_ => ?_)
            generalize wc.drew = w73 at HO_3 HO_379000 HO_379001 HO_379002 HO_379003 BK353 BK378 HI0 HK HB hHeld ⊢
            refine Yp 0 (some 63) (YA 12 1) rfl HT_.out ?_
            refine Yp 2 (some 65) (YA 12 5) rfl HT_.out ?_
            refine Yp 3 (some 66) (YA 12 13) rfl HT_.out ?_
            refine Yp 7 (some 70) (YA 12 141) rfl HT_.out ?_
            refine Yt 1 (some 64) (YA 12 143) rfl HT_.out HW_.out hHeld Q8 ?_
            refine Yt 4 (some 67) (YA 12 159) rfl HT_.out HW_.out hHeld Q8 ?_
            refine Yp 5 (some 68) (YA 12 191) rfl HT_.out ?_
            refine join_ (σ := Value) 3 (YA 12 511) (fun s_ => [(69, .int .i64 t410), (71, s_)]) (fun s_ w' => (w'.cell? ⟨gb378, 0, none⟩ = some (u379000) ∧ w'.cell? ⟨gb378, 1, none⟩ = some (u379001) ∧ w'.cell? ⟨gb378, 2, none⟩ = some (u379002) ∧ w'.cell? ⟨gb378, 3, none⟩ = some (.slice Ao74 x379003_27.length co74)) ∧ (Kd.R (Kd.int .i64) 3 w' w.heap.size (fun k_ => some k_ ≠ (.slice Ao12 t354.length co12 : Value).ownBlock ∧ some k_ ≠ (u379000 : Value).ownBlock ∧ some k_ ≠ (u379001 : Value).ownBlock ∧ some k_ ≠ (.slice Ao74 x379003_27.length co74 : Value).ownBlock) s_ y413) ∧ (Kd.R (Kd.int .i64) 3 w' w.heap.size (fun k_ => some k_ ≠ (s_ : Value).ownBlock ∧ some k_ ≠ (u379000 : Value).ownBlock ∧ some k_ ≠ (u379001 : Value).ownBlock ∧ some k_ ≠ (.slice Ao74 x379003_27.length co74 : Value).ownBlock) (.slice Ao12 t354.length co12) t354) ∧ (Kd.R (Kd.int .i64) 3 w' w.heap.size (fun k_ => some k_ ≠ (s_ : Value).ownBlock ∧ some k_ ≠ (.slice Ao12 t354.length co12 : Value).ownBlock ∧ some k_ ≠ (u379001 : Value).ownBlock ∧ some k_ ≠ (.slice Ao74 x379003_27.length co74 : Value).ownBlock) u379000 x379000_27) ∧ (Kd.R (Kd.int .i64) 3 w' w.heap.size (fun k_ => some k_ ≠ (s_ : Value).ownBlock ∧ some k_ ≠ (.slice Ao12 t354.length co12 : Value).ownBlock ∧ some k_ ≠ (u379000 : Value).ownBlock ∧ some k_ ≠ (.slice Ao74 x379003_27.length co74 : Value).ownBlock) u379001 x379001_27) ∧ (Kd.R Kd.bool 4 w' w.heap.size (fun _ => True) u379002 x379002_27) ∧ (Kd.R (Kd.int .i64) 3 w' w.heap.size (fun k_ => some k_ ≠ (s_ : Value).ownBlock ∧ some k_ ≠ (.slice Ao12 t354.length co12 : Value).ownBlock ∧ some k_ ≠ (u379000 : Value).ownBlock ∧ some k_ ≠ (u379001 : Value).ownBlock) (.slice Ao74 x379003_27.length co74) x379003_27) ∧ (w'.heap[gb353]? = some (.cells YN4 33 (0, 0))) ∧ (w'.heap[gb378]? = some (.cells #[u379000, u379001, u379002, .slice Ao74 x379003_27.length co74] 33 (0, 0))) ∧ (IsS52 w0 w' g s0_0 t411 t412) ∧ (KeepBut w w' g none) ∧ (Below w0.heap.size w0 w')) ?_ ?_
            rotate_left
            ·intro hCont
             refine two_ (i := 6) (j := 8) (Ni := some 69) (Nj := some 71) (YA 12 255) (YA 12 447) rfl rfl rfl rfl (two_of HT_.out (by kernel_rfl)) (by decide) (by decide) (fun K hK => ?_) (fun K hK => ?_)
             ·skip
              refine goes_ Try.func56 (by kernel_rfl) rfl #[.pointer (some ⟨g, 0, none⟩), .int .i64 (x379003_27.length : Int)] (by rfl) rfl rfl Q5 ?_
              with_reducible refine (spec_l1Cur_pick.calls g s0_0 t398 t399 (x379003_27.length : Int) t410 t411 t412 w0 _ ?side1 ?side2 A68.out).mono ?_
              (case side1 => repeat (first | (with_reducible first | exact HI0.out | apply IsS52.alloc | apply IsS52.drewN | apply IsS52.drew | apply IsS52.set_1 | apply IsS52.set_2 | refine IsS52.far ?_ NB0_353.out _ | refine IsS52.far ?_ NB0_378.out _) | exact HI0.out))
              (case side2 => repeat (first | (with_reducible first | exact HB.out | apply Z5 | apply Z3 | apply Z4 | refine Z6 ?_ (IsS52.ge HI0.out) | refine Z6 ?_ GE353.out | refine Z6 ?_ GE378.out) | exact HB.out))
              rintro e w75 ⟨rfl, hi, hb, hk⟩
              refine ⟨_, rfl, ?_⟩
              replace HO_3 := Ya (Z12 (Kd.R_keep (IsS52.apart (show IsS52 w0 _ g s0_0 t398 t399 from by repeat (first | (with_reducible first | exact HI0.out | apply IsS52.alloc | apply IsS52.drewN | apply IsS52.drew | apply IsS52.set_1 | apply IsS52.set_2 | refine IsS52.far ?_ NB0_353.out _ | refine IsS52.far ?_ NB0_378.out _) | exact HI0.out)) (Yr HO_3.out) (by decide)) hk (fun _ h => h.2)) (fun _ h => h.1))
              replace HO_379000 := Ya (Z12 (Kd.R_keep (IsS52.apart (show IsS52 w0 _ g s0_0 t398 t399 from by repeat (first | (with_reducible first | exact HI0.out | apply IsS52.alloc | apply IsS52.drewN | apply IsS52.drew | apply IsS52.set_1 | apply IsS52.set_2 | refine IsS52.far ?_ NB0_353.out _ | refine IsS52.far ?_ NB0_378.out _) | exact HI0.out)) (Yr HO_379000.out) (by decide)) hk (fun _ h => h.2)) (fun _ h => h.1))
              replace HO_379001 := Ya (Z12 (Kd.R_keep (IsS52.apart (show IsS52 w0 _ g s0_0 t398 t399 from by repeat (first | (with_reducible first | exact HI0.out | apply IsS52.alloc | apply IsS52.drewN | apply IsS52.drew | apply IsS52.set_1 | apply IsS52.set_2 | refine IsS52.far ?_ NB0_353.out _ | refine IsS52.far ?_ NB0_378.out _) | exact HI0.out)) (Yr HO_379001.out) (by decide)) hk (fun _ h => h.2)) (fun _ h => h.1))
              replace HO_379002 := Ya (Z12 (Kd.R_keep (IsS52.apart (show IsS52 w0 _ g s0_0 t398 t399 from by repeat (first | (with_reducible first | exact HI0.out | apply IsS52.alloc | apply IsS52.drewN | apply IsS52.drew | apply IsS52.set_1 | apply IsS52.set_2 | refine IsS52.far ?_ NB0_353.out _ | refine IsS52.far ?_ NB0_378.out _) | exact HI0.out)) (Yr HO_379002.out) (by decide)) hk (fun _ h => h.2)) (fun _ h => h.1))
              replace HO_379003 := Ya (Z12 (Kd.R_keep (IsS52.apart (show IsS52 w0 _ g s0_0 t398 t399 from by repeat (first | (with_reducible first | exact HI0.out | apply IsS52.alloc | apply IsS52.drewN | apply IsS52.drew | apply IsS52.set_1 | apply IsS52.set_2 | refine IsS52.far ?_ NB0_353.out _ | refine IsS52.far ?_ NB0_378.out _) | exact HI0.out)) (Yr HO_379003.out) (by decide)) hk (fun _ h => h.2)) (fun _ h => h.1))
              replace BK353 := Ya (KeepBut.blk hk (g' := gb353) (o := .cells YN4 33 (0, 0)) (Yk BK353.out) NB353_0.out (by simp))
              replace BK378 := Ya (KeepBut.blk hk (g' := gb378) (o := .cells #[u379000, u379001, u379002, .slice Ao74 x379003_27.length co74] 33 (0, 0)) (Yk BK378.out) NB378_0.out (by simp))
              replace HK := Ya (KeepBut.trans Q4 hk (.inl rfl))
              replace HB := Ya hb
              replace HI0 := Ya hi
              (try clear hb hk hi)
              refine hK.out _ _ (Yz4 BK378.out) (fun hHeld => ?_)
              clear hK K
              refine norm_ (a' := ?_) ?_ ?_
              rotate_left
              ·show Act.put _ (some 69) _ = _
               simp only [Act.put, Z0, Z1, Z2, i64_w, i32_w]
               rfl
              refine one_ (i := 8) (N := some 71) (YA 12 511) rfl rfl (one_of HT_.out (by kernel_rfl)) (by decide) (fun K hK => ?_)
              refine Kd.R_lit_step (Kd.int .i64) _ 3 ?hg (N := 71) ?hd (xs := ([0, 1, 2, (-1), 99] : List Int)) (inner := [.int .i64 0, .int .i64 1, .int .i64 2, .int .i64 (-1), .int .i64 99]) (ok := fun _ => True) (okp := fun _ => True) ?hr ?hp (fun _ hk => hk) trivial (Below.refl _ _) (Nat.le_refl _) (by simp) ?_; (case hd => rfl); (case hg => rfl); (case hr => first | (go_simp; done) | (go_simp; rfl)); (case hp => exact (Reps.one (show Kd.M (Kd.int .i64) _ _ _ 0 [.int .i64 0] from rfl) (Reps.one (show Kd.M (Kd.int .i64) _ _ _ 1 [.int .i64 1] from rfl) (Reps.one (show Kd.M (Kd.int .i64) _ _ _ 2 [.int .i64 2] from rfl) (Reps.one (show Kd.M (Kd.int .i64) _ _ _ (-1) [.int .i64 (-1)] from rfl) (Reps.one (show Kd.M (Kd.int .i64) _ _ _ 99 [.int .i64 99] from rfl) (Reps.none _ _)))))))
              intro v414 w76 ho77 hb hg_ hnew_
              clear hg_ hnew_
              (first | rw [← Ny413.out] at ho77 | (simp only [Int.reduceToNat] at ho77; rw [← Ny413.out] at ho77))
              replace HO_379002 := Yw HO_379002 hb
              have HO415 := Ya (Kd.R_lower (Kd.R_new' (Kd.R_new' (Kd.R_new' (Kd.R_new' ho77 (Z18 (Yr HO_3.out))) (Z18 (Yr HO_379000.out))) (Z18 (Yr HO_379001.out))) (Z18 (Yr HO_379003.out))) (keep_size (w := w) (g := g) (row := none) Q4))
              replace HO_3 := Ya (Kd.R_elder' (Yr HO_3.out) (Kd.R_base ho77) hb)
              replace HO_379000 := Ya (Kd.R_elder' (Yr HO_379000.out) (Kd.R_base ho77) hb)
              replace HO_379001 := Ya (Kd.R_elder' (Yr HO_379001.out) (Kd.R_base ho77) hb)
              replace HO_379003 := Ya (Kd.R_elder' (Yr HO_379003.out) (Kd.R_base ho77) hb)
              replace BK353 := Yb BK353 hb
              replace BK378 := Yb BK378 hb
              replace HK := Ya (KeepBut.trans Q4 (KeepBut.of_below hb g none) (.inl rfl))
              replace HB := Ya (Z8 Q25 hb)
              replace HI0 := Ya (IsS52.below Q24 hb)
              clear hb ho77
              refine hK.out _ _ (Yz4 BK378.out) (fun hHeld => ?_)
              clear hK K
              refine norm_ (a' := ?_) ?_ ?_
              rotate_left
              ·show Act.put _ (some 71) _ = _
               simp only [Act.put, Z0, Z1, Z2, i64_w, i32_w]
               rfl
              exact norm_ Q36 (hCont (v414) _ ⟨hHeld, (Yj HO415.out (fun _ hk => ⟨hk.1.1.1.2, ⟨hk.1.1.2, ⟨hk.1.2, hk.2⟩⟩⟩)), (Yj HO_3.out (fun _ hk => ⟨hk.2, ⟨hk.1.1, ⟨hk.1.2.1, hk.1.2.2⟩⟩⟩)), (Yj HO_379000.out (fun _ hk => ⟨hk.2, ⟨hk.1.1, ⟨hk.1.2.1, hk.1.2.2⟩⟩⟩)), (Yj HO_379001.out (fun _ hk => ⟨hk.2, ⟨hk.1.1, ⟨hk.1.2.1, hk.1.2.2⟩⟩⟩)), (Yr HO_379002.out), (Yj HO_379003.out (fun _ hk => ⟨hk.2, ⟨hk.1.1, ⟨hk.1.2.1, hk.1.2.2⟩⟩⟩)), (Yk BK353.out), (Yk BK378.out), Q24, Q4, Q25⟩)
             ·skip
              refine Kd.R_lit_step (Kd.int .i64) _ 3 ?hg (N := 71) ?hd (xs := ([0, 1, 2, (-1), 99] : List Int)) (inner := [.int .i64 0, .int .i64 1, .int .i64 2, .int .i64 (-1), .int .i64 99]) (ok := fun _ => True) (okp := fun _ => True) ?hr ?hp (fun _ hk => hk) trivial (Below.refl _ _) (Nat.le_refl _) (by simp) ?_; (case hd => rfl); (case hg => rfl); (case hr => first | (go_simp; done) | (go_simp; rfl)); (case hp => exact (Reps.one (show Kd.M (Kd.int .i64) _ _ _ 0 [.int .i64 0] from rfl) (Reps.one (show Kd.M (Kd.int .i64) _ _ _ 1 [.int .i64 1] from rfl) (Reps.one (show Kd.M (Kd.int .i64) _ _ _ 2 [.int .i64 2] from rfl) (Reps.one (show Kd.M (Kd.int .i64) _ _ _ (-1) [.int .i64 (-1)] from rfl) (Reps.one (show Kd.M (Kd.int .i64) _ _ _ 99 [.int .i64 99] from rfl) (Reps.none _ _)))))))
              intro v414 w75 ho76 hb hg_ hnew_
              clear hg_ hnew_
              (first | rw [← Ny413.out] at ho76 | (simp only [Int.reduceToNat] at ho76; rw [← Ny413.out] at ho76))
              replace HO_379002 := Yw HO_379002 hb
              have HO415 := Ya (Kd.R_lower (Kd.R_new' (Kd.R_new' (Kd.R_new' (Kd.R_new' ho76 (Z18 (Yr HO_3.out))) (Z18 (Yr HO_379000.out))) (Z18 (Yr HO_379001.out))) (Z18 (Yr HO_379003.out))) (keep_size (w := w) (g := g) (row := none) Q4))
              replace HO_3 := Ya (Kd.R_elder' (Yr HO_3.out) (Kd.R_base ho76) hb)
              replace HO_379000 := Ya (Kd.R_elder' (Yr HO_379000.out) (Kd.R_base ho76) hb)
              replace HO_379001 := Ya (Kd.R_elder' (Yr HO_379001.out) (Kd.R_base ho76) hb)
              replace HO_379003 := Ya (Kd.R_elder' (Yr HO_379003.out) (Kd.R_base ho76) hb)
              replace BK353 := Yb BK353 hb
              replace BK378 := Yb BK378 hb
              replace HK := Ya (KeepBut.trans Q4 (KeepBut.of_below hb g none) (.inl rfl))
              replace HB := Ya (Z8 Q25 hb)
              replace HI0 := Ya (IsS52.below Q24 hb)
              clear hb ho76
              refine hK.out _ _ (Yz4 BK378.out) (fun hHeld => ?_)
              clear hK K
              refine norm_ (a' := ?_) ?_ ?_
              rotate_left
              ·show Act.put _ (some 71) _ = _
               simp only [Act.put, Z0, Z1, Z2, i64_w, i32_w]
               rfl
              refine one_ (i := 6) (N := some 69) (YA 12 511) rfl rfl (one_of HT_.out (by kernel_rfl)) (by decide) (fun K hK => ?_)
              refine goes_ Try.func56 (by kernel_rfl) rfl #[.pointer (some ⟨g, 0, none⟩), .int .i64 (x379003_27.length : Int)] (by rfl) rfl rfl Q5 ?_
              with_reducible refine (spec_l1Cur_pick.calls g s0_0 t398 t399 (x379003_27.length : Int) t410 t411 t412 w0 _ ?side1 ?side2 A68.out).mono ?_
              (case side1 => repeat (first | (with_reducible first | exact HI0.out | apply IsS52.alloc | apply IsS52.drewN | apply IsS52.drew | apply IsS52.set_1 | apply IsS52.set_2 | refine IsS52.far ?_ NB0_353.out _ | refine IsS52.far ?_ NB0_378.out _) | exact HI0.out))
              (case side2 => repeat (first | (with_reducible first | exact HB.out | apply Z5 | apply Z3 | apply Z4 | refine Z6 ?_ (IsS52.ge HI0.out) | refine Z6 ?_ GE353.out | refine Z6 ?_ GE378.out) | exact HB.out))
              rintro e w77 ⟨rfl, hi, hb, hk⟩
              refine ⟨_, rfl, ?_⟩
              replace HO_3 := Ya (Z12 (Kd.R_keep (IsS52.apart (show IsS52 w0 _ g s0_0 t398 t399 from by repeat (first | (with_reducible first | exact HI0.out | apply IsS52.alloc | apply IsS52.drewN | apply IsS52.drew | apply IsS52.set_1 | apply IsS52.set_2 | refine IsS52.far ?_ NB0_353.out _ | refine IsS52.far ?_ NB0_378.out _) | exact HI0.out)) (Yr HO_3.out) (by decide)) hk (fun _ h => h.2)) (fun _ h => h.1))
              replace HO_379000 := Ya (Z12 (Kd.R_keep (IsS52.apart (show IsS52 w0 _ g s0_0 t398 t399 from by repeat (first | (with_reducible first | exact HI0.out | apply IsS52.alloc | apply IsS52.drewN | apply IsS52.drew | apply IsS52.set_1 | apply IsS52.set_2 | refine IsS52.far ?_ NB0_353.out _ | refine IsS52.far ?_ NB0_378.out _) | exact HI0.out)) (Yr HO_379000.out) (by decide)) hk (fun _ h => h.2)) (fun _ h => h.1))
              replace HO_379001 := Ya (Z12 (Kd.R_keep (IsS52.apart (show IsS52 w0 _ g s0_0 t398 t399 from by repeat (first | (with_reducible first | exact HI0.out | apply IsS52.alloc | apply IsS52.drewN | apply IsS52.drew | apply IsS52.set_1 | apply IsS52.set_2 | refine IsS52.far ?_ NB0_353.out _ | refine IsS52.far ?_ NB0_378.out _) | exact HI0.out)) (Yr HO_379001.out) (by decide)) hk (fun _ h => h.2)) (fun _ h => h.1))
              replace HO_379002 := Ya (Z12 (Kd.R_keep (IsS52.apart (show IsS52 w0 _ g s0_0 t398 t399 from by repeat (first | (with_reducible first | exact HI0.out | apply IsS52.alloc | apply IsS52.drewN | apply IsS52.drew | apply IsS52.set_1 | apply IsS52.set_2 | refine IsS52.far ?_ NB0_353.out _ | refine IsS52.far ?_ NB0_378.out _) | exact HI0.out)) (Yr HO_379002.out) (by decide)) hk (fun _ h => h.2)) (fun _ h => h.1))
              replace HO_379003 := Ya (Z12 (Kd.R_keep (IsS52.apart (show IsS52 w0 _ g s0_0 t398 t399 from by repeat (first | (with_reducible first | exact HI0.out | apply IsS52.alloc | apply IsS52.drewN | apply IsS52.drew | apply IsS52.set_1 | apply IsS52.set_2 | refine IsS52.far ?_ NB0_353.out _ | refine IsS52.far ?_ NB0_378.out _) | exact HI0.out)) (Yr HO_379003.out) (by decide)) hk (fun _ h => h.2)) (fun _ h => h.1))
              replace BK353 := Ya (KeepBut.blk hk (g' := gb353) (o := .cells YN4 33 (0, 0)) (Yk BK353.out) NB353_0.out (by simp))
              replace BK378 := Ya (KeepBut.blk hk (g' := gb378) (o := .cells #[u379000, u379001, u379002, .slice Ao74 x379003_27.length co74] 33 (0, 0)) (Yk BK378.out) NB378_0.out (by simp))
              replace HO415 := Ya (Z12 (Kd.R_keep (IsS52.apart (show IsS52 w0 _ g s0_0 t398 t399 from by repeat (first | (with_reducible first | exact HI0.out | apply IsS52.alloc | apply IsS52.drewN | apply IsS52.drew | apply IsS52.set_1 | apply IsS52.set_2 | refine IsS52.far ?_ NB0_353.out _ | refine IsS52.far ?_ NB0_378.out _) | exact HI0.out)) (Yr HO415.out) (by decide)) hk (fun _ h => h.2)) (fun _ h => h.1))
              replace HK := Ya (KeepBut.trans Q4 hk (.inl rfl))
              replace HB := Ya hb
              replace HI0 := Ya hi
              (try clear hb hk hi)
              refine hK.out _ _ (Yz4 BK378.out) (fun hHeld => ?_)
              clear hK K
              refine norm_ (a' := ?_) ?_ ?_
              rotate_left
              ·show Act.put _ (some 69) _ = _
               simp only [Act.put, Z0, Z1, Z2, i64_w, i32_w]
               rfl
              exact norm_ Q36 (hCont (v414) _ ⟨hHeld, (Yj HO415.out (fun _ hk => ⟨hk.1.1.1.2, ⟨hk.1.1.2, ⟨hk.1.2, hk.2⟩⟩⟩)), (Yj HO_3.out (fun _ hk => ⟨hk.2, ⟨hk.1.1, ⟨hk.1.2.1, hk.1.2.2⟩⟩⟩)), (Yj HO_379000.out (fun _ hk => ⟨hk.2, ⟨hk.1.1, ⟨hk.1.2.1, hk.1.2.2⟩⟩⟩)), (Yj HO_379001.out (fun _ hk => ⟨hk.2, ⟨hk.1.1, ⟨hk.1.2.1, hk.1.2.2⟩⟩⟩)), (Yr HO_379002.out), (Yj HO_379003.out (fun _ hk => ⟨hk.2, ⟨hk.1.1, ⟨hk.1.2.1, hk.1.2.2⟩⟩⟩)), (Yk BK353.out), (Yk BK378.out), Q24, Q4, Q25⟩)
            rintro v414 w78 ⟨hS_, h0_, h1_, h2_, h3_, h4_, h5_, h6_, h7_, h8_, h9_, h10_⟩
            have HO415 : Aside0 (Kd.R (Kd.int .i64) 3 w78 w.heap.size (fun k_ => some k_ ≠ (.slice Ao12 t354.length co12 : Value).ownBlock ∧ some k_ ≠ (u379000 : Value).ownBlock ∧ some k_ ≠ (u379001 : Value).ownBlock ∧ some k_ ≠ (.slice Ao74 x379003_27.length co74 : Value).ownBlock) v414 y413) := ⟨h0_⟩
            replace HO_3 : Aside0 (Kd.R (Kd.int .i64) 3 w78 w.heap.size (fun k_ => some k_ ≠ (v414 : Value).ownBlock ∧ some k_ ≠ (u379000 : Value).ownBlock ∧ some k_ ≠ (u379001 : Value).ownBlock ∧ some k_ ≠ (.slice Ao74 x379003_27.length co74 : Value).ownBlock) (.slice Ao12 t354.length co12) t354) := ⟨h1_⟩
            replace HO_379000 : Aside0 (Kd.R (Kd.int .i64) 3 w78 w.heap.size (fun k_ => some k_ ≠ (v414 : Value).ownBlock ∧ some k_ ≠ (.slice Ao12 t354.length co12 : Value).ownBlock ∧ some k_ ≠ (u379001 : Value).ownBlock ∧ some k_ ≠ (.slice Ao74 x379003_27.length co74 : Value).ownBlock) u379000 x379000_27) := ⟨h2_⟩
            replace HO_379001 : Aside0 (Kd.R (Kd.int .i64) 3 w78 w.heap.size (fun k_ => some k_ ≠ (v414 : Value).ownBlock ∧ some k_ ≠ (.slice Ao12 t354.length co12 : Value).ownBlock ∧ some k_ ≠ (u379000 : Value).ownBlock ∧ some k_ ≠ (.slice Ao74 x379003_27.length co74 : Value).ownBlock) u379001 x379001_27) := ⟨h3_⟩
            replace HO_379002 : Aside0 (Kd.R Kd.bool 4 w78 w.heap.size (fun _ => True) u379002 x379002_27) := ⟨h4_⟩
            replace HO_379003 : Aside0 (Kd.R (Kd.int .i64) 3 w78 w.heap.size (fun k_ => some k_ ≠ (v414 : Value).ownBlock ∧ some k_ ≠ (.slice Ao12 t354.length co12 : Value).ownBlock ∧ some k_ ≠ (u379000 : Value).ownBlock ∧ some k_ ≠ (u379001 : Value).ownBlock) (.slice Ao74 x379003_27.length co74) x379003_27) := ⟨h5_⟩
            replace BK353 : Aside0 (w78.heap[gb353]? = some (.cells YN4 33 (0, 0))) := ⟨h6_⟩
            replace BK378 : Aside0 (w78.heap[gb378]? = some (.cells #[u379000, u379001, u379002, .slice Ao74 x379003_27.length co74] 33 (0, 0))) := ⟨h7_⟩
            replace HI0 : Aside0 (IsS52 w0 w78 g s0_0 t411 t412) := ⟨h8_⟩
            replace HK : Aside0 (KeepBut w w78 g none) := ⟨h9_⟩
            replace HB : Aside0 (Below w0.heap.size w0 w78) := ⟨h10_⟩
            clear h0_ h1_ h2_ h3_ h4_ h5_ h6_ h7_ h8_ h9_ h10_
            have hHeld : w78.cell? ⟨gb378, 0, none⟩ = some (u379000) ∧ w78.cell? ⟨gb378, 1, none⟩ = some (u379001) ∧ w78.cell? ⟨gb378, 2, none⟩ = some (u379002) ∧ w78.cell? ⟨gb378, 3, none⟩ = some (.slice Ao74 x379003_27.length co74) := hS_
            obtain ⟨Ao79, co79, eo79⟩ := Z19 HO415.out
            (first | subst eo79 | (injection eo79 with f1_ f2_ f3_; have f4_ := f1_.symm; have f5_ := f3_.symm; clear f1_ f2_ f3_; subst f4_; subst f5_))
            refine norm_ (a' := ?_) ?_ ?_
            rotate_left
            ·simp only [putAll, Act.put, Z0, Z1, Z2]
             rfl
            refine one_ (i := 9) (N := some 72) (YA 12 1023) rfl rfl (one_of HT_.out (by kernel_rfl)) (by decide) (fun K hK => ?_)
            refine goes_ Try.func28 (by kernel_rfl) rfl #[.pointer (some ⟨g, 0, none⟩), .slice Ao79 y413.length co79] (by rfl) rfl rfl Q5 ?_
            with_reducible refine (spec_l1Cur_among.calls g s0_0 t411 t412 _ _ y413 t416 t417 t418 w0 _ ?side1 ?side2 ?side3 ?side4 ?side5 A69.out).mono ?_
            (case side1 => repeat (first | (with_reducible first | exact HI0.out | apply IsS52.alloc | apply IsS52.drewN | apply IsS52.drew | apply IsS52.set_1 | apply IsS52.set_2 | refine IsS52.far ?_ NB0_353.out _ | refine IsS52.far ?_ NB0_378.out _) | exact HI0.out))
            (case side2 => repeat (first | (with_reducible first | exact HB.out | apply Z5 | apply Z3 | apply Z4 | refine Z6 ?_ (IsS52.ge HI0.out) | refine Z6 ?_ GE353.out | refine Z6 ?_ GE378.out) | exact HB.out))
            (case side3 => exact Yc (Kd.R_reads' HO415.out).2.2)
            (case side4 => exact (Kd.R_reads' HO415.out).2.1)
            (case side5 => exact far_slice (IsS52.own_ne HI0.out HO415.out (by decide)))
            rintro e w80 ⟨rfl, hi, hb, hk⟩
            refine ⟨_, rfl, ?_⟩
            replace HO_3 := Ya (Z12 (Kd.R_keep (IsS52.apart (show IsS52 w0 _ g s0_0 t411 t412 from by repeat (first | (with_reducible first | exact HI0.out | apply IsS52.alloc | apply IsS52.drewN | apply IsS52.drew | apply IsS52.set_1 | apply IsS52.set_2 | refine IsS52.far ?_ NB0_353.out _ | refine IsS52.far ?_ NB0_378.out _) | exact HI0.out)) (Yr HO_3.out) (by decide)) hk (fun _ h => h.2)) (fun _ h => h.1))
            replace HO_379000 := Ya (Z12 (Kd.R_keep (IsS52.apart (show IsS52 w0 _ g s0_0 t411 t412 from by repeat (first | (with_reducible first | exact HI0.out | apply IsS52.alloc | apply IsS52.drewN | apply IsS52.drew | apply IsS52.set_1 | apply IsS52.set_2 | refine IsS52.far ?_ NB0_353.out _ | refine IsS52.far ?_ NB0_378.out _) | exact HI0.out)) (Yr HO_379000.out) (by decide)) hk (fun _ h => h.2)) (fun _ h => h.1))
            replace HO_379001 := Ya (Z12 (Kd.R_keep (IsS52.apart (show IsS52 w0 _ g s0_0 t411 t412 from by repeat (first | (with_reducible first | exact HI0.out | apply IsS52.alloc | apply IsS52.drewN | apply IsS52.drew | apply IsS52.set_1 | apply IsS52.set_2 | refine IsS52.far ?_ NB0_353.out _ | refine IsS52.far ?_ NB0_378.out _) | exact HI0.out)) (Yr HO_379001.out) (by decide)) hk (fun _ h => h.2)) (fun _ h => h.1))
            replace HO_379002 := Ya (Z12 (Kd.R_keep (IsS52.apart (show IsS52 w0 _ g s0_0 t411 t412 from by repeat (first | (with_reducible first | exact HI0.out | apply IsS52.alloc | apply IsS52.drewN | apply IsS52.drew | apply IsS52.set_1 | apply IsS52.set_2 | refine IsS52.far ?_ NB0_353.out _ | refine IsS52.far ?_ NB0_378.out _) | exact HI0.out)) (Yr HO_379002.out) (by decide)) hk (fun _ h => h.2)) (fun _ h => h.1))
            replace HO_379003 := Ya (Z12 (Kd.R_keep (IsS52.apart (show IsS52 w0 _ g s0_0 t411 t412 from by repeat (first | (with_reducible first | exact HI0.out | apply IsS52.alloc | apply IsS52.drewN | apply IsS52.drew | apply IsS52.set_1 | apply IsS52.set_2 | refine IsS52.far ?_ NB0_353.out _ | refine IsS52.far ?_ NB0_378.out _) | exact HI0.out)) (Yr HO_379003.out) (by decide)) hk (fun _ h => h.2)) (fun _ h => h.1))
            replace BK353 := Ya (KeepBut.blk hk (g' := gb353) (o := .cells YN4 33 (0, 0)) (Yk BK353.out) NB353_0.out (by simp))
            replace BK378 := Ya (KeepBut.blk hk (g' := gb378) (o := .cells #[u379000, u379001, u379002, .slice Ao74 x379003_27.length co74] 33 (0, 0)) (Yk BK378.out) NB378_0.out (by simp))
            replace HO415 := Ya (Z12 (Kd.R_keep (IsS52.apart (show IsS52 w0 _ g s0_0 t411 t412 from by repeat (first | (with_reducible first | exact HI0.out | apply IsS52.alloc | apply IsS52.drewN | apply IsS52.drew | apply IsS52.set_1 | apply IsS52.set_2 | refine IsS52.far ?_ NB0_353.out _ | refine IsS52.far ?_ NB0_378.out _) | exact HI0.out)) (Yr HO415.out) (by decide)) hk (fun _ h => h.2)) (fun _ h => h.1))
            replace HK := Ya (KeepBut.trans Q4 hk (.inl rfl))
            replace HB := Ya hb
            replace HI0 := Ya hi
            (try clear hb hk hi)
            have p72 : 0 ≤ (t410 : Int) := Z31 Q2
            have q72 : (t410 : Int) < ((x379003_27.length : Int) : Int) := Z31 Q2
            obtain ⟨go72, co72, eo72, gb72, gl72, cl72, HG72⟩ := Kd.R_form HO_379003.out (by omega)
            (first | cases eo72 | (injection eo72 with ea_ en_ ec_; (first | subst ea_ | (injection ea_ with ea_; subst ea_)); subst ec_; clear en_))
            have GB72 := Ya gb72
            have GG72 := Ya HG72
            clear gb72 gl72 HG72
            obtain ⟨hx72_0, hf72_0⟩ := Kd.R_celln 0 HO_379003.out (t410 : Int) p72 q72
            replace p72 := eq_true p72
            replace q72 := eq_true q72
            have HN0_go72 := Ya (show g ≠ go72 from by have h_ := IsS52.own_ne HI0.out HO_379003.out (by decide); intro e_; exact h_ (by rw [e_]; rfl))
            have HP81 := Kd.R_putn HO_379003.out (t410 : Int) t416
            rw [← Ny419.out] at HP81
            have HQ81 := Ya HP81
            clear HP81
            refine hK.out _ _ (Yz4 BK378.out) (fun hHeld => ?_)
            clear hK K
            refine norm_ (a' := ?_) ?_ ?_
            rotate_left
            ·show Act.put _ (some 72) _ = _
             simp only [Act.put, Z0, Z1, Z2, i64_w, i32_w]
             rfl
            refine Yp 10 (some 73) (YA 12 2047) rfl HT_.out ?_
            refine last_ (i := 11) (N := none) (YA 12 4095) rfl rfl (one_of HT_.out (by kernel_rfl)) (by decide) (fun K hK => ?_)
            refine skip_ (w1 := ?_) (by rfl) rfl ?_ ?_
            rotate_left
            ·go_simp
             rfl
            refine hK.out _ _ ?_
            clear hK K
            refine done_ (done_of HT_.out (by kernel_rfl)) ?_
            replace HO_3 : Aside0 (Kd.R (Kd.int .i64) 3 (w80.setCell ⟨go72, (t410 : Int).toNat, none⟩ (.int .i64 t416)) w.heap.size (fun k_ => some k_ ≠ (u379000 : Value).ownBlock ∧ some k_ ≠ (u379001 : Value).ownBlock ∧ some k_ ≠ (.slice (some ⟨go72, 0, none⟩) x379003_27.length co74 : Value).ownBlock ∧ some k_ ≠ (.slice Ao79 y413.length co79 : Value).ownBlock) (.slice Ao12 t354.length co12) t354) := ⟨Yj (Z13 (p := ⟨go72, (t410 : Int).toNat, none⟩) (Z12 HO_3.out (fun k_ hk => (⟨hk, fun e_ => hk.2.2.2 (by rw [e_]; rfl)⟩ : _ ∧ k_ ≠ go72))) (fun _ hk => hk.2) (.int .i64 t416)) (fun _ hk => ⟨hk.1.2.1, ⟨hk.1.2.2.1, ⟨hk.1.2.2.2, hk.1.1⟩⟩⟩)⟩
            replace HO_379000 : Aside0 (Kd.R (Kd.int .i64) 3 (w80.setCell ⟨go72, (t410 : Int).toNat, none⟩ (.int .i64 t416)) w.heap.size (fun k_ => some k_ ≠ (.slice Ao12 t354.length co12 : Value).ownBlock ∧ some k_ ≠ (u379001 : Value).ownBlock ∧ some k_ ≠ (.slice (some ⟨go72, 0, none⟩) x379003_27.length co74 : Value).ownBlock ∧ some k_ ≠ (.slice Ao79 y413.length co79 : Value).ownBlock) u379000 x379000_27) := ⟨Yj (Z13 (p := ⟨go72, (t410 : Int).toNat, none⟩) (Z12 HO_379000.out (fun k_ hk => (⟨hk, fun e_ => hk.2.2.2 (by rw [e_]; rfl)⟩ : _ ∧ k_ ≠ go72))) (fun _ hk => hk.2) (.int .i64 t416)) (fun _ hk => ⟨hk.1.2.1, ⟨hk.1.2.2.1, ⟨hk.1.2.2.2, hk.1.1⟩⟩⟩)⟩
            replace HO_379001 : Aside0 (Kd.R (Kd.int .i64) 3 (w80.setCell ⟨go72, (t410 : Int).toNat, none⟩ (.int .i64 t416)) w.heap.size (fun k_ => some k_ ≠ (.slice Ao12 t354.length co12 : Value).ownBlock ∧ some k_ ≠ (u379000 : Value).ownBlock ∧ some k_ ≠ (.slice (some ⟨go72, 0, none⟩) x379003_27.length co74 : Value).ownBlock ∧ some k_ ≠ (.slice Ao79 y413.length co79 : Value).ownBlock) u379001 x379001_27) := ⟨Yj (Z13 (p := ⟨go72, (t410 : Int).toNat, none⟩) (Z12 HO_379001.out (fun k_ hk => (⟨hk, fun e_ => hk.2.2.2 (by rw [e_]; rfl)⟩ : _ ∧ k_ ≠ go72))) (fun _ hk => hk.2) (.int .i64 t416)) (fun _ hk => ⟨hk.1.2.1, ⟨hk.1.2.2.1, ⟨hk.1.2.2.2, hk.1.1⟩⟩⟩)⟩
            replace HO_379002 : Aside0 (Kd.R Kd.bool 4 (w80.setCell ⟨go72, (t410 : Int).toNat, none⟩ (.int .i64 t416)) w.heap.size (fun _ => True) u379002 x379002_27) := ⟨Yj (Z13 (p := ⟨go72, (t410 : Int).toNat, none⟩) (Z15 HO_379002.out GG72.out (by decide)) (fun _ hk => hk.2) (.int .i64 t416)) (fun _ hk => trivial)⟩
            replace HO415 : Aside0 (Kd.R (Kd.int .i64) 3 (w80.setCell ⟨go72, (t410 : Int).toNat, none⟩ (.int .i64 t416)) w.heap.size (fun k_ => some k_ ≠ (.slice Ao12 t354.length co12 : Value).ownBlock ∧ some k_ ≠ (u379000 : Value).ownBlock ∧ some k_ ≠ (u379001 : Value).ownBlock ∧ some k_ ≠ (.slice (some ⟨go72, 0, none⟩) x379003_27.length co74 : Value).ownBlock) (.slice Ao79 y413.length co79) y413) := ⟨Yj (Z13 (p := ⟨go72, (t410 : Int).toNat, none⟩) (Z12 HO415.out (fun k_ hk => (⟨hk, fun e_ => hk.2.2.2 (by rw [e_]; rfl)⟩ : _ ∧ k_ ≠ go72))) (fun _ hk => hk.2) (.int .i64 t416)) (fun _ hk => ⟨hk.1.1, ⟨hk.1.2.1, ⟨hk.1.2.2.1, hk.1.2.2.2⟩⟩⟩)⟩
            replace BK353 : Aside0 ((w80.setCell ⟨go72, (t410 : Int).toNat, none⟩ (.int .i64 t416)).heap[gb353]? = some (.cells YN4 33 (0, 0))) := ⟨by (with_reducible repeat (first | refine Z26 ?_ _ | refine Z27 ?_ | refine Z28 ?_ _)); refine blk_far ?_ (by have h_ := Kd.R_ne HO_379003.out BK353.out (by decide); intro e_; exact h_ (by rw [e_]; rfl)) _; (with_reducible repeat (first | refine Z26 ?_ _ | refine Z27 ?_ | refine Z28 ?_ _)); exact BK353.out⟩
            replace BK378 : Aside0 ((w80.setCell ⟨go72, (t410 : Int).toNat, none⟩ (.int .i64 t416)).heap[gb378]? = some (.cells #[u379000, u379001, u379002, .slice (some ⟨go72, 0, none⟩) x379003_27.length co74] 33 (0, 0))) := ⟨by (with_reducible repeat (first | refine Z26 ?_ _ | refine Z27 ?_ | refine Z28 ?_ _)); refine blk_far ?_ (by have h_ := Kd.R_ne HO_379003.out BK378.out (by decide); intro e_; exact h_ (by rw [e_]; rfl)) _; (with_reducible repeat (first | refine Z26 ?_ _ | refine Z27 ?_ | refine Z28 ?_ _)); exact BK378.out⟩
            replace HO_379003 : Aside0 (Kd.R (Kd.int .i64) 3 (w80.setCell ⟨go72, (t410 : Int).toNat, none⟩ (.int .i64 t416)) w.heap.size (fun k_ => some k_ ≠ (.slice Ao12 t354.length co12 : Value).ownBlock ∧ some k_ ≠ (u379000 : Value).ownBlock ∧ some k_ ≠ (u379001 : Value).ownBlock ∧ some k_ ≠ (.slice Ao79 y413.length co79 : Value).ownBlock) (.slice (some ⟨go72, 0, none⟩) x379003_27.length co74) y419) := ⟨Yj HQ81.out (fun _ hk => ⟨hk.2.1, ⟨hk.2.2.1, ⟨hk.2.2.2, hk.1⟩⟩⟩)⟩
            replace HK : Aside0 (KeepBut w (w80.setCell ⟨go72, (t410 : Int).toNat, none⟩ (.int .i64 t416)) g none) := ⟨by repeat (first | (with_reducible first | exact HK.out | apply KeepBut.set_ | apply keep_drewN | apply keep_drew | apply keep_alloc | refine keep_far ?_ GB72.out _ | refine keep_far ?_ GW353.out _ | refine keep_far ?_ GW378.out _) | exact HK.out)⟩
            replace HB : Aside0 (Below w0.heap.size w0 (w80.setCell ⟨go72, (t410 : Int).toNat, none⟩ (.int .i64 t416))) := ⟨by repeat (first | (with_reducible first | exact HB.out | apply Z5 | apply Z3 | apply Z4 | refine Z6 ?_ (Nat.le_trans HL.out GB72.out) | refine Z6 ?_ (IsS52.ge HI0.out) | refine Z6 ?_ GE353.out | refine Z6 ?_ GE378.out) | exact HB.out)⟩
            replace HI0 : Aside0 (IsS52 w0 (w80.setCell ⟨go72, (t410 : Int).toNat, none⟩ (.int .i64 t416)) g s0_0 t417 t418) := ⟨by repeat (first | (with_reducible first | exact HI0.out | apply IsS52.alloc | apply IsS52.drewN | apply IsS52.drew | apply IsS52.set_1 | apply IsS52.set_2 | refine IsS52.far ?_ HN0_go72.out _ | refine IsS52.far ?_ NB0_353.out _ | refine IsS52.far ?_ NB0_378.out _) | exact HI0.out)⟩
            generalize (w80.setCell ⟨go72, (t410 : Int).toNat, none⟩ (.int .i64 t416)) = w82 at HO_3 HO_379000 HO_379001 HO_379002 HO_379003 HO415 BK353 BK378 HI0 HK HB ⊢
            have hnb83 := NB378_353.out
            have hnc83 := NB353_378.out
            have hnb84 := NB378_0.out
            have hnc84 := NB0_378.out
            obtain ⟨hcz85_0, hcz85_1, hcz85_2, hcz85_3, hfz85_0, hfz85_1, hfz85_2, hfz85_3⟩ := Y4 BK378.out
            obtain ⟨Ao86, co86, rfl⟩ := Z19 HO_379000.out
            have hnb87 := NB353_0.out
            have hnc87 := NB0_353.out
            obtain ⟨hcz88_0, hcz88_1, hcz88_2, hcz88_3, hfz88_0, hfz88_1, hfz88_2, hfz88_3⟩ := Y4 BK353.out
            obtain ⟨Ao89, co89, rfl⟩ := Z19 HO_379001.out
            obtain ⟨Ao90, co90, rfl⟩ := Z19 HO_379002.out
            try go_wp2
            refine bodyPost_ret (results_cell_row rfl _ _ gb353 33 #[.slice Ao86 x379000_27.length co86, .slice Ao89 x379001_27.length co89, .slice Ao90 x379002_27.length co90, .slice (some ⟨go72, 0, none⟩) x379003_27.length co74] (0, 0) _ rfl (Yk (Yv4 BK353.out)) Try.underlying33 rfl (by kernel_rfl)) rfl ?_
            exact ⟨_, _, _, _, Q1, Yj (Yf4 HO_379000.out BK353.out) (fun _ hk => ⟨hk.1.2.1, hk.1.2.2.1⟩), Yj (Yf4 HO_379001.out BK353.out) (fun _ hk => ⟨hk.1.2.1, hk.1.2.2.1⟩), Yj (Yf4 HO_379002.out BK353.out) (fun _ hk => trivial), Yj (Yf4 HO_379003.out BK353.out) (fun _ hk => ⟨hk.1.2.1, hk.1.2.2.1⟩), Q15, Q18, Q17⟩
           ·rw [if_neg c71] at H
            exact absurd H (by simp)
          ·rw [if_neg c70] at H
           exact absurd H (by simp)
         ·rw [if_neg c67] at H
          have c67b0 : (t397 == 1) = false := beq_eq_false_iff_ne.mpr c67
          have c67b1 : (t397 != 1) = true := bne_iff_ne.mpr c67
          have HC91 := Ya H
          clear H
          go_upto_region 12 with (fail)
          go_cut [74] (fun v74 wc => ∃ (kq : Nat) (x74_90 : Bool), v74 = .bool x74_90 ∧ Aside0 (spec_l1Cur_focus.j3 kq t354 t397 x74_90 s0_0 t398 t399 x379000_27 x379001_27 x379002_27 x379003_27 = some (r1, r2, r3, r4, r5, r6)) ∧ Aside0 (kq ≤ kj40) ∧ Aside0 (Kd.R (Kd.int .i64) 3 wc w.heap.size (fun k_ => some k_ ≠ (u379000 : Value).ownBlock ∧ some k_ ≠ (u379001 : Value).ownBlock ∧ some k_ ≠ (u379003 : Value).ownBlock) (.slice Ao12 t354.length co12) t354) ∧ Aside0 (Kd.R (Kd.int .i64) 3 wc w.heap.size (fun k_ => some k_ ≠ ((.slice Ao12 t354.length co12) : Value).ownBlock ∧ some k_ ≠ (u379001 : Value).ownBlock ∧ some k_ ≠ (u379003 : Value).ownBlock) u379000 x379000_27) ∧ Aside0 (Kd.R (Kd.int .i64) 3 wc w.heap.size (fun k_ => some k_ ≠ ((.slice Ao12 t354.length co12) : Value).ownBlock ∧ some k_ ≠ (u379000 : Value).ownBlock ∧ some k_ ≠ (u379003 : Value).ownBlock) u379001 x379001_27) ∧ Aside0 (Kd.R Kd.bool 4 wc w.heap.size (fun _ => True) u379002 x379002_27) ∧ Aside0 (Kd.R (Kd.int .i64) 3 wc w.heap.size (fun k_ => some k_ ≠ ((.slice Ao12 t354.length co12) : Value).ownBlock ∧ some k_ ≠ (u379000 : Value).ownBlock ∧ some k_ ≠ (u379001 : Value).ownBlock) u379003 x379003_27) ∧ Aside0 (wc.heap[gb353]? = some (.cells #[(.slice none 0 0), (.slice none 0 0), (.slice none 0 0), (.slice none 0 0)] 33 (0, 0))) ∧ Aside0 (wc.heap[gb378]? = some (.cells #[u379000, u379001, u379002, u379003] 33 (0, 0))) ∧ Aside0 (IsS52 w0 wc g s0_0 t398 t399) ∧ Aside0 (KeepBut w wc g none) ∧ Aside0 (Below w0.heap.size w0 wc))
          case first =>
           have H := HC91.out
           clear HC91
           by_cases c92 : t397 = 2
           ·rw [if_pos c92] at H
            have c92b0 : (t397 == 2) = true := beq_iff_eq.mpr c92
            have c92b1 : (t397 != 2) = false := bne_eq_false_iff_eq.mpr c92
            clear c92
            (first | rw [c92b0] | (simp only [i64_w, i32_w]; rw [c92b0]) | skip)
            have H' := Ya H
            clear H
            go_wp2
            go_meet
            case rel => exact ⟨_, (decide ((t354.length : Int) > 0)), Q9, H', ⟨by have := HJ8.out; have := HJ27.out; have := HJ40.out; first | omega | exact Nat.le_refl _⟩, ⟨Q39⟩, ⟨Q62⟩, ⟨Q61⟩, ⟨Q60⟩, ⟨Q59⟩, ⟨Q38⟩, ⟨Q37⟩, ⟨Q15⟩, ⟨Q17⟩, ⟨Q18⟩⟩
           ·rw [if_neg c92] at H
            have c92b0 : (t397 == 2) = false := beq_eq_false_iff_ne.mpr c92
            have c92b1 : (t397 != 2) = true := bne_iff_ne.mpr c92
            (first | rw [c92b0] | (simp only [i64_w, i32_w]; rw [c92b0]) | skip)
            have H' := Ya H
            clear H
            go_wp2
            go_meet
            case rel => exact ⟨_, (false), Q9, H', ⟨by have := HJ8.out; have := HJ27.out; have := HJ40.out; first | omega | exact Nat.le_refl _⟩, ⟨Q39⟩, ⟨Q62⟩, ⟨Q61⟩, ⟨Q60⟩, ⟨Q59⟩, ⟨Q38⟩, ⟨Q37⟩, ⟨Q15⟩, ⟨Q17⟩, ⟨Q18⟩⟩
          case rest =>
           clear HC91
           try clear c2
           try clear p2
           try clear c4
           try clear c5
           try clear c6
           try clear c7
           try clear p7
           try clear q7
           try clear hx7
           try clear hf7
           try clear c8
           try clear c9
           try clear c28
           try clear c44
           try clear c47
           try clear c48
           try clear c56
           try clear c59
           try clear c60
           try clear c63
           try clear c67
           try clear c67b0
           try clear c67b1
           try clear c70
           try clear c70b0
           try clear c71
           try clear c71b0
           try clear p72
           try clear q72
           try clear hx72
           try clear hf72
           try clear c83
           try clear c84
           try clear c87
           try clear c92
           try clear c92b0
           try clear c92b1
           try clear hcz61_0
           try clear hcz61_1
           try clear hcz61_2
           try clear hcz61_3
           try clear hcz64_0
           try clear hcz64_1
           try clear hcz64_2
           try clear hcz64_3
           try clear hcz85_0
           try clear hcz85_1
           try clear hcz85_2
           try clear hcz85_3
           try clear hcz88_0
           try clear hcz88_1
           try clear hcz88_2
           try clear hcz88_3
           try clear hfz61_0
           try clear hfz61_1
           try clear hfz61_2
           try clear hfz61_3
           try clear hfz64_0
           try clear hfz64_1
           try clear hfz64_2
           try clear hfz64_3
           try clear hfz85_0
           try clear hfz85_1
           try clear hfz85_2
           try clear hfz85_3
           try clear hfz88_0
           try clear hfz88_1
           try clear hfz88_2
           try clear hfz88_3
           try clear hx72_0
           try clear p72
           try clear q72
           obtain ⟨kq, x74_90, rfl, HA, HJ90, HO_3, HO_379000, HO_379001, HO_379002, HO_379003, BK353, BK378, HI0, HK, HB⟩ := hcut
           cases kq with
           | zero => exact absurd HA.out (by simp [spec_l1Cur_focus.j3])
           | succ kj90 =>
            have H := HA.out
            clear HA
            simp only [spec_l1Cur_focus.j3] at H
            by_cases c93 : x74_90 = true
            ·subst c93
             have H1 : ((spec_l1Cur_pick.f s0_0 t398 t399 (t354.length : Int)).bind fun bt420 => (if 0 ≤ bt420.1 then (if bt420.1 < (x379002_27.length : Int) then (some (x379000_27, x379001_27, (x379002_27.set (bt420.1 : Int).toNat (!(rdOf false x379002_27 bt420.1))), x379003_27, bt420.2.1, bt420.2.2)) else (none)) else (none))) = some (r1, r2, r3, r4, r5, r6) := by rw [if_pos rfl] at H; exact H
             clear H
             have H := H1
             clear H1
             replace H := Z37.mp H
             obtain ⟨⟨t420, t421, t422⟩, A940, H⟩ := H
             replace H : (if 0 ≤ t420 then (if t420 < (x379002_27.length : Int) then (some (x379000_27, x379001_27, (x379002_27.set (t420 : Int).toNat (!(rdOf false x379002_27 t420))), x379003_27, t421, t422)) else (none)) else (none)) = some (r1, r2, r3, r4, r5, r6) := H
             have A94 := Ya A940
             clear A940
             by_cases c95 : 0 ≤ t420
             ·rw [if_pos c95] at H
              have c95b0 := Z39 c95
              clear c95
              by_cases c96 : t420 < (x379002_27.length : Int)
              ·rw [if_pos c96] at H
               have c96b0 := Z39 c96
               clear c96
               obtain ⟨y424, hy424⟩ : ∃ y_ : List Bool, y_ = (x379002_27.set (t420 : Int).toNat (!(rdOf false x379002_27 t420))) := ⟨_, rfl⟩
               replace H : (some (x379000_27, x379001_27, y424, x379003_27, t421, t422)) = some (r1, r2, r3, r4, r5, r6) := by first | (rw [hy424]; with_reducible exact H) | (have H2_ := (Option.bind_some _ _).symm.trans H; rw [hy424]; with_reducible exact H2_) | (have H2_ := (Option.bind_some _ _).symm.trans H; with_reducible exact H2_) | with_reducible exact H | (rw [hy424]; exact H) | exact H
               have Ny424 := Ya hy424
               clear hy424
               simp only [Option.some.injEq, Prod.mk.injEq] at H
               obtain ⟨rfl, rfl, rfl, rfl, rfl, rfl⟩ := H
               try go_wp2_with (first | ((with_reducible refine gate_callee (f := 56) rfl ?_); refine Yz 85 Try.func56 #[.pointer (some ⟨g, 0, none⟩), .int .i64 (t354.length : Int)] ?_; (with_reducible refine (spec_l1Cur_pick.calls g s0_0 t398 t399 (t354.length : Int) t420 t421 t422 w0 _ ?side1 ?side2 A94.out).mono ?_); (case side1 => repeat (first | (with_reducible first | exact HI0.out | apply IsS52.alloc | apply IsS52.drewN | apply IsS52.drew | apply IsS52.set_1 | apply IsS52.set_2 | refine IsS52.far ?_ NB0_353.out _ | refine IsS52.far ?_ NB0_378.out _) | exact HI0.out)); (case side2 => repeat (first | (with_reducible first | exact HB.out | apply Z5 | apply Z3 | apply Z4 | refine Z6 ?_ (IsS52.ge HI0.out) | refine Z6 ?_ GE353.out | refine Z6 ?_ GE378.out) | exact HB.out)); rintro e w98 ⟨rfl, hi, hb, hk⟩; refine ⟨_, rfl, ?_⟩; replace HO_3 := Ya (Z12 (Kd.R_keep (IsS52.apart (show IsS52 w0 _ g s0_0 t398 t399 from by repeat (first | (with_reducible first | exact HI0.out | apply IsS52.alloc | apply IsS52.drewN | apply IsS52.drew | apply IsS52.set_1 | apply IsS52.set_2 | refine IsS52.far ?_ NB0_353.out _ | refine IsS52.far ?_ NB0_378.out _) | exact HI0.out)) (Yr HO_3.out) (by decide)) hk (fun _ h => h.2)) (fun _ h => h.1)); replace HO_379000 := Ya (Z12 (Kd.R_keep (IsS52.apart (show IsS52 w0 _ g s0_0 t398 t399 from by repeat (first | (with_reducible first | exact HI0.out | apply IsS52.alloc | apply IsS52.drewN | apply IsS52.drew | apply IsS52.set_1 | apply IsS52.set_2 | refine IsS52.far ?_ NB0_353.out _ | refine IsS52.far ?_ NB0_378.out _) | exact HI0.out)) (Yr HO_379000.out) (by decide)) hk (fun _ h => h.2)) (fun _ h => h.1)); replace HO_379001 := Ya (Z12 (Kd.R_keep (IsS52.apart (show IsS52 w0 _ g s0_0 t398 t399 from by repeat (first | (with_reducible first | exact HI0.out | apply IsS52.alloc | apply IsS52.drewN | apply IsS52.drew | apply IsS52.set_1 | apply IsS52.set_2 | refine IsS52.far ?_ NB0_353.out _ | refine IsS52.far ?_ NB0_378.out _) | exact HI0.out)) (Yr HO_379001.out) (by decide)) hk (fun _ h => h.2)) (fun _ h => h.1)); replace HO_379002 := Ya (Z12 (Kd.R_keep (IsS52.apart (show IsS52 w0 _ g s0_0 t398 t399 from by repeat (first | (with_reducible first | exact HI0.out | apply IsS52.alloc | apply IsS52.drewN | apply IsS52.drew | apply IsS52.set_1 | apply IsS52.set_2 | refine IsS52.far ?_ NB0_353.out _ | refine IsS52.far ?_ NB0_378.out _) | exact HI0.out)) (Yr HO_379002.out) (by decide)) hk (fun _ h => h.2)) (fun _ h => h.1)); replace HO_379003 := Ya (Z12 (Kd.R_keep (IsS52.apart (show IsS52 w0 _ g s0_0 t398 t399 from by repeat (first | (with_reducible first | exact HI0.out | apply IsS52.alloc | apply IsS52.drewN | apply IsS52.drew | apply IsS52.set_1 | apply IsS52.set_2 | refine IsS52.far ?_ NB0_353.out _ | refine IsS52.far ?_ NB0_378.out _) | exact HI0.out)) (Yr HO_379003.out) (by decide)) hk (fun _ h => h.2)) (fun _ h => h.1)); replace BK353 := Ya (KeepBut.blk hk (g' := gb353) (o := .cells YN4 33 (0, 0)) (Yk BK353.out) NB353_0.out (by simp)); replace BK378 := Ya (KeepBut.blk hk (g' := gb378) (o := .cells #[u379000, u379001, u379002, u379003] 33 (0, 0)) (Yk BK378.out) NB378_0.out (by simp)); replace HK := Ya (KeepBut.trans Q4 hk (.inl rfl)); replace HB := Ya hb; replace HI0 := Ya hi; (try clear hb hk hi)))
               replace HO_3 := Ya (Z11 HO_3.out)
               replace HO_379000 := Ya (Z11 HO_379000.out)
               replace HO_379001 := Ya (Z11 HO_379001.out)
               replace HO_379002 := Ya (Z11 HO_379002.out)
               replace HO_379003 := Ya (Z11 HO_379003.out)
               replace BK353 := Ya (Z27 BK353.out)
               replace BK378 := Ya (Z27 BK378.out)
               replace HI0 := Ya (IsS52.drew HI0.out)
               replace HK := Ya (keep_drew HK.out)
               replace HB := Ya (Z4 HB.out)
               obtain ⟨Ao100, co100, eo100⟩ := Z19 HO_379002.out
               (first | subst eo100 | (injection eo100 with f1_ f2_ f3_; have f4_ := f1_.symm; have f5_ := f3_.symm; clear f1_ f2_ f3_; subst f4_; subst f5_))
               have p423 : 0 ≤ (t420 : Int) := Z31 Q2
               have q423 : t420 < (x379002_27.length : Int) := Z31 Q2
               obtain ⟨ad423, e423, hx423_0⟩ := Kd.at_bool (Kd.R_reads' HO_379002.out).2.2 t420 p423 q423
               cases e423
               replace p423 := eq_true p423
               replace q423 := eq_true q423
               have p97 : 0 ≤ (t420 : Int) := Z31 Q2
               have q97 : (t420 : Int) < ((x379002_27.length : Int) : Int) := Z31 Q2
               obtain ⟨go97, co97, eo97, gb97, gl97, cl97, HG97⟩ := Kd.R_form HO_379002.out (by omega)
               (first | cases eo97 | (injection eo97 with ea_ en_ ec_; (first | subst ea_ | (injection ea_ with ea_; subst ea_)); subst ec_; clear en_))
               have GB97 := Ya gb97
               have GG97 := Ya HG97
               clear gb97 gl97 HG97
               (first | simp only [add_plain] at hx423_0 | skip)
               obtain ⟨hx97_0, hf97_0⟩ := Kd.R_celln false HO_379002.out (t420 : Int) p97 q97
               replace p97 := eq_true p97
               replace q97 := eq_true q97
               have HN0_go97 := Ya (show g ≠ go97 from by have h_ := IsS52.own_ne HI0.out HO_379002.out (by decide); intro e_; exact h_ (by rw [e_]; rfl))
               have HP101 := Kd.R_putn HO_379002.out (t420 : Int) (!(rdOf false x379002_27 t420))
               rw [← Ny424.out] at HP101
               have HQ101 := Ya HP101
               clear HP101
               refine start_ (n := 11) (S := fun w' => w'.cell? ⟨gb378, 0, none⟩ = some (u379000) ∧ w'.cell? ⟨gb378, 1, none⟩ = some (u379001) ∧ w'.cell? ⟨gb378, 2, none⟩ = some (.slice (some ⟨go97, 0, none⟩) x379002_27.length co100) ∧ w'.cell? ⟨gb378, 3, none⟩ = some (u379003) ∧ w'.cell? ⟨go97, (t420).toNat, none⟩ = some (.bool (rdOf false x379002_27 t420))) (ds := [10]) (YA 11 0) (by kernel_rfl) rfl rfl ⟨(Z24 BK378.out 0).trans rfl, (Z24 BK378.out 1).trans rfl, (Z24 BK378.out 2).trans rfl, (Z24 BK378.out 3).trans rfl, hx423_0⟩ (fun hHeld => ?_); refine with_tabW spec_l1Cur_focus.tab14 spec_l1Cur_focus.bits14 (fun HT_ HW_ => ?_)
               generalize w98.drew = w99 at HO_3 HO_379000 HO_379001 HO_379002 HO_379003 BK353 BK378 HI0 HK HB GG97 HQ101 hf97_0 hx423_0 hx97_0 hHeld ⊢
               refine Yp 0 (some 86) (YA 11 1) rfl HT_.out ?_
               refine Yp 2 (some 88) (YA 11 5) rfl HT_.out ?_
               refine Yp 3 (some 89) (YA 11 13) rfl HT_.out ?_
               refine Yp 5 (some 91) (YA 11 45) rfl HT_.out ?_
               refine Yt 1 (some 87) (YA 11 47) rfl HT_.out HW_.out hHeld Q48 ?_
               refine Yt 4 (some 90) (YA 11 63) rfl HT_.out HW_.out hHeld Q48 ?_
               refine Yp 6 (some 92) (YA 11 127) rfl HT_.out ?_
               refine Yt 7 (some 93) (YA 11 255) rfl HT_.out HW_.out hHeld Q48 ?_
               refine Yp 8 (some 94) (YA 11 511) rfl HT_.out ?_
               refine Yp 9 (some 95) (YA 11 1023) rfl HT_.out ?_
               refine last_ (i := 10) (N := none) (YA 11 2047) rfl rfl (one_of HT_.out (by kernel_rfl)) (by decide) (fun K hK => ?_)
               refine skip_ (w1 := ?_) (by rfl) rfl ?_ ?_
               rotate_left
               ·go_simp
                rfl
               refine hK.out _ _ ?_
               clear hK K
               refine done_ (done_of HT_.out (by kernel_rfl)) ?_
               replace HO_3 : Aside0 (Kd.R (Kd.int .i64) 3 (w99.setCell ⟨go97, (t420 : Int).toNat, none⟩ (.bool (!(rdOf false x379002_27 t420)))) w.heap.size (fun k_ => some k_ ≠ (u379000 : Value).ownBlock ∧ some k_ ≠ (u379001 : Value).ownBlock ∧ some k_ ≠ (u379003 : Value).ownBlock) (.slice Ao12 t354.length co12) t354) := ⟨Yj (Z13 (p := ⟨go97, (t420 : Int).toNat, none⟩) (Z15 HO_3.out GG97.out (by decide)) (fun _ hk => hk.2) (.bool (!(rdOf false x379002_27 t420)))) (fun _ hk => ⟨hk.1.1, ⟨hk.1.2.1, hk.1.2.2⟩⟩)⟩
               replace HO_379000 : Aside0 (Kd.R (Kd.int .i64) 3 (w99.setCell ⟨go97, (t420 : Int).toNat, none⟩ (.bool (!(rdOf false x379002_27 t420)))) w.heap.size (fun k_ => some k_ ≠ (.slice Ao12 t354.length co12 : Value).ownBlock ∧ some k_ ≠ (u379001 : Value).ownBlock ∧ some k_ ≠ (u379003 : Value).ownBlock) u379000 x379000_27) := ⟨Yj (Z13 (p := ⟨go97, (t420 : Int).toNat, none⟩) (Z15 HO_379000.out GG97.out (by decide)) (fun _ hk => hk.2) (.bool (!(rdOf false x379002_27 t420)))) (fun _ hk => ⟨hk.1.1, ⟨hk.1.2.1, hk.1.2.2⟩⟩)⟩
               replace HO_379001 : Aside0 (Kd.R (Kd.int .i64) 3 (w99.setCell ⟨go97, (t420 : Int).toNat, none⟩ (.bool (!(rdOf false x379002_27 t420)))) w.heap.size (fun k_ => some k_ ≠ (.slice Ao12 t354.length co12 : Value).ownBlock ∧ some k_ ≠ (u379000 : Value).ownBlock ∧ some k_ ≠ (u379003 : Value).ownBlock) u379001 x379001_27) := ⟨Yj (Z13 (p := ⟨go97, (t420 : Int).toNat, none⟩) (Z15 HO_379001.out GG97.out (by decide)) (fun _ hk => hk.2) (.bool (!(rdOf false x379002_27 t420)))) (fun _ hk => ⟨hk.1.1, ⟨hk.1.2.1, hk.1.2.2⟩⟩)⟩
               replace HO_379003 : Aside0 (Kd.R (Kd.int .i64) 3 (w99.setCell ⟨go97, (t420 : Int).toNat, none⟩ (.bool (!(rdOf false x379002_27 t420)))) w.heap.size (fun k_ => some k_ ≠ (.slice Ao12 t354.length co12 : Value).ownBlock ∧ some k_ ≠ (u379000 : Value).ownBlock ∧ some k_ ≠ (u379001 : Value).ownBlock) u379003 x379003_27) := ⟨Yj (Z13 (p := ⟨go97, (t420 : Int).toNat, none⟩) (Z15 HO_379003.out GG97.out (by decide)) (fun _ hk => hk.2) (.bool (!(rdOf false x379002_27 t420)))) (fun _ hk => ⟨hk.1.1, ⟨hk.1.2.1, hk.1.2.2⟩⟩)⟩
               replace BK353 : Aside0 ((w99.setCell ⟨go97, (t420 : Int).toNat, none⟩ (.bool (!(rdOf false x379002_27 t420)))).heap[gb353]? = some (.cells YN4 33 (0, 0))) := ⟨by (with_reducible repeat (first | refine Z26 ?_ _ | refine Z27 ?_ | refine Z28 ?_ _)); refine blk_far ?_ (by have h_ := Kd.R_ne HO_379002.out BK353.out (by decide); intro e_; exact h_ (by rw [e_]; rfl)) _; (with_reducible repeat (first | refine Z26 ?_ _ | refine Z27 ?_ | refine Z28 ?_ _)); exact BK353.out⟩
               replace BK378 : Aside0 ((w99.setCell ⟨go97, (t420 : Int).toNat, none⟩ (.bool (!(rdOf false x379002_27 t420)))).heap[gb378]? = some (.cells #[u379000, u379001, .slice (some ⟨go97, 0, none⟩) x379002_27.length co100, u379003] 33 (0, 0))) := ⟨by (with_reducible repeat (first | refine Z26 ?_ _ | refine Z27 ?_ | refine Z28 ?_ _)); refine blk_far ?_ (by have h_ := Kd.R_ne HO_379002.out BK378.out (by decide); intro e_; exact h_ (by rw [e_]; rfl)) _; (with_reducible repeat (first | refine Z26 ?_ _ | refine Z27 ?_ | refine Z28 ?_ _)); exact BK378.out⟩
               replace HO_379002 : Aside0 (Kd.R Kd.bool 4 (w99.setCell ⟨go97, (t420 : Int).toNat, none⟩ (.bool (!(rdOf false x379002_27 t420)))) w.heap.size (fun _ => True) (.slice (some ⟨go97, 0, none⟩) x379002_27.length co100) y424) := ⟨by (with_reducible repeat (first | apply Z9 | apply Z10 | apply Z11)); exact HQ101.out⟩
               replace HK : Aside0 (KeepBut w (w99.setCell ⟨go97, (t420 : Int).toNat, none⟩ (.bool (!(rdOf false x379002_27 t420)))) g none) := ⟨by repeat (first | (with_reducible first | exact HK.out | apply KeepBut.set_ | apply keep_drewN | apply keep_drew | apply keep_alloc | refine keep_far ?_ GB97.out _ | refine keep_far ?_ GW353.out _ | refine keep_far ?_ GW378.out _) | exact HK.out)⟩
               replace HB : Aside0 (Below w0.heap.size w0 (w99.setCell ⟨go97, (t420 : Int).toNat, none⟩ (.bool (!(rdOf false x379002_27 t420))))) := ⟨by repeat (first | (with_reducible first | exact HB.out | apply Z5 | apply Z3 | apply Z4 | refine Z6 ?_ (Nat.le_trans HL.out GB97.out) | refine Z6 ?_ (IsS52.ge HI0.out) | refine Z6 ?_ GE353.out | refine Z6 ?_ GE378.out) | exact HB.out)⟩
               replace HI0 : Aside0 (IsS52 w0 (w99.setCell ⟨go97, (t420 : Int).toNat, none⟩ (.bool (!(rdOf false x379002_27 t420)))) g s0_0 t421 t422) := ⟨by repeat (first | (with_reducible first | exact HI0.out | apply IsS52.alloc | apply IsS52.drewN | apply IsS52.drew | apply IsS52.set_1 | apply IsS52.set_2 | refine IsS52.far ?_ HN0_go97.out _ | refine IsS52.far ?_ NB0_353.out _ | refine IsS52.far ?_ NB0_378.out _) | exact HI0.out)⟩
               generalize (w99.setCell ⟨go97, (t420 : Int).toNat, none⟩ (.bool (!(rdOf false x379002_27 t420)))) = w102 at HO_3 HO_379000 HO_379001 HO_379002 HO_379003 BK353 BK378 HI0 HK HB ⊢
               have hnb103 := NB378_353.out
               have hnc103 := NB353_378.out
               have hnb104 := NB378_0.out
               have hnc104 := NB0_378.out
               have hz105 := Y4 BK378.out
               obtain ⟨Ao106, co106, rfl⟩ := Z19 HO_379000.out
               have hnb107 := NB353_0.out
               have hnc107 := NB0_353.out
               have hz108 := Y4 BK353.out
               obtain ⟨Ao109, co109, rfl⟩ := Z19 HO_379001.out
               obtain ⟨Ao110, co110, rfl⟩ := Z19 HO_379003.out
               try go_wp2
               refine bodyPost_ret (results_cell_row rfl _ _ gb353 33 #[.slice Ao106 x379000_27.length co106, .slice Ao109 x379001_27.length co109, .slice (some ⟨go97, 0, none⟩) x379002_27.length co100, .slice Ao110 x379003_27.length co110] (0, 0) _ rfl (Yk (Yv4 BK353.out)) Try.underlying33 rfl (by kernel_rfl)) rfl ?_
               exact ⟨_, _, _, _, Q1, Yj (Yf4 HO_379000.out BK353.out) (fun _ hk => ⟨hk.1.2.1, hk.1.2.2⟩), Yj (Yf4 HO_379001.out BK353.out) (fun _ hk => ⟨hk.1.2.1, hk.1.2.2⟩), Yj (Yf4 HO_379002.out BK353.out) (fun _ hk => trivial), Yj (Yf4 HO_379003.out BK353.out) (fun _ hk => ⟨hk.1.2.1, hk.1.2.2⟩), Q15, Q18, Q17⟩
              ·rw [if_neg c96] at H
               exact absurd H (by simp)
             ·rw [if_neg c95] at H
              exact absurd H (by simp)
            ·replace c93 := Bool.eq_false_iff.mpr c93
             subst c93
             have H1 : (if t397 = 3 then (if x379002_27.length < 140737488355328 then (some (x379000_27, x379001_27, (x379002_27 ++ [true]), x379003_27, t398, t399)) else (none)) else (some (x379000_27, x379001_27, x379002_27, x379003_27, t398, t399))) = some (r1, r2, r3, r4, r5, r6) := by rw [if_neg (show ¬ (false = true) by decide)] at H; exact H
             clear H
             have H := H1
             clear H1
             by_cases c111 : t397 = 3
             ·rw [if_pos c111] at H
              have c111b0 : (t397 == 3) = true := beq_iff_eq.mpr c111
              have c111b1 : (t397 != 3) = false := bne_eq_false_iff_eq.mpr c111
              clear c111
              by_cases c112 : x379002_27.length < 140737488355328
              ·rw [if_pos c112] at H
               have LMc112 := Ya c112
               clear c112
               obtain ⟨y425, hy425⟩ : ∃ y_ : List Bool, y_ = (x379002_27 ++ [true]) := ⟨_, rfl⟩
               replace H : (some (x379000_27, x379001_27, y425, x379003_27, t398, t399)) = some (r1, r2, r3, r4, r5, r6) := by first | (rw [hy425]; with_reducible exact H) | (have H2_ := (Option.bind_some _ _).symm.trans H; rw [hy425]; with_reducible exact H2_) | (have H2_ := (Option.bind_some _ _).symm.trans H; with_reducible exact H2_) | with_reducible exact H | (rw [hy425]; exact H) | exact H
               have Ny425 := Ya hy425
               clear hy425
               simp only [Option.some.injEq, Prod.mk.injEq] at H
               obtain ⟨rfl, rfl, rfl, rfl, rfl, rfl⟩ := H
               have hnb113 := NB378_353.out
               have hnc113 := NB353_378.out
               have hnb114 := NB378_0.out
               have hnc114 := NB0_378.out
               have hz115 := Y4 BK378.out
               go_wp2_with (first | ((with_reducible refine gate_builtin (b := .append) (xs := #[.tmp 100, .tmp 101]) rfl ?_); (try (refine gate_guard (by rfl) ?_; dsimp only)); at_builtin; refine Kd.R_append Kd.bool w.heap.size rfl (.tmp 100) (.tmp 101) 31 4 (.bool false) 1 rfl Try.underlying31 info4 rfl (by decide) (by omega) u379002 x379002_27 true [.bool true] (fun _ => True) (fun _ => False) rfl rfl ?aP (fun _ hk => hk.elim) ?aF ?aO (Below.refl _ _) ?aS ?aL ?_; (case aP => exact rfl); (case aF => exact (fun _ _ => trivial)); (case aO => exact (Yr HO_379002.out)); (case aS => exact (keep_size (w := w) (g := g) (row := none) Q4)); (case aL => have := LMc112.out; omega); intro v426 w116 ho hb hg hat; rw [← Ny425.out] at ho; replace HO_3 := Ya (Kd.R_over' (Yr HO_3.out) (Kd.R_typed (Yr HO_379002.out)) (by decide) hg); replace HO_379000 := Ya (Kd.R_over' (Yr HO_379000.out) (Kd.R_typed (Yr HO_379002.out)) (by decide) hg); replace HO_379001 := Ya (Kd.R_over' (Yr HO_379001.out) (Kd.R_typed (Yr HO_379002.out)) (by decide) hg); replace HO_379003 := Ya (Kd.R_over' (Yr HO_379003.out) (Kd.R_typed (Yr HO_379002.out)) (by decide) hg); replace BK353 := Ya (blk_grown (g := gb353) (o := .cells YN4 33 (0, 0)) (Yk BK353.out) hg (Kd.R_ne HO_379002.out BK353.out (by decide))); replace BK378 := Ya (blk_grown (g := gb378) (o := .cells #[u379000, u379001, u379002, u379003] 33 (0, 0)) (Yk BK378.out) hg (Kd.R_ne HO_379002.out BK378.out (by decide))); replace HB := Ya (below_weaken Q25 HL.out hb); replace HI0 := Ya (IsS52.grown Q24 hg (IsS52.own_ne HI0.out HO_379002.out (by decide))); replace HK := Ya (KeepBut.trans Q4 (KeepBut.of_grown hg g) (Kd.R_base2 HO_379002.out)); have HO427 := Ya ho; clear HO_379002; clear ho hb hg hat; obtain ⟨Ao117, co117, rfl⟩ := Z19 HO427.out; have hz118 := Y4 BK378.out; obtain ⟨Ao119, co119, rfl⟩ := Z19 HO_379000.out; have hnb120 := NB353_0.out; have hnc120 := NB0_353.out; have hz121 := Y4 BK353.out; obtain ⟨Ao122, co122, rfl⟩ := Z19 HO_379001.out; obtain ⟨Ao123, co123, rfl⟩ := Z19 HO_379003.out))
               refine bodyPost_ret (results_cell_row rfl _ _ gb353 33 #[.slice Ao119 x379000_27.length co119, .slice Ao122 x379001_27.length co122, .slice Ao117 y425.length co117, .slice Ao123 x379003_27.length co123] (0, 0) _ rfl (Yk (Yv4 (blk_far BK353.out NB353_378.out _))) Try.underlying33 rfl (by kernel_rfl)) rfl ?_
               exact ⟨_, _, _, _, Q1, Yj (Z13 (p := ⟨gb353, 3, none⟩) (Z13 (p := ⟨gb353, 2, none⟩) (Z13 (p := ⟨gb353, 1, none⟩) (Z13 (p := ⟨gb353, 0, none⟩) (Z13 (p := ⟨gb378, 2, none⟩) (Z15 (Z15 HO_379000.out BK378.out (by decide)) BK353.out (by decide)) (fun _ hk => hk.1.2) (.slice Ao117 y425.length co117)) (fun _ hk => hk.2) (.slice Ao119 x379000_27.length co119)) (fun _ hk => hk.2) (.slice Ao122 x379001_27.length co122)) (fun _ hk => hk.2) (.slice Ao117 y425.length co117)) (fun _ hk => hk.2) (.slice Ao123 x379003_27.length co123)) (fun _ hk => ⟨hk.1.1.2.1, hk.1.1.2.2⟩), Yj (Z13 (p := ⟨gb353, 3, none⟩) (Z13 (p := ⟨gb353, 2, none⟩) (Z13 (p := ⟨gb353, 1, none⟩) (Z13 (p := ⟨gb353, 0, none⟩) (Z13 (p := ⟨gb378, 2, none⟩) (Z15 (Z15 HO_379001.out BK378.out (by decide)) BK353.out (by decide)) (fun _ hk => hk.1.2) (.slice Ao117 y425.length co117)) (fun _ hk => hk.2) (.slice Ao119 x379000_27.length co119)) (fun _ hk => hk.2) (.slice Ao122 x379001_27.length co122)) (fun _ hk => hk.2) (.slice Ao117 y425.length co117)) (fun _ hk => hk.2) (.slice Ao123 x379003_27.length co123)) (fun _ hk => ⟨hk.1.1.2.1, hk.1.1.2.2⟩), Yj (Z13 (p := ⟨gb353, 3, none⟩) (Z13 (p := ⟨gb353, 2, none⟩) (Z13 (p := ⟨gb353, 1, none⟩) (Z13 (p := ⟨gb353, 0, none⟩) (Z13 (p := ⟨gb378, 2, none⟩) (Z15 (Z15 HO427.out BK378.out (by decide)) BK353.out (by decide)) (fun _ hk => hk.1.2) (.slice Ao117 y425.length co117)) (fun _ hk => hk.2) (.slice Ao119 x379000_27.length co119)) (fun _ hk => hk.2) (.slice Ao122 x379001_27.length co122)) (fun _ hk => hk.2) (.slice Ao117 y425.length co117)) (fun _ hk => hk.2) (.slice Ao123 x379003_27.length co123)) (fun _ hk => trivial), Yj (Z13 (p := ⟨gb353, 3, none⟩) (Z13 (p := ⟨gb353, 2, none⟩) (Z13 (p := ⟨gb353, 1, none⟩) (Z13 (p := ⟨gb353, 0, none⟩) (Z13 (p := ⟨gb378, 2, none⟩) (Z15 (Z15 HO_379003.out BK378.out (by decide)) BK353.out (by decide)) (fun _ hk => hk.1.2) (.slice Ao117 y425.length co117)) (fun _ hk => hk.2) (.slice Ao119 x379000_27.length co119)) (fun _ hk => hk.2) (.slice Ao122 x379001_27.length co122)) (fun _ hk => hk.2) (.slice Ao117 y425.length co117)) (fun _ hk => hk.2) (.slice Ao123 x379003_27.length co123)) (fun _ hk => ⟨hk.1.1.2.1, hk.1.1.2.2⟩), Q15, Q18, Q17⟩
              ·rw [if_neg c112] at H
               exact absurd H (by simp)
             ·rw [if_neg c111] at H
              have c111b0 : (t397 == 3) = false := beq_eq_false_iff_ne.mpr c111
              have c111b1 : (t397 != 3) = true := bne_iff_ne.mpr c111
              simp only [Option.some.injEq, Prod.mk.injEq] at H
              obtain ⟨rfl, rfl, rfl, rfl, rfl, rfl⟩ := H
              have hnb124 := NB378_353.out
              have hnc124 := NB353_378.out
              have hnb125 := NB378_0.out
              have hnc125 := NB0_378.out
              have hz126 := Y4 BK378.out
              obtain ⟨Ao127, co127, rfl⟩ := Z19 HO_379000.out
              have hnb128 := NB353_0.out
              have hnc128 := NB0_353.out
              have hz129 := Y4 BK353.out
              obtain ⟨Ao130, co130, rfl⟩ := Z19 HO_379001.out
              obtain ⟨Ao131, co131, rfl⟩ := Z19 HO_379002.out
              obtain ⟨Ao132, co132, rfl⟩ := Z19 HO_379003.out
              go_wp2
              refine bodyPost_ret (results_cell_row rfl _ _ gb353 33 #[.slice Ao127 x379000_27.length co127, .slice Ao130 x379001_27.length co130, .slice Ao131 x379002_27.length co131, .slice Ao132 x379003_27.length co132] (0, 0) _ rfl (Yk (Yv4 BK353.out)) Try.underlying33 rfl (by kernel_rfl)) rfl ?_
              exact ⟨_, _, _, _, Q1, Yj (Yf4 HO_379000.out BK353.out) (fun _ hk => ⟨hk.1.2.1, hk.1.2.2⟩), Yj (Yf4 HO_379001.out BK353.out) (fun _ hk => ⟨hk.1.2.1, hk.1.2.2⟩), Yj (Yf4 HO_379002.out BK353.out) (fun _ hk => trivial), Yj (Yf4 HO_379003.out BK353.out) (fun _ hk => ⟨hk.1.2.1, hk.1.2.2⟩), Q15, Q18, Q17⟩
 ·replace c4 := Bool.eq_false_iff.mpr c4
  subst c4
  have H1 : (some (t354, ([] : List Int), ([] : List Bool), ([] : List Int), t357, t358)) = some (r1, r2, r3, r4, r5, r6) := by rw [if_neg (show ¬ (false = true) by decide)] at H; exact H
  clear H
  have H := H1
  clear H1
  simp only [Option.some.injEq, Prod.mk.injEq] at H
  obtain ⟨rfl, rfl, rfl, rfl, rfl, rfl⟩ := H
  go_enter Try.func62, Try.ntmps62
  go_wp2_with (first | ((with_reducible refine gate_dst (N := 2) rfl ?_); (try (refine gate_guard (by rfl) ?_; dsimp only)); refine Yx 2 YN4 33 ?_; intro gb353 hg w133 hbox hb; replace HB := Ya (Z8 Q21 hb); have BK353 := Ya hbox; have GW353 := Ya ((by rw [hg]; exact (keep_size (w := w) (g := g) (row := none) Q3) : w.heap.size ≤ gb353)); have GE353 := Ya ((Nat.le_trans HW0.out (by rw [hg]; exact (keep_size (w := w) (g := g) (row := none) Q3) : w.heap.size ≤ gb353) : w0.heap.size ≤ gb353)); replace HK := Ya (KeepBut.trans Q3 (KeepBut.of_below hb g none) (.inl rfl)); have NB0_353 := Ya ((by rw [hg]; exact Nat.ne_of_lt (IsS52.lt (show IsS52 w0 _ g s0_0 s0_1 s0_2 from by repeat (first | (with_reducible first | exact HI0.out | apply IsS52.alloc | apply IsS52.drewN | apply IsS52.drew | apply IsS52.set_1 | apply IsS52.set_2) | exact HI0.out))) : g ≠ gb353)); have NB353_0 := Ya ((by rw [hg]; exact Nat.ne_of_gt (IsS52.lt (show IsS52 w0 _ g s0_0 s0_1 s0_2 from by repeat (first | (with_reducible first | exact HI0.out | apply IsS52.alloc | apply IsS52.drewN | apply IsS52.drew | apply IsS52.set_1 | apply IsS52.set_2) | exact HI0.out))) : gb353 ≠ g)); replace HI0 := Ya (IsS52.below Q20 hb); clear hb hbox hg) | ((with_reducible refine gate_callee (f := 27) rfl ?_); refine Yz 9 Try.func27 #[.pointer (some ⟨g, 0, none⟩)] ?_; (with_reducible refine (spec_l1Cur_small.calls k g s0_0 s0_1 s0_2 t354 t357 t358 w0 _ ?side1 ?side2 A2.out).mono ?_); (case side1 => repeat (first | (with_reducible first | exact HI0.out | apply IsS52.alloc | apply IsS52.drewN | apply IsS52.drew | apply IsS52.set_1 | apply IsS52.set_2 | refine IsS52.far ?_ NB0_353.out _) | exact HI0.out)); (case side2 => repeat (first | (with_reducible first | exact HB.out | apply Z5 | apply Z3 | apply Z4 | refine Z6 ?_ (IsS52.ge HI0.out) | refine Z6 ?_ GE353.out) | exact HB.out)); rintro e w134 ⟨v355, rfl, ho0, hi, hb, hk⟩; refine ⟨_, rfl, ?_⟩; replace BK353 := Ya (KeepBut.blk hk (g' := gb353) (o := .cells YN4 33 (0, 0)) (Yk BK353.out) NB353_0.out (by simp)); have HO356 := Ya (Kd.R_lower ho0 (keep_size (w := w) (g := g) (row := none) Q16)); replace HK := Ya (KeepBut.trans Q16 hk (.inl rfl)); replace HB := Ya hb; replace HI0 := Ya hi; (try clear hb hk hi ho0); obtain ⟨Ao135, co135, rfl⟩ := Z19 HO356.out) | ((with_reducible refine gate_callee (f := 32) rfl ?_); refine Yz 11 Try.func32 #[.slice Ao135 t354.length co135] ?_; (with_reducible refine (spec_foBases.calls k _ _ t354 false _ (Yc (Kd.R_reads' HO356.out).2.2) ((Kd.R_reads' HO356.out).2.1) A3.out).mono ?_); rintro e w' ⟨rfl, ⟨nd, rfl⟩⟩; refine ⟨_, rfl, ?_⟩; (try (rw [drewN_self w134]; generalize hq_ : World.drewN w134 _ = w134; replace HO356 : Aside0 (Kd.R (Kd.int .i64) 3 w134 w.heap.size (fun _ => True) (.slice Ao135 t354.length co135) t354) := ⟨by rw [← hq_]; exact (Yr HO356.out)⟩; replace BK353 : Aside0 (w134.heap[gb353]? = some (.cells YN4 33 (0, 0))) := ⟨Q70⟩; replace HK : Aside0 (KeepBut w w134 g none) := ⟨by rw [← hq_]; exact Q16⟩; replace HB : Aside0 (Below w0.heap.size w0 w134) := ⟨by rw [← hq_]; exact Q29⟩; replace HI0 : Aside0 (IsS52 w0 w134 g s0_0 t357 t358) := ⟨by rw [← hq_]; exact Q22⟩; clear hq_)); have hnb136 := NB353_0.out; have hnc136 := NB0_353.out; have hz137 := Y4 BK353.out))
  refine bodyPost_ret (results_cell_row rfl _ _ gb353 33 #[.slice Ao135 t354.length co135, .slice none 0 0, .slice none 0 0, .slice none 0 0] (0, 0) _ rfl (Yk (Yv4 BK353.out)) Try.underlying33 rfl (by kernel_rfl)) rfl ?_
  exact ⟨_, _, _, _, Q1, Yj (Yf4 HO356.out BK353.out) (fun _ hk => ⟨(by simp [Value.ownBlock]), (by simp [Value.ownBlock])⟩), Q14, Q14, Q14, by repeat (first | (with_reducible first | exact HI0.out | apply IsS52.alloc | apply IsS52.drewN | apply IsS52.drew | apply IsS52.set_1 | apply IsS52.set_2 | refine IsS52.far ?_ NB0_353.out _) | exact HI0.out), by repeat (first | (with_reducible first | exact HB.out | apply Z5 | apply Z3 | apply Z4 | refine Z6 ?_ (IsS52.ge HI0.out) | refine Z6 ?_ GE353.out) | exact HB.out), by repeat (first | (with_reducible first | exact HK.out | apply KeepBut.set_ | apply keep_drewN | apply keep_drew | apply keep_alloc | refine keep_far ?_ GW353.out _) | exact HK.out)⟩
end Go.Proofs.Ytapbbmicfkbafaa.MFnFocusSteps
