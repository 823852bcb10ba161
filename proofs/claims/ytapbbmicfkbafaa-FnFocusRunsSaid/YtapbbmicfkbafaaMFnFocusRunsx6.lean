import Derived.Test.YtapbbmicfkbafaaMFnFocusRunsx0
import Derived.Test.YtapbbmicfkbafaaMFnFocusRunsx1
import Derived.Test.YtapbbmicfkbafaaMFnFocusRunsx2
import Derived.Test.YtapbbmicfkbafaaMFnFocusRunsx3
import Derived.Test.YtapbbmicfkbafaaMFnFocusRunsx5
namespace Go.Proofs.Ytapbbmicfkbafaa.MFnFocusRuns
open Go.RowKit Go.Proofs.YtapbbmicfkbafaaW.PrintWords Go.Proofs.YtapbbmicfkbafaaW.PrintLast Go.Proofs.YtapbbmicfkbafaaW.PrintMore
attribute [local go_sem] max2_int min2_int max_two min_two max_three min_three max_four min_four   
set_option linter.unusedVariables false
set_option linter.unusedSimpArgs false
def slices_Equal_bool_bool.l0 : Nat → List Bool → List Bool → Int → Int → Option (Bool)
 | 0, _, _, _, _ => none
 | k + 1, x0, x1, x12, x13 => if x13 < x12 then (if 0 ≤ x13 then (if x13 < (x0.length : Int) then (if x13 < (x1.length : Int) then (if ((rdOf false x0 x13) != (rdOf false x1 x13)) = true then (some false) else (slices_Equal_bool_bool.l0 k x0 x1 x12 (wrap64 (x13 + 1)))) else (none)) else (none)) else (none)) else (some true)
def slices_Equal_bool_bool.f (k : Nat) (l0 : List Bool) (l1 : List Bool) : Option (Bool) := if (l0.length : Int) = (l1.length : Int) then (slices_Equal_bool_bool.l0 k l0 l1 (l0.length : Int) 0) else (some false)
theorem slices_Equal_bool_bool.mono_l : ∀ k, (∀ y0 y1 y2 y3, LeO (slices_Equal_bool_bool.l0 k y0 y1 y2 y3) (slices_Equal_bool_bool.l0 (k + 1) y0 y1 y2 y3))
 | 0 => fun _ _ _ _ r h => by simp [slices_Equal_bool_bool.l0] at h
 | k + 1 => by
  have ih0 := slices_Equal_bool_bool.mono_l k
  ·intro y0 y1 y2 y3
   unfold slices_Equal_bool_bool.l0
   repeat' first
   | (with_reducible exact ih0 _ _ _ _)
   | (with_reducible exact LeO.refl _)
   | (with_reducible exact LeO.none _)
   | (with_reducible refine LeO.ite ?_ ?_)
   | (with_reducible refine LeO.bind ?_ (fun _ => ?_))
   | exact ih0 _ _ _ _
   | exact LeO.none _
   | refine LeO.ite ?_ ?_
   | refine LeO.bind ?_ (fun _ => ?_)
theorem slices_Equal_bool_bool.mono : ∀ a0 a1 k, LeO (slices_Equal_bool_bool.f k a0 a1) (slices_Equal_bool_bool.f (k + 1) a0 a1) := by
 intro a0 a1 k
 have ih0 := slices_Equal_bool_bool.mono_l k
 unfold slices_Equal_bool_bool.f
 repeat' first
   | (with_reducible exact ih0 _ _ _ _)
   | (with_reducible exact LeO.refl _)
   | (with_reducible exact LeO.none _)
   | (with_reducible refine LeO.ite ?_ ?_)
   | (with_reducible refine LeO.bind ?_ (fun _ => ?_))
   | exact ih0 _ _ _ _
   | exact LeO.none _
   | refine LeO.ite ?_ ?_
   | refine LeO.bind ?_ (fun _ => ?_)
set_option maxHeartbeats 8000000 in
set_option maxRecDepth 100000 in
theorem slices_Equal_bool_bool.calls (k : Nat) (A0 : Option Addr) (c0 : Nat) (l0 : List Bool) (A1 : Option Addr) (c1 : Nat) (l1 : List Bool) (r : Bool) (w : World) (hr0 : Kd.C Kd.bool w A0 l0.length l0) (hc0 : l0.length ≤ c0) (hr1 : Kd.C Kd.bool w A1 l1.length l1) (hc1 : l1.length ≤ c1) (h : slices_Equal_bool_bool.f k l0 l1 = some r) :
  Calls Try.prog 68 #[.slice A0 l0.length c0, .slice A1 l1.length c1] w fun e w' => e = .returned (.bool r) ∧ Drawn0 w w' := by
 have HR0 := Ya hr0
 have HC0 := Ya hc0
 clear hr0 hc0
 have HR1 := Ya hr1
 have HC1 := Ya hc1
 clear hr1 hc1
 have H : (if (l0.length : Int) = (l1.length : Int) then (slices_Equal_bool_bool.l0 k l0 l1 (l0.length : Int) 0) else (some false)) = some r := h
 clear h
 by_cases c3 : (l0.length : Int) = (l1.length : Int)
 ·rw [if_pos c3] at H
  have c3b0 : ((l0.length : Int) == (l1.length : Int)) = true := beq_iff_eq.mpr c3
  have c3b1 : ((l0.length : Int) != (l1.length : Int)) = false := bne_eq_false_iff_eq.mpr c3
  have c3b2 : (l0.length == l1.length) = true := by first | simpa using c3 | (simp at c3 ⊢; omega)
  clear c3
  have H' := Ya H
  clear H
  go_enter Try.func68, Try.ntmps68
  go_wp2
  repeat (go_quiet (fail); try go_wp2)
  go_loopg [13] k (fun kq v13 w' => ∃ (x13_1 : Int), v13 = .int .i64 x13_1 ∧ Aside0 (slices_Equal_bool_bool.l0 kq l0 l1 (l0.length : Int) x13_1 = some r) ∧ Aside0 (kq ≤ k) ∧ Drawn0 w w')
  case atStart => exact ⟨(0), Q8, H', ⟨Nat.le_refl _⟩, Q11⟩
  case round =>
   clear H'
   try clear c1
   try clear p2
   try clear c3
   try clear c3b0
   try clear c3b1
   try clear c3b2
   obtain ⟨x13_1, rfl, HA, HK1, ⟨m1, rfl⟩⟩ := hrel
   cases gk with
   | zero => exact absurd HA.out (by simp [slices_Equal_bool_bool.l0])
   | succ k1 =>
    have H := HA.out
    clear HA
    simp only [slices_Equal_bool_bool.l0] at H
    by_cases c4 : x13_1 < (l0.length : Int)
    ·rw [if_pos c4] at H
     have c4b0 := Z37 c4
     clear c4
     by_cases c5 : 0 ≤ x13_1
     ·rw [if_pos c5] at H
      have c5b0 := Z37 c5
      clear c5
      by_cases c6 : x13_1 < (l0.length : Int)
      ·rw [if_pos c6] at H
       have c6b0 := Z37 c6
       clear c6
       by_cases c7 : x13_1 < (l1.length : Int)
       ·rw [if_pos c7] at H
        have c7b0 := Z37 c7
        clear c7
        by_cases c8 : ((rdOf false l0 x13_1) != (rdOf false l1 x13_1)) = true
        ·rw [if_pos c8] at H
         have c8b0 : ((rdOf false l0 x13_1) != (rdOf false l1 x13_1)) = true := c8
         (try (have c8b1 : decide ((rdOf false l0 x13_1) = (rdOf false l1 x13_1)) = false := by simpa using c8))
         (try (have c8b2 : ((rdOf false l0 x13_1) == (rdOf false l1 x13_1)) = false := by simpa using c8))
         (try (have c8b3 : ¬ ((rdOf false l0 x13_1) = (rdOf false l1 x13_1)) := by simpa using c8))
         clear c8
         obtain rfl := Option.some.inj H
         have p363 : 0 ≤ (x13_1 : Int) := Z29 Q3
         have q363 : x13_1 < (l0.length : Int) := Z29 Q3
         obtain ⟨ad363, e363, hx363_0⟩ := Kd.at_bool HR0.out x13_1 p363 q363
         cases e363
         replace p363 := eq_true p363
         replace q363 := eq_true q363
         have p364 : 0 ≤ (x13_1 : Int) := Z29 Q3
         have q364 : x13_1 < (l1.length : Int) := Z29 Q3
         obtain ⟨ad364, e364, hx364_0⟩ := Kd.at_bool HR1.out x13_1 p364 q364
         cases e364
         replace p364 := eq_true p364
         replace q364 := eq_true q364
         go_wp2
         repeat (go_quiet (fail); try go_wp2)
         go_ret
         exact ⟨Q15, Q11⟩
        ·rw [if_neg c8] at H
         have c8b0 : ((rdOf false l0 x13_1) != (rdOf false l1 x13_1)) = false := by simpa using c8
         (try (have c8b1 : decide ((rdOf false l0 x13_1) = (rdOf false l1 x13_1)) = true := by simpa using c8))
         (try (have c8b2 : ((rdOf false l0 x13_1) == (rdOf false l1 x13_1)) = true := by simpa using c8))
         clear c8
         have H' := Ya H
         clear H
         have p363 : 0 ≤ (x13_1 : Int) := Z29 Q3
         have q363 : x13_1 < (l0.length : Int) := Z29 Q3
         obtain ⟨ad363, e363, hx363_0⟩ := Kd.at_bool HR0.out x13_1 p363 q363
         cases e363
         replace p363 := eq_true p363
         replace q363 := eq_true q363
         have p364 : 0 ≤ (x13_1 : Int) := Z29 Q3
         have q364 : x13_1 < (l1.length : Int) := Z29 Q3
         obtain ⟨ad364, e364, hx364_0⟩ := Kd.at_bool HR1.out x13_1 p364 q364
         cases e364
         replace p364 := eq_true p364
         replace q364 := eq_true q364
         go_wp2
         repeat (go_quiet (fail); try go_wp2)
         go_roundg k1
         case measure => have := HK1.out; omega
         case rel => exact ⟨(wrap64 (x13_1 + 1)), Q8, H', ⟨Q23⟩, Q11⟩
       ·rw [if_neg c7] at H
        exact absurd H (by simp)
      ·rw [if_neg c6] at H
       exact absurd H (by simp)
     ·rw [if_neg c5] at H
      exact absurd H (by simp)
    ·rw [if_neg c4] at H
     have c4b0 := Z36 c4
     clear c4
     obtain rfl := Option.some.inj H
     go_wp2
     repeat (go_quiet (fail); try go_wp2)
     go_ret
     exact ⟨Q15, Q11⟩
 ·rw [if_neg c3] at H
  have c3b0 : ((l0.length : Int) == (l1.length : Int)) = false := beq_eq_false_iff_ne.mpr c3
  have c3b1 : ((l0.length : Int) != (l1.length : Int)) = true := bne_iff_ne.mpr c3
  have c3b2 : (l0.length == l1.length) = false := by first | simpa using c3 | (simp at c3 ⊢; omega)
  obtain rfl := Option.some.inj H
  go_enter Try.func68, Try.ntmps68
  go_wp2
  repeat (go_quiet (fail); try go_wp2)
  go_ret
  exact ⟨Q15, Q11⟩
def impl_Focus_same.f (k : Nat) (l0_0 : List Int) (l0_1 : List Int) (l0_2 : List Bool) (l0_3 : List Int) (l1_0 : List Int) (l1_1 : List Int) (l1_2 : List Bool) (l1_3 : List Int) : Option (Bool) := (slices_Equal_int_int.f k l0_0 l1_0).bind fun t367 => (if t367 = true then ((slices_Equal_int_int.f k l0_1 l1_1).bind fun t368 => (if t368 = true then ((slices_Equal_bool_bool.f k l0_2 l1_2).bind fun t369 => (if t369 = true then ((slices_Equal_int_int.f k l0_3 l1_3).bind fun t370 => (some t370)) else (some false))) else (some false))) else (some false))
theorem impl_Focus_same.mono : ∀ a0 a1 a2 a3 a4 a5 a6 a7 k, LeO (impl_Focus_same.f k a0 a1 a2 a3 a4 a5 a6 a7) (impl_Focus_same.f (k + 1) a0 a1 a2 a3 a4 a5 a6 a7) := by
 intro a0 a1 a2 a3 a4 a5 a6 a7 k
 unfold impl_Focus_same.f
 repeat' first
   | (with_reducible exact slices_Equal_bool_bool.mono _ _ _)
   | (with_reducible exact slices_Equal_int_int.mono _ _ _)
   | (with_reducible exact LeO.refl _)
   | (with_reducible exact LeO.none _)
   | (with_reducible refine LeO.ite ?_ ?_)
   | (with_reducible refine LeO.bind ?_ (fun _ => ?_))
   | exact slices_Equal_bool_bool.mono _ _ _
   | exact slices_Equal_int_int.mono _ _ _
   | exact LeO.none _
   | refine LeO.ite ?_ ?_
   | refine LeO.bind ?_ (fun _ => ?_)
set_option maxHeartbeats 8000000 in
set_option maxRecDepth 100000 in
theorem impl_Focus_same.calls (k : Nat) (A0_0 : Option Addr) (c0_0 : Nat) (l0_0 : List Int) (A0_1 : Option Addr) (c0_1 : Nat) (l0_1 : List Int) (A0_2 : Option Addr) (c0_2 : Nat) (l0_2 : List Bool) (A0_3 : Option Addr) (c0_3 : Nat) (l0_3 : List Int) (A1_0 : Option Addr) (c1_0 : Nat) (l1_0 : List Int) (A1_1 : Option Addr) (c1_1 : Nat) (l1_1 : List Int) (A1_2 : Option Addr) (c1_2 : Nat) (l1_2 : List Bool) (A1_3 : Option Addr) (c1_3 : Nat) (l1_3 : List Int) (r : Bool) (w : World) (hr0_0 : Kd.C (Kd.int .i64) w A0_0 l0_0.length l0_0) (hc0_0 : l0_0.length ≤ c0_0) (hr0_1 : Kd.C (Kd.int .i64) w A0_1 l0_1.length l0_1) (hc0_1 : l0_1.length ≤ c0_1) (hr0_2 : Kd.C Kd.bool w A0_2 l0_2.length l0_2) (hc0_2 : l0_2.length ≤ c0_2) (hr0_3 : Kd.C (Kd.int .i64) w A0_3 l0_3.length l0_3) (hc0_3 : l0_3.length ≤ c0_3) (hr1_0 : Kd.C (Kd.int .i64) w A1_0 l1_0.length l1_0) (hc1_0 : l1_0.length ≤ c1_0) (hr1_1 : Kd.C (Kd.int .i64) w A1_1 l1_1.length l1_1) (hc1_1 : l1_1.length ≤ c1_1) (hr1_2 : Kd.C Kd.bool w A1_2 l1_2.length l1_2) (hc1_2 : l1_2.length ≤ c1_2) (hr1_3 : Kd.C (Kd.int .i64) w A1_3 l1_3.length l1_3) (hc1_3 : l1_3.length ≤ c1_3) (h : impl_Focus_same.f k l0_0 l0_1 l0_2 l0_3 l1_0 l1_1 l1_2 l1_3 = some r) :
  Calls Try.prog 53 #[.agg #[.slice A0_0 l0_0.length c0_0, .slice A0_1 l0_1.length c0_1, .slice A0_2 l0_2.length c0_2, .slice A0_3 l0_3.length c0_3], .agg #[.slice A1_0 l1_0.length c1_0, .slice A1_1 l1_1.length c1_1, .slice A1_2 l1_2.length c1_2, .slice A1_3 l1_3.length c1_3]] w fun e w' => e = .returned (.bool r) ∧ Below w.heap.size w w' := by
 have hu33 := Try.underlying33
 have HR0_0 := Ya hr0_0
 have HC0_0 := Ya hc0_0
 clear hr0_0 hc0_0
 have HR0_1 := Ya hr0_1
 have HC0_1 := Ya hc0_1
 clear hr0_1 hc0_1
 have HR0_2 := Ya hr0_2
 have HC0_2 := Ya hc0_2
 clear hr0_2 hc0_2
 have HR0_3 := Ya hr0_3
 have HC0_3 := Ya hc0_3
 clear hr0_3 hc0_3
 have HR1_0 := Ya hr1_0
 have HC1_0 := Ya hc1_0
 clear hr1_0 hc1_0
 have HR1_1 := Ya hr1_1
 have HC1_1 := Ya hc1_1
 clear hr1_1 hc1_1
 have HR1_2 := Ya hr1_2
 have HC1_2 := Ya hc1_2
 clear hr1_2 hc1_2
 have HR1_3 := Ya hr1_3
 have HC1_3 := Ya hc1_3
 clear hr1_3 hc1_3
 have HB := Ya (Below.refl w.heap.size w)
 have H : ((slices_Equal_int_int.f k l0_0 l1_0).bind fun t367 => (if t367 = true then ((slices_Equal_int_int.f k l0_1 l1_1).bind fun t368 => (if t368 = true then ((slices_Equal_bool_bool.f k l0_2 l1_2).bind fun t369 => (if t369 = true then ((slices_Equal_int_int.f k l0_3 l1_3).bind fun t370 => (some t370)) else (some false))) else (some false))) else (some false))) = some r := h
 clear h
 replace H := Z35.mp H
 obtain ⟨t367, A30, H⟩ := H
 replace H : (if t367 = true then ((slices_Equal_int_int.f k l0_1 l1_1).bind fun t368 => (if t368 = true then ((slices_Equal_bool_bool.f k l0_2 l1_2).bind fun t369 => (if t369 = true then ((slices_Equal_int_int.f k l0_3 l1_3).bind fun t370 => (some t370)) else (some false))) else (some false))) else (some false)) = some r := H
 have A3 := Ya A30
 clear A30
 by_cases c4 : t367 = true
 ·subst c4
  have H1 : ((slices_Equal_int_int.f k l0_1 l1_1).bind fun t368 => (if t368 = true then ((slices_Equal_bool_bool.f k l0_2 l1_2).bind fun t369 => (if t369 = true then ((slices_Equal_int_int.f k l0_3 l1_3).bind fun t370 => (some t370)) else (some false))) else (some false))) = some r := by rw [if_pos rfl] at H; exact H
  clear H
  have H := H1
  clear H1
  replace H := Z35.mp H
  obtain ⟨t368, A50, H⟩ := H
  replace H : (if t368 = true then ((slices_Equal_bool_bool.f k l0_2 l1_2).bind fun t369 => (if t369 = true then ((slices_Equal_int_int.f k l0_3 l1_3).bind fun t370 => (some t370)) else (some false))) else (some false)) = some r := H
  have A5 := Ya A50
  clear A50
  by_cases c6 : t368 = true
  ·subst c6
   have H1 : ((slices_Equal_bool_bool.f k l0_2 l1_2).bind fun t369 => (if t369 = true then ((slices_Equal_int_int.f k l0_3 l1_3).bind fun t370 => (some t370)) else (some false))) = some r := by rw [if_pos rfl] at H; exact H
   clear H
   have H := H1
   clear H1
   replace H := Z35.mp H
   obtain ⟨t369, A70, H⟩ := H
   replace H : (if t369 = true then ((slices_Equal_int_int.f k l0_3 l1_3).bind fun t370 => (some t370)) else (some false)) = some r := H
   have A7 := Ya A70
   clear A70
   by_cases c8 : t369 = true
   ·subst c8
    have H1 : ((slices_Equal_int_int.f k l0_3 l1_3).bind fun t370 => (some t370)) = some r := by rw [if_pos rfl] at H; exact H
    clear H
    have H := H1
    clear H1
    replace H := Z35.mp H
    obtain ⟨t370, A90, H⟩ := H
    replace H : (some t370) = some r := H
    have A9 := Ya A90
    clear A90
    obtain rfl := Option.some.inj H
    go_enter Try.func53, Try.ntmps53
    go_wp2_with (first | ((with_reducible refine gate_dst (N := 2) rfl ?_); refine Yx 2 #[.slice A0_0 l0_0.length c0_0, .slice A0_1 l0_1.length c0_1, .slice A0_2 l0_2.length c0_2, .slice A0_3 l0_3.length c0_3] 33 ?_; intro gb365 hg w10 hbox hb; have BK365 := Ya hbox; have GE365 := Yg hg; replace HB := Yh hb; clear hb hbox hg) | ((with_reducible refine gate_dst (N := 3) rfl ?_); refine Yx 3 #[.slice A1_0 l1_0.length c1_0, .slice A1_1 l1_1.length c1_1, .slice A1_2 l1_2.length c1_2, .slice A1_3 l1_3.length c1_3] 33 ?_; intro gb366 hg w11 hbox hb; have BK366 := Ya hbox; have GE366 := Yg hg; replace HB := Yh hb; have NB365_366 := Yn BK365 hg; have NB366_365 := Ym BK365 hg; replace BK365 := Yb BK365 hb; clear hb hbox hg; have hnb12 := NB365_366.out; have hnc12 := NB366_365.out; have hz13 := Y4 BK365.out; have hz14 := Y4 BK366.out) | ((with_reducible refine gate_callee (f := 67) rfl ?_); refine Yz 9 Try.func67 #[.slice A0_0 l0_0.length c0_0, .slice A1_0 l1_0.length c1_0] ?_; (with_reducible refine (slices_Equal_int_int.calls k _ _ l0_0 _ _ l1_0 true _ (Yc (Z21 HR0_0.out HB.out)) HC0_0.out (Yc (Z21 HR1_0.out HB.out)) HC1_0.out A3.out).mono ?_); rintro e w' ⟨rfl, ⟨nd, rfl⟩⟩; refine ⟨_, rfl, ?_⟩) | (go_at_call 67; (with_reducible refine (slices_Equal_int_int.calls k _ _ l0_1 _ _ l1_1 true _ ?side1 HC0_1.out ?side3 HC1_1.out A5.out).mono ?_); (case side1 => exact Yc (Z21 HR0_1.out Q0)); (case side3 => exact Yc (Z21 HR1_1.out Q0)); rintro e w' ⟨rfl, ⟨nd, rfl⟩⟩) | (go_at_call 68; (with_reducible refine (slices_Equal_bool_bool.calls k _ _ l0_2 _ _ l1_2 true _ ?side1 HC0_2.out ?side3 HC1_2.out A7.out).mono ?_); (case side1 => exact Yc (Z21 HR0_2.out Q0)); (case side3 => exact Yc (Z21 HR1_2.out Q0)); rintro e w' ⟨rfl, ⟨nd, rfl⟩⟩) | (go_at_call 67; (with_reducible refine (slices_Equal_int_int.calls k _ _ l0_3 _ _ l1_3 t370 _ ?side1 HC0_3.out ?side3 HC1_3.out A9.out).mono ?_); (case side1 => exact Yc (Z21 HR0_3.out Q0)); (case side3 => exact Yc (Z21 HR1_3.out Q0)); rintro e w' ⟨rfl, ⟨nd, rfl⟩⟩))
    go_ret
    exact ⟨Q1, Q12⟩
   ·replace c8 := Bool.eq_false_iff.mpr c8
    subst c8
    have H1 : (some false) = some r := by rw [if_neg (show ¬ (false = true) by decide)] at H; exact H
    clear H
    have H := H1
    clear H1
    obtain rfl := Option.some.inj H
    go_enter Try.func53, Try.ntmps53
    go_wp2_with (first | ((with_reducible refine gate_dst (N := 2) rfl ?_); refine Yx 2 #[.slice A0_0 l0_0.length c0_0, .slice A0_1 l0_1.length c0_1, .slice A0_2 l0_2.length c0_2, .slice A0_3 l0_3.length c0_3] 33 ?_; intro gb365 hg w15 hbox hb; have BK365 := Ya hbox; have GE365 := Yg hg; replace HB := Yh hb; clear hb hbox hg) | ((with_reducible refine gate_dst (N := 3) rfl ?_); refine Yx 3 #[.slice A1_0 l1_0.length c1_0, .slice A1_1 l1_1.length c1_1, .slice A1_2 l1_2.length c1_2, .slice A1_3 l1_3.length c1_3] 33 ?_; intro gb366 hg w16 hbox hb; have BK366 := Ya hbox; have GE366 := Yg hg; replace HB := Yh hb; have NB365_366 := Yn BK365 hg; have NB366_365 := Ym BK365 hg; replace BK365 := Yb BK365 hb; clear hb hbox hg; have hnb17 := NB365_366.out; have hnc17 := NB366_365.out; have hz18 := Y4 BK365.out; have hz19 := Y4 BK366.out) | ((with_reducible refine gate_callee (f := 67) rfl ?_); refine Yz 9 Try.func67 #[.slice A0_0 l0_0.length c0_0, .slice A1_0 l1_0.length c1_0] ?_; (with_reducible refine (slices_Equal_int_int.calls k _ _ l0_0 _ _ l1_0 true _ (Yc (Z21 HR0_0.out HB.out)) HC0_0.out (Yc (Z21 HR1_0.out HB.out)) HC1_0.out A3.out).mono ?_); rintro e w' ⟨rfl, ⟨nd, rfl⟩⟩; refine ⟨_, rfl, ?_⟩) | (go_at_call 67; (with_reducible refine (slices_Equal_int_int.calls k _ _ l0_1 _ _ l1_1 true _ ?side1 HC0_1.out ?side3 HC1_1.out A5.out).mono ?_); (case side1 => exact Yc (Z21 HR0_1.out Q0)); (case side3 => exact Yc (Z21 HR1_1.out Q0)); rintro e w' ⟨rfl, ⟨nd, rfl⟩⟩) | (go_at_call 68; (with_reducible refine (slices_Equal_bool_bool.calls k _ _ l0_2 _ _ l1_2 false _ ?side1 HC0_2.out ?side3 HC1_2.out A7.out).mono ?_); (case side1 => exact Yc (Z21 HR0_2.out Q0)); (case side3 => exact Yc (Z21 HR1_2.out Q0)); rintro e w' ⟨rfl, ⟨nd, rfl⟩⟩))
    go_ret
    exact ⟨Q1, Q12⟩
  ·replace c6 := Bool.eq_false_iff.mpr c6
   subst c6
   have H1 : (some false) = some r := by rw [if_neg (show ¬ (false = true) by decide)] at H; exact H
   clear H
   have H := H1
   clear H1
   obtain rfl := Option.some.inj H
   go_enter Try.func53, Try.ntmps53
   go_wp2_with (first | ((with_reducible refine gate_dst (N := 2) rfl ?_); refine Yx 2 #[.slice A0_0 l0_0.length c0_0, .slice A0_1 l0_1.length c0_1, .slice A0_2 l0_2.length c0_2, .slice A0_3 l0_3.length c0_3] 33 ?_; intro gb365 hg w20 hbox hb; have BK365 := Ya hbox; have GE365 := Yg hg; replace HB := Yh hb; clear hb hbox hg) | ((with_reducible refine gate_dst (N := 3) rfl ?_); refine Yx 3 #[.slice A1_0 l1_0.length c1_0, .slice A1_1 l1_1.length c1_1, .slice A1_2 l1_2.length c1_2, .slice A1_3 l1_3.length c1_3] 33 ?_; intro gb366 hg w21 hbox hb; have BK366 := Ya hbox; have GE366 := Yg hg; replace HB := Yh hb; have NB365_366 := Yn BK365 hg; have NB366_365 := Ym BK365 hg; replace BK365 := Yb BK365 hb; clear hb hbox hg; have hnb22 := NB365_366.out; have hnc22 := NB366_365.out; have hz23 := Y4 BK365.out; have hz24 := Y4 BK366.out) | ((with_reducible refine gate_callee (f := 67) rfl ?_); refine Yz 9 Try.func67 #[.slice A0_0 l0_0.length c0_0, .slice A1_0 l1_0.length c1_0] ?_; (with_reducible refine (slices_Equal_int_int.calls k _ _ l0_0 _ _ l1_0 true _ (Yc (Z21 HR0_0.out HB.out)) HC0_0.out (Yc (Z21 HR1_0.out HB.out)) HC1_0.out A3.out).mono ?_); rintro e w' ⟨rfl, ⟨nd, rfl⟩⟩; refine ⟨_, rfl, ?_⟩) | (go_at_call 67; (with_reducible refine (slices_Equal_int_int.calls k _ _ l0_1 _ _ l1_1 false _ ?side1 HC0_1.out ?side3 HC1_1.out A5.out).mono ?_); (case side1 => exact Yc (Z21 HR0_1.out Q0)); (case side3 => exact Yc (Z21 HR1_1.out Q0)); rintro e w' ⟨rfl, ⟨nd, rfl⟩⟩))
   go_ret
   exact ⟨Q1, Q12⟩
 ·replace c4 := Bool.eq_false_iff.mpr c4
  subst c4
  have H1 : (some false) = some r := by rw [if_neg (show ¬ (false = true) by decide)] at H; exact H
  clear H
  have H := H1
  clear H1
  obtain rfl := Option.some.inj H
  go_enter Try.func53, Try.ntmps53
  go_wp2_with (first | ((with_reducible refine gate_dst (N := 2) rfl ?_); refine Yx 2 #[.slice A0_0 l0_0.length c0_0, .slice A0_1 l0_1.length c0_1, .slice A0_2 l0_2.length c0_2, .slice A0_3 l0_3.length c0_3] 33 ?_; intro gb365 hg w25 hbox hb; have BK365 := Ya hbox; have GE365 := Yg hg; replace HB := Yh hb; clear hb hbox hg) | ((with_reducible refine gate_dst (N := 3) rfl ?_); refine Yx 3 #[.slice A1_0 l1_0.length c1_0, .slice A1_1 l1_1.length c1_1, .slice A1_2 l1_2.length c1_2, .slice A1_3 l1_3.length c1_3] 33 ?_; intro gb366 hg w26 hbox hb; have BK366 := Ya hbox; have GE366 := Yg hg; replace HB := Yh hb; have NB365_366 := Yn BK365 hg; have NB366_365 := Ym BK365 hg; replace BK365 := Yb BK365 hb; clear hb hbox hg; have hnb27 := NB365_366.out; have hnc27 := NB366_365.out; have hz28 := Y4 BK365.out; have hz29 := Y4 BK366.out) | ((with_reducible refine gate_callee (f := 67) rfl ?_); refine Yz 9 Try.func67 #[.slice A0_0 l0_0.length c0_0, .slice A1_0 l1_0.length c1_0] ?_; (with_reducible refine (slices_Equal_int_int.calls k _ _ l0_0 _ _ l1_0 false _ (Yc (Z21 HR0_0.out HB.out)) HC0_0.out (Yc (Z21 HR1_0.out HB.out)) HC1_0.out A3.out).mono ?_); rintro e w' ⟨rfl, ⟨nd, rfl⟩⟩; refine ⟨_, rfl, ?_⟩))
  go_ret
  exact ⟨Q1, Q12⟩
def impl_IsFocus.f (k : Nat) (l0_0 : List Int) (l0_1 : List Int) (l0_2 : List Bool) (l0_3 : List Int) : Option (Bool) := (impl_areFocusBases.f k l0_0).bind fun t372 => (if t372 = true then ((impl_areDigits.f k l0_0 l0_1).bind fun t373 => (if t373 = true then ((impl_mixedRank.f k l0_0 l0_1).bind fun t374 => ((impl_focusAt.f k l0_0 t374).bind fun bt375 => ((impl_Focus_same.f k l0_0 l0_1 l0_2 l0_3 bt375.1 bt375.2.1 bt375.2.2.1 bt375.2.2.2).bind fun t387 => (some t387)))) else (some false))) else (some false))
theorem impl_IsFocus.mono : ∀ a0 a1 a2 a3 k, LeO (impl_IsFocus.f k a0 a1 a2 a3) (impl_IsFocus.f (k + 1) a0 a1 a2 a3) := by
 intro a0 a1 a2 a3 k
 unfold impl_IsFocus.f
 repeat' first
   | (with_reducible exact impl_Focus_same.mono _ _ _ _ _ _ _ _ _)
   | (with_reducible exact impl_areDigits.mono _ _ _)
   | (with_reducible exact impl_areFocusBases.mono _ _)
   | (with_reducible exact impl_focusAt.mono _ _ _)
   | (with_reducible exact impl_mixedRank.mono _ _ _)
   | (with_reducible exact LeO.refl _)
   | (with_reducible exact LeO.none _)
   | (with_reducible refine LeO.ite ?_ ?_)
   | (with_reducible refine LeO.bind ?_ (fun _ => ?_))
   | exact impl_Focus_same.mono _ _ _ _ _ _ _ _ _
   | exact impl_areDigits.mono _ _ _
   | exact impl_areFocusBases.mono _ _
   | exact impl_focusAt.mono _ _ _
   | exact impl_mixedRank.mono _ _ _
   | exact LeO.none _
   | refine LeO.ite ?_ ?_
   | refine LeO.bind ?_ (fun _ => ?_)
def impl_IsFocus.T1 : Bool × List (List Nat × List Nat) := (true, [([], []), ([0], [0]), ([1], [1]), ([2, 2], [2]), ([3], [3]), ([4, 3], [3, 4]), ([3], [3]), ([6, 3], [3, 6]), ([5, 7, 3, 3], [3, 5, 7]), ([3, 8], [3, 8]), ([9, 8], [9]), ([10], [10]), ([10], [10]), ([12, 10], [10, 12]), ([10], [10]), ([14, 10], [10, 14]), ([10], [10]), ([16, 10], [10, 16]), ([15, 17, 10, 10], [10, 15, 17]), ([13, 18, 18, 10], [10, 13, 18]), ([11, 19, 19, 10], [10, 11, 19]), ([10, 20], [10, 20]), ([21, 20, 0, 1, 2, 3, 4, 5, 6, 7, 8, 9, 10, 11, 12, 13, 14, 15, 16, 17, 18, 19, 20, 21], [21])])
def impl_IsFocus.B1 : List Nat := [0, 1, 3, 7, 15, 31, 15, 79, 255, 511, 1023, 2047, 2047, 6143, 2047, 18431, 2047, 67583, 247807, 522239, 1048575, 2097151, 4194303]
theorem impl_IsFocus.tab1 : rtab .any (opsOf Try.f24 1) = impl_IsFocus.T1 := by kernel_rfl
theorem impl_IsFocus.bits1 : waitsOk impl_IsFocus.T1.2 impl_IsFocus.B1 = true := by kernel_rfl
set_option maxHeartbeats 8000000 in
set_option maxRecDepth 100000 in
theorem impl_IsFocus.calls (k : Nat) (A0_0 : Option Addr) (c0_0 : Nat) (l0_0 : List Int) (A0_1 : Option Addr) (c0_1 : Nat) (l0_1 : List Int) (A0_2 : Option Addr) (c0_2 : Nat) (l0_2 : List Bool) (A0_3 : Option Addr) (c0_3 : Nat) (l0_3 : List Int) (r : Bool) (w : World) (hr0_0 : Kd.C (Kd.int .i64) w A0_0 l0_0.length l0_0) (hc0_0 : l0_0.length ≤ c0_0) (hr0_1 : Kd.C (Kd.int .i64) w A0_1 l0_1.length l0_1) (hc0_1 : l0_1.length ≤ c0_1) (hr0_2 : Kd.C Kd.bool w A0_2 l0_2.length l0_2) (hc0_2 : l0_2.length ≤ c0_2) (hr0_3 : Kd.C (Kd.int .i64) w A0_3 l0_3.length l0_3) (hc0_3 : l0_3.length ≤ c0_3) (h : impl_IsFocus.f k l0_0 l0_1 l0_2 l0_3 = some r) :
  Calls Try.prog 24 #[.agg #[.slice A0_0 l0_0.length c0_0, .slice A0_1 l0_1.length c0_1, .slice A0_2 l0_2.length c0_2, .slice A0_3 l0_3.length c0_3]] w fun e w' => e = .returned (.bool r) ∧ Below w.heap.size w w' := by
 have hu33 := Try.underlying33
 have HR0_0 := Ya hr0_0
 have HC0_0 := Ya hc0_0
 clear hr0_0 hc0_0
 have HR0_1 := Ya hr0_1
 have HC0_1 := Ya hc0_1
 clear hr0_1 hc0_1
 have HR0_2 := Ya hr0_2
 have HC0_2 := Ya hc0_2
 clear hr0_2 hc0_2
 have HR0_3 := Ya hr0_3
 have HC0_3 := Ya hc0_3
 clear hr0_3 hc0_3
 have HB := Ya (Below.refl w.heap.size w)
 have H : ((impl_areFocusBases.f k l0_0).bind fun t372 => (if t372 = true then ((impl_areDigits.f k l0_0 l0_1).bind fun t373 => (if t373 = true then ((impl_mixedRank.f k l0_0 l0_1).bind fun t374 => ((impl_focusAt.f k l0_0 t374).bind fun bt375 => ((impl_Focus_same.f k l0_0 l0_1 l0_2 l0_3 bt375.1 bt375.2.1 bt375.2.2.1 bt375.2.2.2).bind fun t387 => (some t387)))) else (some false))) else (some false))) = some r := h
 clear h
 replace H := Z35.mp H
 obtain ⟨t372, A20, H⟩ := H
 replace H : (if t372 = true then ((impl_areDigits.f k l0_0 l0_1).bind fun t373 => (if t373 = true then ((impl_mixedRank.f k l0_0 l0_1).bind fun t374 => ((impl_focusAt.f k l0_0 t374).bind fun bt375 => ((impl_Focus_same.f k l0_0 l0_1 l0_2 l0_3 bt375.1 bt375.2.1 bt375.2.2.1 bt375.2.2.2).bind fun t387 => (some t387)))) else (some false))) else (some false)) = some r := H
 have A2 := Ya A20
 clear A20
 by_cases c3 : t372 = true
 ·subst c3
  have H1 : ((impl_areDigits.f k l0_0 l0_1).bind fun t373 => (if t373 = true then ((impl_mixedRank.f k l0_0 l0_1).bind fun t374 => ((impl_focusAt.f k l0_0 t374).bind fun bt375 => ((impl_Focus_same.f k l0_0 l0_1 l0_2 l0_3 bt375.1 bt375.2.1 bt375.2.2.1 bt375.2.2.2).bind fun t387 => (some t387)))) else (some false))) = some r := by rw [if_pos rfl] at H; exact H
  clear H
  have H := H1
  clear H1
  replace H := Z35.mp H
  obtain ⟨t373, A40, H⟩ := H
  replace H : (if t373 = true then ((impl_mixedRank.f k l0_0 l0_1).bind fun t374 => ((impl_focusAt.f k l0_0 t374).bind fun bt375 => ((impl_Focus_same.f k l0_0 l0_1 l0_2 l0_3 bt375.1 bt375.2.1 bt375.2.2.1 bt375.2.2.2).bind fun t387 => (some t387)))) else (some false)) = some r := H
  have A4 := Ya A40
  clear A40
  by_cases c5 : t373 = true
  ·subst c5
   have H1 : ((impl_mixedRank.f k l0_0 l0_1).bind fun t374 => ((impl_focusAt.f k l0_0 t374).bind fun bt375 => ((impl_Focus_same.f k l0_0 l0_1 l0_2 l0_3 bt375.1 bt375.2.1 bt375.2.2.1 bt375.2.2.2).bind fun t387 => (some t387)))) = some r := by rw [if_pos rfl] at H; exact H
   clear H
   have H := H1
   clear H1
   replace H := Z35.mp H
   obtain ⟨t374, A60, H⟩ := H
   replace H : ((impl_focusAt.f k l0_0 t374).bind fun bt375 => ((impl_Focus_same.f k l0_0 l0_1 l0_2 l0_3 bt375.1 bt375.2.1 bt375.2.2.1 bt375.2.2.2).bind fun t387 => (some t387))) = some r := H
   have A6 := Ya A60
   clear A60
   replace H := Z35.mp H
   obtain ⟨⟨t375, t378, t381, t384⟩, A70, H⟩ := H
   replace H : ((impl_Focus_same.f k l0_0 l0_1 l0_2 l0_3 t375 t378 t381 t384).bind fun t387 => (some t387)) = some r := H
   have A7 := Ya A70
   clear A70
   replace H := Z35.mp H
   obtain ⟨t387, A80, H⟩ := H
   replace H : (some t387) = some r := H
   have A8 := Ya A80
   clear A80
   obtain rfl := Option.some.inj H
   go_enter Try.func24, Try.ntmps24
   try go_wp2_with (first | ((with_reducible refine gate_dst (N := 1) rfl ?_); refine Yx 1 #[.slice A0_0 l0_0.length c0_0, .slice A0_1 l0_1.length c0_1, .slice A0_2 l0_2.length c0_2, .slice A0_3 l0_3.length c0_3] 33 ?_; intro gb371 hg w9 hbox hb; have BK371 := Ya hbox; have GE371 := Yg hg; replace HB := Yh hb; clear hb hbox hg))
   replace BK371 := Ya (Z25 BK371.out)
   replace HB := Ya (Z4 HB.out)
   refine start_ (n := 23) (S := fun w' => w'.cell? ⟨gb371, 0, none⟩ = some (.slice A0_0 l0_0.length c0_0) ∧ w'.cell? ⟨gb371, 1, none⟩ = some (.slice A0_1 l0_1.length c0_1) ∧ w'.cell? ⟨gb371, 2, none⟩ = some (.slice A0_2 l0_2.length c0_2) ∧ w'.cell? ⟨gb371, 3, none⟩ = some (.slice A0_3 l0_3.length c0_3)) (ds := []) (YA 23 0) (by kernel_rfl) rfl rfl (Yz4 BK371.out) (fun hHeld => ?_); refine with_tabW impl_IsFocus.tab1 impl_IsFocus.bits1 (fun HT_ HW_ => ?_)
   generalize w9.drew = w10 at BK371 HB hHeld ⊢
   refine Yp 0 (some 3) (YA 23 1) rfl HT_.out ?_
   refine Yt 1 (some 4) (YA 23 3) rfl HT_.out HW_.out hHeld Q9 ?_
   refine one_ (i := 2) (N := some 5) (YA 23 7) rfl rfl (one_of HT_.out (by kernel_rfl)) (by decide) (fun K hK => ?_)
   refine goes_ Try.func29 (by kernel_rfl) rfl #[.slice A0_0 l0_0.length c0_0] (by rfl) rfl rfl Q10 ?_
   with_reducible refine (impl_areFocusBases.calls k _ _ l0_0 true _ ?side1 ?side2 A2.out).mono ?_
   (case side1 => exact Yc (Z21 HR0_0.out HB.out))
   (case side2 => exact HC0_0.out)
   rintro e w11 ⟨rfl, hb⟩
   refine ⟨_, rfl, ?_⟩
   replace BK371 := Yb BK371 hb
   replace HB := Yh hb
   (try clear hb)
   refine hK.out _ _ (Yz4 BK371.out) (fun hHeld => ?_)
   clear hK K
   refine norm_ (a' := ?_) ?_ ?_
   rotate_left
   ·show Act.put _ (some 5) _ = _
    simp only [Act.put, Z0, Z1, Z2, i64_w, i32_w]
    rfl
   refine Yp 3 (some 6) (YA 23 15) rfl HT_.out ?_
   refine Yp 4 (some 7) (YA 23 31) rfl HT_.out ?_
   refine Yp 6 (some 9) (YA 23 95) rfl HT_.out ?_
   refine Yt 5 (some 8) (YA 23 127) rfl HT_.out HW_.out hHeld Q9 ?_
   refine Yt 7 (some 10) (YA 23 255) rfl HT_.out HW_.out hHeld Q9 ?_
   refine one_ (i := 8) (N := some 11) (YA 23 511) rfl rfl (one_of HT_.out (by kernel_rfl)) (by decide) (fun K hK => ?_)
   refine goes_ Try.func52 (by kernel_rfl) rfl #[.slice A0_0 l0_0.length c0_0, .slice A0_1 l0_1.length c0_1] (by rfl) rfl rfl Q10 ?_
   with_reducible refine (impl_areDigits.calls k _ _ l0_0 _ _ l0_1 true _ ?side1 ?side2 ?side3 ?side4 A4.out).mono ?_
   (case side1 => exact Yc (Z21 HR0_0.out HB.out))
   (case side2 => exact HC0_0.out)
   (case side3 => exact Yc (Z21 HR0_1.out HB.out))
   (case side4 => exact HC0_1.out)
   rintro e w' ⟨rfl, ⟨nd, rfl⟩⟩
   refine ⟨_, rfl, ?_⟩
   refine hK.out _ _ (Yz4 BK371.out) (fun hHeld => ?_)
   clear hK K
   refine norm_ (a' := ?_) ?_ ?_
   rotate_left
   ·show Act.put _ (some 11) _ = _
    simp only [Act.put, Z0, Z1, Z2, i64_w, i32_w]
    rfl
   refine Yp 9 (some 12) (YA 23 1023) rfl HT_.out ?_
   refine Yp 10 (some 13) (YA 23 2047) rfl HT_.out ?_
   refine Yp 12 (some 15) (YA 23 6143) rfl HT_.out ?_
   refine Yp 14 (some 17) (YA 23 22527) rfl HT_.out ?_
   refine Yp 16 (some 19) (YA 23 88063) rfl HT_.out ?_
   refine Yt 11 (some 14) (YA 23 90111) rfl HT_.out HW_.out hHeld Q9 ?_
   refine Yt 13 (some 16) (YA 23 98303) rfl HT_.out HW_.out hHeld Q9 ?_
   refine Yt 15 (some 18) (YA 23 131071) rfl HT_.out HW_.out hHeld Q9 ?_
   refine Yt 17 (some 20) (YA 23 262143) rfl HT_.out HW_.out hHeld Q9 ?_
   refine one_ (i := 18) (N := some 21) (YA 23 524287) rfl rfl (one_of HT_.out (by kernel_rfl)) (by decide) (fun K hK => ?_)
   refine goes_ Try.func47 (by kernel_rfl) rfl #[.slice A0_0 l0_0.length c0_0, .slice A0_1 l0_1.length c0_1] (by rfl) rfl rfl Q10 ?_
   with_reducible refine (impl_mixedRank.calls k _ _ l0_0 _ _ l0_1 t374 _ ?side1 ?side2 ?side3 ?side4 A6.out).mono ?_
   (case side1 => exact Yc (Z21 HR0_0.out Q0))
   (case side2 => exact HC0_0.out)
   (case side3 => exact Yc (Z21 HR0_1.out Q0))
   (case side4 => exact HC0_1.out)
   rintro e w12 ⟨rfl, hb⟩
   refine ⟨_, rfl, ?_⟩
   replace BK371 := Yb BK371 hb
   replace HB := Yh hb
   (try clear hb)
   refine hK.out _ _ (Yz4 BK371.out) (fun hHeld => ?_)
   clear hK K
   refine norm_ (a' := ?_) ?_ ?_
   rotate_left
   ·show Act.put _ (some 21) _ = _
    simp only [Act.put, Z0, Z1, Z2, i64_w, i32_w]
    rfl
   refine one_ (i := 19) (N := some 22) (YA 23 1048575) rfl rfl (one_of HT_.out (by kernel_rfl)) (by decide) (fun K hK => ?_)
   refine goes_ Try.func42 (by kernel_rfl) rfl #[.slice A0_0 l0_0.length c0_0, .int .i64 t374] (by rfl) rfl rfl Q10 ?_
   with_reducible refine (impl_focusAt.calls k _ _ l0_0 t374 t375 t378 t381 t384 _ ?side1 ?side2 A7.out).mono ?_
   (case side1 => exact Yc (Z21 HR0_0.out HB.out))
   (case side2 => exact HC0_0.out)
   rintro e w13 ⟨v376, v379, v382, v385, rfl, ho0, ho1, ho2, ho3, hb⟩
   refine ⟨_, rfl, ?_⟩
   have HO377 := Yl ho0
   have HO380 := Yl ho1
   have HO383 := Yl ho2
   have HO386 := Yl ho3
   replace BK371 := Yb BK371 hb
   replace HB := Yh hb
   (try clear hb ho0 ho1 ho2 ho3)
   obtain ⟨Ao14, co14, eo14⟩ := Z17 HO377.out
   (first | subst eo14 | (injection eo14 with f1_ f2_ f3_; have f4_ := f1_.symm; have f5_ := f3_.symm; clear f1_ f2_ f3_; subst f4_; subst f5_))
   obtain ⟨Ao15, co15, eo15⟩ := Z17 HO380.out
   (first | subst eo15 | (injection eo15 with f1_ f2_ f3_; have f4_ := f1_.symm; have f5_ := f3_.symm; clear f1_ f2_ f3_; subst f4_; subst f5_))
   obtain ⟨Ao16, co16, eo16⟩ := Z17 HO383.out
   (first | subst eo16 | (injection eo16 with f1_ f2_ f3_; have f4_ := f1_.symm; have f5_ := f3_.symm; clear f1_ f2_ f3_; subst f4_; subst f5_))
   obtain ⟨Ao17, co17, eo17⟩ := Z17 HO386.out
   (first | subst eo17 | (injection eo17 with f1_ f2_ f3_; have f4_ := f1_.symm; have f5_ := f3_.symm; clear f1_ f2_ f3_; subst f4_; subst f5_))
   refine hK.out _ _ (Yz4 BK371.out) (fun hHeld => ?_)
   clear hK K
   refine norm_ (a' := ?_) ?_ ?_
   rotate_left
   ·show Act.put _ (some 22) _ = _
    simp only [Act.put, Z0, Z1, Z2, i64_w, i32_w]
    rfl
   refine one_ (i := 20) (N := some 23) (YA 23 2097151) rfl rfl (one_of HT_.out (by kernel_rfl)) (by decide) (fun K hK => ?_)
   refine goes_ Try.func53 (by kernel_rfl) rfl #[.agg #[.slice A0_0 l0_0.length c0_0, .slice A0_1 l0_1.length c0_1, .slice A0_2 l0_2.length c0_2, .slice A0_3 l0_3.length c0_3], .agg #[.slice Ao14 t375.length co14, .slice Ao15 t378.length co15, .slice Ao16 t381.length co16, .slice Ao17 t384.length co17]] (by rfl) rfl rfl Q10 ?_
   with_reducible refine (impl_Focus_same.calls k _ _ l0_0 _ _ l0_1 _ _ l0_2 _ _ l0_3 _ _ t375 _ _ t378 _ _ t381 _ _ t384 t387 _ ?side1 ?side2 ?side3 ?side4 ?side5 ?side6 ?side7 ?side8 ?side9 ?side10 ?side11 ?side12 ?side13 ?side14 ?side15 ?side16 A8.out).mono ?_
   (case side1 => exact Yc (Z21 HR0_0.out HB.out))
   (case side2 => exact HC0_0.out)
   (case side3 => exact Yc (Z21 HR0_1.out HB.out))
   (case side4 => exact HC0_1.out)
   (case side5 => exact Yc (Z21 HR0_2.out HB.out))
   (case side6 => exact HC0_2.out)
   (case side7 => exact Yc (Z21 HR0_3.out HB.out))
   (case side8 => exact HC0_3.out)
   (case side9 => exact Yc (Kd.R_reads' HO377.out).2.2)
   (case side10 => exact (Kd.R_reads' HO377.out).2.1)
   (case side11 => exact Yc (Kd.R_reads' HO380.out).2.2)
   (case side12 => exact (Kd.R_reads' HO380.out).2.1)
   (case side13 => exact Yc (Kd.R_reads' HO383.out).2.2)
   (case side14 => exact (Kd.R_reads' HO383.out).2.1)
   (case side15 => exact Yc (Kd.R_reads' HO386.out).2.2)
   (case side16 => exact (Kd.R_reads' HO386.out).2.1)
   rintro e w18 ⟨rfl, hb⟩
   refine ⟨_, rfl, ?_⟩
   replace HO377 := Yw HO377 hb
   replace HO380 := Yw HO380 hb
   replace HO383 := Yw HO383 hb
   replace HO386 := Yw HO386 hb
   replace BK371 := Yb BK371 hb
   replace HB := Yh hb
   (try clear hb)
   refine hK.out _ _ (Yz4 BK371.out) (fun hHeld => ?_)
   clear hK K
   refine norm_ (a' := ?_) ?_ ?_
   rotate_left
   ·show Act.put _ (some 23) _ = _
    simp only [Act.put, Z0, Z1, Z2, i64_w, i32_w]
    rfl
   refine Yp 21 (some 24) (YA 23 4194303) rfl HT_.out ?_
   refine Yp 22 (some 2) (YA 23 8388607) rfl HT_.out ?_
   refine done_ (done_of HT_.out (by kernel_rfl)) ?_
   try go_wp2
   go_ret
   exact ⟨Q1, Q12⟩
  ·replace c5 := Bool.eq_false_iff.mpr c5
   subst c5
   have H1 : (some false) = some r := by rw [if_neg (show ¬ (false = true) by decide)] at H; exact H
   clear H
   have H := H1
   clear H1
   obtain rfl := Option.some.inj H
   go_enter Try.func24, Try.ntmps24
   try go_wp2_with (first | ((with_reducible refine gate_dst (N := 1) rfl ?_); refine Yx 1 #[.slice A0_0 l0_0.length c0_0, .slice A0_1 l0_1.length c0_1, .slice A0_2 l0_2.length c0_2, .slice A0_3 l0_3.length c0_3] 33 ?_; intro gb371 hg w19 hbox hb; have BK371 := Ya hbox; have GE371 := Yg hg; replace HB := Yh hb; clear hb hbox hg))
   replace BK371 := Ya (Z25 BK371.out)
   replace HB := Ya (Z4 HB.out)
   refine start_ (n := 23) (S := fun w' => w'.cell? ⟨gb371, 0, none⟩ = some (.slice A0_0 l0_0.length c0_0) ∧ w'.cell? ⟨gb371, 1, none⟩ = some (.slice A0_1 l0_1.length c0_1) ∧ w'.cell? ⟨gb371, 2, none⟩ = some (.slice A0_2 l0_2.length c0_2) ∧ w'.cell? ⟨gb371, 3, none⟩ = some (.slice A0_3 l0_3.length c0_3)) (ds := []) (YA 23 0) (by kernel_rfl) rfl rfl (Yz4 BK371.out) (fun hHeld => ?_); refine with_tabW impl_IsFocus.tab1 impl_IsFocus.bits1 (fun HT_ HW_ => ?_)
   generalize w19.drew = w20 at BK371 HB hHeld ⊢
   refine Yp 0 (some 3) (YA 23 1) rfl HT_.out ?_
   refine Yt 1 (some 4) (YA 23 3) rfl HT_.out HW_.out hHeld Q9 ?_
   refine one_ (i := 2) (N := some 5) (YA 23 7) rfl rfl (one_of HT_.out (by kernel_rfl)) (by decide) (fun K hK => ?_)
   refine goes_ Try.func29 (by kernel_rfl) rfl #[.slice A0_0 l0_0.length c0_0] (by rfl) rfl rfl Q10 ?_
   with_reducible refine (impl_areFocusBases.calls k _ _ l0_0 true _ ?side1 ?side2 A2.out).mono ?_
   (case side1 => exact Yc (Z21 HR0_0.out HB.out))
   (case side2 => exact HC0_0.out)
   rintro e w21 ⟨rfl, hb⟩
   refine ⟨_, rfl, ?_⟩
   replace BK371 := Yb BK371 hb
   replace HB := Yh hb
   (try clear hb)
   refine hK.out _ _ (Yz4 BK371.out) (fun hHeld => ?_)
   clear hK K
   refine norm_ (a' := ?_) ?_ ?_
   rotate_left
   ·show Act.put _ (some 5) _ = _
    simp only [Act.put, Z0, Z1, Z2, i64_w, i32_w]
    rfl
   refine Yp 3 (some 6) (YA 23 15) rfl HT_.out ?_
   refine Yp 4 (some 7) (YA 23 31) rfl HT_.out ?_
   refine Yp 6 (some 9) (YA 23 95) rfl HT_.out ?_
   refine Yt 5 (some 8) (YA 23 127) rfl HT_.out HW_.out hHeld Q9 ?_
   refine Yt 7 (some 10) (YA 23 255) rfl HT_.out HW_.out hHeld Q9 ?_
   refine one_ (i := 8) (N := some 11) (YA 23 511) rfl rfl (one_of HT_.out (by kernel_rfl)) (by decide) (fun K hK => ?_)
   refine goes_ Try.func52 (by kernel_rfl) rfl #[.slice A0_0 l0_0.length c0_0, .slice A0_1 l0_1.length c0_1] (by rfl) rfl rfl Q10 ?_
   with_reducible refine (impl_areDigits.calls k _ _ l0_0 _ _ l0_1 false _ ?side1 ?side2 ?side3 ?side4 A4.out).mono ?_
   (case side1 => exact Yc (Z21 HR0_0.out HB.out))
   (case side2 => exact HC0_0.out)
   (case side3 => exact Yc (Z21 HR0_1.out HB.out))
   (case side4 => exact HC0_1.out)
   rintro e w' ⟨rfl, ⟨nd, rfl⟩⟩
   refine ⟨_, rfl, ?_⟩
   refine hK.out _ _ (Yz4 BK371.out) (fun hHeld => ?_)
   clear hK K
   refine norm_ (a' := ?_) ?_ ?_
   rotate_left
   ·show Act.put _ (some 11) _ = _
    simp only [Act.put, Z0, Z1, Z2, i64_w, i32_w]
    rfl
   refine Yp 9 (some 12) (YA 23 1023) rfl HT_.out ?_
   refine Yp 10 (some 13) (YA 23 2047) rfl HT_.out ?_
   refine YU 11 (some 14) (YA 23 4095) rfl HT_.out ?_
   refine YU 12 (some 15) (YA 23 8191) rfl HT_.out ?_
   refine YU 13 (some 16) (YA 23 16383) rfl HT_.out ?_
   refine YU 14 (some 17) (YA 23 32767) rfl HT_.out ?_
   refine YU 15 (some 18) (YA 23 65535) rfl HT_.out ?_
   refine YU 16 (some 19) (YA 23 131071) rfl HT_.out ?_
   refine YU 17 (some 20) (YA 23 262143) rfl HT_.out ?_
   refine YU 18 (some 21) (YA 23 524287) rfl HT_.out ?_
   refine YU 19 (some 22) (YA 23 1048575) rfl HT_.out ?_
   refine YU 20 (some 23) (YA 23 2097151) rfl HT_.out ?_
   refine Yp 21 (some 24) (YA 23 4194303) rfl HT_.out ?_
   refine Yp 22 (some 2) (YA 23 8388607) rfl HT_.out ?_
   refine done_ (done_of HT_.out (by kernel_rfl)) ?_
   try go_wp2
   go_ret
   exact ⟨Q1, Q12⟩
 ·replace c3 := Bool.eq_false_iff.mpr c3
  subst c3
  have H1 : (some false) = some r := by rw [if_neg (show ¬ (false = true) by decide)] at H; exact H
  clear H
  have H := H1
  clear H1
  obtain rfl := Option.some.inj H
  go_enter Try.func24, Try.ntmps24
  try go_wp2_with (first | ((with_reducible refine gate_dst (N := 1) rfl ?_); refine Yx 1 #[.slice A0_0 l0_0.length c0_0, .slice A0_1 l0_1.length c0_1, .slice A0_2 l0_2.length c0_2, .slice A0_3 l0_3.length c0_3] 33 ?_; intro gb371 hg w22 hbox hb; have BK371 := Ya hbox; have GE371 := Yg hg; replace HB := Yh hb; clear hb hbox hg))
  replace BK371 := Ya (Z25 BK371.out)
  replace HB := Ya (Z4 HB.out)
  refine start_ (n := 23) (S := fun w' => w'.cell? ⟨gb371, 0, none⟩ = some (.slice A0_0 l0_0.length c0_0) ∧ w'.cell? ⟨gb371, 1, none⟩ = some (.slice A0_1 l0_1.length c0_1) ∧ w'.cell? ⟨gb371, 2, none⟩ = some (.slice A0_2 l0_2.length c0_2) ∧ w'.cell? ⟨gb371, 3, none⟩ = some (.slice A0_3 l0_3.length c0_3)) (ds := []) (YA 23 0) (by kernel_rfl) rfl rfl (Yz4 BK371.out) (fun hHeld => ?_); refine with_tabW impl_IsFocus.tab1 impl_IsFocus.bits1 (fun HT_ HW_ => ?_)
  generalize w22.drew = w23 at BK371 HB hHeld ⊢
  refine Yp 0 (some 3) (YA 23 1) rfl HT_.out ?_
  refine Yt 1 (some 4) (YA 23 3) rfl HT_.out HW_.out hHeld Q9 ?_
  refine one_ (i := 2) (N := some 5) (YA 23 7) rfl rfl (one_of HT_.out (by kernel_rfl)) (by decide) (fun K hK => ?_)
  refine goes_ Try.func29 (by kernel_rfl) rfl #[.slice A0_0 l0_0.length c0_0] (by rfl) rfl rfl Q10 ?_
  with_reducible refine (impl_areFocusBases.calls k _ _ l0_0 false _ ?side1 ?side2 A2.out).mono ?_
  (case side1 => exact Yc (Z21 HR0_0.out HB.out))
  (case side2 => exact HC0_0.out)
  rintro e w24 ⟨rfl, hb⟩
  refine ⟨_, rfl, ?_⟩
  replace BK371 := Yb BK371 hb
  replace HB := Yh hb
  (try clear hb)
  refine hK.out _ _ (Yz4 BK371.out) (fun hHeld => ?_)
  clear hK K
  refine norm_ (a' := ?_) ?_ ?_
  rotate_left
  ·show Act.put _ (some 5) _ = _
   simp only [Act.put, Z0, Z1, Z2, i64_w, i32_w]
   rfl
  refine Yp 3 (some 6) (YA 23 15) rfl HT_.out ?_
  refine YU 4 (some 7) (YA 23 31) rfl HT_.out ?_
  refine YU 5 (some 8) (YA 23 63) rfl HT_.out ?_
  refine YU 6 (some 9) (YA 23 127) rfl HT_.out ?_
  refine YU 7 (some 10) (YA 23 255) rfl HT_.out ?_
  refine YU 8 (some 11) (YA 23 511) rfl HT_.out ?_
  refine Yp 9 (some 12) (YA 23 1023) rfl HT_.out ?_
  refine Yp 10 (some 13) (YA 23 2047) rfl HT_.out ?_
  refine YU 11 (some 14) (YA 23 4095) rfl HT_.out ?_
  refine YU 12 (some 15) (YA 23 8191) rfl HT_.out ?_
  refine YU 13 (some 16) (YA 23 16383) rfl HT_.out ?_
  refine YU 14 (some 17) (YA 23 32767) rfl HT_.out ?_
  refine YU 15 (some 18) (YA 23 65535) rfl HT_.out ?_
  refine YU 16 (some 19) (YA 23 131071) rfl HT_.out ?_
  refine YU 17 (some 20) (YA 23 262143) rfl HT_.out ?_
  refine YU 18 (some 21) (YA 23 524287) rfl HT_.out ?_
  refine YU 19 (some 22) (YA 23 1048575) rfl HT_.out ?_
  refine YU 20 (some 23) (YA 23 2097151) rfl HT_.out ?_
  refine Yp 21 (some 24) (YA 23 4194303) rfl HT_.out ?_
  refine Yp 22 (some 2) (YA 23 8388607) rfl HT_.out ?_
  refine done_ (done_of HT_.out (by kernel_rfl)) ?_
  try go_wp2
  go_ret
  exact ⟨Q1, Q12⟩
def impl_Focus_own.f (l0_0 : List Int) (l0_1 : List Int) (l0_2 : List Bool) (l0_3 : List Int) : Option (List Int × List Int × List Bool × List Int) := (impl_copied.f l0_0).bind fun t390 => ((impl_copied.f l0_1).bind fun t393 => ((some (([] : List Bool) : List Bool)).bind fun y396 => (if y396.length + l0_2.length < 140737488355328 then ((impl_copied.f l0_3).bind fun t402 => (some (t390, t393, (y396 ++ l0_2), t402))) else (none))))
def impl_Focus_own.T1 : Bool × List (List Nat × List Nat) := (true, [([], []), ([0], [0]), ([1], [1]), ([], []), ([3], [3]), ([4, 2], [4]), ([], []), ([], []), ([7], [7]), ([6, 8, 5], [6, 8]), ([], []), ([10], [10]), ([11, 9], [11]), ([2, 5, 9, 12], [2, 5, 9, 12]), ([13, 12, 0, 1, 2, 3, 4, 5, 6, 7, 8, 9, 10, 11, 12, 13], [13])])
def impl_Focus_own.B1 : List Nat := [0, 1, 3, 0, 8, 31, 0, 0, 128, 511, 0, 1024, 4095, 8191, 16383]
theorem impl_Focus_own.tab1 : rtab .any (opsOf Try.f37 1) = impl_Focus_own.T1 := by kernel_rfl
theorem impl_Focus_own.bits1 : waitsOk impl_Focus_own.T1.2 impl_Focus_own.B1 = true := by kernel_rfl
set_option maxHeartbeats 8000000 in
set_option maxRecDepth 100000 in
theorem impl_Focus_own.calls (A0_0 : Option Addr) (c0_0 : Nat) (l0_0 : List Int) (A0_1 : Option Addr) (c0_1 : Nat) (l0_1 : List Int) (A0_2 : Option Addr) (c0_2 : Nat) (l0_2 : List Bool) (A0_3 : Option Addr) (c0_3 : Nat) (l0_3 : List Int) (r1 : List Int) (r2 : List Int) (r3 : List Bool) (r4 : List Int) (w : World) (hr0_0 : Kd.C (Kd.int .i64) w A0_0 l0_0.length l0_0) (hc0_0 : l0_0.length ≤ c0_0) (hr0_1 : Kd.C (Kd.int .i64) w A0_1 l0_1.length l0_1) (hc0_1 : l0_1.length ≤ c0_1) (hr0_2 : Kd.C Kd.bool w A0_2 l0_2.length l0_2) (hc0_2 : l0_2.length ≤ c0_2) (hr0_3 : Kd.C (Kd.int .i64) w A0_3 l0_3.length l0_3) (hc0_3 : l0_3.length ≤ c0_3) (h : impl_Focus_own.f l0_0 l0_1 l0_2 l0_3 = some (r1, r2, r3, r4)) :
  Calls Try.prog 37 #[.agg #[.slice A0_0 l0_0.length c0_0, .slice A0_1 l0_1.length c0_1, .slice A0_2 l0_2.length c0_2, .slice A0_3 l0_3.length c0_3]] w fun e w' => ∃ v0_ v1_ v2_ v3_ : Value, e = .returned (.agg #[v0_, v1_, v2_, v3_]) ∧ Kd.R (Kd.int .i64) 3 w' w.heap.size (fun k_ => some k_ ≠ (v1_ : Value).ownBlock ∧ some k_ ≠ (v3_ : Value).ownBlock) v0_ r1 ∧ Kd.R (Kd.int .i64) 3 w' w.heap.size (fun k_ => some k_ ≠ (v0_ : Value).ownBlock ∧ some k_ ≠ (v3_ : Value).ownBlock) v1_ r2 ∧ Kd.R Kd.bool 4 w' w.heap.size (fun _ => True) v2_ r3 ∧ Kd.R (Kd.int .i64) 3 w' w.heap.size (fun k_ => some k_ ≠ (v0_ : Value).ownBlock ∧ some k_ ≠ (v1_ : Value).ownBlock) v3_ r4 ∧ Below w.heap.size w w' := by
 have hu33 := Try.underlying33
 have HR0_0 := Ya hr0_0
 have HC0_0 := Ya hc0_0
 clear hr0_0 hc0_0
 have HR0_1 := Ya hr0_1
 have HC0_1 := Ya hc0_1
 clear hr0_1 hc0_1
 have HR0_2 := Ya hr0_2
 have HC0_2 := Ya hc0_2
 clear hr0_2 hc0_2
 have HR0_3 := Ya hr0_3
 have HC0_3 := Ya hc0_3
 clear hr0_3 hc0_3
 have HB := Ya (Below.refl w.heap.size w)
 have H : ((impl_copied.f l0_0).bind fun t390 => ((impl_copied.f l0_1).bind fun t393 => ((some (([] : List Bool) : List Bool)).bind fun y396 => (if y396.length + l0_2.length < 140737488355328 then ((impl_copied.f l0_3).bind fun t402 => (some (t390, t393, (y396 ++ l0_2), t402))) else (none))))) = some (r1, r2, r3, r4) := h
 clear h
 replace H := Z35.mp H
 obtain ⟨t390, A20, H⟩ := H
 replace H : ((impl_copied.f l0_1).bind fun t393 => ((some (([] : List Bool) : List Bool)).bind fun y396 => (if y396.length + l0_2.length < 140737488355328 then ((impl_copied.f l0_3).bind fun t402 => (some (t390, t393, (y396 ++ l0_2), t402))) else (none)))) = some (r1, r2, r3, r4) := H
 have A2 := Ya A20
 clear A20
 replace H := Z35.mp H
 obtain ⟨t393, A30, H⟩ := H
 replace H : ((some (([] : List Bool) : List Bool)).bind fun y396 => (if y396.length + l0_2.length < 140737488355328 then ((impl_copied.f l0_3).bind fun t402 => (some (t390, t393, (y396 ++ l0_2), t402))) else (none))) = some (r1, r2, r3, r4) := H
 have A3 := Ya A30
 clear A30
 obtain ⟨y396, hy396⟩ : ∃ y_ : List Bool, y_ = (([] : List Bool)) := ⟨_, rfl⟩
 replace H : (if y396.length + l0_2.length < 140737488355328 then ((impl_copied.f l0_3).bind fun t402 => (some (t390, t393, (y396 ++ l0_2), t402))) else (none)) = some (r1, r2, r3, r4) := by first | (rw [hy396]; with_reducible exact H) | (have H2_ := (Option.bind_some _ _).symm.trans H; rw [hy396]; with_reducible exact H2_) | (have H2_ := (Option.bind_some _ _).symm.trans H; with_reducible exact H2_) | with_reducible exact H | (rw [hy396]; exact H) | exact H
 have Ny396 := Ya hy396
 clear hy396
 by_cases c4 : y396.length + l0_2.length < 140737488355328
 ·rw [if_pos c4] at H
  have LMc4 := Ya c4
  clear c4
  obtain ⟨y399, hy399⟩ : ∃ y_ : List Bool, y_ = (y396 ++ l0_2) := ⟨_, rfl⟩
  replace H : ((impl_copied.f l0_3).bind fun t402 => (some (t390, t393, y399, t402))) = some (r1, r2, r3, r4) := by first | (rw [hy399]; with_reducible exact H) | (have H2_ := (Option.bind_some _ _).symm.trans H; rw [hy399]; with_reducible exact H2_) | (have H2_ := (Option.bind_some _ _).symm.trans H; with_reducible exact H2_) | with_reducible exact H | (rw [hy399]; exact H) | exact H
  have Ny399 := Ya hy399
  clear hy399
  replace H := Z35.mp H
  obtain ⟨t402, A50, H⟩ := H
  replace H : (some (t390, t393, y399, t402)) = some (r1, r2, r3, r4) := H
  have A5 := Ya A50
  clear A50
  simp only [Option.some.injEq, Prod.mk.injEq] at H
  obtain ⟨rfl, rfl, rfl, rfl⟩ := H
  go_enter Try.func37, Try.ntmps37
  try go_wp2_with (first | ((with_reducible refine gate_dst (N := 1) rfl ?_); refine Yx 1 #[.slice A0_0 l0_0.length c0_0, .slice A0_1 l0_1.length c0_1, .slice A0_2 l0_2.length c0_2, .slice A0_3 l0_3.length c0_3] 33 ?_; intro gb388 hg w6 hbox hb; have BK388 := Ya hbox; have GE388 := Yg hg; replace HB := Yh hb; clear hb hbox hg) | ((with_reducible refine gate_dst (N := 2) rfl ?_); refine Yx 2 YN4 33 ?_; intro gb389 hg w7 hbox hb; have BK389 := Ya hbox; have GE389 := Yg hg; replace HB := Yh hb; have NB388_389 := Yn BK388 hg; have NB389_388 := Ym BK388 hg; replace BK388 := Yb BK388 hb; clear hb hbox hg))
  replace BK388 := Ya (Z25 BK388.out)
  replace BK389 := Ya (Z25 BK389.out)
  replace HB := Ya (Z4 HB.out)
  refine start_ (n := 15) (S := fun w' => w'.cell? ⟨gb388, 0, none⟩ = some (.slice A0_0 l0_0.length c0_0) ∧ w'.cell? ⟨gb388, 1, none⟩ = some (.slice A0_1 l0_1.length c0_1) ∧ w'.cell? ⟨gb388, 2, none⟩ = some (.slice A0_2 l0_2.length c0_2) ∧ w'.cell? ⟨gb388, 3, none⟩ = some (.slice A0_3 l0_3.length c0_3)) (ds := []) (YA 15 0) (by kernel_rfl) rfl rfl (Yz4 BK388.out) (fun hHeld => ?_); refine with_tabW impl_Focus_own.tab1 impl_Focus_own.bits1 (fun HT_ HW_ => ?_)
  generalize w7.drew = w8 at BK388 BK389 HB hHeld ⊢
  refine Yp 0 (some 3) (YA 15 1) rfl HT_.out ?_
  refine Yp 3 (some 6) (YA 15 9) rfl HT_.out ?_
  refine Yp 7 (some 10) (YA 15 137) rfl HT_.out ?_
  refine Yp 10 (some 13) (YA 15 1161) rfl HT_.out ?_
  refine Yt 1 (some 4) (YA 15 1163) rfl HT_.out HW_.out hHeld Q9 ?_
  refine Yt 4 (some 7) (YA 15 1179) rfl HT_.out HW_.out hHeld Q9 ?_
  refine Yt 8 (some 11) (YA 15 1435) rfl HT_.out HW_.out hHeld Q9 ?_
  refine Yt 11 (some 14) (YA 15 3483) rfl HT_.out HW_.out hHeld Q9 ?_
  refine join_ (σ := Value × Value × Value) 4 (YA 15 3583) (fun s_ => [(5, s_.1), (8, s_.2.1), (9, s_.2.2)]) (fun s_ w' => (w'.cell? ⟨gb388, 0, none⟩ = some (.slice A0_0 l0_0.length c0_0) ∧ w'.cell? ⟨gb388, 1, none⟩ = some (.slice A0_1 l0_1.length c0_1) ∧ w'.cell? ⟨gb388, 2, none⟩ = some (.slice A0_2 l0_2.length c0_2) ∧ w'.cell? ⟨gb388, 3, none⟩ = some (.slice A0_3 l0_3.length c0_3)) ∧ (Kd.R (Kd.int .i64) 3 w' w.heap.size (fun k_ => some k_ ≠ (s_.2.1 : Value).ownBlock) s_.1 t390) ∧ (Kd.R (Kd.int .i64) 3 w' w.heap.size (fun k_ => some k_ ≠ (s_.1 : Value).ownBlock) s_.2.1 t393) ∧ (Kd.R Kd.bool 4 w' w.heap.size (fun _ => True) s_.2.2 y396) ∧ (w'.heap[gb388]? = some (.cells #[.slice A0_0 l0_0.length c0_0, .slice A0_1 l0_1.length c0_1, .slice A0_2 l0_2.length c0_2, .slice A0_3 l0_3.length c0_3] 33 (0, 0))) ∧ (w'.heap[gb389]? = some (.cells YN4 33 (0, 0))) ∧ (Below w.heap.size w w')) ?_ ?_
  rotate_left
  ·intro hCont
   refine two_ (i := 2) (j := 6) (Ni := some 5) (Nj := some 9) (YA 15 3487) (YA 15 3547) rfl rfl rfl rfl (two_of HT_.out (by kernel_rfl)) (by decide) (by decide) (fun K hK => ?_) (fun K hK => ?_)
   ·skip
    refine goes_ Try.func59 (by kernel_rfl) rfl #[.slice A0_0 l0_0.length c0_0] (by rfl) rfl rfl Q10 ?_
    with_reducible refine (impl_copied.calls _ _ l0_0 t390 _ ?side1 ?side2 A2.out).mono ?_
    (case side1 => exact Yc (Z21 HR0_0.out HB.out))
    (case side2 => exact HC0_0.out)
    rintro e w9 ⟨v391, rfl, ho0, hb⟩
    refine ⟨_, rfl, ?_⟩
    have HO392 := Yl ho0
    replace BK388 := Yb BK388 hb
    replace BK389 := Yb BK389 hb
    replace HB := Yh hb
    (try clear hb ho0)
    refine hK.out _ _ (Yz4 BK388.out) (fun hHeld => ?_)
    clear hK K
    refine norm_ (a' := ?_) ?_ ?_
    rotate_left
    ·show Act.put _ (some 5) _ = _
     simp only [Act.put, Z0, Z1, Z2, i64_w, i32_w]
     rfl
    refine two_ (i := 5) (j := 6) (Ni := some 8) (Nj := some 9) (YA 15 3519) (YA 15 3551) rfl rfl rfl rfl (two_of HT_.out (by kernel_rfl)) (by decide) (by decide) (fun K hK => ?_) (fun K hK => ?_)
    ·skip
     refine goes_ Try.func59 (by kernel_rfl) rfl #[.slice A0_1 l0_1.length c0_1] (by rfl) rfl rfl Q10 ?_
     with_reducible refine (impl_copied.calls _ _ l0_1 t393 _ ?side1 ?side2 A3.out).mono ?_
     (case side1 => exact Yc (Z21 HR0_1.out HB.out))
     (case side2 => exact HC0_1.out)
     rintro e w10 ⟨v394, rfl, ho0, hb⟩
     refine ⟨_, rfl, ?_⟩
     have HO395 := Yl (Kd.R_new' ho0 (Z16 (Yr HO392.out)))
     replace HO392 := Ya (Kd.R_elder' (Yr HO392.out) (Kd.R_base ho0) hb)
     replace BK388 := Yb BK388 hb
     replace BK389 := Yb BK389 hb
     replace HB := Yh hb
     (try clear hb ho0)
     refine hK.out _ _ (Yz4 BK388.out) (fun hHeld => ?_)
     clear hK K
     refine norm_ (a' := ?_) ?_ ?_
     rotate_left
     ·show Act.put _ (some 8) _ = _
      simp only [Act.put, Z0, Z1, Z2, i64_w, i32_w]
      rfl
     refine one_ (i := 6) (N := some 9) (YA 15 3583) rfl rfl (one_of HT_.out (by kernel_rfl)) (by decide) (fun K hK => ?_)
     refine Kd.R_lit_step Kd.bool _ 4 ?hg (N := 9) ?hd (xs := ([] : List Bool)) (inner := []) (ok := fun _ => True) (okp := fun _ => True) ?hr ?hp (fun _ hk => hk) trivial (Below.refl _ _) (Nat.le_refl _) (by simp) ?_; (case hd => rfl); (case hg => rfl); (case hr => first | (go_simp; done) | (go_simp; rfl)); (case hp => exact (Reps.none _ _))
     intro v397 w11 ho12 hb hg_ hnew_
     clear hg_ hnew_
     (first | rw [← Ny396.out] at ho12 | (simp only [Int.reduceToNat] at ho12; rw [← Ny396.out] at ho12))
     replace HO392 := Yw HO392 hb
     replace HO395 := Yw HO395 hb
     have HO398 := Yl ho12
     replace BK388 := Yb BK388 hb
     replace BK389 := Yb BK389 hb
     replace HB := Yh hb
     clear hb ho12
     refine hK.out _ _ (Yz4 BK388.out) (fun hHeld => ?_)
     clear hK K
     refine norm_ (a' := ?_) ?_ ?_
     rotate_left
     ·show Act.put _ (some 9) _ = _
      simp only [Act.put, Z0, Z1, Z2, i64_w, i32_w]
      rfl
     exact norm_ Q31 (hCont (v391, v394, v397) _ ⟨hHeld, (Yj HO392.out (fun _ hk => hk.2)), (Yj HO395.out (fun _ hk => hk.2)), (Yr HO398.out), (Yk BK388.out), (Yk BK389.out), Q0⟩)
    ·skip
     refine Kd.R_lit_step Kd.bool _ 4 ?hg (N := 9) ?hd (xs := ([] : List Bool)) (inner := []) (ok := fun _ => True) (okp := fun _ => True) ?hr ?hp (fun _ hk => hk) trivial (Below.refl _ _) (Nat.le_refl _) (by simp) ?_; (case hd => rfl); (case hg => rfl); (case hr => first | (go_simp; done) | (go_simp; rfl)); (case hp => exact (Reps.none _ _))
     intro v397 w10 ho11 hb hg_ hnew_
     clear hg_ hnew_
     (first | rw [← Ny396.out] at ho11 | (simp only [Int.reduceToNat] at ho11; rw [← Ny396.out] at ho11))
     replace HO392 := Yw HO392 hb
     have HO398 := Yl ho11
     replace BK388 := Yb BK388 hb
     replace BK389 := Yb BK389 hb
     replace HB := Yh hb
     clear hb ho11
     refine hK.out _ _ (Yz4 BK388.out) (fun hHeld => ?_)
     clear hK K
     refine norm_ (a' := ?_) ?_ ?_
     rotate_left
     ·show Act.put _ (some 9) _ = _
      simp only [Act.put, Z0, Z1, Z2, i64_w, i32_w]
      rfl
     refine one_ (i := 5) (N := some 8) (YA 15 3583) rfl rfl (one_of HT_.out (by kernel_rfl)) (by decide) (fun K hK => ?_)
     refine goes_ Try.func59 (by kernel_rfl) rfl #[.slice A0_1 l0_1.length c0_1] (by rfl) rfl rfl Q10 ?_
     with_reducible refine (impl_copied.calls _ _ l0_1 t393 _ ?side1 ?side2 A3.out).mono ?_
     (case side1 => exact Yc (Z21 HR0_1.out HB.out))
     (case side2 => exact HC0_1.out)
     rintro e w12 ⟨v394, rfl, ho0, hb⟩
     refine ⟨_, rfl, ?_⟩
     replace HO398 := Yw HO398 hb
     have HO395 := Yl (Kd.R_new' ho0 (Z16 (Yr HO392.out)))
     replace HO392 := Ya (Kd.R_elder' (Yr HO392.out) (Kd.R_base ho0) hb)
     replace BK388 := Yb BK388 hb
     replace BK389 := Yb BK389 hb
     replace HB := Yh hb
     (try clear hb ho0)
     refine hK.out _ _ (Yz4 BK388.out) (fun hHeld => ?_)
     clear hK K
     refine norm_ (a' := ?_) ?_ ?_
     rotate_left
     ·show Act.put _ (some 8) _ = _
      simp only [Act.put, Z0, Z1, Z2, i64_w, i32_w]
      rfl
     exact norm_ Q31 (hCont (v391, v394, v397) _ ⟨hHeld, (Yj HO392.out (fun _ hk => hk.2)), (Yj HO395.out (fun _ hk => hk.2)), (Yr HO398.out), (Yk BK388.out), (Yk BK389.out), Q0⟩)
   ·skip
    refine Kd.R_lit_step Kd.bool _ 4 ?hg (N := 9) ?hd (xs := ([] : List Bool)) (inner := []) (ok := fun _ => True) (okp := fun _ => True) ?hr ?hp (fun _ hk => hk) trivial (Below.refl _ _) (Nat.le_refl _) (by simp) ?_; (case hd => rfl); (case hg => rfl); (case hr => first | (go_simp; done) | (go_simp; rfl)); (case hp => exact (Reps.none _ _))
    intro v397 w9 ho10 hb hg_ hnew_
    clear hg_ hnew_
    (first | rw [← Ny396.out] at ho10 | (simp only [Int.reduceToNat] at ho10; rw [← Ny396.out] at ho10))
    have HO398 := Yl ho10
    replace BK388 := Yb BK388 hb
    replace BK389 := Yb BK389 hb
    replace HB := Yh hb
    clear hb ho10
    refine hK.out _ _ (Yz4 BK388.out) (fun hHeld => ?_)
    clear hK K
    refine norm_ (a' := ?_) ?_ ?_
    rotate_left
    ·show Act.put _ (some 9) _ = _
     simp only [Act.put, Z0, Z1, Z2, i64_w, i32_w]
     rfl
    refine one_ (i := 2) (N := some 5) (YA 15 3551) rfl rfl (one_of HT_.out (by kernel_rfl)) (by decide) (fun K hK => ?_)
    refine goes_ Try.func59 (by kernel_rfl) rfl #[.slice A0_0 l0_0.length c0_0] (by rfl) rfl rfl Q10 ?_
    with_reducible refine (impl_copied.calls _ _ l0_0 t390 _ ?side1 ?side2 A2.out).mono ?_
    (case side1 => exact Yc (Z21 HR0_0.out HB.out))
    (case side2 => exact HC0_0.out)
    rintro e w11 ⟨v391, rfl, ho0, hb⟩
    refine ⟨_, rfl, ?_⟩
    replace HO398 := Yw HO398 hb
    have HO392 := Yl ho0
    replace BK388 := Yb BK388 hb
    replace BK389 := Yb BK389 hb
    replace HB := Yh hb
    (try clear hb ho0)
    refine hK.out _ _ (Yz4 BK388.out) (fun hHeld => ?_)
    clear hK K
    refine norm_ (a' := ?_) ?_ ?_
    rotate_left
    ·show Act.put _ (some 5) _ = _
     simp only [Act.put, Z0, Z1, Z2, i64_w, i32_w]
     rfl
    refine one_ (i := 5) (N := some 8) (YA 15 3583) rfl rfl (one_of HT_.out (by kernel_rfl)) (by decide) (fun K hK => ?_)
    refine goes_ Try.func59 (by kernel_rfl) rfl #[.slice A0_1 l0_1.length c0_1] (by rfl) rfl rfl Q10 ?_
    with_reducible refine (impl_copied.calls _ _ l0_1 t393 _ ?side1 ?side2 A3.out).mono ?_
    (case side1 => exact Yc (Z21 HR0_1.out HB.out))
    (case side2 => exact HC0_1.out)
    rintro e w12 ⟨v394, rfl, ho0, hb⟩
    refine ⟨_, rfl, ?_⟩
    replace HO398 := Yw HO398 hb
    have HO395 := Yl (Kd.R_new' ho0 (Z16 (Yr HO392.out)))
    replace HO392 := Ya (Kd.R_elder' (Yr HO392.out) (Kd.R_base ho0) hb)
    replace BK388 := Yb BK388 hb
    replace BK389 := Yb BK389 hb
    replace HB := Yh hb
    (try clear hb ho0)
    refine hK.out _ _ (Yz4 BK388.out) (fun hHeld => ?_)
    clear hK K
    refine norm_ (a' := ?_) ?_ ?_
    rotate_left
    ·show Act.put _ (some 8) _ = _
     simp only [Act.put, Z0, Z1, Z2, i64_w, i32_w]
     rfl
    exact norm_ Q31 (hCont (v391, v394, v397) _ ⟨hHeld, (Yj HO392.out (fun _ hk => hk.2)), (Yj HO395.out (fun _ hk => hk.2)), (Yr HO398.out), (Yk BK388.out), (Yk BK389.out), Q0⟩)
  rintro ⟨v391, v394, v397⟩ w13 ⟨hS_, h0_, h1_, h2_, h3_, h4_, h5_⟩
  have HO392 : Aside0 (Kd.R (Kd.int .i64) 3 w13 w.heap.size (fun k_ => some k_ ≠ (v394 : Value).ownBlock) v391 t390) := ⟨h0_⟩
  have HO395 : Aside0 (Kd.R (Kd.int .i64) 3 w13 w.heap.size (fun k_ => some k_ ≠ (v391 : Value).ownBlock) v394 t393) := ⟨h1_⟩
  have HO398 : Aside0 (Kd.R Kd.bool 4 w13 w.heap.size (fun _ => True) v397 y396) := ⟨h2_⟩
  replace BK388 : Aside0 (w13.heap[gb388]? = some (.cells #[.slice A0_0 l0_0.length c0_0, .slice A0_1 l0_1.length c0_1, .slice A0_2 l0_2.length c0_2, .slice A0_3 l0_3.length c0_3] 33 (0, 0))) := ⟨h3_⟩
  replace BK389 : Aside0 (w13.heap[gb389]? = some (.cells YN4 33 (0, 0))) := ⟨h4_⟩
  replace HB : Aside0 (Below w.heap.size w w13) := ⟨h5_⟩
  clear h0_ h1_ h2_ h3_ h4_ h5_
  have hHeld : w13.cell? ⟨gb388, 0, none⟩ = some (.slice A0_0 l0_0.length c0_0) ∧ w13.cell? ⟨gb388, 1, none⟩ = some (.slice A0_1 l0_1.length c0_1) ∧ w13.cell? ⟨gb388, 2, none⟩ = some (.slice A0_2 l0_2.length c0_2) ∧ w13.cell? ⟨gb388, 3, none⟩ = some (.slice A0_3 l0_3.length c0_3) := hS_
  refine norm_ (a' := ?_) ?_ ?_
  rotate_left
  ·simp only [putAll, Act.put, Z0, Z1, Z2]
   rfl
  refine one_ (i := 9) (N := some 12) (YA 15 4095) rfl rfl (one_of HT_.out (by kernel_rfl)) (by decide) (fun K hK => ?_)
  refine Kd.R_append_rows_step Kd.bool (w0 := w) w.heap.size (by rfl) (.tmp 9) (.tmp 11) 31 4 (.bool false) 1 rfl Try.underlying31 info4 rfl (by decide) (by omega) v397 y396 l0_2 _ _ _ (fun _ => True) (fun _ => False) rfl rfl ?aO ?aR (fun _ _ h => h) (fun _ h => h.elim) ?aF ?aB ?aS ?aL ?_
  (case aR => repeat (first | exact (Z21 HR0_2.out HB.out) | (with_reducible refine Z18 ?_ _) | (with_reducible refine Z19 ?_ _) | (with_reducible refine Z20 ?_)))
  (case aB => exact Q0)
  (case aF => exact (fun _ _ => trivial))
  (case aO => exact (Yr HO398.out))
  (case aS => exact (Z7 Q0))
  (case aL => have := LMc4.out; omega)
  intro v400 w14 ho hb hg hat
  rw [← Ny399.out] at ho
  replace BK388 := Ya (blk_grown (g := gb388) (o := .cells #[.slice A0_0 l0_0.length c0_0, .slice A0_1 l0_1.length c0_1, .slice A0_2 l0_2.length c0_2, .slice A0_3 l0_3.length c0_3] 33 (0, 0)) (Yk BK388.out) hg (Kd.R_ne HO398.out BK388.out (by decide)))
  replace BK389 := Ya (blk_grown (g := gb389) (o := .cells YN4 33 (0, 0)) (Yk BK389.out) hg (Kd.R_ne HO398.out BK389.out (by decide)))
  replace HO392 := Ya (Kd.R_over' (Yr HO392.out) (Kd.R_typed (Yr HO398.out)) (by decide) hg)
  replace HO395 := Ya (Kd.R_over' (Yr HO395.out) (Kd.R_typed (Yr HO398.out)) (by decide) hg)
  replace HB := Ya hb
  have HO401 := Ya ho
  clear HO398
  clear ho hb hg hat
  refine hK.out _ _ (Yz4 BK388.out) (fun hHeld => ?_)
  clear hK K
  refine norm_ (a' := ?_) ?_ ?_
  rotate_left
  ·show Act.put _ (some 12) _ = _
   simp only [Act.put, Z0, Z1, Z2, i64_w, i32_w]
   rfl
  refine one_ (i := 12) (N := some 15) (YA 15 8191) rfl rfl (one_of HT_.out (by kernel_rfl)) (by decide) (fun K hK => ?_)
  refine goes_ Try.func59 (by kernel_rfl) rfl #[.slice A0_3 l0_3.length c0_3] (by rfl) rfl rfl Q10 ?_
  with_reducible refine (impl_copied.calls _ _ l0_3 t402 _ ?side1 ?side2 A5.out).mono ?_
  (case side1 => exact Yc (Z21 HR0_3.out HB.out))
  (case side2 => exact HC0_3.out)
  rintro e w15 ⟨v403, rfl, ho0, hb⟩
  refine ⟨_, rfl, ?_⟩
  replace HO401 := Yw HO401 hb
  have HO404 := Yl (Kd.R_new' (Kd.R_new' ho0 (Z16 (Yr HO392.out))) (Z16 (Yr HO395.out)))
  replace HO392 := Ya (Kd.R_elder' (Yr HO392.out) (Kd.R_base ho0) hb)
  replace HO395 := Ya (Kd.R_elder' (Yr HO395.out) (Kd.R_base ho0) hb)
  replace BK388 := Yb BK388 hb
  replace BK389 := Yb BK389 hb
  replace HB := Yh hb
  (try clear hb ho0)
  obtain ⟨Ao16, co16, eo16⟩ := Z17 HO404.out
  (first | subst eo16 | (injection eo16 with f1_ f2_ f3_; have f4_ := f1_.symm; have f5_ := f3_.symm; clear f1_ f2_ f3_; subst f4_; subst f5_))
  obtain ⟨Ao17, co17, eo17⟩ := Z17 HO401.out
  (first | subst eo17 | (injection eo17 with f1_ f2_ f3_; have f4_ := f1_.symm; have f5_ := f3_.symm; clear f1_ f2_ f3_; subst f4_; subst f5_))
  obtain ⟨Ao18, co18, eo18⟩ := Z17 HO395.out
  (first | subst eo18 | (injection eo18 with f1_ f2_ f3_; have f4_ := f1_.symm; have f5_ := f3_.symm; clear f1_ f2_ f3_; subst f4_; subst f5_))
  obtain ⟨Ao19, co19, eo19⟩ := Z17 HO392.out
  (first | subst eo19 | (injection eo19 with f1_ f2_ f3_; have f4_ := f1_.symm; have f5_ := f3_.symm; clear f1_ f2_ f3_; subst f4_; subst f5_))
  refine hK.out _ _ (Yz4 BK388.out) (fun hHeld => ?_)
  clear hK K
  refine norm_ (a' := ?_) ?_ ?_
  rotate_left
  ·show Act.put _ (some 15) _ = _
   simp only [Act.put, Z0, Z1, Z2, i64_w, i32_w]
   rfl
  refine Yp 13 (some 16) (YA 15 16383) rfl HT_.out ?_
  refine one_ (i := 14) (N := none) (YA 15 32767) rfl rfl (one_of HT_.out (by kernel_rfl)) (by decide) (fun K hK => ?_)
  have hs20 : w15.cell? ⟨gb389, 0, none⟩ = some (.slice none 0 0) := (Z22 BK389.out 0).trans rfl
  have hfs20 := Z23 BK389.out 0
  have hns20_0 := NB388_389.out
  have hms20_0 := NB389_388.out
  have hs21 : w15.cell? ⟨gb389, 1, none⟩ = some (.slice none 0 0) := (Z22 BK389.out 1).trans rfl
  have hfs21 := Z23 BK389.out 1
  have hns21_0 := NB388_389.out
  have hms21_0 := NB389_388.out
  have hs22 : w15.cell? ⟨gb389, 2, none⟩ = some (.slice none 0 0) := (Z22 BK389.out 2).trans rfl
  have hfs22 := Z23 BK389.out 2
  have hns22_0 := NB388_389.out
  have hms22_0 := NB389_388.out
  have hs23 : w15.cell? ⟨gb389, 3, none⟩ = some (.slice none 0 0) := (Z22 BK389.out 3).trans rfl
  have hfs23 := Z23 BK389.out 3
  have hns23_0 := NB388_389.out
  have hms23_0 := NB389_388.out
  refine skip_ (w1 := ?_) (by rfl) rfl ?_ ?_
  rotate_left
  ·go_simp
   rfl
  refine hK.out _ _ ⟨((cell_far (p := ⟨gb389, _, none⟩) NB388_389.out _).trans (((cell_far (p := ⟨gb389, _, none⟩) NB388_389.out _).trans (((cell_far (p := ⟨gb389, _, none⟩) NB388_389.out _).trans (((cell_far (p := ⟨gb389, _, none⟩) NB388_389.out _).trans (hHeld.1)))))))), ((cell_far (p := ⟨gb389, _, none⟩) NB388_389.out _).trans (((cell_far (p := ⟨gb389, _, none⟩) NB388_389.out _).trans (((cell_far (p := ⟨gb389, _, none⟩) NB388_389.out _).trans (((cell_far (p := ⟨gb389, _, none⟩) NB388_389.out _).trans (hHeld.2.1)))))))), ((cell_far (p := ⟨gb389, _, none⟩) NB388_389.out _).trans (((cell_far (p := ⟨gb389, _, none⟩) NB388_389.out _).trans (((cell_far (p := ⟨gb389, _, none⟩) NB388_389.out _).trans (((cell_far (p := ⟨gb389, _, none⟩) NB388_389.out _).trans (hHeld.2.2.1)))))))), ((cell_far (p := ⟨gb389, _, none⟩) NB388_389.out _).trans (((cell_far (p := ⟨gb389, _, none⟩) NB388_389.out _).trans (((cell_far (p := ⟨gb389, _, none⟩) NB388_389.out _).trans (((cell_far (p := ⟨gb389, _, none⟩) NB388_389.out _).trans (hHeld.2.2.2))))))))⟩ (fun hHeld => ?_)
  clear hK K
  refine done_ (done_of HT_.out (by kernel_rfl)) ?_
  try go_wp2
  refine bodyPost_ret (results_cell_row rfl _ _ gb389 33 #[.slice Ao19 t390.length co19, .slice Ao18 t393.length co18, .slice Ao17 y399.length co17, .slice Ao16 t402.length co16] (0, 0) _ rfl (Yk (Yv4 BK389.out)) Try.underlying33 rfl (by kernel_rfl)) rfl ?_
  exact ⟨_, _, _, _, Q1, Yj (Yf4 HO392.out BK389.out) (fun _ hk => ⟨hk.1.1, hk.1.2⟩), Yj (Yf4 HO395.out BK389.out) (fun _ hk => ⟨hk.1.1, hk.1.2⟩), Yj (Yf4 HO401.out BK389.out) (fun _ hk => trivial), Yj (Yf4 HO404.out BK389.out) (fun _ hk => ⟨hk.1.1.2, hk.1.2⟩), Q12⟩
 ·rw [if_neg c4] at H
  exact absurd H (by simp)
def impl_StepFocus.f (k : Nat) (b d : List Int) (u : List Bool) (p : List Int) : Option (List Int × List Int × List Bool × List Int × Int × Bool) :=
 (impl_IsFocus.f k b d u p).bind fun t => if t = true then (impl_Focus_own.f b d u p).bind fun o => (if 0 < o.2.2.2.length ∧ o.1.length ≤ 1000 ∧ rd o.2.2.2 0 = (o.1.length : Int) then some ([], [], [], [], 0, false) else (Go.Proofs.Ytapbbmicfkbafaa.FoW.stepF o.1 o.2.1 o.2.2.1 o.2.2.2).bind fun s => some (o.1, s.1, s.2.1, s.2.2.1, wrap64 (wrap64 ((b.length : Int) - 1) - s.2.2.2), true)) else some ([], [], [], [], 0, false)
theorem impl_StepFocus.mono : ∀ a0 a1 a2 a3 k, LeO (impl_StepFocus.f k a0 a1 a2 a3) (impl_StepFocus.f (k + 1) a0 a1 a2 a3) := by
 intro a0 a1 a2 a3 k
 unfold impl_StepFocus.f
 repeat' first
   | (with_reducible exact impl_IsFocus.mono _ _ _ _ _)
   | (with_reducible exact LeO.refl _)
   | (with_reducible exact LeO.none _)
   | (with_reducible refine LeO.ite ?_ ?_)
   | (with_reducible refine LeO.bind ?_ (fun _ => ?_))
   | exact impl_IsFocus.mono _ _ _ _ _
   | exact LeO.none _
   | refine LeO.ite ?_ ?_
   | refine LeO.bind ?_ (fun _ => ?_)
open Go.Proofs.Ytapbbmicfkbafaa.FoW in
theorem impl_StepFocus.rank {b d : List Int} {u : List Bool} {p d' : List Int} {u' : List Bool} {p' : List Int} {r : Int} (h : stepF b d u p = some (d', u', p', r)) : 0 ≤ r := by
 unfold stepF at h
 simp only at h
 obtain ⟨X, hX⟩ : ∃ X, (if rdOf false u ((b.length : Int) - 1 - rd p 0) = true then rd d ((b.length : Int) - 1 - rd p 0) + 1 else rd d ((b.length : Int) - 1 - rd p 0) - 1) = X := ⟨_, rfl⟩
 rw [hX] at h
 by_cases hc : 0 ≤ rd p 0 ∧ rd p 0 < b.length ∧ b.length ≤ 1000 ∧ d.length = b.length ∧ u.length = b.length ∧ p.length = b.length + 1 ∧ -1000 ≤ rd d ((b.length : Int) - 1 - rd p 0) ∧ rd d ((b.length : Int) - 1 - rd p 0) ≤ 1000 ∧ -1000 ≤ rd b ((b.length : Int) - 1 - rd p 0) ∧ rd b ((b.length : Int) - 1 - rd p 0) ≤ 1000
 rotate_left
 ·rw [if_neg hc] at h; cases h
 rw [if_pos hc] at h
 by_cases hz : X = 0 ∨ X = rd b ((b.length : Int) - 1 - rd p 0) - 1
 ·rw [if_pos hz] at h
  simp only [Option.some.injEq, Prod.mk.injEq] at h
  obtain ⟨-, -, -, rfl⟩ := h
  exact hc.1
 ·rw [if_neg hz] at h
  simp only [Option.some.injEq, Prod.mk.injEq] at h
  obtain ⟨-, -, -, rfl⟩ := h
  exact hc.1
open Go.Proofs.Ytapbbmicfkbafaa.FoW in
set_option maxHeartbeats 8000000 in
set_option maxRecDepth 100000 in
theorem impl_StepFocus.calls (k : Nat) (A0 : Option Addr) (c0 : Nat) (b : List Int) (A1 : Option Addr) (c1 : Nat) (d : List Int) (A2 : Option Addr) (c2 : Nat) (u : List Bool) (A3 : Option Addr) (c3 : Nat) (p : List Int) (r1 r2 : List Int) (r3 : List Bool) (r4 : List Int) (r5 : Int) (r6 : Bool) (w : World)
  (hr0 : Kd.C (Kd.int .i64) w A0 b.length b) (hc0 : b.length ≤ c0) (hr1 : Kd.C (Kd.int .i64) w A1 d.length d) (hc1 : d.length ≤ c1) (hr2 : Kd.C Kd.bool w A2 u.length u) (hc2 : u.length ≤ c2) (hr3 : Kd.C (Kd.int .i64) w A3 p.length p) (hc3 : p.length ≤ c3) (h : impl_StepFocus.f k b d u p = some (r1, r2, r3, r4, r5, r6)) :
  Calls Try.prog 13 #[.agg #[.slice A0 b.length c0, .slice A1 d.length c1, .slice A2 u.length c2, .slice A3 p.length c3]] w fun e w' => ∃ v0_ v1_ v2_ v3_ : Value, e = .returned (.tuple #[.agg #[v0_, v1_, v2_, v3_], .int .i64 r5, .bool r6]) ∧ Kd.R (Kd.int .i64) 3 w' w.heap.size (fun k_ => some k_ ≠ (v1_ : Value).ownBlock ∧ some k_ ≠ (v3_ : Value).ownBlock) v0_ r1 ∧ Kd.R (Kd.int .i64) 3 w' w.heap.size (fun k_ => some k_ ≠ (v0_ : Value).ownBlock ∧ some k_ ≠ (v3_ : Value).ownBlock) v1_ r2 ∧ Kd.R Kd.bool 4 w' w.heap.size (fun _ => True) v2_ r3 ∧ Kd.R (Kd.int .i64) 3 w' w.heap.size (fun k_ => some k_ ≠ (v0_ : Value).ownBlock ∧ some k_ ≠ (v1_ : Value).ownBlock) v3_ r4 ∧ Below w.heap.size w w' := by
 have hu := Try.underlying33
 unfold impl_StepFocus.f at h
 obtain ⟨t, ht, h⟩ := Z35.mp h
 have At := Ya ht
 clear ht
 have HR0 := Ya hr0
 have HC0 := Ya hc0
 have HR1 := Ya hr1
 have HC1 := Ya hc1
 have HR2 := Ya hr2
 have HC2 := Ya hc2
 have HR3 := Ya hr3
 have HC3 := Ya hc3
 clear hr0 hc0 hr1 hc1 hr2 hc2 hr3 hc3
 have HB := Ya (Below.refl w.heap.size w)
 cases t
 ·rw [if_neg (by decide)] at h
  simp only [Option.some.injEq, Prod.mk.injEq] at h
  obtain ⟨rfl, rfl, rfl, rfl, rfl, rfl⟩ := h
  go_enter Try.func13, Try.ntmps13
  go_wp2_with (first | ((with_reducible refine gate_dst (N := 1) rfl ?_); refine Yx 1 #[.slice A0 b.length c0, .slice A1 d.length c1, .slice A2 u.length c2, .slice A3 p.length c3] 33 ?_; intro gb1 hg w_1 hbox hb; have BK1 := Ya hbox; have GE1 := Ya (by rw [hg]; exact Z7 Q0 : w.heap.size ≤ gb1); replace HB := Yh hb; clear hb hbox hg) | ((with_reducible refine gate_dst (N := 2) rfl ?_); refine Yx 2 YN4 33 ?_; intro gb2 hg w_2 hbox hb; have BK2 := Ya hbox; have GE2 := Ya (by rw [hg]; exact Z7 Q0 : w.heap.size ≤ gb2); have N12 := Ya (by rw [hg]; exact Nat.ne_of_lt (blk_lt Q21) : gb1 ≠ gb2); replace BK1 := Ya (Z27 Q21 hb); replace HB := Yh hb; have hn1 := N12.out; have hn2 := N12.out.symm; have hca0 := (Z22 BK1.out 0).trans rfl; have hfa0 := Z23 BK1.out 0; have hca1 := (Z22 BK1.out 1).trans rfl; have hfa1 := Z23 BK1.out 1; have hca2 := (Z22 BK1.out 2).trans rfl; have hfa2 := Z23 BK1.out 2; have hca3 := (Z22 BK1.out 3).trans rfl; have hfa3 := Z23 BK1.out 3; clear hb hbox hg) | ((with_reducible refine gate_callee (f := 24) rfl ?_); refine Yz 8 Try.func24 #[.agg #[.slice A0 b.length c0, .slice A1 d.length c1, .slice A2 u.length c2, .slice A3 p.length c3]] ?_ (hargs := Q22); (with_reducible refine (impl_IsFocus.calls k _ _ b _ _ d _ _ u _ _ p false _ ?s0 HC0.out ?s1 HC1.out ?s2 HC2.out ?s3 HC3.out At.out).mono ?_); (case s0 => repeat (first | exact (Z21 HR0.out HB.out) | (with_reducible refine Z18 ?_ _) | (with_reducible refine Z19 ?_ _) | (with_reducible refine Z20 ?_))); (case s1 => repeat (first | exact (Z21 HR1.out HB.out) | (with_reducible refine Z18 ?_ _) | (with_reducible refine Z19 ?_ _) | (with_reducible refine Z20 ?_))); (case s2 => repeat (first | exact (Z21 HR2.out HB.out) | (with_reducible refine Z18 ?_ _) | (with_reducible refine Z19 ?_ _) | (with_reducible refine Z20 ?_))); (case s3 => repeat (first | exact (Z21 HR3.out HB.out) | (with_reducible refine Z18 ?_ _) | (with_reducible refine Z19 ?_ _) | (with_reducible refine Z20 ?_))); rintro e w1 ⟨rfl, hb⟩; refine ⟨_, rfl, ?_⟩; clear hca0 hfa0 hca1 hfa1 hca2 hfa2 hca3 hfa3; replace BK1 := Ya (Z27 Q21 hb); replace BK2 := Ya (Z27 Q26 hb); replace HB := Yh hb; clear hb; have hcb0 := (Z22 BK2.out 0).trans rfl; have hfb0 := Z23 BK2.out 0; have hcb1 := (Z22 BK2.out 1).trans rfl; have hfb1 := Z23 BK2.out 1; have hcb2 := (Z22 BK2.out 2).trans rfl; have hfb2 := Z23 BK2.out 2; have hcb3 := (Z22 BK2.out 3).trans rfl; have hfb3 := Z23 BK2.out 3))
  refine bodyPost_ret (results_ctt rfl _ _ gb2 33 YN4 (0, 0) _ rfl Q38 hu rfl (by kernel_rfl)) rfl ?_
  have hbb := set4_below HB.out GE2.out (.slice none 0 0) (.slice none 0 0) (.slice none 0 0) (.slice none 0 0)
  unfold set4 at hbb
  exact ⟨_, _, _, _, rfl, Kd.R_nil _ _ _ _ _, Kd.R_nil _ _ _ _ _, Kd.R_nil _ _ _ _ _, Kd.R_nil _ _ _ _ _, hbb⟩
 ·rw [if_pos rfl] at h
  obtain ⟨⟨b1, d1, u1, p1⟩, ho, h⟩ := Z35.mp h
  dsimp only at h
  have Ao := Ya ho
  have HH := Ya h
  clear ho h
  go_enter Try.func13, Try.ntmps13
  go_upto_region 4 with (first | ((with_reducible refine gate_dst (N := 1) rfl ?_); refine Yx 1 #[.slice A0 b.length c0, .slice A1 d.length c1, .slice A2 u.length c2, .slice A3 p.length c3] 33 ?_; intro gb1 hg w_1 hbox hb; have BK1 := Ya hbox; have GE1 := Ya (by rw [hg]; exact Z7 Q0 : w.heap.size ≤ gb1); replace HB := Yh hb; clear hb hbox hg) | ((with_reducible refine gate_dst (N := 2) rfl ?_); refine Yx 2 YN4 33 ?_; intro gb2 hg w_2 hbox hb; have BK2 := Ya hbox; have GE2 := Ya (by rw [hg]; exact Z7 Q0 : w.heap.size ≤ gb2); have N12 := Ya (by rw [hg]; exact Nat.ne_of_lt (blk_lt Q21) : gb1 ≠ gb2); replace BK1 := Ya (Z27 Q21 hb); replace HB := Yh hb; have hn1 := N12.out; have hn2 := N12.out.symm; have hca0 := (Z22 BK1.out 0).trans rfl; have hfa0 := Z23 BK1.out 0; have hca1 := (Z22 BK1.out 1).trans rfl; have hfa1 := Z23 BK1.out 1; have hca2 := (Z22 BK1.out 2).trans rfl; have hfa2 := Z23 BK1.out 2; have hca3 := (Z22 BK1.out 3).trans rfl; have hfa3 := Z23 BK1.out 3; clear hb hbox hg) | ((with_reducible refine gate_callee (f := 24) rfl ?_); refine Yz 8 Try.func24 #[.agg #[.slice A0 b.length c0, .slice A1 d.length c1, .slice A2 u.length c2, .slice A3 p.length c3]] ?_ (hargs := Q22); (with_reducible refine (impl_IsFocus.calls k _ _ b _ _ d _ _ u _ _ p true _ ?s0 HC0.out ?s1 HC1.out ?s2 HC2.out ?s3 HC3.out At.out).mono ?_); (case s0 => repeat (first | exact (Z21 HR0.out HB.out) | (with_reducible refine Z18 ?_ _) | (with_reducible refine Z19 ?_ _) | (with_reducible refine Z20 ?_))); (case s1 => repeat (first | exact (Z21 HR1.out HB.out) | (with_reducible refine Z18 ?_ _) | (with_reducible refine Z19 ?_ _) | (with_reducible refine Z20 ?_))); (case s2 => repeat (first | exact (Z21 HR2.out HB.out) | (with_reducible refine Z18 ?_ _) | (with_reducible refine Z19 ?_ _) | (with_reducible refine Z20 ?_))); (case s3 => repeat (first | exact (Z21 HR3.out HB.out) | (with_reducible refine Z18 ?_ _) | (with_reducible refine Z19 ?_ _) | (with_reducible refine Z20 ?_))); rintro e w1 ⟨rfl, hb⟩; refine ⟨_, rfl, ?_⟩; clear hca0 hfa0 hca1 hfa1 hca2 hfa2 hca3 hfa3; replace BK1 := Ya (Z27 Q21 hb); replace BK2 := Ya (Z27 Q26 hb); replace HB := Yh hb; clear hb; have hca0 := (Z22 BK1.out 0).trans rfl; have hfa0 := Z23 BK1.out 0; have hca1 := (Z22 BK1.out 1).trans rfl; have hfa1 := Z23 BK1.out 1; have hca2 := (Z22 BK1.out 2).trans rfl; have hfa2 := Z23 BK1.out 2; have hca3 := (Z22 BK1.out 3).trans rfl; have hfa3 := Z23 BK1.out 3) | ((with_reducible refine gate_callee (f := 37) rfl ?_); refine Yz 12 Try.func37 #[.agg #[.slice A0 b.length c0, .slice A1 d.length c1, .slice A2 u.length c2, .slice A3 p.length c3]] ?_ (hargs := Q22); (with_reducible refine (impl_Focus_own.calls _ _ b _ _ d _ _ u _ _ p b1 d1 u1 p1 _ ?s0 HC0.out ?s1 HC1.out ?s2 HC2.out ?s3 HC3.out Ao.out).mono ?_); (case s0 => repeat (first | exact (Z21 HR0.out HB.out) | (with_reducible refine Z18 ?_ _) | (with_reducible refine Z19 ?_ _) | (with_reducible refine Z20 ?_))); (case s1 => repeat (first | exact (Z21 HR1.out HB.out) | (with_reducible refine Z18 ?_ _) | (with_reducible refine Z19 ?_ _) | (with_reducible refine Z20 ?_))); (case s2 => repeat (first | exact (Z21 HR2.out HB.out) | (with_reducible refine Z18 ?_ _) | (with_reducible refine Z19 ?_ _) | (with_reducible refine Z20 ?_))); (case s3 => repeat (first | exact (Z21 HR3.out HB.out) | (with_reducible refine Z18 ?_ _) | (with_reducible refine Z19 ?_ _) | (with_reducible refine Z20 ?_))); rintro e w2 ⟨v0, v1, v2, v3, rfl, ho0, ho1, ho2, ho3, hb⟩; refine ⟨_, rfl, ?_⟩; clear hca0 hfa0 hca1 hfa1 hca2 hfa2 hca3 hfa3; have HV : Aside0 (FoV w2 w.heap.size v0 v1 v2 v3 b1 d1 u1 p1) := ⟨FoV.mk (Kd.R_lower ho0 (Z7 Q0)) (Kd.R_lower ho1 (Z7 Q0)) (Kd.R_lower ho2 (Z7 Q0)) (Kd.R_lower ho3 (Z7 Q0))⟩; replace BK1 := Ya (Z27 Q21 hb); replace BK2 := Ya (Z27 Q26 hb); replace HB := Yh hb; clear hb ho0 ho1 ho2 ho3; obtain ⟨B0, e0, q0⟩ := Z17 HV.out.r0; obtain ⟨B1, e1, q1⟩ := Z17 HV.out.r1; obtain ⟨B2, e2, q2⟩ := Z17 HV.out.r2; obtain ⟨B3, e3, q3⟩ := Z17 HV.out.r3; subst q0 q1 q2 q3) | ((with_reducible refine gate_dst (N := 5) rfl ?_); refine Yx 5 YN4 33 ?_; intro gb5 hg w_5 hbox hb; have BK5 := Ya hbox; have GE5 := Ya (by rw [hg]; exact Z7 Q0 : w.heap.size ≤ gb5); have N15 := Ya (by rw [hg]; exact Nat.ne_of_lt (blk_lt Q21) : gb1 ≠ gb5); have N25 := Ya (by rw [hg]; exact Nat.ne_of_lt (blk_lt Q26) : gb2 ≠ gb5); replace HV := Ya (FoV.below (Qm0 HV.out) hb); replace BK1 := Ya (Z27 Q21 hb); replace BK2 := Ya (Z27 Q26 hb); replace HB := Yh hb; have hcd0 := (Z22 BK5.out 0).trans rfl; have hfd0 := Z23 BK5.out 0; have hcd1 := (Z22 BK5.out 1).trans rfl; have hfd1 := Z23 BK5.out 1; have hcd2 := (Z22 BK5.out 2).trans rfl; have hfd2 := Z23 BK5.out 2; have hcd3 := (Z22 BK5.out 3).trans rfl; have hfd3 := Z23 BK5.out 3; clear hb hbox hg))
  clear hcd0 hfd0 hcd1 hfd1 hcd2 hfd2 hcd3 hfd3
  replace HV := Ya (FoV.set4 HV.out BK5.out (by decide) (by decide) (.slice B0 b1.length e0) (.slice B1 d1.length e1) (.slice B2 u1.length e2) (.slice B3 p1.length e3))
  replace BK5 := Ya (set4_at BK5.out (.slice B0 b1.length e0) (.slice B1 d1.length e1) (.slice B2 u1.length e2) (.slice B3 p1.length e3))
  replace BK1 := Ya ((set4_far _ gb5 (.slice B0 b1.length e0) (.slice B1 d1.length e1) (.slice B2 u1.length e2) (.slice B3 p1.length e3) gb1 N15.out).trans BK1.out)
  replace BK2 := Ya ((set4_far _ gb5 (.slice B0 b1.length e0) (.slice B1 d1.length e1) (.slice B2 u1.length e2) (.slice B3 p1.length e3) gb2 N25.out).trans BK2.out)
  replace HB := Ya (set4_below HB.out GE5.out (.slice B0 b1.length e0) (.slice B1 d1.length e1) (.slice B2 u1.length e2) (.slice B3 p1.length e3))
  unfold set4 at BK5 HV BK1 BK2 HB
  generalize ((((w_5.setCell ⟨gb5, 0, none⟩ (.slice B0 b1.length e0)).setCell ⟨gb5, 1, none⟩ (.slice B1 d1.length e1)).setCell ⟨gb5, 2, none⟩ (.slice B2 u1.length e2)).setCell ⟨gb5, 3, none⟩ (.slice B3 p1.length e3)) = w5 at BK5 HV BK1 BK2 HB ⊢
  have h := HH.out
  clear HH
  by_cases ce : 0 < p1.length ∧ b1.length ≤ 1000 ∧ rd p1 0 = (b1.length : Int)
  ·rw [if_pos ce] at h
   simp only [Option.some.injEq, Prod.mk.injEq] at h
   obtain ⟨rfl, rfl, rfl, rfl, rfl, rfl⟩ := h
   obtain ⟨g3, c3', e3', _⟩ := Kd.R_form HV.out.r3 ce.1
   injection e3' with x3 _ _
   subst x3
   have HX : Aside0 (w5.cell? ⟨g3, 0, none⟩ = some (.int .i64 (b1.length : Int))) := ⟨by have h_ := (Kd.R_celln 0 HV.out.r3 0 (by decide) (by exact_mod_cast ce.1)).1; rw [show rdOf 0 p1 0 = rd p1 0 from rfl, ce.2.2] at h_; exact h_⟩
   go_wp2_with (first | ((with_reducible refine gate_callee (f := 38) rfl ?_); refine Yz 13 Try.func38 #[.pointer (some ⟨gb5, 0, none⟩)] ?_ (hargs := Q22); (with_reducible refine (impl_Focus_step.callsEnd _ _ gb5 g3 b1.length e0 p1.length e3 B0 _ rfl rfl ce.1 ce.2.1 BK5.out HX.out).mono ?_); rintro e w6 ⟨rfl, hb⟩; refine ⟨_, rfl, ?_⟩; replace BK2 := Ya (Z27 Q26 hb); replace HB := Yh hb; clear hb; have hcb0 := (Z22 BK2.out 0).trans rfl; have hfb0 := Z23 BK2.out 0; have hcb1 := (Z22 BK2.out 1).trans rfl; have hfb1 := Z23 BK2.out 1; have hcb2 := (Z22 BK2.out 2).trans rfl; have hfb2 := Z23 BK2.out 2; have hcb3 := (Z22 BK2.out 3).trans rfl; have hfb3 := Z23 BK2.out 3))
   refine bodyPost_ret (results_ctt rfl _ _ gb2 33 YN4 (0, 0) _ rfl Q38 hu rfl (by kernel_rfl)) rfl ?_
   have hbb := set4_below HB.out GE2.out (.slice none 0 0) (.slice none 0 0) (.slice none 0 0) (.slice none 0 0)
   unfold set4 at hbb
   exact ⟨_, _, _, _, rfl, Kd.R_nil _ _ _ _ _, Kd.R_nil _ _ _ _ _, Kd.R_nil _ _ _ _ _, Kd.R_nil _ _ _ _ _, hbb⟩
  ·rw [if_neg ce] at h
   obtain ⟨⟨d2, u2, p2, j⟩, hs, h⟩ := Z35.mp h
   simp only [Option.some.injEq, Prod.mk.injEq] at h
   obtain ⟨rfl, rfl, rfl, rfl, rfl, rfl⟩ := h
   have hj : decide (j < 0) = false := Z36 (by have := impl_StepFocus.rank hs; omega)
   obtain ⟨hl, hl0, hl1, hl2, hl3⟩ := stepF_len hs
   have HS := Ya hs
   have HL := Ya hl
   obtain ⟨g0, p0, g1, p1', g2, p2', g3, p3', e0', e1', e2', e3', hF⟩ := FoR.of HV.out.r0 HV.out.r1 HV.out.r2 HV.out.r3 hl0 hl1 hl2 hl3
   injection e0' with x0 _ z0
   injection e1' with x1 _ z1
   injection e2' with x2 _ z2
   injection e3' with x3 _ z3
   subst x0 z0 x1 z1 x2 z2 x3 z3
   have HF := Ya hF
   clear hs hl hl0 hl1 hl2 hl3 hF ce HV
   go_wp2_with (first | ((with_reducible refine gate_callee (f := 38) rfl ?_); refine Yz 13 Try.func38 #[.pointer (some ⟨gb5, 0, none⟩)] ?_ (hargs := Q22); (with_reducible refine (impl_Focus_step.calls w gb5 g0 e0 g1 e1 g2 e2 g3 e3 b1 d1 u1 p1 d2 u2 p2 j _ BK5.out HF.out HB.out HS.out).mono ?_); rintro e w6 ⟨rfl, hk1, hk2, hk3, hk4⟩; refine ⟨_, rfl, ?_⟩; have a2_ := FoR.apart HF.out BK2.out (by decide) (by decide); have a1_ := FoR.apart HF.out BK1.out (by decide) (by decide); replace BK2 := Ya (blk_kept BK2.out hk3 (fun e => by rcases e with e | e | e; exact a2_.2.1 e; exact a2_.2.2.1 e; exact a2_.2.2.2 e)); replace BK1 := Ya (blk_kept BK1.out hk3 (fun e => by rcases e with e | e | e; exact a1_.2.1 e; exact a1_.2.2.1 e; exact a1_.2.2.2 e)); replace BK5 := Ya (hk1.trans BK5.out); replace HF := Ya hk2; replace HB := Ya hk4; clear hk1 hk2 hk3 hk4 a1_ a2_))
   replace BK1 := Ya (Z25 BK1.out)
   replace BK2 := Ya (Z25 BK2.out)
   replace BK5 := Ya (Z25 BK5.out)
   replace HF := Ya (FoR.drew HF.out)
   replace HB := Ya (Z4 HB.out)
   refine start_ (n := 10) (S := fun w' => w'.cell? ⟨gb5, 0, none⟩ = some (.slice (some ⟨g0, 0, none⟩) b1.length e0) ∧ w'.cell? ⟨gb5, 1, none⟩ = some (.slice (some ⟨g1, 0, none⟩) d1.length e1) ∧ w'.cell? ⟨gb5, 2, none⟩ = some (.slice (some ⟨g2, 0, none⟩) u1.length e2) ∧ w'.cell? ⟨gb5, 3, none⟩ = some (.slice (some ⟨g3, 0, none⟩) p1.length e3) ∧ w'.cell? ⟨gb1, 0, none⟩ = some (.slice A0 b.length c0)) (ds := []) (YA 10 0) (by kernel_rfl) rfl rfl ⟨(Z22 BK5.out 0).trans rfl, (Z22 BK5.out 1).trans rfl, (Z22 BK5.out 2).trans rfl, (Z22 BK5.out 3).trans rfl, (Z22 BK1.out 0).trans rfl⟩ (fun hHeld => ?_)
   generalize World.drew _ = w7 at BK1 BK2 BK5 HF HB hHeld ⊢
   have hcb0 := (Z22 BK2.out 0).trans rfl
   have hfb0 := Z23 BK2.out 0
   have hcb1 := (Z22 BK2.out 1).trans rfl
   have hfb1 := Z23 BK2.out 1
   have hcb2 := (Z22 BK2.out 2).trans rfl
   have hfb2 := Z23 BK2.out 2
   have hcb3 := (Z22 BK2.out 3).trans rfl
   have hfb3 := Z23 BK2.out 3
   have h25 := N25.out
   have h25' := N25.out.symm
   have h12 := N12.out
   have h12' := N12.out.symm
   refine Yq 1 (some 18) (YA 10 2) rfl ?_
   refine Yq 5 (some 22) (YA 10 34) rfl ?_
   refine Ys 0 (some 17) (YA 10 35) rfl hHeld (by exact Or.inl ⟨by rfl, by rintro w' ⟨s0, s1, s2, s3, s4⟩; go_simp; with_reducible rfl⟩) ?_
   refine Ys 2 (some 19) (YA 10 39) rfl hHeld (by exact Or.inl ⟨by rfl, by rintro w' ⟨s0, s1, s2, s3, s4⟩; go_simp; with_reducible rfl⟩) ?_
   refine Yq 3 (some 20) (YA 10 47) rfl ?_
   refine Yq 4 (some 21) (YA 10 63) rfl ?_
   refine Yq 6 (some 23) (YA 10 127) rfl ?_
   refine one_ (i := 7) (N := none) (YA 10 255) rfl rfl (by kernel_rfl) (by decide) (fun K hK => ?_)
   refine skip_ (w1 := ?_) (by rfl) rfl ?_ ?_
   rotate_left
   ·go_simp
    rfl
   refine hK.out _ _ ⟨(Z22 ((set4_far w7 gb2 (.slice (some ⟨g0, 0, none⟩) b1.length e0) (.slice (some ⟨g1, 0, none⟩) d1.length e1) (.slice (some ⟨g2, 0, none⟩) u1.length e2) (.slice (some ⟨g3, 0, none⟩) p1.length e3) gb5 h25').trans BK5.out) 0).trans rfl, (Z22 ((set4_far w7 gb2 (.slice (some ⟨g0, 0, none⟩) b1.length e0) (.slice (some ⟨g1, 0, none⟩) d1.length e1) (.slice (some ⟨g2, 0, none⟩) u1.length e2) (.slice (some ⟨g3, 0, none⟩) p1.length e3) gb5 h25').trans BK5.out) 1).trans rfl, (Z22 ((set4_far w7 gb2 (.slice (some ⟨g0, 0, none⟩) b1.length e0) (.slice (some ⟨g1, 0, none⟩) d1.length e1) (.slice (some ⟨g2, 0, none⟩) u1.length e2) (.slice (some ⟨g3, 0, none⟩) p1.length e3) gb5 h25').trans BK5.out) 2).trans rfl, (Z22 ((set4_far w7 gb2 (.slice (some ⟨g0, 0, none⟩) b1.length e0) (.slice (some ⟨g1, 0, none⟩) d1.length e1) (.slice (some ⟨g2, 0, none⟩) u1.length e2) (.slice (some ⟨g3, 0, none⟩) p1.length e3) gb5 h25').trans BK5.out) 3).trans rfl, (Z22 ((set4_far w7 gb2 (.slice (some ⟨g0, 0, none⟩) b1.length e0) (.slice (some ⟨g1, 0, none⟩) d1.length e1) (.slice (some ⟨g2, 0, none⟩) u1.length e2) (.slice (some ⟨g3, 0, none⟩) p1.length e3) gb1 h12).trans BK1.out) 0).trans rfl⟩ (fun hHeld => ?_)
   clear hK K
   refine Yq 8 (some 3) (YA 10 511) rfl ?_
   refine Yq 9 (some 4) (YA 10 1023) rfl ?_
   refine done_ (by kernel_rfl) ?_
   have hv := FoR.back HF.out
   rw [HL.out.1, HL.out.2.1, HL.out.2.2] at hv
   go_wp2
   refine bodyPost_ret (results_ctt rfl _ _ gb2 33 #[.slice (some ⟨g0, 0, none⟩) b1.length e0, .slice (some ⟨g1, 0, none⟩) d1.length e1, .slice (some ⟨g2, 0, none⟩) u1.length e2, .slice (some ⟨g3, 0, none⟩) p1.length e3] (0, 0) _ rfl (by have h_ := set4_at BK2.out (.slice (some ⟨g0, 0, none⟩) b1.length e0) (.slice (some ⟨g1, 0, none⟩) d1.length e1) (.slice (some ⟨g2, 0, none⟩) u1.length e2) (.slice (some ⟨g3, 0, none⟩) p1.length e3); unfold set4 at h_; exact h_) hu rfl (by kernel_rfl)) rfl ?_
   have hbb := set4_below HB.out GE2.out (.slice (some ⟨g0, 0, none⟩) b1.length e0) (.slice (some ⟨g1, 0, none⟩) d1.length e1) (.slice (some ⟨g2, 0, none⟩) u1.length e2) (.slice (some ⟨g3, 0, none⟩) p1.length e3)
   have hv2 := FoV.set4 (FoV.mk hv.1 hv.2.1 hv.2.2.1 hv.2.2.2) BK2.out (by decide) (by decide) (.slice (some ⟨g0, 0, none⟩) b1.length e0) (.slice (some ⟨g1, 0, none⟩) d1.length e1) (.slice (some ⟨g2, 0, none⟩) u1.length e2) (.slice (some ⟨g3, 0, none⟩) p1.length e3)
   unfold set4 at hbb hv2
   exact ⟨_, _, _, _, rfl, hv2.r0, hv2.r1, hv2.r2, hv2.r3, hbb⟩
def spec_l1Cur_rank.f (s0_0 : List Int) (s0_1 : Int) (s0_2 : Int) (a1 : Int) : Option (Int × Int × Int) := (spec_l1Cur_pick.f s0_0 s0_1 s0_2 12).bind fun bt405 => (if bt405.1 = 0 then ((spec_l1Cur_among.f s0_0 bt405.2.1 bt405.2.2 (([(-1), a1, wrap64 (a1 + 1), 4611686018427387904] : List Int))).bind fun bt411 => (some (bt411.1, bt411.2.1, bt411.2.2))) else (if bt405.1 = 1 then (some (wrap64 (a1 - 1), bt405.2.1, bt405.2.2)) else (if bt405.1 = 2 then (some (0, bt405.2.1, bt405.2.2)) else (if a1 < 2 then (some (0, bt405.2.1, bt405.2.2)) else ((spec_l1Cur_pick.f s0_0 bt405.2.1 bt405.2.2 60000).bind fun bt414 => ((spec_l1Cur_pick.f s0_0 bt414.2.1 bt414.2.2 60000).bind fun bt417 => (if a1 = 0 then (none) else (some (Int.tmod (wrap64 ((wrap64 (bt414.1 * 60000)) + bt417.1)) a1, bt417.2.1, bt417.2.2)))))))))
set_option maxHeartbeats 8000000 in
set_option maxRecDepth 100000 in
theorem spec_l1Cur_rank.calls (g : Nat) (s0_0 : List Int) (s0_1 : Int) (s0_2 : Int) (a1 : Int) (r1 : Int) (r2 : Int) (r3 : Int) (w0 w : World) (hI : IsS52 w0 w g s0_0 s0_1 s0_2) (hB : Below w0.heap.size w0 w) (h : spec_l1Cur_rank.f s0_0 s0_1 s0_2 a1 = some (r1, r2, r3)) :
  Calls Try.prog 39 #[.pointer (some ⟨g, 0, none⟩), .int .i64 a1] w fun e w' => e = .returned (.int .i64 r1) ∧ IsS52 w0 w' g s0_0 r2 r3 ∧ Below w0.heap.size w0 w' ∧ KeepBut w w' g none := by
 have HI0 := Ya hI
 have HK := Ya (KeepBut.refl w g none)
 have HL := Ya hB.size
 clear hI
 have HW0 := Ya hB.size
 have HB := Ya hB
 clear hB
 have H : ((spec_l1Cur_pick.f s0_0 s0_1 s0_2 12).bind fun bt405 => (if bt405.1 = 0 then ((spec_l1Cur_among.f s0_0 bt405.2.1 bt405.2.2 (([(-1), a1, wrap64 (a1 + 1), 4611686018427387904] : List Int))).bind fun bt411 => (some (bt411.1, bt411.2.1, bt411.2.2))) else (if bt405.1 = 1 then (some (wrap64 (a1 - 1), bt405.2.1, bt405.2.2)) else (if bt405.1 = 2 then (some (0, bt405.2.1, bt405.2.2)) else (if a1 < 2 then (some (0, bt405.2.1, bt405.2.2)) else ((spec_l1Cur_pick.f s0_0 bt405.2.1 bt405.2.2 60000).bind fun bt414 => ((spec_l1Cur_pick.f s0_0 bt414.2.1 bt414.2.2 60000).bind fun bt417 => (if a1 = 0 then (none) else (some (Int.tmod (wrap64 ((wrap64 (bt414.1 * 60000)) + bt417.1)) a1, bt417.2.1, bt417.2.2)))))))))) = some (r1, r2, r3) := h
 clear h
 replace H := Z35.mp H
 obtain ⟨⟨t405, t406, t407⟩, A30, H⟩ := H
 replace H : (if t405 = 0 then ((spec_l1Cur_among.f s0_0 t406 t407 (([(-1), a1, wrap64 (a1 + 1), 4611686018427387904] : List Int))).bind fun bt411 => (some (bt411.1, bt411.2.1, bt411.2.2))) else (if t405 = 1 then (some (wrap64 (a1 - 1), t406, t407)) else (if t405 = 2 then (some (0, t406, t407)) else (if a1 < 2 then (some (0, t406, t407)) else ((spec_l1Cur_pick.f s0_0 t406 t407 60000).bind fun bt414 => ((spec_l1Cur_pick.f s0_0 bt414.2.1 bt414.2.2 60000).bind fun bt417 => (if a1 = 0 then (none) else (some (Int.tmod (wrap64 ((wrap64 (bt414.1 * 60000)) + bt417.1)) a1, bt417.2.1, bt417.2.2))))))))) = some (r1, r2, r3) := H
 have A3 := Ya A30
 clear A30
 by_cases c4 : t405 = 0
 ·rw [if_pos c4] at H
  have c4b0 : (t405 == 0) = true := beq_iff_eq.mpr c4
  have c4b1 : (t405 != 0) = false := bne_eq_false_iff_eq.mpr c4
  clear c4
  obtain ⟨y408, hy408⟩ : ∃ y_ : List Int, y_ = (([(-1), a1, wrap64 (a1 + 1), 4611686018427387904] : List Int)) := ⟨_, rfl⟩
  replace H : ((spec_l1Cur_among.f s0_0 t406 t407 y408).bind fun bt411 => (some (bt411.1, bt411.2.1, bt411.2.2))) = some (r1, r2, r3) := by first | (rw [hy408]; with_reducible exact H) | (have H2_ := (Option.bind_some _ _).symm.trans H; rw [hy408]; with_reducible exact H2_) | (have H2_ := (Option.bind_some _ _).symm.trans H; with_reducible exact H2_) | with_reducible exact H | (rw [hy408]; exact H) | exact H
  have Ny408 := Ya hy408
  clear hy408
  replace H := Z35.mp H
  obtain ⟨⟨t411, t412, t413⟩, A50, H⟩ := H
  replace H : (some (t411, t412, t413)) = some (r1, r2, r3) := H
  have A5 := Ya A50
  clear A50
  simp only [Option.some.injEq, Prod.mk.injEq] at H
  obtain ⟨rfl, rfl, rfl⟩ := H
  go_enter Try.func39, Try.ntmps39
  go_wp2_with (first | ((with_reducible refine gate_callee (f := 56) rfl ?_); refine Yz 6 Try.func56 #[.pointer (some ⟨g, 0, none⟩), .int .i64 12] ?_; (with_reducible refine (spec_l1Cur_pick.calls g s0_0 s0_1 s0_2 12 t405 t406 t407 w0 _ ?side1 ?side2 A3.out).mono ?_); (case side1 => repeat (first | (with_reducible first | exact HI0.out | apply IsS52.alloc | apply IsS52.drewN | apply IsS52.drew | apply IsS52.set_1 | apply IsS52.set_2) | exact HI0.out)); (case side2 => repeat (first | (with_reducible first | exact HB.out | apply Z5 | apply Z3 | apply Z4 | refine Z6 ?_ (IsS52.ge HI0.out)) | exact HB.out)); rintro e w6 ⟨rfl, hi, hb, hk⟩; refine ⟨_, rfl, ?_⟩; replace HK := Ya (KeepBut.trans Q2 hk (.inl rfl)); replace HB := Ya hb; replace HI0 := Ya hi; (try clear hb hk hi)) | ((with_reducible refine gate_dst (N := 13) rfl ?_); refine Kd.R_lit (Kd.int .i64) _ 3 ?hg (N := 13) ?hd (xs := ([(-1), a1, wrap64 (a1 + 1), 4611686018427387904] : List Int)) (inner := [.int .i64 (-1), .int .i64 a1, .int .i64 (wrap64 (a1 + 1)), .int .i64 4611686018427387904]) (ok := fun _ => True) (okp := fun _ => True) ?hr ?hp (fun _ hk => hk) trivial (Below.refl _ _) (Nat.le_refl _) (by simp) ?_; (case hd => rfl); (case hg => rfl); (case hr => first | (go_simp; done) | (go_simp; rfl)); (case hp => exact (Reps.one (show Kd.M (Kd.int .i64) _ _ _ (-1) [.int .i64 (-1)] from rfl) (Reps.one (show Kd.M (Kd.int .i64) _ _ _ a1 [.int .i64 a1] from rfl) (Reps.one (show Kd.M (Kd.int .i64) _ _ _ (wrap64 (a1 + 1)) [.int .i64 (wrap64 (a1 + 1))] from rfl) (Reps.one (show Kd.M (Kd.int .i64) _ _ _ 4611686018427387904 [.int .i64 4611686018427387904] from rfl) (Reps.none _ _)))))); intro v409 w7 ho8 hb hg_ hnew_; clear hg_ hnew_; (first | rw [← Ny408.out] at ho8 | (simp only [Int.reduceToNat] at ho8; rw [← Ny408.out] at ho8)); have HO410 := Ya (Kd.R_lower ho8 (keep_size (w := w) (g := g) (row := none) Q2)); replace HK := Ya (KeepBut.trans Q2 (KeepBut.of_below hb g none) (.inl rfl)); replace HB := Ya (below_step Q17 hb); replace HI0 := Ya (IsS52.below Q14 hb); clear hb ho8; obtain ⟨Ao9, co9, rfl⟩ := Z17 HO410.out) | ((with_reducible refine gate_callee (f := 28) rfl ?_); refine Yz 14 Try.func28 #[.pointer (some ⟨g, 0, none⟩), .slice Ao9 y408.length co9] ?_; (with_reducible refine (spec_l1Cur_among.calls g s0_0 t406 t407 _ _ y408 t411 t412 t413 w0 _ ?side1 ?side2 (Yc (Kd.R_reads' HO410.out).2.2) ((Kd.R_reads' HO410.out).2.1) ?side5 A5.out).mono ?_); (case side1 => repeat (first | (with_reducible first | exact HI0.out | apply IsS52.alloc | apply IsS52.drewN | apply IsS52.drew | apply IsS52.set_1 | apply IsS52.set_2) | exact HI0.out)); (case side2 => repeat (first | (with_reducible first | exact HB.out | apply Z5 | apply Z3 | apply Z4 | refine Z6 ?_ (IsS52.ge HI0.out)) | exact HB.out)); (case side5 => exact far_slice (IsS52.own_ne HI0.out HO410.out (by decide))); rintro e w10 ⟨rfl, hi, hb, hk⟩; refine ⟨_, rfl, ?_⟩; replace HO410 := Ya (Z11 (Kd.R_keep (IsS52.apart (show IsS52 w0 _ g s0_0 t406 t407 from by repeat (first | (with_reducible first | exact HI0.out | apply IsS52.alloc | apply IsS52.drewN | apply IsS52.drew | apply IsS52.set_1 | apply IsS52.set_2) | exact HI0.out)) (Yr HO410.out) (by decide)) hk (fun _ h => h.2)) (fun _ h => h.1)); replace HK := Ya (KeepBut.trans Q2 hk (.inl rfl)); replace HB := Ya hb; replace HI0 := Ya hi; (try clear hb hk hi)))
  go_ret
  exact ⟨Q1, Q5, Q7, Q13⟩
 ·rw [if_neg c4] at H
  have c4b0 : (t405 == 0) = false := beq_eq_false_iff_ne.mpr c4
  have c4b1 : (t405 != 0) = true := bne_iff_ne.mpr c4
  by_cases c11 : t405 = 1
  ·rw [if_pos c11] at H
   have c11b0 : (t405 == 1) = true := beq_iff_eq.mpr c11
   have c11b1 : (t405 != 1) = false := bne_eq_false_iff_eq.mpr c11
   clear c11
   simp only [Option.some.injEq, Prod.mk.injEq] at H
   obtain ⟨rfl, rfl, rfl⟩ := H
   go_enter Try.func39, Try.ntmps39
   go_wp2_with (first | ((with_reducible refine gate_callee (f := 56) rfl ?_); refine Yz 6 Try.func56 #[.pointer (some ⟨g, 0, none⟩), .int .i64 12] ?_; (with_reducible refine (spec_l1Cur_pick.calls g s0_0 s0_1 s0_2 12 t405 t406 t407 w0 _ ?side1 ?side2 A3.out).mono ?_); (case side1 => repeat (first | (with_reducible first | exact HI0.out | apply IsS52.alloc | apply IsS52.drewN | apply IsS52.drew | apply IsS52.set_1 | apply IsS52.set_2) | exact HI0.out)); (case side2 => repeat (first | (with_reducible first | exact HB.out | apply Z5 | apply Z3 | apply Z4 | refine Z6 ?_ (IsS52.ge HI0.out)) | exact HB.out)); rintro e w12 ⟨rfl, hi, hb, hk⟩; refine ⟨_, rfl, ?_⟩; replace HK := Ya (KeepBut.trans Q2 hk (.inl rfl)); replace HB := Ya hb; replace HI0 := Ya hi; (try clear hb hk hi)))
   go_ret
   exact ⟨Q1, Q5, Q7, Q13⟩
  ·rw [if_neg c11] at H
   have c11b0 : (t405 == 1) = false := beq_eq_false_iff_ne.mpr c11
   have c11b1 : (t405 != 1) = true := bne_iff_ne.mpr c11
   by_cases c13 : t405 = 2
   ·rw [if_pos c13] at H
    have c13b0 : (t405 == 2) = true := beq_iff_eq.mpr c13
    have c13b1 : (t405 != 2) = false := bne_eq_false_iff_eq.mpr c13
    clear c13
    simp only [Option.some.injEq, Prod.mk.injEq] at H
    obtain ⟨rfl, rfl, rfl⟩ := H
    go_enter Try.func39, Try.ntmps39
    go_wp2_with (first | ((with_reducible refine gate_callee (f := 56) rfl ?_); refine Yz 6 Try.func56 #[.pointer (some ⟨g, 0, none⟩), .int .i64 12] ?_; (with_reducible refine (spec_l1Cur_pick.calls g s0_0 s0_1 s0_2 12 t405 t406 t407 w0 _ ?side1 ?side2 A3.out).mono ?_); (case side1 => repeat (first | (with_reducible first | exact HI0.out | apply IsS52.alloc | apply IsS52.drewN | apply IsS52.drew | apply IsS52.set_1 | apply IsS52.set_2) | exact HI0.out)); (case side2 => repeat (first | (with_reducible first | exact HB.out | apply Z5 | apply Z3 | apply Z4 | refine Z6 ?_ (IsS52.ge HI0.out)) | exact HB.out)); rintro e w14 ⟨rfl, hi, hb, hk⟩; refine ⟨_, rfl, ?_⟩; replace HK := Ya (KeepBut.trans Q2 hk (.inl rfl)); replace HB := Ya hb; replace HI0 := Ya hi; (try clear hb hk hi)))
    go_ret
    exact ⟨Q1, Q5, Q7, Q13⟩
   ·rw [if_neg c13] at H
    have c13b0 : (t405 == 2) = false := beq_eq_false_iff_ne.mpr c13
    have c13b1 : (t405 != 2) = true := bne_iff_ne.mpr c13
    by_cases c15 : a1 < 2
    ·rw [if_pos c15] at H
     have c15b0 := Z37 c15
     clear c15
     simp only [Option.some.injEq, Prod.mk.injEq] at H
     obtain ⟨rfl, rfl, rfl⟩ := H
     go_enter Try.func39, Try.ntmps39
     go_wp2_with (first | ((with_reducible refine gate_callee (f := 56) rfl ?_); refine Yz 6 Try.func56 #[.pointer (some ⟨g, 0, none⟩), .int .i64 12] ?_; (with_reducible refine (spec_l1Cur_pick.calls g s0_0 s0_1 s0_2 12 t405 t406 t407 w0 _ ?side1 ?side2 A3.out).mono ?_); (case side1 => repeat (first | (with_reducible first | exact HI0.out | apply IsS52.alloc | apply IsS52.drewN | apply IsS52.drew | apply IsS52.set_1 | apply IsS52.set_2) | exact HI0.out)); (case side2 => repeat (first | (with_reducible first | exact HB.out | apply Z5 | apply Z3 | apply Z4 | refine Z6 ?_ (IsS52.ge HI0.out)) | exact HB.out)); rintro e w16 ⟨rfl, hi, hb, hk⟩; refine ⟨_, rfl, ?_⟩; replace HK := Ya (KeepBut.trans Q2 hk (.inl rfl)); replace HB := Ya hb; replace HI0 := Ya hi; (try clear hb hk hi)))
     go_ret
     exact ⟨Q1, Q5, Q7, Q13⟩
    ·rw [if_neg c15] at H
     have c15b0 := Z36 c15
     clear c15
     replace H := Z35.mp H
     obtain ⟨⟨t414, t415, t416⟩, A170, H⟩ := H
     replace H : ((spec_l1Cur_pick.f s0_0 t415 t416 60000).bind fun bt417 => (if a1 = 0 then (none) else (some (Int.tmod (wrap64 ((wrap64 (t414 * 60000)) + bt417.1)) a1, bt417.2.1, bt417.2.2)))) = some (r1, r2, r3) := H
     have A17 := Ya A170
     clear A170
     replace H := Z35.mp H
     obtain ⟨⟨t417, t418, t419⟩, A180, H⟩ := H
     replace H : (if a1 = 0 then (none) else (some (Int.tmod (wrap64 ((wrap64 (t414 * 60000)) + t417)) a1, t418, t419))) = some (r1, r2, r3) := H
     have A18 := Ya A180
     clear A180
     by_cases c19 : a1 = 0
     ·rw [if_pos c19] at H
      exact absurd H (by simp)
     ·rw [if_neg c19] at H
      have c19b0 : (a1 == 0) = false := beq_eq_false_iff_ne.mpr c19
      have c19b1 : (a1 != 0) = true := bne_iff_ne.mpr c19
      simp only [Option.some.injEq, Prod.mk.injEq] at H
      obtain ⟨rfl, rfl, rfl⟩ := H
      go_enter Try.func39, Try.ntmps39
      go_wp2_with (first | ((with_reducible refine gate_callee (f := 56) rfl ?_); refine Yz 6 Try.func56 #[.pointer (some ⟨g, 0, none⟩), .int .i64 12] ?_; (with_reducible refine (spec_l1Cur_pick.calls g s0_0 s0_1 s0_2 12 t405 t406 t407 w0 _ ?side1 ?side2 A3.out).mono ?_); (case side1 => repeat (first | (with_reducible first | exact HI0.out | apply IsS52.alloc | apply IsS52.drewN | apply IsS52.drew | apply IsS52.set_1 | apply IsS52.set_2) | exact HI0.out)); (case side2 => repeat (first | (with_reducible first | exact HB.out | apply Z5 | apply Z3 | apply Z4 | refine Z6 ?_ (IsS52.ge HI0.out)) | exact HB.out)); rintro e w20 ⟨rfl, hi, hb, hk⟩; refine ⟨_, rfl, ?_⟩; replace HK := Ya (KeepBut.trans Q2 hk (.inl rfl)); replace HB := Ya hb; replace HI0 := Ya hi; (try clear hb hk hi)) | ((with_reducible refine gate_callee (f := 56) rfl ?_); refine Yz 24 Try.func56 #[.pointer (some ⟨g, 0, none⟩), .int .i64 60000] ?_; (with_reducible refine (spec_l1Cur_pick.calls g s0_0 t406 t407 60000 t414 t415 t416 w0 _ ?side1 ?side2 A17.out).mono ?_); (case side1 => repeat (first | (with_reducible first | exact HI0.out | apply IsS52.alloc | apply IsS52.drewN | apply IsS52.drew | apply IsS52.set_1 | apply IsS52.set_2) | exact HI0.out)); (case side2 => repeat (first | (with_reducible first | exact HB.out | apply Z5 | apply Z3 | apply Z4 | refine Z6 ?_ (IsS52.ge HI0.out)) | exact HB.out)); rintro e w21 ⟨rfl, hi, hb, hk⟩; refine ⟨_, rfl, ?_⟩; replace HK := Ya (KeepBut.trans Q2 hk (.inl rfl)); replace HB := Ya hb; replace HI0 := Ya hi; (try clear hb hk hi)) | ((with_reducible refine gate_callee (f := 56) rfl ?_); refine Yz 27 Try.func56 #[.pointer (some ⟨g, 0, none⟩), .int .i64 60000] ?_; (with_reducible refine (spec_l1Cur_pick.calls g s0_0 t415 t416 60000 t417 t418 t419 w0 _ ?side1 ?side2 A18.out).mono ?_); (case side1 => repeat (first | (with_reducible first | exact HI0.out | apply IsS52.alloc | apply IsS52.drewN | apply IsS52.drew | apply IsS52.set_1 | apply IsS52.set_2) | exact HI0.out)); (case side2 => repeat (first | (with_reducible first | exact HB.out | apply Z5 | apply Z3 | apply Z4 | refine Z6 ?_ (IsS52.ge HI0.out)) | exact HB.out)); rintro e w22 ⟨rfl, hi, hb, hk⟩; refine ⟨_, rfl, ?_⟩; replace HK := Ya (KeepBut.trans Q2 hk (.inl rfl)); replace HB := Ya hb; replace HI0 := Ya hi; (try clear hb hk hi)))
      go_ret
      exact ⟨Q1, Q5, Q7, Q13⟩
end Go.Proofs.Ytapbbmicfkbafaa.MFnFocusRuns
