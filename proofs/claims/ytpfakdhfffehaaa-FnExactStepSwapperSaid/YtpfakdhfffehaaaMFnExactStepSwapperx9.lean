import Derived.Test.YtpfakdhfffehaaaMFnExactStepSwapperx0
namespace Go.Proofs.Ytpfakdhfffehaaa.MFnExactStepSwapper
open Go.RowKit Go.Proofs.YtpfakdhfffehaaaW.PrintWords Go.Proofs.YtpfakdhfffehaaaW.PrintLast Go.Proofs.YtpfakdhfffehaaaW.PrintMore
attribute [local go_sem] max2_int min2_int max_two min_two max_three min_three max_four min_four   
set_option linter.unusedVariables false
set_option linter.unusedSimpArgs false
def slices_Equal_int_int.l0 : Nat → List Int → List Int → Int → Int → Option (Bool)
 | 0, _, _, _, _ => none
 | k + 1, x0, x1, x12, x13 => if x13 < x12 then (if 0 ≤ x13 then (if x13 < (x0.length : Int) then (if x13 < (x1.length : Int) then (if (rd x0 x13) = (rd x1 x13) then (slices_Equal_int_int.l0 k x0 x1 x12 (wrap64 (x13 + 1))) else (some false)) else (none)) else (none)) else (none)) else (some true)
def slices_Equal_int_int.f (k : Nat) (l0 : List Int) (l1 : List Int) : Option (Bool) := if (l0.length : Int) = (l1.length : Int) then (slices_Equal_int_int.l0 k l0 l1 (l0.length : Int) 0) else (some false)
theorem slices_Equal_int_int.mono_l : ∀ k, (∀ y0 y1 y2 y3, LeO (slices_Equal_int_int.l0 k y0 y1 y2 y3) (slices_Equal_int_int.l0 (k + 1) y0 y1 y2 y3))
 | 0 => fun _ _ _ _ r h => by simp [slices_Equal_int_int.l0] at h
 | k + 1 => by
  have ih0 := slices_Equal_int_int.mono_l k
  ·intro y0 y1 y2 y3
   unfold slices_Equal_int_int.l0
   repeat' first
   | (with_reducible exact ih0 _ _ _ _)
   | (with_reducible exact LeO.refl _)
   | (with_reducible exact LeO.none _)
   | (with_reducible refine LeO.ite ?_ ?_)
   | (with_reducible refine LeO.bind ?_ (fun _ => ?_))
   | exact ih0 _ _ _ _
   | exact LeO.none _
   | refine LeO.ite ?_ ?_
   | refine LeO.bind ?_ (fun _ => ?_)
theorem slices_Equal_int_int.mono : ∀ a0 a1 k, LeO (slices_Equal_int_int.f k a0 a1) (slices_Equal_int_int.f (k + 1) a0 a1) := by
 intro a0 a1 k
 have ih0 := slices_Equal_int_int.mono_l k
 unfold slices_Equal_int_int.f
 repeat' first
   | (with_reducible exact ih0 _ _ _ _)
   | (with_reducible exact LeO.refl _)
   | (with_reducible exact LeO.none _)
   | (with_reducible refine LeO.ite ?_ ?_)
   | (with_reducible refine LeO.bind ?_ (fun _ => ?_))
   | exact ih0 _ _ _ _
   | exact LeO.none _
   | refine LeO.ite ?_ ?_
   | refine LeO.bind ?_ (fun _ => ?_)
set_option maxHeartbeats 8000000 in
set_option maxRecDepth 100000 in
theorem slices_Equal_int_int.calls (k : Nat) (A0 : Option Addr) (c0 : Nat) (l0 : List Int) (A1 : Option Addr) (c1 : Nat) (l1 : List Int) (r : Bool) (w : World) (hr0 : Kd.C (Kd.int .i64) w A0 l0.length l0) (hc0 : l0.length ≤ c0) (hr1 : Kd.C (Kd.int .i64) w A1 l1.length l1) (hc1 : l1.length ≤ c1) (h : slices_Equal_int_int.f k l0 l1 = some r) :
  Calls Try.prog 53 #[.slice A0 l0.length c0, .slice A1 l1.length c1] w fun e w' => e = .returned (.bool r) ∧ Drawn0 w w' := by
 have HR0 := Ya hr0
 have HC0 := Ya hc0
 clear hr0 hc0
 have HR1 := Ya hr1
 have HC1 := Ya hc1
 clear hr1 hc1
 have H : (if (l0.length : Int) = (l1.length : Int) then (slices_Equal_int_int.l0 k l0 l1 (l0.length : Int) 0) else (some false)) = some r := h
 clear h
 by_cases c3 : (l0.length : Int) = (l1.length : Int)
 ·rw [if_pos c3] at H
  have c3b0 : ((l0.length : Int) == (l1.length : Int)) = true := beq_iff_eq.mpr c3
  have c3b1 : ((l0.length : Int) != (l1.length : Int)) = false := bne_eq_false_iff_eq.mpr c3
  have c3b2 : (l0.length == l1.length) = true := by first | simpa using c3 | (simp at c3 ⊢; omega)
  clear c3
  have H' := Ya H
  clear H
  go_enter Try.func53, Try.ntmps53
  go_wp2
  repeat (go_quiet (fail); try go_wp2)
  go_loopg [13] k (fun kq v13 w' => ∃ (x13_1 : Int), v13 = .int .i64 x13_1 ∧ Aside0 (slices_Equal_int_int.l0 kq l0 l1 (l0.length : Int) x13_1 = some r) ∧ Aside0 (kq ≤ k) ∧ Drawn0 w w')
  case atStart => exact ⟨(0), Q8, H', ⟨Nat.le_refl _⟩, Q5⟩
  case round =>
   clear H'
   try clear c1
   try clear p2
   try clear c3
   try clear c3b0
   try clear c3b1
   try clear c3b2
   obtain ⟨x13_1, rfl, HA, HK1, ⟨m1, rfl⟩⟩ := hrel
   cases gk with
   | zero => exact absurd HA.out (by simp [slices_Equal_int_int.l0])
   | succ k1 =>
    have H := HA.out
    clear HA
    simp only [slices_Equal_int_int.l0] at H
    by_cases c4 : x13_1 < (l0.length : Int)
    ·rw [if_pos c4] at H
     have c4b0 := Z38 c4
     clear c4
     by_cases c5 : 0 ≤ x13_1
     ·rw [if_pos c5] at H
      have c5b0 := Z38 c5
      clear c5
      by_cases c6 : x13_1 < (l0.length : Int)
      ·rw [if_pos c6] at H
       have c6b0 := Z38 c6
       clear c6
       by_cases c7 : x13_1 < (l1.length : Int)
       ·rw [if_pos c7] at H
        have c7b0 := Z38 c7
        clear c7
        by_cases c8 : (rd l0 x13_1) = (rd l1 x13_1)
        ·rw [if_pos c8] at H
         have c8b0 : ((rd l0 x13_1) == (rd l1 x13_1)) = true := beq_iff_eq.mpr c8
         have c8b1 : ((rd l0 x13_1) != (rd l1 x13_1)) = false := bne_eq_false_iff_eq.mpr c8
         clear c8
         have H' := Ya H
         clear H
         have p502 : 0 ≤ (x13_1 : Int) := Z30 Q1
         have q502 : x13_1 < (l0.length : Int) := Z30 Q1
         obtain ⟨ad502, e502, hx502_0⟩ := Kd.at_int HR0.out x13_1 p502 q502
         cases e502
         replace p502 := eq_true p502
         replace q502 := eq_true q502
         have p503 : 0 ≤ (x13_1 : Int) := Z30 Q1
         have q503 : x13_1 < (l1.length : Int) := Z30 Q1
         obtain ⟨ad503, e503, hx503_0⟩ := Kd.at_int HR1.out x13_1 p503 q503
         cases e503
         replace p503 := eq_true p503
         replace q503 := eq_true q503
         go_wp2
         repeat (go_quiet (fail); try go_wp2)
         go_roundg k1
         case measure => have := HK1.out; omega
         case rel => exact ⟨(wrap64 (x13_1 + 1)), Q8, H', ⟨Q20⟩, Q5⟩
        ·rw [if_neg c8] at H
         have c8b0 : ((rd l0 x13_1) == (rd l1 x13_1)) = false := beq_eq_false_iff_ne.mpr c8
         have c8b1 : ((rd l0 x13_1) != (rd l1 x13_1)) = true := bne_iff_ne.mpr c8
         obtain rfl := Option.some.inj H
         have p502 : 0 ≤ (x13_1 : Int) := Z30 Q1
         have q502 : x13_1 < (l0.length : Int) := Z30 Q1
         obtain ⟨ad502, e502, hx502_0⟩ := Kd.at_int HR0.out x13_1 p502 q502
         cases e502
         replace p502 := eq_true p502
         replace q502 := eq_true q502
         have p503 : 0 ≤ (x13_1 : Int) := Z30 Q1
         have q503 : x13_1 < (l1.length : Int) := Z30 Q1
         obtain ⟨ad503, e503, hx503_0⟩ := Kd.at_int HR1.out x13_1 p503 q503
         cases e503
         replace p503 := eq_true p503
         replace q503 := eq_true q503
         go_wp2
         repeat (go_quiet (fail); try go_wp2)
         go_ret
         exact ⟨Q13, Q5⟩
       ·rw [if_neg c7] at H
        exact absurd H (by simp)
      ·rw [if_neg c6] at H
       exact absurd H (by simp)
     ·rw [if_neg c5] at H
      exact absurd H (by simp)
    ·rw [if_neg c4] at H
     have c4b0 := Z37 c4
     clear c4
     obtain rfl := Option.some.inj H
     go_wp2
     repeat (go_quiet (fail); try go_wp2)
     go_ret
     exact ⟨Q13, Q5⟩
 ·rw [if_neg c3] at H
  have c3b0 : ((l0.length : Int) == (l1.length : Int)) = false := beq_eq_false_iff_ne.mpr c3
  have c3b1 : ((l0.length : Int) != (l1.length : Int)) = true := bne_iff_ne.mpr c3
  have c3b2 : (l0.length == l1.length) = false := by first | simpa using c3 | (simp at c3 ⊢; omega)
  obtain rfl := Option.some.inj H
  go_enter Try.func53, Try.ntmps53
  go_wp2
  repeat (go_quiet (fail); try go_wp2)
  go_ret
  exact ⟨Q13, Q5⟩
def slices_Equal_bool_bool.l0 : Nat → List Bool → List Bool → Int → Int → Option (Bool)
 | 0, _, _, _, _ => none
 | k + 1, x0, x1, x12, x13 => if x13 < x12 then (if 0 ≤ x13 then (if x13 < (x0.length : Int) then (if x13 < (x1.length : Int) then (if ((rdOf false x0 x13) != (rdOf false x1 x13)) = true then (some false) else (slices_Equal_bool_bool.l0 k x0 x1 x12 (wrap64 (x13 + 1)))) else (none)) else (none)) else (none)) else (some true)
def slices_Equal_bool_bool.f (k : Nat) (l0 : List Bool) (l1 : List Bool) : Option (Bool) := if (l0.length : Int) = (l1.length : Int) then (slices_Equal_bool_bool.l0 k l0 l1 (l0.length : Int) 0) else (some false)
theorem slices_Equal_bool_bool.mono_l : ∀ k, (∀ y0 y1 y2 y3, LeO (slices_Equal_bool_bool.l0 k y0 y1 y2 y3) (slices_Equal_bool_bool.l0 (k + 1) y0 y1 y2 y3))
 | 0 => fun _ _ _ _ r h => by simp [slices_Equal_bool_bool.l0] at h
 | k + 1 => by
  have ih0 := slices_Equal_bool_bool.mono_l k
  ·intro y0 y1 y2 y3
   unfold slices_Equal_bool_bool.l0
   repeat' first
   | (with_reducible exact ih0 _ _ _ _)
   | (with_reducible exact LeO.refl _)
   | (with_reducible exact LeO.none _)
   | (with_reducible refine LeO.ite ?_ ?_)
   | (with_reducible refine LeO.bind ?_ (fun _ => ?_))
   | exact ih0 _ _ _ _
   | exact LeO.none _
   | refine LeO.ite ?_ ?_
   | refine LeO.bind ?_ (fun _ => ?_)
theorem slices_Equal_bool_bool.mono : ∀ a0 a1 k, LeO (slices_Equal_bool_bool.f k a0 a1) (slices_Equal_bool_bool.f (k + 1) a0 a1) := by
 intro a0 a1 k
 have ih0 := slices_Equal_bool_bool.mono_l k
 unfold slices_Equal_bool_bool.f
 repeat' first
   | (with_reducible exact ih0 _ _ _ _)
   | (with_reducible exact LeO.refl _)
   | (with_reducible exact LeO.none _)
   | (with_reducible refine LeO.ite ?_ ?_)
   | (with_reducible refine LeO.bind ?_ (fun _ => ?_))
   | exact ih0 _ _ _ _
   | exact LeO.none _
   | refine LeO.ite ?_ ?_
   | refine LeO.bind ?_ (fun _ => ?_)
set_option maxHeartbeats 8000000 in
set_option maxRecDepth 100000 in
theorem slices_Equal_bool_bool.calls (k : Nat) (A0 : Option Addr) (c0 : Nat) (l0 : List Bool) (A1 : Option Addr) (c1 : Nat) (l1 : List Bool) (r : Bool) (w : World) (hr0 : Kd.C Kd.bool w A0 l0.length l0) (hc0 : l0.length ≤ c0) (hr1 : Kd.C Kd.bool w A1 l1.length l1) (hc1 : l1.length ≤ c1) (h : slices_Equal_bool_bool.f k l0 l1 = some r) :
  Calls Try.prog 81 #[.slice A0 l0.length c0, .slice A1 l1.length c1] w fun e w' => e = .returned (.bool r) ∧ Drawn0 w w' := by
 have HR0 := Ya hr0
 have HC0 := Ya hc0
 clear hr0 hc0
 have HR1 := Ya hr1
 have HC1 := Ya hc1
 clear hr1 hc1
 have H : (if (l0.length : Int) = (l1.length : Int) then (slices_Equal_bool_bool.l0 k l0 l1 (l0.length : Int) 0) else (some false)) = some r := h
 clear h
 by_cases c3 : (l0.length : Int) = (l1.length : Int)
 ·rw [if_pos c3] at H
  have c3b0 : ((l0.length : Int) == (l1.length : Int)) = true := beq_iff_eq.mpr c3
  have c3b1 : ((l0.length : Int) != (l1.length : Int)) = false := bne_eq_false_iff_eq.mpr c3
  have c3b2 : (l0.length == l1.length) = true := by first | simpa using c3 | (simp at c3 ⊢; omega)
  clear c3
  have H' := Ya H
  clear H
  go_enter Try.func81, Try.ntmps81
  go_wp2
  repeat (go_quiet (fail); try go_wp2)
  go_loopg [13] k (fun kq v13 w' => ∃ (x13_1 : Int), v13 = .int .i64 x13_1 ∧ Aside0 (slices_Equal_bool_bool.l0 kq l0 l1 (l0.length : Int) x13_1 = some r) ∧ Aside0 (kq ≤ k) ∧ Drawn0 w w')
  case atStart => exact ⟨(0), Q8, H', ⟨Nat.le_refl _⟩, Q5⟩
  case round =>
   clear H'
   try clear c1
   try clear p2
   try clear c3
   try clear c3b0
   try clear c3b1
   try clear c3b2
   obtain ⟨x13_1, rfl, HA, HK1, ⟨m1, rfl⟩⟩ := hrel
   cases gk with
   | zero => exact absurd HA.out (by simp [slices_Equal_bool_bool.l0])
   | succ k1 =>
    have H := HA.out
    clear HA
    simp only [slices_Equal_bool_bool.l0] at H
    by_cases c4 : x13_1 < (l0.length : Int)
    ·rw [if_pos c4] at H
     have c4b0 := Z38 c4
     clear c4
     by_cases c5 : 0 ≤ x13_1
     ·rw [if_pos c5] at H
      have c5b0 := Z38 c5
      clear c5
      by_cases c6 : x13_1 < (l0.length : Int)
      ·rw [if_pos c6] at H
       have c6b0 := Z38 c6
       clear c6
       by_cases c7 : x13_1 < (l1.length : Int)
       ·rw [if_pos c7] at H
        have c7b0 := Z38 c7
        clear c7
        by_cases c8 : ((rdOf false l0 x13_1) != (rdOf false l1 x13_1)) = true
        ·rw [if_pos c8] at H
         have c8b0 : ((rdOf false l0 x13_1) != (rdOf false l1 x13_1)) = true := c8
         (try (have c8b1 : decide ((rdOf false l0 x13_1) = (rdOf false l1 x13_1)) = false := by simpa using c8))
         (try (have c8b2 : ((rdOf false l0 x13_1) == (rdOf false l1 x13_1)) = false := by simpa using c8))
         (try (have c8b3 : ¬ ((rdOf false l0 x13_1) = (rdOf false l1 x13_1)) := by simpa using c8))
         clear c8
         obtain rfl := Option.some.inj H
         have p504 : 0 ≤ (x13_1 : Int) := Z30 Q1
         have q504 : x13_1 < (l0.length : Int) := Z30 Q1
         obtain ⟨ad504, e504, hx504_0⟩ := Kd.at_bool HR0.out x13_1 p504 q504
         cases e504
         replace p504 := eq_true p504
         replace q504 := eq_true q504
         have p505 : 0 ≤ (x13_1 : Int) := Z30 Q1
         have q505 : x13_1 < (l1.length : Int) := Z30 Q1
         obtain ⟨ad505, e505, hx505_0⟩ := Kd.at_bool HR1.out x13_1 p505 q505
         cases e505
         replace p505 := eq_true p505
         replace q505 := eq_true q505
         go_wp2
         repeat (go_quiet (fail); try go_wp2)
         go_ret
         exact ⟨Q13, Q5⟩
        ·rw [if_neg c8] at H
         have c8b0 : ((rdOf false l0 x13_1) != (rdOf false l1 x13_1)) = false := by simpa using c8
         (try (have c8b1 : decide ((rdOf false l0 x13_1) = (rdOf false l1 x13_1)) = true := by simpa using c8))
         (try (have c8b2 : ((rdOf false l0 x13_1) == (rdOf false l1 x13_1)) = true := by simpa using c8))
         clear c8
         have H' := Ya H
         clear H
         have p504 : 0 ≤ (x13_1 : Int) := Z30 Q1
         have q504 : x13_1 < (l0.length : Int) := Z30 Q1
         obtain ⟨ad504, e504, hx504_0⟩ := Kd.at_bool HR0.out x13_1 p504 q504
         cases e504
         replace p504 := eq_true p504
         replace q504 := eq_true q504
         have p505 : 0 ≤ (x13_1 : Int) := Z30 Q1
         have q505 : x13_1 < (l1.length : Int) := Z30 Q1
         obtain ⟨ad505, e505, hx505_0⟩ := Kd.at_bool HR1.out x13_1 p505 q505
         cases e505
         replace p505 := eq_true p505
         replace q505 := eq_true q505
         go_wp2
         repeat (go_quiet (fail); try go_wp2)
         go_roundg k1
         case measure => have := HK1.out; omega
         case rel => exact ⟨(wrap64 (x13_1 + 1)), Q8, H', ⟨Q20⟩, Q5⟩
       ·rw [if_neg c7] at H
        exact absurd H (by simp)
      ·rw [if_neg c6] at H
       exact absurd H (by simp)
     ·rw [if_neg c5] at H
      exact absurd H (by simp)
    ·rw [if_neg c4] at H
     have c4b0 := Z37 c4
     clear c4
     obtain rfl := Option.some.inj H
     go_wp2
     repeat (go_quiet (fail); try go_wp2)
     go_ret
     exact ⟨Q13, Q5⟩
 ·rw [if_neg c3] at H
  have c3b0 : ((l0.length : Int) == (l1.length : Int)) = false := beq_eq_false_iff_ne.mpr c3
  have c3b1 : ((l0.length : Int) != (l1.length : Int)) = true := bne_iff_ne.mpr c3
  have c3b2 : (l0.length == l1.length) = false := by first | simpa using c3 | (simp at c3 ⊢; omega)
  obtain rfl := Option.some.inj H
  go_enter Try.func81, Try.ntmps81
  go_wp2
  repeat (go_quiet (fail); try go_wp2)
  go_ret
  exact ⟨Q13, Q5⟩
def impl_Focus_same.f (k : Nat) (l0_0 : List Int) (l0_1 : List Int) (l0_2 : List Bool) (l0_3 : List Int) (l1_0 : List Int) (l1_1 : List Int) (l1_2 : List Bool) (l1_3 : List Int) : Option (Bool) := (slices_Equal_int_int.f k l0_0 l1_0).bind fun t508 => (if t508 = true then ((slices_Equal_int_int.f k l0_1 l1_1).bind fun t509 => (if t509 = true then ((slices_Equal_bool_bool.f k l0_2 l1_2).bind fun t510 => (if t510 = true then ((slices_Equal_int_int.f k l0_3 l1_3).bind fun t511 => (some t511)) else (some false))) else (some false))) else (some false))
theorem impl_Focus_same.mono : ∀ a0 a1 a2 a3 a4 a5 a6 a7 k, LeO (impl_Focus_same.f k a0 a1 a2 a3 a4 a5 a6 a7) (impl_Focus_same.f (k + 1) a0 a1 a2 a3 a4 a5 a6 a7) := by
 intro a0 a1 a2 a3 a4 a5 a6 a7 k
 unfold impl_Focus_same.f
 repeat' first
   | (with_reducible exact slices_Equal_bool_bool.mono _ _ _)
   | (with_reducible exact slices_Equal_int_int.mono _ _ _)
   | (with_reducible exact LeO.refl _)
   | (with_reducible exact LeO.none _)
   | (with_reducible refine LeO.ite ?_ ?_)
   | (with_reducible refine LeO.bind ?_ (fun _ => ?_))
   | exact slices_Equal_bool_bool.mono _ _ _
   | exact slices_Equal_int_int.mono _ _ _
   | exact LeO.none _
   | refine LeO.ite ?_ ?_
   | refine LeO.bind ?_ (fun _ => ?_)
set_option maxHeartbeats 8000000 in
set_option maxRecDepth 100000 in
theorem impl_Focus_same.calls (k : Nat) (A0_0 : Option Addr) (c0_0 : Nat) (l0_0 : List Int) (A0_1 : Option Addr) (c0_1 : Nat) (l0_1 : List Int) (A0_2 : Option Addr) (c0_2 : Nat) (l0_2 : List Bool) (A0_3 : Option Addr) (c0_3 : Nat) (l0_3 : List Int) (A1_0 : Option Addr) (c1_0 : Nat) (l1_0 : List Int) (A1_1 : Option Addr) (c1_1 : Nat) (l1_1 : List Int) (A1_2 : Option Addr) (c1_2 : Nat) (l1_2 : List Bool) (A1_3 : Option Addr) (c1_3 : Nat) (l1_3 : List Int) (r : Bool) (w : World) (hr0_0 : Kd.C (Kd.int .i64) w A0_0 l0_0.length l0_0) (hc0_0 : l0_0.length ≤ c0_0) (hr0_1 : Kd.C (Kd.int .i64) w A0_1 l0_1.length l0_1) (hc0_1 : l0_1.length ≤ c0_1) (hr0_2 : Kd.C Kd.bool w A0_2 l0_2.length l0_2) (hc0_2 : l0_2.length ≤ c0_2) (hr0_3 : Kd.C (Kd.int .i64) w A0_3 l0_3.length l0_3) (hc0_3 : l0_3.length ≤ c0_3) (hr1_0 : Kd.C (Kd.int .i64) w A1_0 l1_0.length l1_0) (hc1_0 : l1_0.length ≤ c1_0) (hr1_1 : Kd.C (Kd.int .i64) w A1_1 l1_1.length l1_1) (hc1_1 : l1_1.length ≤ c1_1) (hr1_2 : Kd.C Kd.bool w A1_2 l1_2.length l1_2) (hc1_2 : l1_2.length ≤ c1_2) (hr1_3 : Kd.C (Kd.int .i64) w A1_3 l1_3.length l1_3) (hc1_3 : l1_3.length ≤ c1_3) (h : impl_Focus_same.f k l0_0 l0_1 l0_2 l0_3 l1_0 l1_1 l1_2 l1_3 = some r) :
  Calls Try.prog 66 #[.agg #[.slice A0_0 l0_0.length c0_0, .slice A0_1 l0_1.length c0_1, .slice A0_2 l0_2.length c0_2, .slice A0_3 l0_3.length c0_3], .agg #[.slice A1_0 l1_0.length c1_0, .slice A1_1 l1_1.length c1_1, .slice A1_2 l1_2.length c1_2, .slice A1_3 l1_3.length c1_3]] w fun e w' => e = .returned (.bool r) ∧ Below w.heap.size w w' := by
 have hu27 := Try.underlying27
 have HR0_0 := Ya hr0_0
 have HC0_0 := Ya hc0_0
 clear hr0_0 hc0_0
 have HR0_1 := Ya hr0_1
 have HC0_1 := Ya hc0_1
 clear hr0_1 hc0_1
 have HR0_2 := Ya hr0_2
 have HC0_2 := Ya hc0_2
 clear hr0_2 hc0_2
 have HR0_3 := Ya hr0_3
 have HC0_3 := Ya hc0_3
 clear hr0_3 hc0_3
 have HR1_0 := Ya hr1_0
 have HC1_0 := Ya hc1_0
 clear hr1_0 hc1_0
 have HR1_1 := Ya hr1_1
 have HC1_1 := Ya hc1_1
 clear hr1_1 hc1_1
 have HR1_2 := Ya hr1_2
 have HC1_2 := Ya hc1_2
 clear hr1_2 hc1_2
 have HR1_3 := Ya hr1_3
 have HC1_3 := Ya hc1_3
 clear hr1_3 hc1_3
 have HB := Ya (Below.refl w.heap.size w)
 have H : ((slices_Equal_int_int.f k l0_0 l1_0).bind fun t508 => (if t508 = true then ((slices_Equal_int_int.f k l0_1 l1_1).bind fun t509 => (if t509 = true then ((slices_Equal_bool_bool.f k l0_2 l1_2).bind fun t510 => (if t510 = true then ((slices_Equal_int_int.f k l0_3 l1_3).bind fun t511 => (some t511)) else (some false))) else (some false))) else (some false))) = some r := h
 clear h
 replace H := Z36.mp H
 obtain ⟨t508, A30, H⟩ := H
 replace H : (if t508 = true then ((slices_Equal_int_int.f k l0_1 l1_1).bind fun t509 => (if t509 = true then ((slices_Equal_bool_bool.f k l0_2 l1_2).bind fun t510 => (if t510 = true then ((slices_Equal_int_int.f k l0_3 l1_3).bind fun t511 => (some t511)) else (some false))) else (some false))) else (some false)) = some r := H
 have A3 := Ya A30
 clear A30
 by_cases c4 : t508 = true
 ·subst c4
  have H1 : ((slices_Equal_int_int.f k l0_1 l1_1).bind fun t509 => (if t509 = true then ((slices_Equal_bool_bool.f k l0_2 l1_2).bind fun t510 => (if t510 = true then ((slices_Equal_int_int.f k l0_3 l1_3).bind fun t511 => (some t511)) else (some false))) else (some false))) = some r := by rw [if_pos rfl] at H; exact H
  clear H
  have H := H1
  clear H1
  replace H := Z36.mp H
  obtain ⟨t509, A50, H⟩ := H
  replace H : (if t509 = true then ((slices_Equal_bool_bool.f k l0_2 l1_2).bind fun t510 => (if t510 = true then ((slices_Equal_int_int.f k l0_3 l1_3).bind fun t511 => (some t511)) else (some false))) else (some false)) = some r := H
  have A5 := Ya A50
  clear A50
  by_cases c6 : t509 = true
  ·subst c6
   have H1 : ((slices_Equal_bool_bool.f k l0_2 l1_2).bind fun t510 => (if t510 = true then ((slices_Equal_int_int.f k l0_3 l1_3).bind fun t511 => (some t511)) else (some false))) = some r := by rw [if_pos rfl] at H; exact H
   clear H
   have H := H1
   clear H1
   replace H := Z36.mp H
   obtain ⟨t510, A70, H⟩ := H
   replace H : (if t510 = true then ((slices_Equal_int_int.f k l0_3 l1_3).bind fun t511 => (some t511)) else (some false)) = some r := H
   have A7 := Ya A70
   clear A70
   by_cases c8 : t510 = true
   ·subst c8
    have H1 : ((slices_Equal_int_int.f k l0_3 l1_3).bind fun t511 => (some t511)) = some r := by rw [if_pos rfl] at H; exact H
    clear H
    have H := H1
    clear H1
    replace H := Z36.mp H
    obtain ⟨t511, A90, H⟩ := H
    replace H : (some t511) = some r := H
    have A9 := Ya A90
    clear A90
    obtain rfl := Option.some.inj H
    go_enter Try.func66, Try.ntmps66
    go_wp2_with (first | ((with_reducible refine gate_dst (N := 2) rfl ?_); refine Yx 2 #[.slice A0_0 l0_0.length c0_0, .slice A0_1 l0_1.length c0_1, .slice A0_2 l0_2.length c0_2, .slice A0_3 l0_3.length c0_3] 27 ?_; intro gb506 hg w10 hbox hb; have BK506 := Ya hbox; have GE506 := Yg hg; replace HB := Yh hb; clear hb hbox hg) | ((with_reducible refine gate_dst (N := 3) rfl ?_); refine Yx 3 #[.slice A1_0 l1_0.length c1_0, .slice A1_1 l1_1.length c1_1, .slice A1_2 l1_2.length c1_2, .slice A1_3 l1_3.length c1_3] 27 ?_; intro gb507 hg w11 hbox hb; have BK507 := Ya hbox; have GE507 := Yg hg; replace HB := Yh hb; have NB506_507 := Yn BK506 hg; have NB507_506 := Ym BK506 hg; replace BK506 := Yb BK506 hb; clear hb hbox hg; have hnb12 := NB506_507.out; have hnc12 := NB507_506.out; have hz13 := Y4 BK506.out; have hz14 := Y4 BK507.out) | ((with_reducible refine gate_callee (f := 53) rfl ?_); refine Yz 9 Try.func53 #[.slice A0_0 l0_0.length c0_0, .slice A1_0 l1_0.length c1_0] ?_; (with_reducible refine (slices_Equal_int_int.calls k _ _ l0_0 _ _ l1_0 true _ (Yc (Z22 HR0_0.out HB.out)) HC0_0.out (Yc (Z22 HR1_0.out HB.out)) HC1_0.out A3.out).mono ?_); rintro e w' ⟨rfl, ⟨nd, rfl⟩⟩; refine ⟨_, rfl, ?_⟩) | (go_at_call 53; (with_reducible refine (slices_Equal_int_int.calls k _ _ l0_1 _ _ l1_1 true _ ?side1 HC0_1.out ?side3 HC1_1.out A5.out).mono ?_); (case side1 => exact Yc (Z22 HR0_1.out Q0)); (case side3 => exact Yc (Z22 HR1_1.out Q0)); rintro e w' ⟨rfl, ⟨nd, rfl⟩⟩) | (go_at_call 81; (with_reducible refine (slices_Equal_bool_bool.calls k _ _ l0_2 _ _ l1_2 true _ ?side1 HC0_2.out ?side3 HC1_2.out A7.out).mono ?_); (case side1 => exact Yc (Z22 HR0_2.out Q0)); (case side3 => exact Yc (Z22 HR1_2.out Q0)); rintro e w' ⟨rfl, ⟨nd, rfl⟩⟩) | (go_at_call 53; (with_reducible refine (slices_Equal_int_int.calls k _ _ l0_3 _ _ l1_3 t511 _ ?side1 HC0_3.out ?side3 HC1_3.out A9.out).mono ?_); (case side1 => exact Yc (Z22 HR0_3.out Q0)); (case side3 => exact Yc (Z22 HR1_3.out Q0)); rintro e w' ⟨rfl, ⟨nd, rfl⟩⟩))
    go_ret
    exact ⟨Q2, Q12⟩
   ·replace c8 := Bool.eq_false_iff.mpr c8
    subst c8
    have H1 : (some false) = some r := by rw [if_neg (show ¬ (false = true) by decide)] at H; exact H
    clear H
    have H := H1
    clear H1
    obtain rfl := Option.some.inj H
    go_enter Try.func66, Try.ntmps66
    go_wp2_with (first | ((with_reducible refine gate_dst (N := 2) rfl ?_); refine Yx 2 #[.slice A0_0 l0_0.length c0_0, .slice A0_1 l0_1.length c0_1, .slice A0_2 l0_2.length c0_2, .slice A0_3 l0_3.length c0_3] 27 ?_; intro gb506 hg w15 hbox hb; have BK506 := Ya hbox; have GE506 := Yg hg; replace HB := Yh hb; clear hb hbox hg) | ((with_reducible refine gate_dst (N := 3) rfl ?_); refine Yx 3 #[.slice A1_0 l1_0.length c1_0, .slice A1_1 l1_1.length c1_1, .slice A1_2 l1_2.length c1_2, .slice A1_3 l1_3.length c1_3] 27 ?_; intro gb507 hg w16 hbox hb; have BK507 := Ya hbox; have GE507 := Yg hg; replace HB := Yh hb; have NB506_507 := Yn BK506 hg; have NB507_506 := Ym BK506 hg; replace BK506 := Yb BK506 hb; clear hb hbox hg; have hnb17 := NB506_507.out; have hnc17 := NB507_506.out; have hz18 := Y4 BK506.out; have hz19 := Y4 BK507.out) | ((with_reducible refine gate_callee (f := 53) rfl ?_); refine Yz 9 Try.func53 #[.slice A0_0 l0_0.length c0_0, .slice A1_0 l1_0.length c1_0] ?_; (with_reducible refine (slices_Equal_int_int.calls k _ _ l0_0 _ _ l1_0 true _ (Yc (Z22 HR0_0.out HB.out)) HC0_0.out (Yc (Z22 HR1_0.out HB.out)) HC1_0.out A3.out).mono ?_); rintro e w' ⟨rfl, ⟨nd, rfl⟩⟩; refine ⟨_, rfl, ?_⟩) | (go_at_call 53; (with_reducible refine (slices_Equal_int_int.calls k _ _ l0_1 _ _ l1_1 true _ ?side1 HC0_1.out ?side3 HC1_1.out A5.out).mono ?_); (case side1 => exact Yc (Z22 HR0_1.out Q0)); (case side3 => exact Yc (Z22 HR1_1.out Q0)); rintro e w' ⟨rfl, ⟨nd, rfl⟩⟩) | (go_at_call 81; (with_reducible refine (slices_Equal_bool_bool.calls k _ _ l0_2 _ _ l1_2 false _ ?side1 HC0_2.out ?side3 HC1_2.out A7.out).mono ?_); (case side1 => exact Yc (Z22 HR0_2.out Q0)); (case side3 => exact Yc (Z22 HR1_2.out Q0)); rintro e w' ⟨rfl, ⟨nd, rfl⟩⟩))
    go_ret
    exact ⟨Q2, Q12⟩
  ·replace c6 := Bool.eq_false_iff.mpr c6
   subst c6
   have H1 : (some false) = some r := by rw [if_neg (show ¬ (false = true) by decide)] at H; exact H
   clear H
   have H := H1
   clear H1
   obtain rfl := Option.some.inj H
   go_enter Try.func66, Try.ntmps66
   go_wp2_with (first | ((with_reducible refine gate_dst (N := 2) rfl ?_); refine Yx 2 #[.slice A0_0 l0_0.length c0_0, .slice A0_1 l0_1.length c0_1, .slice A0_2 l0_2.length c0_2, .slice A0_3 l0_3.length c0_3] 27 ?_; intro gb506 hg w20 hbox hb; have BK506 := Ya hbox; have GE506 := Yg hg; replace HB := Yh hb; clear hb hbox hg) | ((with_reducible refine gate_dst (N := 3) rfl ?_); refine Yx 3 #[.slice A1_0 l1_0.length c1_0, .slice A1_1 l1_1.length c1_1, .slice A1_2 l1_2.length c1_2, .slice A1_3 l1_3.length c1_3] 27 ?_; intro gb507 hg w21 hbox hb; have BK507 := Ya hbox; have GE507 := Yg hg; replace HB := Yh hb; have NB506_507 := Yn BK506 hg; have NB507_506 := Ym BK506 hg; replace BK506 := Yb BK506 hb; clear hb hbox hg; have hnb22 := NB506_507.out; have hnc22 := NB507_506.out; have hz23 := Y4 BK506.out; have hz24 := Y4 BK507.out) | ((with_reducible refine gate_callee (f := 53) rfl ?_); refine Yz 9 Try.func53 #[.slice A0_0 l0_0.length c0_0, .slice A1_0 l1_0.length c1_0] ?_; (with_reducible refine (slices_Equal_int_int.calls k _ _ l0_0 _ _ l1_0 true _ (Yc (Z22 HR0_0.out HB.out)) HC0_0.out (Yc (Z22 HR1_0.out HB.out)) HC1_0.out A3.out).mono ?_); rintro e w' ⟨rfl, ⟨nd, rfl⟩⟩; refine ⟨_, rfl, ?_⟩) | (go_at_call 53; (with_reducible refine (slices_Equal_int_int.calls k _ _ l0_1 _ _ l1_1 false _ ?side1 HC0_1.out ?side3 HC1_1.out A5.out).mono ?_); (case side1 => exact Yc (Z22 HR0_1.out Q0)); (case side3 => exact Yc (Z22 HR1_1.out Q0)); rintro e w' ⟨rfl, ⟨nd, rfl⟩⟩))
   go_ret
   exact ⟨Q2, Q12⟩
 ·replace c4 := Bool.eq_false_iff.mpr c4
  subst c4
  have H1 : (some false) = some r := by rw [if_neg (show ¬ (false = true) by decide)] at H; exact H
  clear H
  have H := H1
  clear H1
  obtain rfl := Option.some.inj H
  go_enter Try.func66, Try.ntmps66
  go_wp2_with (first | ((with_reducible refine gate_dst (N := 2) rfl ?_); refine Yx 2 #[.slice A0_0 l0_0.length c0_0, .slice A0_1 l0_1.length c0_1, .slice A0_2 l0_2.length c0_2, .slice A0_3 l0_3.length c0_3] 27 ?_; intro gb506 hg w25 hbox hb; have BK506 := Ya hbox; have GE506 := Yg hg; replace HB := Yh hb; clear hb hbox hg) | ((with_reducible refine gate_dst (N := 3) rfl ?_); refine Yx 3 #[.slice A1_0 l1_0.length c1_0, .slice A1_1 l1_1.length c1_1, .slice A1_2 l1_2.length c1_2, .slice A1_3 l1_3.length c1_3] 27 ?_; intro gb507 hg w26 hbox hb; have BK507 := Ya hbox; have GE507 := Yg hg; replace HB := Yh hb; have NB506_507 := Yn BK506 hg; have NB507_506 := Ym BK506 hg; replace BK506 := Yb BK506 hb; clear hb hbox hg; have hnb27 := NB506_507.out; have hnc27 := NB507_506.out; have hz28 := Y4 BK506.out; have hz29 := Y4 BK507.out) | ((with_reducible refine gate_callee (f := 53) rfl ?_); refine Yz 9 Try.func53 #[.slice A0_0 l0_0.length c0_0, .slice A1_0 l1_0.length c1_0] ?_; (with_reducible refine (slices_Equal_int_int.calls k _ _ l0_0 _ _ l1_0 false _ (Yc (Z22 HR0_0.out HB.out)) HC0_0.out (Yc (Z22 HR1_0.out HB.out)) HC1_0.out A3.out).mono ?_); rintro e w' ⟨rfl, ⟨nd, rfl⟩⟩; refine ⟨_, rfl, ?_⟩))
  go_ret
  exact ⟨Q2, Q12⟩
open Go.Proofs.Ytpfakdhfffehaaa.FoW in
set_option maxHeartbeats 8000000 in
set_option maxRecDepth 100000 in
theorem impl_Focus_step.callsG (CS : Array Value) (T : TypeId) (hT : T ≠ 3 ∧ T ≠ 4) (w0 : World) (g g0 c0 g1 c1 g2 c2 g3 c3 : Nat) (b d : List Int) (u : List Bool) (p d' : List Int) (u' : List Bool) (p' : List Int) (r : Int) (w : World)
  (hs0 : CS[0]? = some (.slice (some ⟨g0, 0, none⟩) b.length c0)) (hs1 : CS[1]? = some (.slice (some ⟨g1, 0, none⟩) d.length c1)) (hs2 : CS[2]? = some (.slice (some ⟨g2, 0, none⟩) u.length c2)) (hs3 : CS[3]? = some (.slice (some ⟨g3, 0, none⟩) p.length c3))
  (hb : w.heap[g]? = some (.cells CS T (0, 0))) (hF : FoR w w0.heap.size g0 c0 g1 c1 g2 c2 g3 c3 b d u p) (hW : Below w0.heap.size w0 w) (h : stepF b d u p = some (d', u', p', r)) :
  Calls Try.prog 36 #[.pointer (some ⟨g, 0, none⟩)] w fun e w' => e = .returned (.int .i64 r) ∧ w'.heap[g]? = w.heap[g]? ∧ FoR w' w0.heap.size g0 c0 g1 c1 g2 c2 g3 c3 b d' u' p' ∧ Kept w w' (Wr g1 g2 g3) ∧ Below w0.heap.size w0 w' := by
 have hne := FoR.apart hF hb hT.1 hT.2
 have BK := Ya hb
 have HS0 := Ya hs0
 have HS1 := Ya hs1
 have HS2 := Ya hs2
 have HS3 := Ya hs3
 clear hs0 hs1 hs2 hs3
 have HB0 := Ya hb
 have HF := Ya hF
 have HK := Ya (Kept.refl w (Wr g1 g2 g3))
 have HW := Ya hW
 unfold stepF at h
 simp only at h
 by_cases hc : 0 ≤ rd p 0 ∧ rd p 0 < b.length ∧ b.length ≤ 1000 ∧ d.length = b.length ∧ u.length = b.length ∧ p.length = b.length + 1 ∧ -1000 ≤ rd d ((b.length : Int) - 1 - rd p 0) ∧ rd d ((b.length : Int) - 1 - rd p 0) ≤ 1000 ∧ -1000 ≤ rd b ((b.length : Int) - 1 - rd p 0) ∧ rd b ((b.length : Int) - 1 - rd p 0) ≤ 1000
 rotate_left
 ·rw [if_neg hc] at h; cases h
 rw [if_pos hc] at h
 obtain ⟨J, hJ⟩ : ∃ J, rd p 0 = J := ⟨_, rfl⟩
 rw [hJ] at h hc
 obtain ⟨I, hI⟩ : ∃ I, (b.length : Int) - 1 - J = I := ⟨_, rfl⟩
 rw [hI] at h hc
 obtain ⟨j0, j1, m0, l1, l2, l3, x0, x1, y0, y1⟩ := hc
 have HL := Ya (show (0 ≤ I ∧ I < b.length) ∧ I < d.length ∧ I < u.length ∧ J + 1 < p.length ∧ J < p.length ∧ 0 < p.length ∧ 0 ≤ J from ⟨⟨by omega, by omega⟩, by omega, by omega, by omega, by omega, by omega, by omega⟩)
 have HX := Ya (show (-1000 ≤ rd d I ∧ rd d I ≤ 1000) ∧ -1000 ≤ rd b I ∧ rd b I ≤ 1000 from ⟨⟨x0, x1⟩, y0, y1⟩)
 have k1 : wrap64 ((b.length : Int) - 1) = (b.length : Int) - 1 := by unfold wrap64; omega
 have k2 : wrap64 (J + 1) = J + 1 := by unfold wrap64; omega
 have k1' : IntKind.i64.wrap ((b.length : Int) - 1) = (b.length : Int) - 1 := (i64_w _).trans k1
 have k2' : IntKind.i64.wrap (J + 1) = J + 1 := (i64_w _).trans k2
 have k3 : wrap64 ((b.length : Int) - 1 - J) = I := by rw [← hI]; unfold wrap64; omega
 have k3' : IntKind.i64.wrap ((b.length : Int) - 1 - J) = I := (i64_w _).trans k3
 have b1 : (J == (b.length : Int)) = false := beq_eq_false_iff_ne.mpr (by omega)
 have b2 : (0 ≤ I) = True := eq_true (by omega)
 have b3 : (I < (u.length : Int)) = True := eq_true (by omega)
 have b4 : (I < (d.length : Int)) = True := eq_true (by omega)
 have b5 : (I < (b.length : Int)) = True := eq_true (by omega)
 have b6 : (0 ≤ J) = True := eq_true (by omega)
 have b7 : (J < (p.length : Int)) = True := eq_true (by omega)
 have b8 : (J + 1 < (p.length : Int)) = True := eq_true (by omega)
 have b9 : (0 ≤ J + 1) = True := eq_true (by omega)
 have b10 : (0 < p.length) = True := eq_true (by omega)
 have b11 : ((0 : Int) < (p.length : Int)) = True := eq_true (by omega)
 have HJ := Ya hJ
 obtain ⟨X, hX⟩ : ∃ X, (if rdOf false u I = true then rd d I + 1 else rd d I - 1) = X := ⟨_, rfl⟩
 rw [hX] at h
 have HH := Ya h
 have HXX := Ya hX
 clear hF hb hW h hJ hI hX j0 j1 m0 l1 l2 l3 x0 x1 y0 y1
 go_enter Try.func36, Try.ntmps36
 go_wp2_with fail
 replace BK := Ya (Z26 BK.out)
 replace HF := Ya (FoR.drew HF.out)
 replace HK := Ya (Kept.drew HK.out)
 replace HW := Ya (Z4 HW.out)
 refine start_ (n := 13) (S := fun w' => w'.cell? ⟨g, 0, none⟩ = some (.slice (some ⟨g0, 0, none⟩) b.length c0) ∧ w'.cell? ⟨g, 3, none⟩ = some (.slice (some ⟨g3, 0, none⟩) p.length c3) ∧ w'.cell? ⟨g3, 0, none⟩ = some (.int .i64 J)) (ds := []) (YA 13 0) (by kernel_rfl) rfl rfl ⟨(Z23 BK.out 0).trans HS0.out, (Z23 BK.out 3).trans HS3.out, (by rw [← HJ.out]; exact (FoR.at3 HF.out 0 (by decide) Q10).1)⟩ (fun hHeld => ?_)
 generalize World.drew _ = w1 at BK HF HK HW hHeld ⊢
 refine Yq 0 (some 6) (YA 13 1) rfl ?_
 refine Yq 1 (some 7) (YA 13 3) rfl ?_
 refine Yq 2 (some 8) (YA 13 7) rfl ?_
 refine Yq 5 (some 11) (YA 13 39) rfl ?_
 refine Yq 6 (some 12) (YA 13 103) rfl ?_
 refine Yq 7 (some 13) (YA 13 231) rfl ?_
 refine Ys 3 (some 9) (YA 13 239) rfl hHeld Q9 ?_
 refine Yq 4 (some 10) (YA 13 255) rfl ?_
 refine Yq 11 (some 3) (YA 13 2303) rfl ?_
 refine Ys 8 (some 14) (YA 13 2559) rfl hHeld Q9 ?_
 refine Yq 9 (some 15) (YA 13 3071) rfl ?_
 refine Ys 10 (some 16) (YA 13 4095) rfl hHeld Q9 ?_
 refine Yq 12 (some 4) (YA 13 8191) rfl ?_
 refine done_ (by kernel_rfl) ?_
 have hc0 := (Z23 BK.out 0).trans HS0.out
 have hc1 := (Z23 BK.out 1).trans HS1.out
 have hc2 := (Z23 BK.out 2).trans HS2.out
 have hc3 := (Z23 BK.out 3).trans HS3.out
 have hx := (FoR.at3 HF.out 0 (by decide) Q10).1
 have hz : World.frozen? _ ⟨g3, 0, none⟩ = false := (FoR.at3 HF.out 0 (by decide) Q10).2
 rw [show (0 : Int).toNat = 0 from rfl] at hx
 go_upto_region 6 with fail
 clear hx hz hc0 hc1 hc2 hc3
 replace BK := Ya (show (World.setCell w1 ⟨g3, 0, none⟩ (.int .i64 0)).heap[g]? = _ from blk_far (p := ⟨g3, 0, none⟩) BK.out hne.2.2.2 (.int .i64 0))
 replace HK := Ya (Kept.setCell HK.out (p := ⟨g3, 0, none⟩) (.inl (.inr (.inr rfl))) (.int .i64 0))
 replace HW := Ya (show Below w0.heap.size w0 (World.setCell w1 ⟨g3, 0, none⟩ (.int .i64 0)) from Z6 HW.out (FoR.ge HF.out).2.2.2)
 replace HF := Ya (show FoR (World.setCell w1 ⟨g3, 0, none⟩ (.int .i64 0)) w0.heap.size g0 c0 g1 c1 g2 c2 g3 c3 b d u (p.set 0 0) from FoR.put3 HF.out 0 0)
 generalize World.setCell w1 ⟨g3, 0, none⟩ (.int .i64 0) = w2 at BK HF HK HW ⊢
 have hc0 := (Z23 BK.out 0).trans HS0.out
 have hc1 := (Z23 BK.out 1).trans HS1.out
 have hc2 := (Z23 BK.out 2).trans HS2.out
 have hc3 := (Z23 BK.out 3).trans HS3.out
 have hx2 := (FoR.at2 HF.out I Q10 Q10).1
 go_upto_if 35 with fail
 go_cut [] (fun wc => Aside0 (wc.heap[g]? = some (.cells CS T (0, 0))) ∧ Aside0 (FoR wc w0.heap.size g0 c0 g1 c1 g2 c2 g3 c3 b (d.set I.toNat X) u (p.set 0 0)) ∧ Aside0 (Kept w wc (Wr g1 g2 g3)) ∧ Aside0 (Below w0.heap.size w0 wc))
 case first =>
  have hx1 := (FoR.at1 HF.out I Q10 Q10).1
  have hz1 := (FoR.at1 HF.out I Q10 Q10).2
  have n0_ := Ya (blk_far (p := ⟨g1, I.toNat, none⟩) BK.out hne.2.1 (.int .i64 X))
  have n1_ := Ya (FoR.put1 HF.out I X)
  have n2_ := Ya (Kept.setCell HK.out (p := ⟨g1, I.toNat, none⟩) (.inl (.inl rfl)) (.int .i64 X))
  have n3_ := Ya (Z6 (j := I.toNat) (v := .int .i64 X) HW.out (FoR.ge HF.out).2.1)
  cases hU : rdOf false u I
  ·have hv : rd d I - 1 = X := by have := HXX.out; rw [hU] at this; simpa using this
   have hw : wrap64 (rd d I - 1) = X := by rw [← hv]; have := HX.out; unfold wrap64; omega
   have hw' : IntKind.i64.wrap (rd d I - 1) = X := (i64_w _).trans hw
   clear hv
   rw [hU] at hx2
   go_wp2
   go_meet
   case rel => exact ⟨n0_, n1_, n2_, n3_⟩
  ·have hv : rd d I + 1 = X := by have := HXX.out; rw [hU] at this; simpa using this
   have hw : wrap64 (rd d I + 1) = X := by rw [← hv]; have := HX.out; unfold wrap64; omega
   have hw' : IntKind.i64.wrap (rd d I + 1) = X := (i64_w _).trans hw
   clear hv
   rw [hU] at hx2
   go_wp2
   go_meet
   case rel => exact ⟨n0_, n1_, n2_, n3_⟩
 case rest =>
  clear hx2 hc0 hc1 hc2 hc3 BK HF HK HW
  obtain ⟨BK, HF, HK, HW⟩ := hcut
  have HRD := Ya (show rd (d.set I.toNat X) I = X from by
   have := HL.out
   unfold rd
   rw [List.getD_eq_getElem?_getD, List.getElem?_set_self (by omega)]; rfl)
  go_upto_region 9 with fail
  go_cut [79] (fun v79 wc => ∃ t : Bool, v79 = .bool t ∧ Aside0 (t = decide (X = 0 ∨ X = rd b I - 1)) ∧ Aside0 (wc.heap[g]? = some (.cells CS T (0, 0))) ∧ Aside0 (FoR wc w0.heap.size g0 c0 g1 c1 g2 c2 g3 c3 b (d.set I.toNat X) u (p.set 0 0)) ∧ Aside0 (Kept w wc (Wr g1 g2 g3)) ∧ Aside0 (Below w0.heap.size w0 wc))
  case first =>
   have hw : wrap64 (rd b I - 1) = rd b I - 1 := by have := HX.out; unfold wrap64; omega
   have hw' : IntKind.i64.wrap (rd b I - 1) = rd b I - 1 := (i64_w _).trans hw
   by_cases z : X = 0
   ·have zb : (X == 0) = true := beq_iff_eq.mpr z
    have HT := Ya (Z38 (p := X = 0 ∨ X = rd b I - 1) (Or.inl z))
    clear z
    go_wp2_with fail
    replace BK := Ya (Z26 BK.out)
    replace HF := Ya (FoR.drew HF.out)
    replace HK := Ya (Kept.drew HK.out)
    replace HW := Ya (Z4 HW.out)
    refine start_ (n := 26) (S := fun w' => w'.cell? ⟨g, 0, none⟩ = some (.slice (some ⟨g0, 0, none⟩) b.length c0) ∧ w'.cell? ⟨g, 1, none⟩ = some (.slice (some ⟨g1, 0, none⟩) d.length c1) ∧ w'.cell? ⟨g1, I.toNat, none⟩ = some (.int .i64 X) ∧ w'.cell? ⟨g0, I.toNat, none⟩ = some (.int .i64 (rd b I))) (ds := []) (YA 26 0) (by kernel_rfl) rfl rfl ⟨(Z23 BK.out 0).trans HS0.out, (Z23 BK.out 1).trans HS1.out, ((FoR.at1 HF.out I Q10 Q31).1.trans (by rw [HRD.out])), (FoR.at0 HF.out I Q10 Q10).1⟩ (fun hHeld => ?_)
    generalize World.drew _ = w3 at BK HF HK HW hHeld ⊢
    refine Yq 0 (some 54) (YA 26 1) rfl ?_
    refine Yq 1 (some 55) (YA 26 3) rfl ?_
    refine Yq 2 (some 56) (YA 26 7) rfl ?_
    refine Yq 4 (some 58) (YA 26 23) rfl ?_
    refine Ys 3 (some 57) (YA 26 31) rfl hHeld Q3 ?_
    refine Yq 5 (some 59) (YA 26 63) rfl ?_
    refine Ys 6 (some 60) (YA 26 127) rfl hHeld Q3 ?_
    refine Yq 7 (some 61) (YA 26 255) rfl ?_
    refine Yq 8 (some 62) (YA 26 511) rfl ?_
    refine Yu 9 (some 63) (YA 26 1023) rfl ?_
    refine Yu 10 (some 64) (YA 26 2047) rfl ?_
    refine Yu 11 (some 65) (YA 26 4095) rfl ?_
    refine Yu 12 (some 66) (YA 26 8191) rfl ?_
    refine Yu 13 (some 67) (YA 26 16383) rfl ?_
    refine Yu 14 (some 68) (YA 26 32767) rfl ?_
    refine Yu 15 (some 69) (YA 26 65535) rfl ?_
    refine Yu 16 (some 70) (YA 26 131071) rfl ?_
    refine Yu 17 (some 71) (YA 26 262143) rfl ?_
    refine Yu 18 (some 72) (YA 26 524287) rfl ?_
    refine Yu 19 (some 73) (YA 26 1048575) rfl ?_
    refine Yu 20 (some 74) (YA 26 2097151) rfl ?_
    refine Yu 21 (some 75) (YA 26 4194303) rfl ?_
    refine Yu 22 (some 76) (YA 26 8388607) rfl ?_
    refine Yu 23 (some 77) (YA 26 16777215) rfl ?_
    refine Yu 24 (some 78) (YA 26 33554431) rfl ?_
    refine Yq 25 (some 79) (YA 26 67108863) rfl ?_
    refine done_ (by kernel_rfl) ?_
    go_step
    go_step
    go_meet
    case rel => exact ⟨true, rfl, ⟨HT.out.symm⟩, BK, HF, HK, HW⟩
   ·have zb : (X == 0) = false := beq_eq_false_iff_ne.mpr z
    have HT := Ya (show (X == rd b I - 1) = decide (X = 0 ∨ X = rd b I - 1) from by rw [Bool.eq_iff_iff]; simp [z])
    clear z
    go_wp2_with fail
    replace BK := Ya (Z26 BK.out)
    replace HF := Ya (FoR.drew HF.out)
    replace HK := Ya (Kept.drew HK.out)
    replace HW := Ya (Z4 HW.out)
    refine start_ (n := 26) (S := fun w' => w'.cell? ⟨g, 0, none⟩ = some (.slice (some ⟨g0, 0, none⟩) b.length c0) ∧ w'.cell? ⟨g, 1, none⟩ = some (.slice (some ⟨g1, 0, none⟩) d.length c1) ∧ w'.cell? ⟨g1, I.toNat, none⟩ = some (.int .i64 X) ∧ w'.cell? ⟨g0, I.toNat, none⟩ = some (.int .i64 (rd b I))) (ds := []) (YA 26 0) (by kernel_rfl) rfl rfl ⟨(Z23 BK.out 0).trans HS0.out, (Z23 BK.out 1).trans HS1.out, ((FoR.at1 HF.out I Q10 Q31).1.trans (by rw [HRD.out])), (FoR.at0 HF.out I Q10 Q10).1⟩ (fun hHeld => ?_)
    generalize World.drew _ = w3 at BK HF HK HW hHeld ⊢
    refine Yq 0 (some 54) (YA 26 1) rfl ?_
    refine Yq 1 (some 55) (YA 26 3) rfl ?_
    refine Yq 2 (some 56) (YA 26 7) rfl ?_
    refine Yq 4 (some 58) (YA 26 23) rfl ?_
    refine Ys 3 (some 57) (YA 26 31) rfl hHeld Q3 ?_
    refine Yq 5 (some 59) (YA 26 63) rfl ?_
    refine Ys 6 (some 60) (YA 26 127) rfl hHeld Q3 ?_
    refine Yq 7 (some 61) (YA 26 255) rfl ?_
    refine Yq 8 (some 62) (YA 26 511) rfl ?_
    refine Yq 9 (some 63) (YA 26 1023) rfl ?_
    refine Yq 10 (some 64) (YA 26 2047) rfl ?_
    refine Yq 11 (some 65) (YA 26 4095) rfl ?_
    refine Yq 13 (some 67) (YA 26 12287) rfl ?_
    refine Yq 16 (some 70) (YA 26 77823) rfl ?_
    refine Yq 17 (some 71) (YA 26 208895) rfl ?_
    refine Yq 18 (some 72) (YA 26 471039) rfl ?_
    refine Yq 20 (some 74) (YA 26 1519615) rfl ?_
    refine Ys 12 (some 66) (YA 26 1523711) rfl hHeld Q3 ?_
    refine Yq 14 (some 68) (YA 26 1540095) rfl ?_
    refine Ys 15 (some 69) (YA 26 1572863) rfl hHeld Q3 ?_
    refine Ys 19 (some 73) (YA 26 2097151) rfl hHeld Q3 ?_
    refine Yq 21 (some 75) (YA 26 4194303) rfl ?_
    refine Ys 22 (some 76) (YA 26 8388607) rfl hHeld Q3 ?_
    refine Yq 23 (some 77) (YA 26 16777215) rfl ?_
    refine Yq 24 (some 78) (YA 26 33554431) rfl ?_
    refine Yq 25 (some 79) (YA 26 67108863) rfl ?_
    refine done_ (by kernel_rfl) ?_
    go_step
    go_step
    go_meet
    case rel => exact ⟨_, rfl, HT, BK, HF, HK, HW⟩
  case rest =>
   clear BK HF HK HW
   obtain ⟨t, rfl, HT, BK, HF, HK, HW⟩ := hcut
   cases t
   ·have h := HH.out
    rw [if_neg (fun e => by have h_ := HT.out; rw [Z38 e] at h_; cases h_)] at h
    simp only [Option.some.injEq, Prod.mk.injEq] at h
    obtain ⟨rfl, rfl, rfl, rfl⟩ := h
    go_wp2
    go_ret
    exact ⟨rfl, BK.out.trans HB0.out.symm, HF.out, HK.out, HW.out⟩
   ·have h := HH.out
    rw [if_pos (Z30 HT.out.symm)] at h
    simp only [Option.some.injEq, Prod.mk.injEq] at h
    obtain ⟨rfl, rfl, rfl, rfl⟩ := h
    go_wp2_with fail
    replace BK := Ya (Z26 BK.out)
    replace HF := Ya (FoR.drew HF.out)
    replace HK := Ya (Kept.drew HK.out)
    replace HW := Ya (Z4 HW.out)
    refine start_ (n := 15) (S := fun w' => w'.cell? ⟨g, 2, none⟩ = some (.slice (some ⟨g2, 0, none⟩) u.length c2) ∧ w'.cell? ⟨g2, I.toNat, none⟩ = some (.bool (rdOf false u I))) (ds := [14]) (YA 15 0) (by kernel_rfl) rfl rfl ⟨(Z23 BK.out 2).trans HS2.out, (FoR.at2 HF.out I Q10 Q10).1⟩ (fun hHeld => ?_)
    generalize World.drew _ = w4 at BK HF HK HW hHeld ⊢
    have hxs := (FoR.at2 HF.out I Q10 Q10).1
    have hzs := (FoR.at2 HF.out I Q10 Q10).2
    refine Yq 0 (some 80) (YA 15 1) rfl ?_
    refine Yq 1 (some 81) (YA 15 3) rfl ?_
    refine Yq 2 (some 82) (YA 15 7) rfl ?_
    refine Yq 4 (some 84) (YA 15 23) rfl ?_
    refine Yq 5 (some 85) (YA 15 55) rfl ?_
    refine Yq 6 (some 86) (YA 15 119) rfl ?_
    refine Yq 7 (some 87) (YA 15 247) rfl ?_
    refine Yq 9 (some 89) (YA 15 759) rfl ?_
    refine Ys 3 (some 83) (YA 15 767) rfl hHeld Q18 ?_
    refine Ys 8 (some 88) (YA 15 1023) rfl hHeld Q18 ?_
    refine Yq 10 (some 90) (YA 15 2047) rfl ?_
    refine Ys 11 (some 91) (YA 15 4095) rfl hHeld Q18 ?_
    refine Yq 12 (some 92) (YA 15 8191) rfl ?_
    refine Yq 13 (some 93) (YA 15 16383) rfl ?_
    refine last_ (i := 14) (N := none) (YA 15 32767) rfl rfl (by kernel_rfl) (by decide) (fun K hK => ?_)
    refine skip_ (w1 := ?_) (by rfl) rfl ?_ ?_
    rotate_left
    ·go_simp
     rfl
    refine hK.out _ _ ?_
    clear hK K
    refine done_ (by kernel_rfl) ?_
    clear hxs hzs
    replace BK := Ya (show (World.setCell w4 ⟨g2, I.toNat, none⟩ (.bool (!rdOf false u I))).heap[g]? = _ from blk_far (p := ⟨g2, I.toNat, none⟩) BK.out hne.2.2.1 (.bool (!rdOf false u I)))
    replace HK := Ya (Kept.setCell HK.out (p := ⟨g2, I.toNat, none⟩) (.inl (.inr (.inl rfl))) (.bool (!rdOf false u I)))
    replace HW := Ya (show Below w0.heap.size w0 (World.setCell w4 ⟨g2, I.toNat, none⟩ (.bool (!rdOf false u I))) from Z6 HW.out (FoR.ge HF.out).2.2.1)
    replace HF := Ya (show FoR (World.setCell w4 ⟨g2, I.toNat, none⟩ (.bool (!rdOf false u I))) w0.heap.size g0 c0 g1 c1 g2 c2 g3 c3 b (d.set I.toNat X) (u.set I.toNat (!rdOf false u I)) (p.set 0 0) from FoR.put2 HF.out I _)
    generalize World.setCell w4 ⟨g2, I.toNat, none⟩ (.bool (!rdOf false u I)) = w5 at BK HF HK HW ⊢
    go_wp2_with fail
    replace BK := Ya (Z26 BK.out)
    replace HF := Ya (FoR.drew HF.out)
    replace HK := Ya (Kept.drew HK.out)
    replace HW := Ya (Z4 HW.out)
    refine start_ (n := 15) (S := fun w' => w'.cell? ⟨g, 3, none⟩ = some (.slice (some ⟨g3, 0, none⟩) p.length c3) ∧ w'.cell? ⟨g3, (J + 1).toNat, none⟩ = some (.int .i64 (rd (p.set 0 0) (J + 1)))) (ds := [14]) (YA 15 0) (by kernel_rfl) rfl rfl ⟨(Z23 BK.out 3).trans HS3.out, (FoR.at3 HF.out (J + 1) Q10 Q31).1⟩ (fun hHeld => ?_)
    generalize World.drew _ = w6 at BK HF HK HW hHeld ⊢
    have hxs := (FoR.at3 HF.out J Q10 Q31).1
    have hzs := (FoR.at3 HF.out J Q10 Q31).2
    refine Yq 0 (some 94) (YA 15 1) rfl ?_
    refine Yq 1 (some 95) (YA 15 3) rfl ?_
    refine Yq 2 (some 96) (YA 15 7) rfl ?_
    refine Yq 4 (some 98) (YA 15 23) rfl ?_
    refine Yq 5 (some 99) (YA 15 55) rfl ?_
    refine Yq 6 (some 100) (YA 15 119) rfl ?_
    refine Yq 7 (some 101) (YA 15 247) rfl ?_
    refine Yq 9 (some 103) (YA 15 759) rfl ?_
    refine Yq 10 (some 104) (YA 15 1783) rfl ?_
    refine Ys 3 (some 97) (YA 15 1791) rfl hHeld Q18 ?_
    refine Ys 8 (some 102) (YA 15 2047) rfl hHeld Q18 ?_
    refine Yq 11 (some 105) (YA 15 4095) rfl ?_
    refine Ys 12 (some 106) (YA 15 8191) rfl hHeld Q18 ?_
    refine Yq 13 (some 107) (YA 15 16383) rfl ?_
    refine last_ (i := 14) (N := none) (YA 15 32767) rfl rfl (by kernel_rfl) (by decide) (fun K hK => ?_)
    refine skip_ (w1 := ?_) (by rfl) rfl ?_ ?_
    rotate_left
    ·go_simp
     rfl
    refine hK.out _ _ ?_
    clear hK K
    refine done_ (by kernel_rfl) ?_
    clear hxs hzs
    replace BK := Ya (show (World.setCell w6 ⟨g3, J.toNat, none⟩ (.int .i64 (rd (p.set 0 0) (J + 1)))).heap[g]? = _ from blk_far (p := ⟨g3, J.toNat, none⟩) BK.out hne.2.2.2 (.int .i64 (rd (p.set 0 0) (J + 1))))
    replace HK := Ya (Kept.setCell HK.out (p := ⟨g3, J.toNat, none⟩) (.inl (.inr (.inr rfl))) (.int .i64 (rd (p.set 0 0) (J + 1))))
    replace HW := Ya (show Below w0.heap.size w0 (World.setCell w6 ⟨g3, J.toNat, none⟩ (.int .i64 (rd (p.set 0 0) (J + 1)))) from Z6 HW.out (FoR.ge HF.out).2.2.2)
    replace HF := Ya (show FoR (World.setCell w6 ⟨g3, J.toNat, none⟩ (.int .i64 (rd (p.set 0 0) (J + 1)))) w0.heap.size g0 c0 g1 c1 g2 c2 g3 c3 b (d.set I.toNat X) (u.set I.toNat (!rdOf false u I)) ((p.set 0 0).set J.toNat (rd (p.set 0 0) (J + 1))) from FoR.put3 HF.out J _)
    generalize World.setCell w6 ⟨g3, J.toNat, none⟩ (.int .i64 (rd (p.set 0 0) (J + 1))) = w7 at BK HF HK HW ⊢
    have hc0 := (Z23 BK.out 0).trans HS0.out
    have hc1 := (Z23 BK.out 1).trans HS1.out
    have hc2 := (Z23 BK.out 2).trans HS2.out
    have hc3 := (Z23 BK.out 3).trans HS3.out
    have hxs := (FoR.at3 HF.out (J + 1) Q10 Q42).1
    have hzs := (FoR.at3 HF.out (J + 1) Q10 Q42).2
    go_upto_region 13 with fail
    clear hc0 hc1 hc2 hc3
    clear hxs hzs
    replace BK := Ya (show (World.setCell w7 ⟨g3, (J + 1).toNat, none⟩ (.int .i64 (J + 1))).heap[g]? = _ from blk_far (p := ⟨g3, (J + 1).toNat, none⟩) BK.out hne.2.2.2 (.int .i64 (J + 1)))
    replace HK := Ya (Kept.setCell HK.out (p := ⟨g3, (J + 1).toNat, none⟩) (.inl (.inr (.inr rfl))) (.int .i64 (J + 1)))
    replace HW := Ya (show Below w0.heap.size w0 (World.setCell w7 ⟨g3, (J + 1).toNat, none⟩ (.int .i64 (J + 1))) from Z6 HW.out (FoR.ge HF.out).2.2.2)
    replace HF := Ya (show FoR (World.setCell w7 ⟨g3, (J + 1).toNat, none⟩ (.int .i64 (J + 1))) w0.heap.size g0 c0 g1 c1 g2 c2 g3 c3 b (d.set I.toNat X) (u.set I.toNat (!rdOf false u I)) (((p.set 0 0).set J.toNat (rd (p.set 0 0) (J + 1))).set (J + 1).toNat (J + 1)) from FoR.put3 HF.out (J + 1) _)
    generalize World.setCell w7 ⟨g3, (J + 1).toNat, none⟩ (.int .i64 (J + 1)) = w8 at BK HF HK HW ⊢
    go_wp2
    go_ret
    exact ⟨rfl, BK.out.trans HB0.out.symm, HF.out, HK.out, HW.out⟩
open Go.Proofs.Ytpfakdhfffehaaa.FoW in
theorem impl_Focus_step.calls (w0 : World) (g g0 c0 g1 c1 g2 c2 g3 c3 : Nat) (b d : List Int) (u : List Bool) (p d' : List Int) (u' : List Bool) (p' : List Int) (r : Int) (w : World)
  (hb : w.heap[g]? = some (.cells #[.slice (some ⟨g0, 0, none⟩) b.length c0, .slice (some ⟨g1, 0, none⟩) d.length c1, .slice (some ⟨g2, 0, none⟩) u.length c2, .slice (some ⟨g3, 0, none⟩) p.length c3] 27 (0, 0))) (hF : FoR w w0.heap.size g0 c0 g1 c1 g2 c2 g3 c3 b d u p) (hW : Below w0.heap.size w0 w) (h : stepF b d u p = some (d', u', p', r)) :
  Calls Try.prog 36 #[.pointer (some ⟨g, 0, none⟩)] w fun e w' => e = .returned (.int .i64 r) ∧ w'.heap[g]? = w.heap[g]? ∧ FoR w' w0.heap.size g0 c0 g1 c1 g2 c2 g3 c3 b d' u' p' ∧ Kept w w' (Wr g1 g2 g3) ∧ Below w0.heap.size w0 w' :=
 impl_Focus_step.callsG _ _ (by decide) w0 g g0 c0 g1 c1 g2 c2 g3 c3 b d u p d' u' p' r w rfl rfl rfl rfl hb hF hW h
set_option maxHeartbeats 8000000 in
set_option maxRecDepth 100000 in
theorem impl_Focus_step.callsEnd (CS : Array Value) (T : TypeId) (g g3 n c0 lp c3 : Nat) (A0 : Option Addr) (w : World)
  (hs0 : CS[0]? = some (.slice A0 n c0)) (hs3 : CS[3]? = some (.slice (some ⟨g3, 0, none⟩) lp c3)) (hl : 0 < lp) (hm : n ≤ 1000)
  (hb : w.heap[g]? = some (.cells CS T (0, 0))) (hp : w.cell? ⟨g3, 0, none⟩ = some (.int .i64 (n : Int))) :
  Calls Try.prog 36 #[.pointer (some ⟨g, 0, none⟩)] w fun e w' => e = .returned (.int .i64 (-1)) ∧ Below w.heap.size w w' := by
 have BK := Ya hb
 have HP := Ya hp
 have HW := Ya (Below.refl w.heap.size w)
 have b10 : (0 < lp) = True := eq_true hl
 have b11 : ((0 : Int) < (lp : Int)) = True := eq_true (by omega)
 clear hb hp
 go_enter Try.func36, Try.ntmps36
 go_wp2_with fail
 replace BK := Ya (Z26 BK.out)
 replace HP := Ya (show w.drew.cell? ⟨g3, 0, none⟩ = some (.int .i64 (n : Int)) from HP.out)
 replace HW := Ya (Z4 HW.out)
 refine start_ (n := 13) (S := fun w' => w'.cell? ⟨g, 0, none⟩ = some (.slice A0 n c0) ∧ w'.cell? ⟨g, 3, none⟩ = some (.slice (some ⟨g3, 0, none⟩) lp c3) ∧ w'.cell? ⟨g3, 0, none⟩ = some (.int .i64 (n : Int))) (ds := []) (YA 13 0) (by kernel_rfl) rfl rfl ⟨(Z23 BK.out 0).trans hs0, (Z23 BK.out 3).trans hs3, HP.out⟩ (fun hHeld => ?_)
 generalize World.drew _ = w1 at BK HP HW hHeld ⊢
 refine Yq 0 (some 6) (YA 13 1) rfl ?_
 refine Yq 1 (some 7) (YA 13 3) rfl ?_
 refine Yq 2 (some 8) (YA 13 7) rfl ?_
 refine Yq 5 (some 11) (YA 13 39) rfl ?_
 refine Yq 6 (some 12) (YA 13 103) rfl ?_
 refine Yq 7 (some 13) (YA 13 231) rfl ?_
 refine Ys 3 (some 9) (YA 13 239) rfl hHeld Q9 ?_
 refine Yq 4 (some 10) (YA 13 255) rfl ?_
 refine Yq 11 (some 3) (YA 13 2303) rfl ?_
 refine Ys 8 (some 14) (YA 13 2559) rfl hHeld Q9 ?_
 refine Yq 9 (some 15) (YA 13 3071) rfl ?_
 refine Ys 10 (some 16) (YA 13 4095) rfl hHeld Q9 ?_
 refine Yq 12 (some 4) (YA 13 8191) rfl ?_
 refine done_ (by kernel_rfl) ?_
 go_wp2
 go_ret
 exact ⟨rfl, HW.out⟩
def impl_copied.f (l0 : List Int) : Option (List Int) := (some (([] : List Int) : List Int)).bind fun y512 => (if y512.length + l0.length < 17592186044416 then (some (y512 ++ l0)) else (none))
set_option maxHeartbeats 8000000 in
set_option maxRecDepth 100000 in
theorem impl_copied.calls (A0 : Option Addr) (c0 : Nat) (l0 : List Int) (r : List Int) (w : World) (hr0 : Kd.C (Kd.int .i64) w A0 l0.length l0) (hc0 : l0.length ≤ c0) (h : impl_copied.f l0 = some r) :
  Calls Try.prog 56 #[.slice A0 l0.length c0] w fun e w' => ∃ v0_ : Value, e = .returned (v0_) ∧ Kd.R (Kd.int .i64) 3 w' w.heap.size (fun _ => True) v0_ r ∧ Below w.heap.size w w' := by
 have HR0 := Ya hr0
 have HC0 := Ya hc0
 clear hr0 hc0
 have HB := Ya (Below.refl w.heap.size w)
 have H : ((some (([] : List Int) : List Int)).bind fun y512 => (if y512.length + l0.length < 17592186044416 then (some (y512 ++ l0)) else (none))) = some r := h
 clear h
 obtain ⟨y512, hy512⟩ : ∃ y_ : List Int, y_ = (([] : List Int)) := ⟨_, rfl⟩
 replace H : (if y512.length + l0.length < 17592186044416 then (some (y512 ++ l0)) else (none)) = some r := by first | (rw [hy512]; with_reducible exact H) | (have H2_ := (Option.bind_some _ _).symm.trans H; rw [hy512]; with_reducible exact H2_) | (have H2_ := (Option.bind_some _ _).symm.trans H; with_reducible exact H2_) | with_reducible exact H | (rw [hy512]; exact H) | exact H
 have Ny512 := Ya hy512
 clear hy512
 by_cases c2 : y512.length + l0.length < 17592186044416
 ·rw [if_pos c2] at H
  have LMc2 := Ya c2
  clear c2
  obtain ⟨y515, hy515⟩ : ∃ y_ : List Int, y_ = (y512 ++ l0) := ⟨_, rfl⟩
  replace H : (some y515) = some r := by first | (rw [hy515]; with_reducible exact H) | (have H2_ := (Option.bind_some _ _).symm.trans H; rw [hy515]; with_reducible exact H2_) | (have H2_ := (Option.bind_some _ _).symm.trans H; with_reducible exact H2_) | with_reducible exact H | (rw [hy515]; exact H) | exact H
  have Ny515 := Ya hy515
  clear hy515
  obtain rfl := Option.some.inj H
  go_enter Try.func56, Try.ntmps56
  go_wp2_with (first | ((with_reducible refine gate_dst (N := 3) rfl ?_); refine Kd.R_lit (Kd.int .i64) _ 3 ?hg (N := 3) ?hd (xs := ([] : List Int)) (inner := []) (ok := fun _ => True) (okp := fun _ => True) ?hr ?hp (fun _ hk => hk) trivial (Below.refl _ _) (Nat.le_refl _) (by simp) ?_; (case hd => rfl); (case hg => rfl); (case hr => first | (go_simp; done) | (go_simp; rfl)); (case hp => exact (Reps.none _ _)); intro v513 w3 ho4 hb hg_ hnew_; clear hg_ hnew_; (first | rw [← Ny512.out] at ho4 | (simp only [Int.reduceToNat] at ho4; rw [← Ny512.out] at ho4)); have HO514 := Yl ho4; replace HB := Yh hb; clear hb ho4) | ((with_reducible refine gate_builtin (b := .append) (xs := #[.tmp 3, .tmp 4]) rfl ?_); at_builtin; refine Kd.R_append_rows (Kd.int .i64) (w0 := w) w.heap.size rfl (.tmp 3) (.tmp 4) 22 3 (.int .i64 0) 8 rfl Try.underlying22 info3 rfl (by decide) (by omega) v513 y512 l0 _ _ _ (fun _ => True) (fun _ => False) rfl rfl ?aO ?aR (fun _ _ h => h) (fun _ h => h.elim) ?aF ?aB ?aS ?aL ?_; (case aR => repeat (first | exact (Z22 HR0.out HB.out) | (with_reducible refine Z20 ?_ _) | (with_reducible refine Z21 ?_ _) | (with_reducible refine Kd.C_drew ?_))); (case aB => exact Q0); (case aF => exact (fun _ _ => trivial)); (case aO => exact (Yr HO514.out)); (case aS => exact (Z7 Q0)); (case aL => have := LMc2.out; omega); intro v516 w5 ho hb hg hat; rw [← Ny515.out] at ho; replace HB := Ya hb; have HO517 := Ya ho; clear HO514; clear ho hb hg hat))
  go_ret
  exact ⟨_, Q2, by (with_reducible repeat (first | apply Z9 | apply Z10 | apply Z11)); exact HO517.out, Q12⟩
 ·rw [if_neg c2] at H
  exact absurd H (by simp)
def impl_identity.l0 : Nat → List Int → Int → Int → Option (List Int)
 | 0, _, _, _ => none
 | k + 1, x3, x6, x7 => if x7 < x6 then (if x3.length < 17592186044416 then (impl_identity.l0 k (x3 ++ [x7]) x6 (wrap64 (x7 + 1))) else (none)) else (some x3)
def impl_identity.f (k : Nat) (a0 : Int) : Option (List Int) := impl_identity.l0 k (([] : List Int)) a0 0
theorem impl_identity.mono_l : ∀ k, (∀ y0 y1 y2, LeO (impl_identity.l0 k y0 y1 y2) (impl_identity.l0 (k + 1) y0 y1 y2))
 | 0 => fun _ _ _ r h => by simp [impl_identity.l0] at h
 | k + 1 => by
  have ih0 := impl_identity.mono_l k
  ·intro y0 y1 y2
   unfold impl_identity.l0
   repeat' first
   | (with_reducible exact ih0 _ _ _)
   | (with_reducible exact LeO.refl _)
   | (with_reducible exact LeO.none _)
   | (with_reducible refine LeO.ite ?_ ?_)
   | (with_reducible refine LeO.bind ?_ (fun _ => ?_))
   | exact ih0 _ _ _
   | exact LeO.none _
   | refine LeO.ite ?_ ?_
   | refine LeO.bind ?_ (fun _ => ?_)
theorem impl_identity.mono : ∀ a0 k, LeO (impl_identity.f k a0) (impl_identity.f (k + 1) a0) := by
 intro a0 k
 have ih0 := impl_identity.mono_l k
 unfold impl_identity.f
 repeat' first
   | (with_reducible exact ih0 _ _ _)
   | (with_reducible exact LeO.refl _)
   | (with_reducible exact LeO.none _)
   | (with_reducible refine LeO.ite ?_ ?_)
   | (with_reducible refine LeO.bind ?_ (fun _ => ?_))
   | exact ih0 _ _ _
   | exact LeO.none _
   | refine LeO.ite ?_ ?_
   | refine LeO.bind ?_ (fun _ => ?_)
set_option maxHeartbeats 8000000 in
set_option maxRecDepth 100000 in
theorem impl_identity.calls (k : Nat) (a0 : Int) (r : List Int) (w : World) (h : impl_identity.f k a0 = some r) :
  Calls Try.prog 72 #[.int .i64 a0] w fun e w' => ∃ v0_ : Value, e = .returned (v0_) ∧ Kd.R (Kd.int .i64) 3 w' w.heap.size (fun _ => True) v0_ r ∧ Below w.heap.size w w' := by
 have HB := Ya (Below.refl w.heap.size w)
 have H : (impl_identity.l0 k (([] : List Int)) a0 0) = some r := h
 clear h
 obtain ⟨y518, hy518⟩ : ∃ y_ : List Int, y_ = (([] : List Int)) := ⟨_, rfl⟩
 replace H : (impl_identity.l0 k y518 a0 0) = some r := by first | (rw [hy518]; with_reducible exact H) | (have H2_ := (Option.bind_some _ _).symm.trans H; rw [hy518]; with_reducible exact H2_) | (have H2_ := (Option.bind_some _ _).symm.trans H; with_reducible exact H2_) | with_reducible exact H | (rw [hy518]; exact H) | exact H
 have Ny518 := Ya hy518
 clear hy518
 have H' := Ya H
 clear H
 go_enter Try.func72, Try.ntmps72
 go_wp2_with (first | ((with_reducible refine gate_dst (N := 5) rfl ?_); refine Kd.R_lit (Kd.int .i64) _ 3 ?hg (N := 5) ?hd (xs := ([] : List Int)) (inner := []) (ok := fun _ => True) (okp := fun _ => True) ?hr ?hp (fun _ hk => hk) trivial (Below.refl _ _) (Nat.le_refl _) (by simp) ?_; (case hd => rfl); (case hg => rfl); (case hr => first | (go_simp; done) | (go_simp; rfl)); (case hp => exact (Reps.none _ _)); intro v519 w2 ho3 hb hg_ hnew_; clear hg_ hnew_; (first | rw [← Ny518.out] at ho3 | (simp only [Int.reduceToNat] at ho3; rw [← Ny518.out] at ho3)); have HO520 := Yl ho3; replace HB := Yh hb; clear hb ho3))
 go_loopg [3, 7] k (fun kq v3 v7 w' => ∃ (x3_1 : List Int) (x7_1 : Int), v7 = .int .i64 x7_1 ∧ Aside0 (impl_identity.l0 kq x3_1 a0 x7_1 = some r) ∧ Aside0 (kq ≤ k) ∧ Aside0 (Kd.R (Kd.int .i64) 3 w' w.heap.size (fun _ => True) v3 x3_1) ∧ Aside0 (Below w.heap.size w w'))
 case atStart => exact ⟨(y518), (0), Q8, H', ⟨Nat.le_refl _⟩, ⟨by (with_reducible repeat (first | apply Z9 | apply Z10 | apply Z11)); exact HO520.out⟩, ⟨Q12⟩⟩
 case round =>
  clear H'
  try clear p2
  obtain ⟨x3_1, x7_1, rfl, HA, HK1, HO_3, HB⟩ := hrel
  cases gk with
  | zero => exact absurd HA.out (by simp [impl_identity.l0])
  | succ k1 =>
   have H := HA.out
   clear HA
   simp only [impl_identity.l0] at H
   by_cases c4 : x7_1 < a0
   ·rw [if_pos c4] at H
    have c4b0 := Z38 c4
    clear c4
    by_cases c5 : x3_1.length < 17592186044416
    ·rw [if_pos c5] at H
     have LMc5 := Ya c5
     clear c5
     obtain ⟨y521, hy521⟩ : ∃ y_ : List Int, y_ = (x3_1 ++ [x7_1]) := ⟨_, rfl⟩
     replace H : (impl_identity.l0 k1 y521 a0 (wrap64 (x7_1 + 1))) = some r := by first | (rw [hy521]; with_reducible exact H) | (have H2_ := (Option.bind_some _ _).symm.trans H; rw [hy521]; with_reducible exact H2_) | (have H2_ := (Option.bind_some _ _).symm.trans H; with_reducible exact H2_) | with_reducible exact H | (rw [hy521]; exact H) | exact H
     have Ny521 := Ya hy521
     clear hy521
     have H' := Ya H
     clear H
     go_wp2_with (first | ((with_reducible refine gate_builtin (b := .append) (xs := #[.tmp 10, .tmp 12]) rfl ?_); at_builtin; refine Kd.R_append (Kd.int .i64) (w0 := w) w.heap.size rfl (.tmp 10) (.tmp 12) 22 3 (.int .i64 0) 8 rfl Try.underlying22 info3 rfl (by decide) (by omega) u3 x3_1 x7_1 [.int .i64 x7_1] (fun _ => True) (fun _ => False) rfl rfl ?aP (fun _ hk => hk.elim) ?aF ?aO ?aB ?aS ?aL ?_; (case aP => exact rfl); (case aB => exact Q0); (case aF => exact (fun _ _ => trivial)); (case aO => exact (Yr HO_3.out)); (case aS => exact (Z7 Q0)); (case aL => have := LMc5.out; omega); intro v522 w6 ho hb hg hat; rw [← Ny521.out] at ho; replace HB := Ya hb; have HO523 := Ya ho; clear HO_3; clear ho hb hg hat))
     go_roundg k1
     case measure => have := HK1.out; omega
     case rel => exact ⟨(y521), (wrap64 (x7_1 + 1)), Q8, H', ⟨Q20⟩, ⟨by (with_reducible repeat (first | apply Z9 | apply Z10 | apply Z11)); exact HO523.out⟩, ⟨Q12⟩⟩
    ·rw [if_neg c5] at H
     exact absurd H (by simp)
   ·rw [if_neg c4] at H
    have c4b0 := Z37 c4
    clear c4
    obtain rfl := Option.some.inj H
    go_wp2
    go_ret
    exact ⟨_, Q2, Q25, Q12⟩
end Go.Proofs.Ytpfakdhfffehaaa.MFnExactStepSwapper
