import Derived.Test.YtpfakdhfffehaaaMFnExactSwapperRankx0
namespace Go.Proofs.Ytpfakdhfffehaaa.MFnExactSwapperRank
open Go.RowKit Go.Proofs.YtpfakdhfffehaaaW.PrintWords Go.Proofs.YtpfakdhfffehaaaW.PrintLast Go.Proofs.YtpfakdhfffehaaaW.PrintMore
attribute [local go_sem] max2_int min2_int max_two min_two max_three min_three max_four min_four   
set_option linter.unusedVariables false
set_option linter.unusedSimpArgs false
def laws_eqIntS.l0 : Nat → List Int → List Int → Int → Option (Bool)
 | 0, _, _, _ => none
 | k + 1, x0, x1, x5 => if x5 < (x0.length : Int) then (if 0 ≤ x5 then (if x5 < (x1.length : Int) then (if (rd x0 x5) = (rd x1 x5) then (laws_eqIntS.l0 k x0 x1 (wrap64 (x5 + 1))) else (some false)) else (none)) else (none)) else (some true)
def laws_eqIntS.f (k : Nat) (l0 : List Int) (l1 : List Int) : Option (Bool) := if (l0.length : Int) = (l1.length : Int) then (laws_eqIntS.l0 k l0 l1 0) else (some false)
theorem laws_eqIntS.mono_l : ∀ k, (∀ y0 y1 y2, LeO (laws_eqIntS.l0 k y0 y1 y2) (laws_eqIntS.l0 (k + 1) y0 y1 y2))
 | 0 => fun _ _ _ r h => by simp [laws_eqIntS.l0] at h
 | k + 1 => by
  have ih0 := laws_eqIntS.mono_l k
  ·intro y0 y1 y2
   unfold laws_eqIntS.l0
   repeat' first
   | (with_reducible exact ih0 _ _ _)
   | (with_reducible exact LeO.refl _)
   | (with_reducible exact LeO.none _)
   | (with_reducible refine LeO.ite ?_ ?_)
   | (with_reducible refine LeO.bind ?_ (fun _ => ?_))
   | exact ih0 _ _ _
   | exact LeO.none _
   | refine LeO.ite ?_ ?_
   | refine LeO.bind ?_ (fun _ => ?_)
theorem laws_eqIntS.mono : ∀ a0 a1 k, LeO (laws_eqIntS.f k a0 a1) (laws_eqIntS.f (k + 1) a0 a1) := by
 intro a0 a1 k
 have ih0 := laws_eqIntS.mono_l k
 unfold laws_eqIntS.f
 repeat' first
   | (with_reducible exact ih0 _ _ _)
   | (with_reducible exact LeO.refl _)
   | (with_reducible exact LeO.none _)
   | (with_reducible refine LeO.ite ?_ ?_)
   | (with_reducible refine LeO.bind ?_ (fun _ => ?_))
   | exact ih0 _ _ _
   | exact LeO.none _
   | refine LeO.ite ?_ ?_
   | refine LeO.bind ?_ (fun _ => ?_)
set_option maxHeartbeats 8000000 in
set_option maxRecDepth 100000 in
theorem laws_eqIntS.calls (k : Nat) (A0 : Option Addr) (c0 : Nat) (l0 : List Int) (A1 : Option Addr) (c1 : Nat) (l1 : List Int) (r : Bool) (w : World) (hr0 : Kd.C (Kd.int .i64) w A0 l0.length l0) (hc0 : l0.length ≤ c0) (hr1 : Kd.C (Kd.int .i64) w A1 l1.length l1) (hc1 : l1.length ≤ c1) (h : laws_eqIntS.f k l0 l1 = some r) :
  Calls Try.prog 37 #[.slice A0 l0.length c0, .slice A1 l1.length c1] w fun e w' => e = .returned (.bool r) ∧ Drawn0 w w' := by
 have HR0 := Ya hr0
 have HC0 := Ya hc0
 clear hr0 hc0
 have HR1 := Ya hr1
 have HC1 := Ya hc1
 clear hr1 hc1
 have H : (if (l0.length : Int) = (l1.length : Int) then (laws_eqIntS.l0 k l0 l1 0) else (some false)) = some r := h
 clear h
 by_cases c3 : (l0.length : Int) = (l1.length : Int)
 ·rw [if_pos c3] at H
  have c3b0 : ((l0.length : Int) == (l1.length : Int)) = true := beq_iff_eq.mpr c3
  have c3b1 : ((l0.length : Int) != (l1.length : Int)) = false := bne_eq_false_iff_eq.mpr c3
  have c3b2 : (l0.length == l1.length) = true := by first | simpa using c3 | (simp at c3 ⊢; omega)
  clear c3
  have H' := Ya H
  clear H
  go_enter Try.func37, Try.ntmps37
  go_wp2
  repeat (go_quiet (fail); try go_wp2)
  go_loopg [5] k (fun kq v5 w' => ∃ (x5_1 : Int), v5 = .int .i64 x5_1 ∧ Aside0 (laws_eqIntS.l0 kq l0 l1 x5_1 = some r) ∧ Aside0 (kq ≤ k) ∧ Drawn0 w w')
  case atStart => exact ⟨(0), Q7, H', ⟨Nat.le_refl _⟩, Q5⟩
  case round =>
   clear H'
   try clear c1
   try clear p2
   try clear c3
   try clear c3b0
   try clear c3b1
   try clear c3b2
   obtain ⟨x5_1, rfl, HA, HK1, ⟨m1, rfl⟩⟩ := hrel
   cases gk with
   | zero => exact absurd HA.out (by simp [laws_eqIntS.l0])
   | succ k1 =>
    have H := HA.out
    clear HA
    simp only [laws_eqIntS.l0] at H
    by_cases c4 : x5_1 < (l0.length : Int)
    ·rw [if_pos c4] at H
     have c4b0 : decide (x5_1 < (l0.length : Int)) = true := Z35 c4
     clear c4
     by_cases c5 : 0 ≤ x5_1
     ·rw [if_pos c5] at H
      have c5b0 : decide (0 ≤ x5_1) = true := Z35 c5
      clear c5
      by_cases c6 : x5_1 < (l1.length : Int)
      ·rw [if_pos c6] at H
       have c6b0 : decide (x5_1 < (l1.length : Int)) = true := Z35 c6
       clear c6
       by_cases c7 : (rd l0 x5_1) = (rd l1 x5_1)
       ·rw [if_pos c7] at H
        have c7b0 : ((rd l0 x5_1) == (rd l1 x5_1)) = true := beq_iff_eq.mpr c7
        have c7b1 : ((rd l0 x5_1) != (rd l1 x5_1)) = false := bne_eq_false_iff_eq.mpr c7
        clear c7
        have H' := Ya H
        clear H
        have p101 : 0 ≤ (x5_1 : Int) := Z27 Q1
        have q101 : x5_1 < (l0.length : Int) := Z27 Q1
        obtain ⟨ad101, e101, hx101_0⟩ := Kd.at_int HR0.out x5_1 p101 q101
        cases e101
        replace p101 := eq_true p101
        replace q101 := eq_true q101
        have p102 : 0 ≤ (x5_1 : Int) := Z27 Q1
        have q102 : x5_1 < (l1.length : Int) := Z27 Q1
        obtain ⟨ad102, e102, hx102_0⟩ := Kd.at_int HR1.out x5_1 p102 q102
        cases e102
        replace p102 := eq_true p102
        replace q102 := eq_true q102
        go_wp2
        repeat (go_quiet (fail); try go_wp2)
        go_roundg k1
        case measure => have := HK1.out; omega
        case rel => exact ⟨(wrap64 (x5_1 + 1)), Q7, H', ⟨Q24⟩, Q5⟩
       ·rw [if_neg c7] at H
        have c7b0 : ((rd l0 x5_1) == (rd l1 x5_1)) = false := beq_eq_false_iff_ne.mpr c7
        have c7b1 : ((rd l0 x5_1) != (rd l1 x5_1)) = true := bne_iff_ne.mpr c7
        obtain rfl := Option.some.inj H
        have p101 : 0 ≤ (x5_1 : Int) := Z27 Q1
        have q101 : x5_1 < (l0.length : Int) := Z27 Q1
        obtain ⟨ad101, e101, hx101_0⟩ := Kd.at_int HR0.out x5_1 p101 q101
        cases e101
        replace p101 := eq_true p101
        replace q101 := eq_true q101
        have p102 : 0 ≤ (x5_1 : Int) := Z27 Q1
        have q102 : x5_1 < (l1.length : Int) := Z27 Q1
        obtain ⟨ad102, e102, hx102_0⟩ := Kd.at_int HR1.out x5_1 p102 q102
        cases e102
        replace p102 := eq_true p102
        replace q102 := eq_true q102
        go_wp2
        repeat (go_quiet (fail); try go_wp2)
        go_ret
        exact ⟨Q13, Q5⟩
      ·rw [if_neg c6] at H
       exact absurd H (by simp)
     ·rw [if_neg c5] at H
      exact absurd H (by simp)
    ·rw [if_neg c4] at H
     have c4b0 : decide (x5_1 < (l0.length : Int)) = false := Z34 c4
     clear c4
     obtain rfl := Option.some.inj H
     go_wp2
     repeat (go_quiet (fail); try go_wp2)
     go_ret
     exact ⟨Q13, Q5⟩
 ·rw [if_neg c3] at H
  have c3b0 : ((l0.length : Int) == (l1.length : Int)) = false := beq_eq_false_iff_ne.mpr c3
  have c3b1 : ((l0.length : Int) != (l1.length : Int)) = true := bne_iff_ne.mpr c3
  have c3b2 : (l0.length == l1.length) = false := by first | simpa using c3 | (simp at c3 ⊢; omega)
  obtain rfl := Option.some.inj H
  go_enter Try.func37, Try.ntmps37
  go_wp2
  repeat (go_quiet (fail); try go_wp2)
  go_ret
  exact ⟨Q13, Q5⟩
def laws_eqBoolS.l0 : Nat → List Bool → List Bool → Int → Option (Bool)
 | 0, _, _, _ => none
 | k + 1, x0, x1, x5 => if x5 < (x0.length : Int) then (if 0 ≤ x5 then (if x5 < (x1.length : Int) then (if ((rdOf false x0 x5) != (rdOf false x1 x5)) = true then (some false) else (laws_eqBoolS.l0 k x0 x1 (wrap64 (x5 + 1)))) else (none)) else (none)) else (some true)
def laws_eqBoolS.f (k : Nat) (l0 : List Bool) (l1 : List Bool) : Option (Bool) := if (l0.length : Int) = (l1.length : Int) then (laws_eqBoolS.l0 k l0 l1 0) else (some false)
theorem laws_eqBoolS.mono_l : ∀ k, (∀ y0 y1 y2, LeO (laws_eqBoolS.l0 k y0 y1 y2) (laws_eqBoolS.l0 (k + 1) y0 y1 y2))
 | 0 => fun _ _ _ r h => by simp [laws_eqBoolS.l0] at h
 | k + 1 => by
  have ih0 := laws_eqBoolS.mono_l k
  ·intro y0 y1 y2
   unfold laws_eqBoolS.l0
   repeat' first
   | (with_reducible exact ih0 _ _ _)
   | (with_reducible exact LeO.refl _)
   | (with_reducible exact LeO.none _)
   | (with_reducible refine LeO.ite ?_ ?_)
   | (with_reducible refine LeO.bind ?_ (fun _ => ?_))
   | exact ih0 _ _ _
   | exact LeO.none _
   | refine LeO.ite ?_ ?_
   | refine LeO.bind ?_ (fun _ => ?_)
theorem laws_eqBoolS.mono : ∀ a0 a1 k, LeO (laws_eqBoolS.f k a0 a1) (laws_eqBoolS.f (k + 1) a0 a1) := by
 intro a0 a1 k
 have ih0 := laws_eqBoolS.mono_l k
 unfold laws_eqBoolS.f
 repeat' first
   | (with_reducible exact ih0 _ _ _)
   | (with_reducible exact LeO.refl _)
   | (with_reducible exact LeO.none _)
   | (with_reducible refine LeO.ite ?_ ?_)
   | (with_reducible refine LeO.bind ?_ (fun _ => ?_))
   | exact ih0 _ _ _
   | exact LeO.none _
   | refine LeO.ite ?_ ?_
   | refine LeO.bind ?_ (fun _ => ?_)
set_option maxHeartbeats 8000000 in
set_option maxRecDepth 100000 in
theorem laws_eqBoolS.calls (k : Nat) (A0 : Option Addr) (c0 : Nat) (l0 : List Bool) (A1 : Option Addr) (c1 : Nat) (l1 : List Bool) (r : Bool) (w : World) (hr0 : Kd.C Kd.bool w A0 l0.length l0) (hc0 : l0.length ≤ c0) (hr1 : Kd.C Kd.bool w A1 l1.length l1) (hc1 : l1.length ≤ c1) (h : laws_eqBoolS.f k l0 l1 = some r) :
  Calls Try.prog 38 #[.slice A0 l0.length c0, .slice A1 l1.length c1] w fun e w' => e = .returned (.bool r) ∧ Drawn0 w w' := by
 have HR0 := Ya hr0
 have HC0 := Ya hc0
 clear hr0 hc0
 have HR1 := Ya hr1
 have HC1 := Ya hc1
 clear hr1 hc1
 have H : (if (l0.length : Int) = (l1.length : Int) then (laws_eqBoolS.l0 k l0 l1 0) else (some false)) = some r := h
 clear h
 by_cases c3 : (l0.length : Int) = (l1.length : Int)
 ·rw [if_pos c3] at H
  have c3b0 : ((l0.length : Int) == (l1.length : Int)) = true := beq_iff_eq.mpr c3
  have c3b1 : ((l0.length : Int) != (l1.length : Int)) = false := bne_eq_false_iff_eq.mpr c3
  have c3b2 : (l0.length == l1.length) = true := by first | simpa using c3 | (simp at c3 ⊢; omega)
  clear c3
  have H' := Ya H
  clear H
  go_enter Try.func38, Try.ntmps38
  go_wp2
  repeat (go_quiet (fail); try go_wp2)
  go_loopg [5] k (fun kq v5 w' => ∃ (x5_1 : Int), v5 = .int .i64 x5_1 ∧ Aside0 (laws_eqBoolS.l0 kq l0 l1 x5_1 = some r) ∧ Aside0 (kq ≤ k) ∧ Drawn0 w w')
  case atStart => exact ⟨(0), Q7, H', ⟨Nat.le_refl _⟩, Q5⟩
  case round =>
   clear H'
   try clear c1
   try clear p2
   try clear c3
   try clear c3b0
   try clear c3b1
   try clear c3b2
   obtain ⟨x5_1, rfl, HA, HK1, ⟨m1, rfl⟩⟩ := hrel
   cases gk with
   | zero => exact absurd HA.out (by simp [laws_eqBoolS.l0])
   | succ k1 =>
    have H := HA.out
    clear HA
    simp only [laws_eqBoolS.l0] at H
    by_cases c4 : x5_1 < (l0.length : Int)
    ·rw [if_pos c4] at H
     have c4b0 : decide (x5_1 < (l0.length : Int)) = true := Z35 c4
     clear c4
     by_cases c5 : 0 ≤ x5_1
     ·rw [if_pos c5] at H
      have c5b0 : decide (0 ≤ x5_1) = true := Z35 c5
      clear c5
      by_cases c6 : x5_1 < (l1.length : Int)
      ·rw [if_pos c6] at H
       have c6b0 : decide (x5_1 < (l1.length : Int)) = true := Z35 c6
       clear c6
       by_cases c7 : ((rdOf false l0 x5_1) != (rdOf false l1 x5_1)) = true
       ·rw [if_pos c7] at H
        have c7b0 : ((rdOf false l0 x5_1) != (rdOf false l1 x5_1)) = true := c7
        (try (have c7b1 : decide ((rdOf false l0 x5_1) = (rdOf false l1 x5_1)) = false := by simpa using c7))
        (try (have c7b2 : ((rdOf false l0 x5_1) == (rdOf false l1 x5_1)) = false := by simpa using c7))
        (try (have c7b3 : ¬ ((rdOf false l0 x5_1) = (rdOf false l1 x5_1)) := by simpa using c7))
        clear c7
        obtain rfl := Option.some.inj H
        have p103 : 0 ≤ (x5_1 : Int) := Z27 Q1
        have q103 : x5_1 < (l0.length : Int) := Z27 Q1
        obtain ⟨ad103, e103, hx103_0⟩ := Kd.at_bool HR0.out x5_1 p103 q103
        cases e103
        replace p103 := eq_true p103
        replace q103 := eq_true q103
        have p104 : 0 ≤ (x5_1 : Int) := Z27 Q1
        have q104 : x5_1 < (l1.length : Int) := Z27 Q1
        obtain ⟨ad104, e104, hx104_0⟩ := Kd.at_bool HR1.out x5_1 p104 q104
        cases e104
        replace p104 := eq_true p104
        replace q104 := eq_true q104
        go_wp2
        repeat (go_quiet (fail); try go_wp2)
        go_ret
        exact ⟨Q13, Q5⟩
       ·rw [if_neg c7] at H
        have c7b0 : ((rdOf false l0 x5_1) != (rdOf false l1 x5_1)) = false := by simpa using c7
        (try (have c7b1 : decide ((rdOf false l0 x5_1) = (rdOf false l1 x5_1)) = true := by simpa using c7))
        (try (have c7b2 : ((rdOf false l0 x5_1) == (rdOf false l1 x5_1)) = true := by simpa using c7))
        clear c7
        have H' := Ya H
        clear H
        have p103 : 0 ≤ (x5_1 : Int) := Z27 Q1
        have q103 : x5_1 < (l0.length : Int) := Z27 Q1
        obtain ⟨ad103, e103, hx103_0⟩ := Kd.at_bool HR0.out x5_1 p103 q103
        cases e103
        replace p103 := eq_true p103
        replace q103 := eq_true q103
        have p104 : 0 ≤ (x5_1 : Int) := Z27 Q1
        have q104 : x5_1 < (l1.length : Int) := Z27 Q1
        obtain ⟨ad104, e104, hx104_0⟩ := Kd.at_bool HR1.out x5_1 p104 q104
        cases e104
        replace p104 := eq_true p104
        replace q104 := eq_true q104
        go_wp2
        repeat (go_quiet (fail); try go_wp2)
        go_roundg k1
        case measure => have := HK1.out; omega
        case rel => exact ⟨(wrap64 (x5_1 + 1)), Q7, H', ⟨Q24⟩, Q5⟩
      ·rw [if_neg c6] at H
       exact absurd H (by simp)
     ·rw [if_neg c5] at H
      exact absurd H (by simp)
    ·rw [if_neg c4] at H
     have c4b0 : decide (x5_1 < (l0.length : Int)) = false := Z34 c4
     clear c4
     obtain rfl := Option.some.inj H
     go_wp2
     repeat (go_quiet (fail); try go_wp2)
     go_ret
     exact ⟨Q13, Q5⟩
 ·rw [if_neg c3] at H
  have c3b0 : ((l0.length : Int) == (l1.length : Int)) = false := beq_eq_false_iff_ne.mpr c3
  have c3b1 : ((l0.length : Int) != (l1.length : Int)) = true := bne_iff_ne.mpr c3
  have c3b2 : (l0.length == l1.length) = false := by first | simpa using c3 | (simp at c3 ⊢; omega)
  obtain rfl := Option.some.inj H
  go_enter Try.func38, Try.ntmps38
  go_wp2
  repeat (go_quiet (fail); try go_wp2)
  go_ret
  exact ⟨Q13, Q5⟩
def laws_eqFocus.f (k : Nat) (l0_0 : List Int) (l0_1 : List Int) (l0_2 : List Bool) (l0_3 : List Int) (l1_0 : List Int) (l1_1 : List Int) (l1_2 : List Bool) (l1_3 : List Int) : Option (Bool) := (laws_eqIntS.f k l0_0 l1_0).bind fun t107 => (if t107 = true then ((laws_eqIntS.f k l0_1 l1_1).bind fun t108 => (if t108 = true then ((laws_eqBoolS.f k l0_2 l1_2).bind fun t109 => (if t109 = true then ((laws_eqIntS.f k l0_3 l1_3).bind fun t110 => (if t110 = true then (some true) else (some false))) else (some false))) else (some false))) else (some false))
theorem laws_eqFocus.mono : ∀ a0 a1 a2 a3 a4 a5 a6 a7 k, LeO (laws_eqFocus.f k a0 a1 a2 a3 a4 a5 a6 a7) (laws_eqFocus.f (k + 1) a0 a1 a2 a3 a4 a5 a6 a7) := by
 intro a0 a1 a2 a3 a4 a5 a6 a7 k
 unfold laws_eqFocus.f
 repeat' first
   | (with_reducible exact laws_eqBoolS.mono _ _ _)
   | (with_reducible exact laws_eqIntS.mono _ _ _)
   | (with_reducible exact LeO.refl _)
   | (with_reducible exact LeO.none _)
   | (with_reducible refine LeO.ite ?_ ?_)
   | (with_reducible refine LeO.bind ?_ (fun _ => ?_))
   | exact laws_eqBoolS.mono _ _ _
   | exact laws_eqIntS.mono _ _ _
   | exact LeO.none _
   | refine LeO.ite ?_ ?_
   | refine LeO.bind ?_ (fun _ => ?_)
set_option maxHeartbeats 8000000 in
set_option maxRecDepth 100000 in
theorem laws_eqFocus.calls (k : Nat) (A0_0 : Option Addr) (c0_0 : Nat) (l0_0 : List Int) (A0_1 : Option Addr) (c0_1 : Nat) (l0_1 : List Int) (A0_2 : Option Addr) (c0_2 : Nat) (l0_2 : List Bool) (A0_3 : Option Addr) (c0_3 : Nat) (l0_3 : List Int) (A1_0 : Option Addr) (c1_0 : Nat) (l1_0 : List Int) (A1_1 : Option Addr) (c1_1 : Nat) (l1_1 : List Int) (A1_2 : Option Addr) (c1_2 : Nat) (l1_2 : List Bool) (A1_3 : Option Addr) (c1_3 : Nat) (l1_3 : List Int) (r : Bool) (w : World) (hr0_0 : Kd.C (Kd.int .i64) w A0_0 l0_0.length l0_0) (hc0_0 : l0_0.length ≤ c0_0) (hr0_1 : Kd.C (Kd.int .i64) w A0_1 l0_1.length l0_1) (hc0_1 : l0_1.length ≤ c0_1) (hr0_2 : Kd.C Kd.bool w A0_2 l0_2.length l0_2) (hc0_2 : l0_2.length ≤ c0_2) (hr0_3 : Kd.C (Kd.int .i64) w A0_3 l0_3.length l0_3) (hc0_3 : l0_3.length ≤ c0_3) (hr1_0 : Kd.C (Kd.int .i64) w A1_0 l1_0.length l1_0) (hc1_0 : l1_0.length ≤ c1_0) (hr1_1 : Kd.C (Kd.int .i64) w A1_1 l1_1.length l1_1) (hc1_1 : l1_1.length ≤ c1_1) (hr1_2 : Kd.C Kd.bool w A1_2 l1_2.length l1_2) (hc1_2 : l1_2.length ≤ c1_2) (hr1_3 : Kd.C (Kd.int .i64) w A1_3 l1_3.length l1_3) (hc1_3 : l1_3.length ≤ c1_3) (h : laws_eqFocus.f k l0_0 l0_1 l0_2 l0_3 l1_0 l1_1 l1_2 l1_3 = some r) :
  Calls Try.prog 12 #[.agg #[.slice A0_0 l0_0.length c0_0, .slice A0_1 l0_1.length c0_1, .slice A0_2 l0_2.length c0_2, .slice A0_3 l0_3.length c0_3], .agg #[.slice A1_0 l1_0.length c1_0, .slice A1_1 l1_1.length c1_1, .slice A1_2 l1_2.length c1_2, .slice A1_3 l1_3.length c1_3]] w fun e w' => e = .returned (.bool r) ∧ Below w.heap.size w w' := by
 have hu27 := Try.underlying27
 have HR0_0 := Ya hr0_0
 have HC0_0 := Ya hc0_0
 clear hr0_0 hc0_0
 have HR0_1 := Ya hr0_1
 have HC0_1 := Ya hc0_1
 clear hr0_1 hc0_1
 have HR0_2 := Ya hr0_2
 have HC0_2 := Ya hc0_2
 clear hr0_2 hc0_2
 have HR0_3 := Ya hr0_3
 have HC0_3 := Ya hc0_3
 clear hr0_3 hc0_3
 have HR1_0 := Ya hr1_0
 have HC1_0 := Ya hc1_0
 clear hr1_0 hc1_0
 have HR1_1 := Ya hr1_1
 have HC1_1 := Ya hc1_1
 clear hr1_1 hc1_1
 have HR1_2 := Ya hr1_2
 have HC1_2 := Ya hc1_2
 clear hr1_2 hc1_2
 have HR1_3 := Ya hr1_3
 have HC1_3 := Ya hc1_3
 clear hr1_3 hc1_3
 have HB := Ya (Below.refl w.heap.size w)
 have H : ((laws_eqIntS.f k l0_0 l1_0).bind fun t107 => (if t107 = true then ((laws_eqIntS.f k l0_1 l1_1).bind fun t108 => (if t108 = true then ((laws_eqBoolS.f k l0_2 l1_2).bind fun t109 => (if t109 = true then ((laws_eqIntS.f k l0_3 l1_3).bind fun t110 => (if t110 = true then (some true) else (some false))) else (some false))) else (some false))) else (some false))) = some r := h
 clear h
 replace H := Z33.mp H
 obtain ⟨t107, A30, H⟩ := H
 replace H : (if t107 = true then ((laws_eqIntS.f k l0_1 l1_1).bind fun t108 => (if t108 = true then ((laws_eqBoolS.f k l0_2 l1_2).bind fun t109 => (if t109 = true then ((laws_eqIntS.f k l0_3 l1_3).bind fun t110 => (if t110 = true then (some true) else (some false))) else (some false))) else (some false))) else (some false)) = some r := H
 have A3 := Ya A30
 clear A30
 by_cases c4 : t107 = true
 ·subst c4
  have H1 : ((laws_eqIntS.f k l0_1 l1_1).bind fun t108 => (if t108 = true then ((laws_eqBoolS.f k l0_2 l1_2).bind fun t109 => (if t109 = true then ((laws_eqIntS.f k l0_3 l1_3).bind fun t110 => (if t110 = true then (some true) else (some false))) else (some false))) else (some false))) = some r := by rw [if_pos rfl] at H; exact H
  clear H
  have H := H1
  clear H1
  replace H := Z33.mp H
  obtain ⟨t108, A50, H⟩ := H
  replace H : (if t108 = true then ((laws_eqBoolS.f k l0_2 l1_2).bind fun t109 => (if t109 = true then ((laws_eqIntS.f k l0_3 l1_3).bind fun t110 => (if t110 = true then (some true) else (some false))) else (some false))) else (some false)) = some r := H
  have A5 := Ya A50
  clear A50
  by_cases c6 : t108 = true
  ·subst c6
   have H1 : ((laws_eqBoolS.f k l0_2 l1_2).bind fun t109 => (if t109 = true then ((laws_eqIntS.f k l0_3 l1_3).bind fun t110 => (if t110 = true then (some true) else (some false))) else (some false))) = some r := by rw [if_pos rfl] at H; exact H
   clear H
   have H := H1
   clear H1
   replace H := Z33.mp H
   obtain ⟨t109, A70, H⟩ := H
   replace H : (if t109 = true then ((laws_eqIntS.f k l0_3 l1_3).bind fun t110 => (if t110 = true then (some true) else (some false))) else (some false)) = some r := H
   have A7 := Ya A70
   clear A70
   by_cases c8 : t109 = true
   ·subst c8
    have H1 : ((laws_eqIntS.f k l0_3 l1_3).bind fun t110 => (if t110 = true then (some true) else (some false))) = some r := by rw [if_pos rfl] at H; exact H
    clear H
    have H := H1
    clear H1
    replace H := Z33.mp H
    obtain ⟨t110, A90, H⟩ := H
    replace H : (if t110 = true then (some true) else (some false)) = some r := H
    have A9 := Ya A90
    clear A90
    by_cases c10 : t110 = true
    ·subst c10
     have H1 : (some true) = some r := by rw [if_pos rfl] at H; exact H
     clear H
     have H := H1
     clear H1
     obtain rfl := Option.some.inj H
     go_enter Try.func12, Try.ntmps12
     go_wp2_with (first | ((with_reducible refine gate_dst (N := 2) rfl ?_); refine Yx 2 #[.slice A0_0 l0_0.length c0_0, .slice A0_1 l0_1.length c0_1, .slice A0_2 l0_2.length c0_2, .slice A0_3 l0_3.length c0_3] 27 ?_; intro gb105 hg w11 hbox hb; have BK105 := Ya hbox; have GE105 := Yg hg; replace HB := Yh hb; clear hb hbox hg) | ((with_reducible refine gate_dst (N := 3) rfl ?_); refine Yx 3 #[.slice A1_0 l1_0.length c1_0, .slice A1_1 l1_1.length c1_1, .slice A1_2 l1_2.length c1_2, .slice A1_3 l1_3.length c1_3] 27 ?_; intro gb106 hg w12 hbox hb; have BK106 := Ya hbox; have GE106 := Yg hg; replace HB := Yh hb; have NB105_106 := Yn BK105 hg; have NB106_105 := Ym BK105 hg; replace BK105 := Yb BK105 hb; clear hb hbox hg; have hnb13 := NB105_106.out; have hnc13 := NB106_105.out; obtain ⟨hcz14_0, hcz14_1, hcz14_2, hcz14_3, hfz14_0, hfz14_1, hfz14_2, hfz14_3⟩ := Y4 BK105.out; obtain ⟨hcz15_0, hcz15_1, hcz15_2, hcz15_3, hfz15_0, hfz15_1, hfz15_2, hfz15_3⟩ := Y4 BK106.out) | ((with_reducible refine gate_callee (f := 37) rfl ?_); refine Yz 9 Try.func37 #[.slice A0_0 l0_0.length c0_0, .slice A1_0 l1_0.length c1_0] ?_; (with_reducible refine (laws_eqIntS.calls k _ _ l0_0 _ _ l1_0 true _ (Yc (Z19 HR0_0.out HB.out)) HC0_0.out (Yc (Z19 HR1_0.out HB.out)) HC1_0.out A3.out).mono ?_); rintro e w' ⟨rfl, ⟨nd, rfl⟩⟩; refine ⟨_, rfl, ?_⟩) | ((with_reducible refine gate_callee (f := 37) rfl ?_); refine Yz 15 Try.func37 #[.slice A0_1 l0_1.length c0_1, .slice A1_1 l1_1.length c1_1] ?_; (with_reducible refine (laws_eqIntS.calls k _ _ l0_1 _ _ l1_1 true _ ?side1 HC0_1.out ?side3 HC1_1.out A5.out).mono ?_); (case side1 => exact Yc (Z19 HR0_1.out Q0)); (case side3 => exact Yc (Z19 HR1_1.out Q0)); rintro e w' ⟨rfl, ⟨nd, rfl⟩⟩; refine ⟨_, rfl, ?_⟩) | ((with_reducible refine gate_callee (f := 38) rfl ?_); refine Yz 21 Try.func38 #[.slice A0_2 l0_2.length c0_2, .slice A1_2 l1_2.length c1_2] ?_; (with_reducible refine (laws_eqBoolS.calls k _ _ l0_2 _ _ l1_2 true _ ?side1 HC0_2.out ?side3 HC1_2.out A7.out).mono ?_); (case side1 => exact Yc (Z19 HR0_2.out Q0)); (case side3 => exact Yc (Z19 HR1_2.out Q0)); rintro e w' ⟨rfl, ⟨nd, rfl⟩⟩; refine ⟨_, rfl, ?_⟩) | ((with_reducible refine gate_callee (f := 37) rfl ?_); refine Yz 27 Try.func37 #[.slice A0_3 l0_3.length c0_3, .slice A1_3 l1_3.length c1_3] ?_; (with_reducible refine (laws_eqIntS.calls k _ _ l0_3 _ _ l1_3 true _ ?side1 HC0_3.out ?side3 HC1_3.out A9.out).mono ?_); (case side1 => exact Yc (Z19 HR0_3.out Q0)); (case side3 => exact Yc (Z19 HR1_3.out Q0)); rintro e w' ⟨rfl, ⟨nd, rfl⟩⟩; refine ⟨_, rfl, ?_⟩))
     go_ret
     exact ⟨Q2, Q12⟩
    ·replace c10 := Bool.eq_false_iff.mpr c10
     subst c10
     have H1 : (some false) = some r := by rw [if_neg (show ¬ (false = true) by decide)] at H; exact H
     clear H
     have H := H1
     clear H1
     obtain rfl := Option.some.inj H
     go_enter Try.func12, Try.ntmps12
     go_wp2_with (first | ((with_reducible refine gate_dst (N := 2) rfl ?_); refine Yx 2 #[.slice A0_0 l0_0.length c0_0, .slice A0_1 l0_1.length c0_1, .slice A0_2 l0_2.length c0_2, .slice A0_3 l0_3.length c0_3] 27 ?_; intro gb105 hg w16 hbox hb; have BK105 := Ya hbox; have GE105 := Yg hg; replace HB := Yh hb; clear hb hbox hg) | ((with_reducible refine gate_dst (N := 3) rfl ?_); refine Yx 3 #[.slice A1_0 l1_0.length c1_0, .slice A1_1 l1_1.length c1_1, .slice A1_2 l1_2.length c1_2, .slice A1_3 l1_3.length c1_3] 27 ?_; intro gb106 hg w17 hbox hb; have BK106 := Ya hbox; have GE106 := Yg hg; replace HB := Yh hb; have NB105_106 := Yn BK105 hg; have NB106_105 := Ym BK105 hg; replace BK105 := Yb BK105 hb; clear hb hbox hg; have hnb18 := NB105_106.out; have hnc18 := NB106_105.out; obtain ⟨hcz19_0, hcz19_1, hcz19_2, hcz19_3, hfz19_0, hfz19_1, hfz19_2, hfz19_3⟩ := Y4 BK105.out; obtain ⟨hcz20_0, hcz20_1, hcz20_2, hcz20_3, hfz20_0, hfz20_1, hfz20_2, hfz20_3⟩ := Y4 BK106.out) | ((with_reducible refine gate_callee (f := 37) rfl ?_); refine Yz 9 Try.func37 #[.slice A0_0 l0_0.length c0_0, .slice A1_0 l1_0.length c1_0] ?_; (with_reducible refine (laws_eqIntS.calls k _ _ l0_0 _ _ l1_0 true _ (Yc (Z19 HR0_0.out HB.out)) HC0_0.out (Yc (Z19 HR1_0.out HB.out)) HC1_0.out A3.out).mono ?_); rintro e w' ⟨rfl, ⟨nd, rfl⟩⟩; refine ⟨_, rfl, ?_⟩) | ((with_reducible refine gate_callee (f := 37) rfl ?_); refine Yz 15 Try.func37 #[.slice A0_1 l0_1.length c0_1, .slice A1_1 l1_1.length c1_1] ?_; (with_reducible refine (laws_eqIntS.calls k _ _ l0_1 _ _ l1_1 true _ ?side1 HC0_1.out ?side3 HC1_1.out A5.out).mono ?_); (case side1 => exact Yc (Z19 HR0_1.out Q0)); (case side3 => exact Yc (Z19 HR1_1.out Q0)); rintro e w' ⟨rfl, ⟨nd, rfl⟩⟩; refine ⟨_, rfl, ?_⟩) | ((with_reducible refine gate_callee (f := 38) rfl ?_); refine Yz 21 Try.func38 #[.slice A0_2 l0_2.length c0_2, .slice A1_2 l1_2.length c1_2] ?_; (with_reducible refine (laws_eqBoolS.calls k _ _ l0_2 _ _ l1_2 true _ ?side1 HC0_2.out ?side3 HC1_2.out A7.out).mono ?_); (case side1 => exact Yc (Z19 HR0_2.out Q0)); (case side3 => exact Yc (Z19 HR1_2.out Q0)); rintro e w' ⟨rfl, ⟨nd, rfl⟩⟩; refine ⟨_, rfl, ?_⟩) | ((with_reducible refine gate_callee (f := 37) rfl ?_); refine Yz 27 Try.func37 #[.slice A0_3 l0_3.length c0_3, .slice A1_3 l1_3.length c1_3] ?_; (with_reducible refine (laws_eqIntS.calls k _ _ l0_3 _ _ l1_3 false _ ?side1 HC0_3.out ?side3 HC1_3.out A9.out).mono ?_); (case side1 => exact Yc (Z19 HR0_3.out Q0)); (case side3 => exact Yc (Z19 HR1_3.out Q0)); rintro e w' ⟨rfl, ⟨nd, rfl⟩⟩; refine ⟨_, rfl, ?_⟩))
     go_ret
     exact ⟨Q2, Q12⟩
   ·replace c8 := Bool.eq_false_iff.mpr c8
    subst c8
    have H1 : (some false) = some r := by rw [if_neg (show ¬ (false = true) by decide)] at H; exact H
    clear H
    have H := H1
    clear H1
    obtain rfl := Option.some.inj H
    go_enter Try.func12, Try.ntmps12
    go_wp2_with (first | ((with_reducible refine gate_dst (N := 2) rfl ?_); refine Yx 2 #[.slice A0_0 l0_0.length c0_0, .slice A0_1 l0_1.length c0_1, .slice A0_2 l0_2.length c0_2, .slice A0_3 l0_3.length c0_3] 27 ?_; intro gb105 hg w21 hbox hb; have BK105 := Ya hbox; have GE105 := Yg hg; replace HB := Yh hb; clear hb hbox hg) | ((with_reducible refine gate_dst (N := 3) rfl ?_); refine Yx 3 #[.slice A1_0 l1_0.length c1_0, .slice A1_1 l1_1.length c1_1, .slice A1_2 l1_2.length c1_2, .slice A1_3 l1_3.length c1_3] 27 ?_; intro gb106 hg w22 hbox hb; have BK106 := Ya hbox; have GE106 := Yg hg; replace HB := Yh hb; have NB105_106 := Yn BK105 hg; have NB106_105 := Ym BK105 hg; replace BK105 := Yb BK105 hb; clear hb hbox hg; have hnb23 := NB105_106.out; have hnc23 := NB106_105.out; obtain ⟨hcz24_0, hcz24_1, hcz24_2, hcz24_3, hfz24_0, hfz24_1, hfz24_2, hfz24_3⟩ := Y4 BK105.out; have hz25 := Y4 BK106.out) | ((with_reducible refine gate_callee (f := 37) rfl ?_); refine Yz 9 Try.func37 #[.slice A0_0 l0_0.length c0_0, .slice A1_0 l1_0.length c1_0] ?_; (with_reducible refine (laws_eqIntS.calls k _ _ l0_0 _ _ l1_0 true _ (Yc (Z19 HR0_0.out HB.out)) HC0_0.out (Yc (Z19 HR1_0.out HB.out)) HC1_0.out A3.out).mono ?_); rintro e w' ⟨rfl, ⟨nd, rfl⟩⟩; refine ⟨_, rfl, ?_⟩) | ((with_reducible refine gate_callee (f := 37) rfl ?_); refine Yz 15 Try.func37 #[.slice A0_1 l0_1.length c0_1, .slice A1_1 l1_1.length c1_1] ?_; (with_reducible refine (laws_eqIntS.calls k _ _ l0_1 _ _ l1_1 true _ ?side1 HC0_1.out ?side3 HC1_1.out A5.out).mono ?_); (case side1 => exact Yc (Z19 HR0_1.out Q0)); (case side3 => exact Yc (Z19 HR1_1.out Q0)); rintro e w' ⟨rfl, ⟨nd, rfl⟩⟩; refine ⟨_, rfl, ?_⟩) | ((with_reducible refine gate_callee (f := 38) rfl ?_); refine Yz 21 Try.func38 #[.slice A0_2 l0_2.length c0_2, .slice A1_2 l1_2.length c1_2] ?_; (with_reducible refine (laws_eqBoolS.calls k _ _ l0_2 _ _ l1_2 false _ ?side1 HC0_2.out ?side3 HC1_2.out A7.out).mono ?_); (case side1 => exact Yc (Z19 HR0_2.out Q0)); (case side3 => exact Yc (Z19 HR1_2.out Q0)); rintro e w' ⟨rfl, ⟨nd, rfl⟩⟩; refine ⟨_, rfl, ?_⟩))
    go_ret
    exact ⟨Q2, Q12⟩
  ·replace c6 := Bool.eq_false_iff.mpr c6
   subst c6
   have H1 : (some false) = some r := by rw [if_neg (show ¬ (false = true) by decide)] at H; exact H
   clear H
   have H := H1
   clear H1
   obtain rfl := Option.some.inj H
   go_enter Try.func12, Try.ntmps12
   go_wp2_with (first | ((with_reducible refine gate_dst (N := 2) rfl ?_); refine Yx 2 #[.slice A0_0 l0_0.length c0_0, .slice A0_1 l0_1.length c0_1, .slice A0_2 l0_2.length c0_2, .slice A0_3 l0_3.length c0_3] 27 ?_; intro gb105 hg w26 hbox hb; have BK105 := Ya hbox; have GE105 := Yg hg; replace HB := Yh hb; clear hb hbox hg) | ((with_reducible refine gate_dst (N := 3) rfl ?_); refine Yx 3 #[.slice A1_0 l1_0.length c1_0, .slice A1_1 l1_1.length c1_1, .slice A1_2 l1_2.length c1_2, .slice A1_3 l1_3.length c1_3] 27 ?_; intro gb106 hg w27 hbox hb; have BK106 := Ya hbox; have GE106 := Yg hg; replace HB := Yh hb; have NB105_106 := Yn BK105 hg; have NB106_105 := Ym BK105 hg; replace BK105 := Yb BK105 hb; clear hb hbox hg; have hnb28 := NB105_106.out; have hnc28 := NB106_105.out; obtain ⟨hcz29_0, hcz29_1, hcz29_2, hcz29_3, hfz29_0, hfz29_1, hfz29_2, hfz29_3⟩ := Y4 BK105.out; have hz30 := Y4 BK106.out) | ((with_reducible refine gate_callee (f := 37) rfl ?_); refine Yz 9 Try.func37 #[.slice A0_0 l0_0.length c0_0, .slice A1_0 l1_0.length c1_0] ?_; (with_reducible refine (laws_eqIntS.calls k _ _ l0_0 _ _ l1_0 true _ (Yc (Z19 HR0_0.out HB.out)) HC0_0.out (Yc (Z19 HR1_0.out HB.out)) HC1_0.out A3.out).mono ?_); rintro e w' ⟨rfl, ⟨nd, rfl⟩⟩; refine ⟨_, rfl, ?_⟩) | ((with_reducible refine gate_callee (f := 37) rfl ?_); refine Yz 15 Try.func37 #[.slice A0_1 l0_1.length c0_1, .slice A1_1 l1_1.length c1_1] ?_; (with_reducible refine (laws_eqIntS.calls k _ _ l0_1 _ _ l1_1 false _ ?side1 HC0_1.out ?side3 HC1_1.out A5.out).mono ?_); (case side1 => exact Yc (Z19 HR0_1.out Q0)); (case side3 => exact Yc (Z19 HR1_1.out Q0)); rintro e w' ⟨rfl, ⟨nd, rfl⟩⟩; refine ⟨_, rfl, ?_⟩))
   go_ret
   exact ⟨Q2, Q12⟩
 ·replace c4 := Bool.eq_false_iff.mpr c4
  subst c4
  have H1 : (some false) = some r := by rw [if_neg (show ¬ (false = true) by decide)] at H; exact H
  clear H
  have H := H1
  clear H1
  obtain rfl := Option.some.inj H
  go_enter Try.func12, Try.ntmps12
  go_wp2_with (first | ((with_reducible refine gate_dst (N := 2) rfl ?_); refine Yx 2 #[.slice A0_0 l0_0.length c0_0, .slice A0_1 l0_1.length c0_1, .slice A0_2 l0_2.length c0_2, .slice A0_3 l0_3.length c0_3] 27 ?_; intro gb105 hg w31 hbox hb; have BK105 := Ya hbox; have GE105 := Yg hg; replace HB := Yh hb; clear hb hbox hg) | ((with_reducible refine gate_dst (N := 3) rfl ?_); refine Yx 3 #[.slice A1_0 l1_0.length c1_0, .slice A1_1 l1_1.length c1_1, .slice A1_2 l1_2.length c1_2, .slice A1_3 l1_3.length c1_3] 27 ?_; intro gb106 hg w32 hbox hb; have BK106 := Ya hbox; have GE106 := Yg hg; replace HB := Yh hb; have NB105_106 := Yn BK105 hg; have NB106_105 := Ym BK105 hg; replace BK105 := Yb BK105 hb; clear hb hbox hg; have hnb33 := NB105_106.out; have hnc33 := NB106_105.out; have hz34 := Y4 BK105.out; have hz35 := Y4 BK106.out) | ((with_reducible refine gate_callee (f := 37) rfl ?_); refine Yz 9 Try.func37 #[.slice A0_0 l0_0.length c0_0, .slice A1_0 l1_0.length c1_0] ?_; (with_reducible refine (laws_eqIntS.calls k _ _ l0_0 _ _ l1_0 false _ (Yc (Z19 HR0_0.out HB.out)) HC0_0.out (Yc (Z19 HR1_0.out HB.out)) HC1_0.out A3.out).mono ?_); rintro e w' ⟨rfl, ⟨nd, rfl⟩⟩; refine ⟨_, rfl, ?_⟩))
  go_ret
  exact ⟨Q2, Q12⟩
def laws_eqSwapper.f (k : Nat) (l0_0 : List Int) (l0_1 : List Int) (l0_2 : List Bool) (l0_3 : List Int) (l0_4 : List Int) (l0_5 : List Int) (l1_0 : List Int) (l1_1 : List Int) (l1_2 : List Bool) (l1_3 : List Int) (l1_4 : List Int) (l1_5 : List Int) : Option (Bool) := (laws_eqFocus.f k l0_0 l0_1 l0_2 l0_3 l1_0 l1_1 l1_2 l1_3).bind fun t113 => (if t113 = true then ((laws_eqIntS.f k l0_4 l1_4).bind fun t114 => (if t114 = true then ((laws_eqIntS.f k l0_5 l1_5).bind fun t115 => (if t115 = true then (some true) else (some false))) else (some false))) else (some false))
theorem laws_eqSwapper.mono : ∀ a0 a1 a2 a3 a4 a5 a6 a7 a8 a9 a10 a11 k, LeO (laws_eqSwapper.f k a0 a1 a2 a3 a4 a5 a6 a7 a8 a9 a10 a11) (laws_eqSwapper.f (k + 1) a0 a1 a2 a3 a4 a5 a6 a7 a8 a9 a10 a11) := by
 intro a0 a1 a2 a3 a4 a5 a6 a7 a8 a9 a10 a11 k
 unfold laws_eqSwapper.f
 repeat' first
   | (with_reducible exact laws_eqFocus.mono _ _ _ _ _ _ _ _ _)
   | (with_reducible exact laws_eqIntS.mono _ _ _)
   | (with_reducible exact LeO.refl _)
   | (with_reducible exact LeO.none _)
   | (with_reducible refine LeO.ite ?_ ?_)
   | (with_reducible refine LeO.bind ?_ (fun _ => ?_))
   | exact laws_eqFocus.mono _ _ _ _ _ _ _ _ _
   | exact laws_eqIntS.mono _ _ _
   | exact LeO.none _
   | refine LeO.ite ?_ ?_
   | refine LeO.bind ?_ (fun _ => ?_)
set_option maxHeartbeats 8000000 in
set_option maxRecDepth 100000 in
theorem laws_eqSwapper.calls (k : Nat) (A0_0 : Option Addr) (c0_0 : Nat) (l0_0 : List Int) (A0_1 : Option Addr) (c0_1 : Nat) (l0_1 : List Int) (A0_2 : Option Addr) (c0_2 : Nat) (l0_2 : List Bool) (A0_3 : Option Addr) (c0_3 : Nat) (l0_3 : List Int) (A0_4 : Option Addr) (c0_4 : Nat) (l0_4 : List Int) (A0_5 : Option Addr) (c0_5 : Nat) (l0_5 : List Int) (A1_0 : Option Addr) (c1_0 : Nat) (l1_0 : List Int) (A1_1 : Option Addr) (c1_1 : Nat) (l1_1 : List Int) (A1_2 : Option Addr) (c1_2 : Nat) (l1_2 : List Bool) (A1_3 : Option Addr) (c1_3 : Nat) (l1_3 : List Int) (A1_4 : Option Addr) (c1_4 : Nat) (l1_4 : List Int) (A1_5 : Option Addr) (c1_5 : Nat) (l1_5 : List Int) (r : Bool) (w : World) (hr0_0 : Kd.C (Kd.int .i64) w A0_0 l0_0.length l0_0) (hc0_0 : l0_0.length ≤ c0_0) (hr0_1 : Kd.C (Kd.int .i64) w A0_1 l0_1.length l0_1) (hc0_1 : l0_1.length ≤ c0_1) (hr0_2 : Kd.C Kd.bool w A0_2 l0_2.length l0_2) (hc0_2 : l0_2.length ≤ c0_2) (hr0_3 : Kd.C (Kd.int .i64) w A0_3 l0_3.length l0_3) (hc0_3 : l0_3.length ≤ c0_3) (hr0_4 : Kd.C (Kd.int .i64) w A0_4 l0_4.length l0_4) (hc0_4 : l0_4.length ≤ c0_4) (hr0_5 : Kd.C (Kd.int .i64) w A0_5 l0_5.length l0_5) (hc0_5 : l0_5.length ≤ c0_5) (hr1_0 : Kd.C (Kd.int .i64) w A1_0 l1_0.length l1_0) (hc1_0 : l1_0.length ≤ c1_0) (hr1_1 : Kd.C (Kd.int .i64) w A1_1 l1_1.length l1_1) (hc1_1 : l1_1.length ≤ c1_1) (hr1_2 : Kd.C Kd.bool w A1_2 l1_2.length l1_2) (hc1_2 : l1_2.length ≤ c1_2) (hr1_3 : Kd.C (Kd.int .i64) w A1_3 l1_3.length l1_3) (hc1_3 : l1_3.length ≤ c1_3) (hr1_4 : Kd.C (Kd.int .i64) w A1_4 l1_4.length l1_4) (hc1_4 : l1_4.length ≤ c1_4) (hr1_5 : Kd.C (Kd.int .i64) w A1_5 l1_5.length l1_5) (hc1_5 : l1_5.length ≤ c1_5) (h : laws_eqSwapper.f k l0_0 l0_1 l0_2 l0_3 l0_4 l0_5 l1_0 l1_1 l1_2 l1_3 l1_4 l1_5 = some r) :
  Calls Try.prog 17 #[.agg #[.slice A0_0 l0_0.length c0_0, .slice A0_1 l0_1.length c0_1, .slice A0_2 l0_2.length c0_2, .slice A0_3 l0_3.length c0_3, .slice A0_4 l0_4.length c0_4, .slice A0_5 l0_5.length c0_5], .agg #[.slice A1_0 l1_0.length c1_0, .slice A1_1 l1_1.length c1_1, .slice A1_2 l1_2.length c1_2, .slice A1_3 l1_3.length c1_3, .slice A1_4 l1_4.length c1_4, .slice A1_5 l1_5.length c1_5]] w fun e w' => e = .returned (.bool r) ∧ Below w.heap.size w w' := by
 have hu35 := Try.underlying35
 have hu27 := Try.underlying27
 have HR0_0 := Ya hr0_0
 have HC0_0 := Ya hc0_0
 clear hr0_0 hc0_0
 have HR0_1 := Ya hr0_1
 have HC0_1 := Ya hc0_1
 clear hr0_1 hc0_1
 have HR0_2 := Ya hr0_2
 have HC0_2 := Ya hc0_2
 clear hr0_2 hc0_2
 have HR0_3 := Ya hr0_3
 have HC0_3 := Ya hc0_3
 clear hr0_3 hc0_3
 have HR0_4 := Ya hr0_4
 have HC0_4 := Ya hc0_4
 clear hr0_4 hc0_4
 have HR0_5 := Ya hr0_5
 have HC0_5 := Ya hc0_5
 clear hr0_5 hc0_5
 have HR1_0 := Ya hr1_0
 have HC1_0 := Ya hc1_0
 clear hr1_0 hc1_0
 have HR1_1 := Ya hr1_1
 have HC1_1 := Ya hc1_1
 clear hr1_1 hc1_1
 have HR1_2 := Ya hr1_2
 have HC1_2 := Ya hc1_2
 clear hr1_2 hc1_2
 have HR1_3 := Ya hr1_3
 have HC1_3 := Ya hc1_3
 clear hr1_3 hc1_3
 have HR1_4 := Ya hr1_4
 have HC1_4 := Ya hc1_4
 clear hr1_4 hc1_4
 have HR1_5 := Ya hr1_5
 have HC1_5 := Ya hc1_5
 clear hr1_5 hc1_5
 have HB := Ya (Below.refl w.heap.size w)
 have H : ((laws_eqFocus.f k l0_0 l0_1 l0_2 l0_3 l1_0 l1_1 l1_2 l1_3).bind fun t113 => (if t113 = true then ((laws_eqIntS.f k l0_4 l1_4).bind fun t114 => (if t114 = true then ((laws_eqIntS.f k l0_5 l1_5).bind fun t115 => (if t115 = true then (some true) else (some false))) else (some false))) else (some false))) = some r := h
 clear h
 replace H := Z33.mp H
 obtain ⟨t113, A30, H⟩ := H
 replace H : (if t113 = true then ((laws_eqIntS.f k l0_4 l1_4).bind fun t114 => (if t114 = true then ((laws_eqIntS.f k l0_5 l1_5).bind fun t115 => (if t115 = true then (some true) else (some false))) else (some false))) else (some false)) = some r := H
 have A3 := Ya A30
 clear A30
 by_cases c4 : t113 = true
 ·subst c4
  have H1 : ((laws_eqIntS.f k l0_4 l1_4).bind fun t114 => (if t114 = true then ((laws_eqIntS.f k l0_5 l1_5).bind fun t115 => (if t115 = true then (some true) else (some false))) else (some false))) = some r := by rw [if_pos rfl] at H; exact H
  clear H
  have H := H1
  clear H1
  replace H := Z33.mp H
  obtain ⟨t114, A50, H⟩ := H
  replace H : (if t114 = true then ((laws_eqIntS.f k l0_5 l1_5).bind fun t115 => (if t115 = true then (some true) else (some false))) else (some false)) = some r := H
  have A5 := Ya A50
  clear A50
  by_cases c6 : t114 = true
  ·subst c6
   have H1 : ((laws_eqIntS.f k l0_5 l1_5).bind fun t115 => (if t115 = true then (some true) else (some false))) = some r := by rw [if_pos rfl] at H; exact H
   clear H
   have H := H1
   clear H1
   replace H := Z33.mp H
   obtain ⟨t115, A70, H⟩ := H
   replace H : (if t115 = true then (some true) else (some false)) = some r := H
   have A7 := Ya A70
   clear A70
   by_cases c8 : t115 = true
   ·subst c8
    have H1 : (some true) = some r := by rw [if_pos rfl] at H; exact H
    clear H
    have H := H1
    clear H1
    obtain rfl := Option.some.inj H
    go_enter Try.func17, Try.ntmps17
    go_wp2_with (first | ((with_reducible refine gate_dst (N := 2) rfl ?_); refine Yx 2 #[.slice A0_0 l0_0.length c0_0, .slice A0_1 l0_1.length c0_1, .slice A0_2 l0_2.length c0_2, .slice A0_3 l0_3.length c0_3, .slice A0_4 l0_4.length c0_4, .slice A0_5 l0_5.length c0_5] 35 ?_; intro gb111 hg w9 hbox hb; have BK111 := Ya hbox; have GE111 := Yg hg; replace HB := Yh hb; clear hb hbox hg) | ((with_reducible refine gate_dst (N := 3) rfl ?_); refine Yx 3 #[.slice A1_0 l1_0.length c1_0, .slice A1_1 l1_1.length c1_1, .slice A1_2 l1_2.length c1_2, .slice A1_3 l1_3.length c1_3, .slice A1_4 l1_4.length c1_4, .slice A1_5 l1_5.length c1_5] 35 ?_; intro gb112 hg w10 hbox hb; have BK112 := Ya hbox; have GE112 := Yg hg; replace HB := Yh hb; have NB111_112 := Yn BK111 hg; have NB112_111 := Ym BK111 hg; replace BK111 := Yb BK111 hb; clear hb hbox hg; have hnb11 := NB111_112.out; have hnc11 := NB112_111.out; have hz12 := Y6 BK111.out; obtain ⟨hcz13_0, hcz13_1, hcz13_2, hcz13_3, hcz13_4, hcz13_5, hfz13_0, hfz13_1, hfz13_2, hfz13_3, hfz13_4, hfz13_5⟩ := Y6 BK112.out) | ((with_reducible refine gate_callee (f := 12) rfl ?_); refine Yz 9 Try.func12 #[.agg #[.slice A0_0 l0_0.length c0_0, .slice A0_1 l0_1.length c0_1, .slice A0_2 l0_2.length c0_2, .slice A0_3 l0_3.length c0_3], .agg #[.slice A1_0 l1_0.length c1_0, .slice A1_1 l1_1.length c1_1, .slice A1_2 l1_2.length c1_2, .slice A1_3 l1_3.length c1_3]] ?_; (with_reducible refine (laws_eqFocus.calls k _ _ l0_0 _ _ l0_1 _ _ l0_2 _ _ l0_3 _ _ l1_0 _ _ l1_1 _ _ l1_2 _ _ l1_3 true _ (Yc (Z19 HR0_0.out HB.out)) HC0_0.out (Yc (Z19 HR0_1.out HB.out)) HC0_1.out (Yc (Z19 HR0_2.out HB.out)) HC0_2.out (Yc (Z19 HR0_3.out HB.out)) HC0_3.out (Yc (Z19 HR1_0.out HB.out)) HC1_0.out (Yc (Z19 HR1_1.out HB.out)) HC1_1.out (Yc (Z19 HR1_2.out HB.out)) HC1_2.out (Yc (Z19 HR1_3.out HB.out)) HC1_3.out A3.out).mono ?_); rintro e w14 ⟨rfl, hb⟩; refine ⟨_, rfl, ?_⟩; replace BK111 := Yb BK111 hb; replace BK112 := Yb BK112 hb; replace HB := Yh hb; (try clear hb); obtain ⟨hcz15_0, hcz15_1, hcz15_2, hcz15_3, hcz15_4, hcz15_5, hfz15_0, hfz15_1, hfz15_2, hfz15_3, hfz15_4, hfz15_5⟩ := Y6 BK111.out; have hz16 := Y6 BK112.out) | ((with_reducible refine gate_callee (f := 37) rfl ?_); refine Yz 15 Try.func37 #[.slice A0_4 l0_4.length c0_4, .slice A1_4 l1_4.length c1_4] ?_; (with_reducible refine (laws_eqIntS.calls k _ _ l0_4 _ _ l1_4 true _ (Yc (Z19 HR0_4.out HB.out)) HC0_4.out (Yc (Z19 HR1_4.out HB.out)) HC1_4.out A5.out).mono ?_); rintro e w' ⟨rfl, ⟨nd, rfl⟩⟩; refine ⟨_, rfl, ?_⟩) | ((with_reducible refine gate_callee (f := 37) rfl ?_); refine Yz 21 Try.func37 #[.slice A0_5 l0_5.length c0_5, .slice A1_5 l1_5.length c1_5] ?_; (with_reducible refine (laws_eqIntS.calls k _ _ l0_5 _ _ l1_5 true _ ?side1 HC0_5.out ?side3 HC1_5.out A7.out).mono ?_); (case side1 => exact Yc (Z19 HR0_5.out Q0)); (case side3 => exact Yc (Z19 HR1_5.out Q0)); rintro e w' ⟨rfl, ⟨nd, rfl⟩⟩; refine ⟨_, rfl, ?_⟩))
    go_ret
    exact ⟨Q2, Q12⟩
   ·replace c8 := Bool.eq_false_iff.mpr c8
    subst c8
    have H1 : (some false) = some r := by rw [if_neg (show ¬ (false = true) by decide)] at H; exact H
    clear H
    have H := H1
    clear H1
    obtain rfl := Option.some.inj H
    go_enter Try.func17, Try.ntmps17
    go_wp2_with (first | ((with_reducible refine gate_dst (N := 2) rfl ?_); refine Yx 2 #[.slice A0_0 l0_0.length c0_0, .slice A0_1 l0_1.length c0_1, .slice A0_2 l0_2.length c0_2, .slice A0_3 l0_3.length c0_3, .slice A0_4 l0_4.length c0_4, .slice A0_5 l0_5.length c0_5] 35 ?_; intro gb111 hg w17 hbox hb; have BK111 := Ya hbox; have GE111 := Yg hg; replace HB := Yh hb; clear hb hbox hg) | ((with_reducible refine gate_dst (N := 3) rfl ?_); refine Yx 3 #[.slice A1_0 l1_0.length c1_0, .slice A1_1 l1_1.length c1_1, .slice A1_2 l1_2.length c1_2, .slice A1_3 l1_3.length c1_3, .slice A1_4 l1_4.length c1_4, .slice A1_5 l1_5.length c1_5] 35 ?_; intro gb112 hg w18 hbox hb; have BK112 := Ya hbox; have GE112 := Yg hg; replace HB := Yh hb; have NB111_112 := Yn BK111 hg; have NB112_111 := Ym BK111 hg; replace BK111 := Yb BK111 hb; clear hb hbox hg; have hnb19 := NB111_112.out; have hnc19 := NB112_111.out; obtain ⟨hcz20_0, hcz20_1, hcz20_2, hcz20_3, hcz20_4, hcz20_5, hfz20_0, hfz20_1, hfz20_2, hfz20_3, hfz20_4, hfz20_5⟩ := Y6 BK111.out; obtain ⟨hcz21_0, hcz21_1, hcz21_2, hcz21_3, hcz21_4, hcz21_5, hfz21_0, hfz21_1, hfz21_2, hfz21_3, hfz21_4, hfz21_5⟩ := Y6 BK112.out) | ((with_reducible refine gate_callee (f := 12) rfl ?_); refine Yz 9 Try.func12 #[.agg #[.slice A0_0 l0_0.length c0_0, .slice A0_1 l0_1.length c0_1, .slice A0_2 l0_2.length c0_2, .slice A0_3 l0_3.length c0_3], .agg #[.slice A1_0 l1_0.length c1_0, .slice A1_1 l1_1.length c1_1, .slice A1_2 l1_2.length c1_2, .slice A1_3 l1_3.length c1_3]] ?_; (with_reducible refine (laws_eqFocus.calls k _ _ l0_0 _ _ l0_1 _ _ l0_2 _ _ l0_3 _ _ l1_0 _ _ l1_1 _ _ l1_2 _ _ l1_3 true _ (Yc (Z19 HR0_0.out HB.out)) HC0_0.out (Yc (Z19 HR0_1.out HB.out)) HC0_1.out (Yc (Z19 HR0_2.out HB.out)) HC0_2.out (Yc (Z19 HR0_3.out HB.out)) HC0_3.out (Yc (Z19 HR1_0.out HB.out)) HC1_0.out (Yc (Z19 HR1_1.out HB.out)) HC1_1.out (Yc (Z19 HR1_2.out HB.out)) HC1_2.out (Yc (Z19 HR1_3.out HB.out)) HC1_3.out A3.out).mono ?_); rintro e w22 ⟨rfl, hb⟩; refine ⟨_, rfl, ?_⟩; replace BK111 := Yb BK111 hb; replace BK112 := Yb BK112 hb; replace HB := Yh hb; (try clear hb); obtain ⟨hcz23_0, hcz23_1, hcz23_2, hcz23_3, hcz23_4, hcz23_5, hfz23_0, hfz23_1, hfz23_2, hfz23_3, hfz23_4, hfz23_5⟩ := Y6 BK111.out; obtain ⟨hcz24_0, hcz24_1, hcz24_2, hcz24_3, hcz24_4, hcz24_5, hfz24_0, hfz24_1, hfz24_2, hfz24_3, hfz24_4, hfz24_5⟩ := Y6 BK112.out) | ((with_reducible refine gate_callee (f := 37) rfl ?_); refine Yz 15 Try.func37 #[.slice A0_4 l0_4.length c0_4, .slice A1_4 l1_4.length c1_4] ?_; (with_reducible refine (laws_eqIntS.calls k _ _ l0_4 _ _ l1_4 true _ (Yc (Z19 HR0_4.out HB.out)) HC0_4.out (Yc (Z19 HR1_4.out HB.out)) HC1_4.out A5.out).mono ?_); rintro e w' ⟨rfl, ⟨nd, rfl⟩⟩; refine ⟨_, rfl, ?_⟩) | ((with_reducible refine gate_callee (f := 37) rfl ?_); refine Yz 21 Try.func37 #[.slice A0_5 l0_5.length c0_5, .slice A1_5 l1_5.length c1_5] ?_; (with_reducible refine (laws_eqIntS.calls k _ _ l0_5 _ _ l1_5 false _ ?side1 HC0_5.out ?side3 HC1_5.out A7.out).mono ?_); (case side1 => exact Yc (Z19 HR0_5.out Q0)); (case side3 => exact Yc (Z19 HR1_5.out Q0)); rintro e w' ⟨rfl, ⟨nd, rfl⟩⟩; refine ⟨_, rfl, ?_⟩))
    go_ret
    exact ⟨Q2, Q12⟩
  ·replace c6 := Bool.eq_false_iff.mpr c6
   subst c6
   have H1 : (some false) = some r := by rw [if_neg (show ¬ (false = true) by decide)] at H; exact H
   clear H
   have H := H1
   clear H1
   obtain rfl := Option.some.inj H
   go_enter Try.func17, Try.ntmps17
   go_wp2_with (first | ((with_reducible refine gate_dst (N := 2) rfl ?_); refine Yx 2 #[.slice A0_0 l0_0.length c0_0, .slice A0_1 l0_1.length c0_1, .slice A0_2 l0_2.length c0_2, .slice A0_3 l0_3.length c0_3, .slice A0_4 l0_4.length c0_4, .slice A0_5 l0_5.length c0_5] 35 ?_; intro gb111 hg w25 hbox hb; have BK111 := Ya hbox; have GE111 := Yg hg; replace HB := Yh hb; clear hb hbox hg) | ((with_reducible refine gate_dst (N := 3) rfl ?_); refine Yx 3 #[.slice A1_0 l1_0.length c1_0, .slice A1_1 l1_1.length c1_1, .slice A1_2 l1_2.length c1_2, .slice A1_3 l1_3.length c1_3, .slice A1_4 l1_4.length c1_4, .slice A1_5 l1_5.length c1_5] 35 ?_; intro gb112 hg w26 hbox hb; have BK112 := Ya hbox; have GE112 := Yg hg; replace HB := Yh hb; have NB111_112 := Yn BK111 hg; have NB112_111 := Ym BK111 hg; replace BK111 := Yb BK111 hb; clear hb hbox hg; have hnb27 := NB111_112.out; have hnc27 := NB112_111.out; have hz28 := Y6 BK111.out; obtain ⟨hcz29_0, hcz29_1, hcz29_2, hcz29_3, hcz29_4, hcz29_5, hfz29_0, hfz29_1, hfz29_2, hfz29_3, hfz29_4, hfz29_5⟩ := Y6 BK112.out) | ((with_reducible refine gate_callee (f := 12) rfl ?_); refine Yz 9 Try.func12 #[.agg #[.slice A0_0 l0_0.length c0_0, .slice A0_1 l0_1.length c0_1, .slice A0_2 l0_2.length c0_2, .slice A0_3 l0_3.length c0_3], .agg #[.slice A1_0 l1_0.length c1_0, .slice A1_1 l1_1.length c1_1, .slice A1_2 l1_2.length c1_2, .slice A1_3 l1_3.length c1_3]] ?_; (with_reducible refine (laws_eqFocus.calls k _ _ l0_0 _ _ l0_1 _ _ l0_2 _ _ l0_3 _ _ l1_0 _ _ l1_1 _ _ l1_2 _ _ l1_3 true _ (Yc (Z19 HR0_0.out HB.out)) HC0_0.out (Yc (Z19 HR0_1.out HB.out)) HC0_1.out (Yc (Z19 HR0_2.out HB.out)) HC0_2.out (Yc (Z19 HR0_3.out HB.out)) HC0_3.out (Yc (Z19 HR1_0.out HB.out)) HC1_0.out (Yc (Z19 HR1_1.out HB.out)) HC1_1.out (Yc (Z19 HR1_2.out HB.out)) HC1_2.out (Yc (Z19 HR1_3.out HB.out)) HC1_3.out A3.out).mono ?_); rintro e w30 ⟨rfl, hb⟩; refine ⟨_, rfl, ?_⟩; replace BK111 := Yb BK111 hb; replace BK112 := Yb BK112 hb; replace HB := Yh hb; (try clear hb); have hz31 := Y6 BK111.out; have hz32 := Y6 BK112.out) | ((with_reducible refine gate_callee (f := 37) rfl ?_); refine Yz 15 Try.func37 #[.slice A0_4 l0_4.length c0_4, .slice A1_4 l1_4.length c1_4] ?_; (with_reducible refine (laws_eqIntS.calls k _ _ l0_4 _ _ l1_4 false _ (Yc (Z19 HR0_4.out HB.out)) HC0_4.out (Yc (Z19 HR1_4.out HB.out)) HC1_4.out A5.out).mono ?_); rintro e w' ⟨rfl, ⟨nd, rfl⟩⟩; refine ⟨_, rfl, ?_⟩))
   go_ret
   exact ⟨Q2, Q12⟩
 ·replace c4 := Bool.eq_false_iff.mpr c4
  subst c4
  have H1 : (some false) = some r := by rw [if_neg (show ¬ (false = true) by decide)] at H; exact H
  clear H
  have H := H1
  clear H1
  obtain rfl := Option.some.inj H
  go_enter Try.func17, Try.ntmps17
  go_wp2_with (first | ((with_reducible refine gate_dst (N := 2) rfl ?_); refine Yx 2 #[.slice A0_0 l0_0.length c0_0, .slice A0_1 l0_1.length c0_1, .slice A0_2 l0_2.length c0_2, .slice A0_3 l0_3.length c0_3, .slice A0_4 l0_4.length c0_4, .slice A0_5 l0_5.length c0_5] 35 ?_; intro gb111 hg w33 hbox hb; have BK111 := Ya hbox; have GE111 := Yg hg; replace HB := Yh hb; clear hb hbox hg) | ((with_reducible refine gate_dst (N := 3) rfl ?_); refine Yx 3 #[.slice A1_0 l1_0.length c1_0, .slice A1_1 l1_1.length c1_1, .slice A1_2 l1_2.length c1_2, .slice A1_3 l1_3.length c1_3, .slice A1_4 l1_4.length c1_4, .slice A1_5 l1_5.length c1_5] 35 ?_; intro gb112 hg w34 hbox hb; have BK112 := Ya hbox; have GE112 := Yg hg; replace HB := Yh hb; have NB111_112 := Yn BK111 hg; have NB112_111 := Ym BK111 hg; replace BK111 := Yb BK111 hb; clear hb hbox hg; have hnb35 := NB111_112.out; have hnc35 := NB112_111.out; have hz36 := Y6 BK111.out; have hz37 := Y6 BK112.out) | ((with_reducible refine gate_callee (f := 12) rfl ?_); refine Yz 9 Try.func12 #[.agg #[.slice A0_0 l0_0.length c0_0, .slice A0_1 l0_1.length c0_1, .slice A0_2 l0_2.length c0_2, .slice A0_3 l0_3.length c0_3], .agg #[.slice A1_0 l1_0.length c1_0, .slice A1_1 l1_1.length c1_1, .slice A1_2 l1_2.length c1_2, .slice A1_3 l1_3.length c1_3]] ?_; (with_reducible refine (laws_eqFocus.calls k _ _ l0_0 _ _ l0_1 _ _ l0_2 _ _ l0_3 _ _ l1_0 _ _ l1_1 _ _ l1_2 _ _ l1_3 false _ (Yc (Z19 HR0_0.out HB.out)) HC0_0.out (Yc (Z19 HR0_1.out HB.out)) HC0_1.out (Yc (Z19 HR0_2.out HB.out)) HC0_2.out (Yc (Z19 HR0_3.out HB.out)) HC0_3.out (Yc (Z19 HR1_0.out HB.out)) HC1_0.out (Yc (Z19 HR1_1.out HB.out)) HC1_1.out (Yc (Z19 HR1_2.out HB.out)) HC1_2.out (Yc (Z19 HR1_3.out HB.out)) HC1_3.out A3.out).mono ?_); rintro e w38 ⟨rfl, hb⟩; refine ⟨_, rfl, ?_⟩; replace BK111 := Yb BK111 hb; replace BK112 := Yb BK112 hb; replace HB := Yh hb; (try clear hb)))
  go_ret
  exact ⟨Q2, Q12⟩
def laws_szIntS.f (l0 : List Int) (a1 : Int) : Option (Int) := if (wrap64 (a1 - (l0.length : Int))) < 0 then (some (-1)) else (some (wrap64 (a1 - (l0.length : Int))))
set_option maxHeartbeats 8000000 in
set_option maxRecDepth 100000 in
theorem laws_szIntS.calls (A0 : Option Addr) (c0 : Nat) (l0 : List Int) (a1 : Int) (r : Int) (w : World) (hr0 : Kd.C (Kd.int .i64) w A0 l0.length l0) (hc0 : l0.length ≤ c0) (h : laws_szIntS.f l0 a1 = some r) :
  Calls Try.prog 28 #[.slice A0 l0.length c0, .int .i64 a1] w fun e w' => e = .returned (.int .i64 r) ∧ Drawn0 w w' := by
 have HR0 := Ya hr0
 have HC0 := Ya hc0
 clear hr0 hc0
 have H : (if (wrap64 (a1 - (l0.length : Int))) < 0 then (some (-1)) else (some (wrap64 (a1 - (l0.length : Int))))) = some r := h
 clear h
 by_cases c3 : (wrap64 (a1 - (l0.length : Int))) < 0
 ·rw [if_pos c3] at H
  have c3b0 : decide ((wrap64 (a1 - (l0.length : Int))) < 0) = true := Z35 c3
  clear c3
  obtain rfl := Option.some.inj H
  go_enter Try.func28, Try.ntmps28
  go_wp2
  go_ret
  exact ⟨Q13, Q5⟩
 ·rw [if_neg c3] at H
  have c3b0 : decide ((wrap64 (a1 - (l0.length : Int))) < 0) = false := Z34 c3
  clear c3
  obtain rfl := Option.some.inj H
  go_enter Try.func28, Try.ntmps28
  go_wp2
  go_ret
  exact ⟨Q13, Q5⟩
def laws_szBoolS.f (l0 : List Bool) (a1 : Int) : Option (Int) := if (wrap64 (a1 - (l0.length : Int))) < 0 then (some (-1)) else (some (wrap64 (a1 - (l0.length : Int))))
set_option maxHeartbeats 8000000 in
set_option maxRecDepth 100000 in
theorem laws_szBoolS.calls (A0 : Option Addr) (c0 : Nat) (l0 : List Bool) (a1 : Int) (r : Int) (w : World) (hr0 : Kd.C Kd.bool w A0 l0.length l0) (hc0 : l0.length ≤ c0) (h : laws_szBoolS.f l0 a1 = some r) :
  Calls Try.prog 29 #[.slice A0 l0.length c0, .int .i64 a1] w fun e w' => e = .returned (.int .i64 r) ∧ Drawn0 w w' := by
 have HR0 := Ya hr0
 have HC0 := Ya hc0
 clear hr0 hc0
 have H : (if (wrap64 (a1 - (l0.length : Int))) < 0 then (some (-1)) else (some (wrap64 (a1 - (l0.length : Int))))) = some r := h
 clear h
 by_cases c3 : (wrap64 (a1 - (l0.length : Int))) < 0
 ·rw [if_pos c3] at H
  have c3b0 : decide ((wrap64 (a1 - (l0.length : Int))) < 0) = true := Z35 c3
  clear c3
  obtain rfl := Option.some.inj H
  go_enter Try.func29, Try.ntmps29
  go_wp2
  go_ret
  exact ⟨Q13, Q5⟩
 ·rw [if_neg c3] at H
  have c3b0 : decide ((wrap64 (a1 - (l0.length : Int))) < 0) = false := Z34 c3
  clear c3
  obtain rfl := Option.some.inj H
  go_enter Try.func29, Try.ntmps29
  go_wp2
  go_ret
  exact ⟨Q13, Q5⟩
def laws_szFocus.f (l0_0 : List Int) (l0_1 : List Int) (l0_2 : List Bool) (l0_3 : List Int) (a1 : Int) : Option (Int) := (laws_szIntS.f l0_0 a1).bind fun t117 => (if t117 < 0 then (some (-1)) else ((laws_szIntS.f l0_1 t117).bind fun t118 => (if t118 < 0 then (some (-1)) else ((laws_szBoolS.f l0_2 t118).bind fun t119 => (if t119 < 0 then (some (-1)) else ((laws_szIntS.f l0_3 t119).bind fun t120 => (if t120 < 0 then (some (-1)) else (some t120))))))))
set_option maxHeartbeats 8000000 in
set_option maxRecDepth 100000 in
theorem laws_szFocus.calls (A0_0 : Option Addr) (c0_0 : Nat) (l0_0 : List Int) (A0_1 : Option Addr) (c0_1 : Nat) (l0_1 : List Int) (A0_2 : Option Addr) (c0_2 : Nat) (l0_2 : List Bool) (A0_3 : Option Addr) (c0_3 : Nat) (l0_3 : List Int) (a1 : Int) (r : Int) (w : World) (hr0_0 : Kd.C (Kd.int .i64) w A0_0 l0_0.length l0_0) (hc0_0 : l0_0.length ≤ c0_0) (hr0_1 : Kd.C (Kd.int .i64) w A0_1 l0_1.length l0_1) (hc0_1 : l0_1.length ≤ c0_1) (hr0_2 : Kd.C Kd.bool w A0_2 l0_2.length l0_2) (hc0_2 : l0_2.length ≤ c0_2) (hr0_3 : Kd.C (Kd.int .i64) w A0_3 l0_3.length l0_3) (hc0_3 : l0_3.length ≤ c0_3) (h : laws_szFocus.f l0_0 l0_1 l0_2 l0_3 a1 = some r) :
  Calls Try.prog 8 #[.agg #[.slice A0_0 l0_0.length c0_0, .slice A0_1 l0_1.length c0_1, .slice A0_2 l0_2.length c0_2, .slice A0_3 l0_3.length c0_3], .int .i64 a1] w fun e w' => e = .returned (.int .i64 r) ∧ Below w.heap.size w w' := by
 have hu25 := Try.underlying25
 have HR0_0 := Ya hr0_0
 have HC0_0 := Ya hc0_0
 clear hr0_0 hc0_0
 have HR0_1 := Ya hr0_1
 have HC0_1 := Ya hc0_1
 clear hr0_1 hc0_1
 have HR0_2 := Ya hr0_2
 have HC0_2 := Ya hc0_2
 clear hr0_2 hc0_2
 have HR0_3 := Ya hr0_3
 have HC0_3 := Ya hc0_3
 clear hr0_3 hc0_3
 have HB := Ya (Below.refl w.heap.size w)
 have H : ((laws_szIntS.f l0_0 a1).bind fun t117 => (if t117 < 0 then (some (-1)) else ((laws_szIntS.f l0_1 t117).bind fun t118 => (if t118 < 0 then (some (-1)) else ((laws_szBoolS.f l0_2 t118).bind fun t119 => (if t119 < 0 then (some (-1)) else ((laws_szIntS.f l0_3 t119).bind fun t120 => (if t120 < 0 then (some (-1)) else (some t120))))))))) = some r := h
 clear h
 replace H := Z33.mp H
 obtain ⟨t117, A30, H⟩ := H
 replace H : (if t117 < 0 then (some (-1)) else ((laws_szIntS.f l0_1 t117).bind fun t118 => (if t118 < 0 then (some (-1)) else ((laws_szBoolS.f l0_2 t118).bind fun t119 => (if t119 < 0 then (some (-1)) else ((laws_szIntS.f l0_3 t119).bind fun t120 => (if t120 < 0 then (some (-1)) else (some t120)))))))) = some r := H
 have A3 := Ya A30
 clear A30
 by_cases c4 : t117 < 0
 ·rw [if_pos c4] at H
  have c4b0 : decide (t117 < 0) = true := Z35 c4
  clear c4
  obtain rfl := Option.some.inj H
  go_enter Try.func8, Try.ntmps8
  go_wp2_with (first | ((with_reducible refine gate_dst (N := 2) rfl ?_); refine Yx 2 #[.slice A0_0 l0_0.length c0_0, .slice A0_1 l0_1.length c0_1, .slice A0_2 l0_2.length c0_2, .slice A0_3 l0_3.length c0_3] 25 ?_; intro gb116 hg w5 hbox hb; have BK116 := Ya hbox; have GE116 := Yg hg; replace HB := Yh hb; clear hb hbox hg; obtain ⟨hcz6_0, hcz6_1, hcz6_2, hcz6_3, hfz6_0, hfz6_1, hfz6_2, hfz6_3⟩ := Y4 BK116.out) | ((with_reducible refine gate_callee (f := 28) rfl ?_); refine Yz 8 Try.func28 #[.slice A0_0 l0_0.length c0_0, .int .i64 a1] ?_; (with_reducible refine (laws_szIntS.calls _ _ l0_0 a1 t117 _ (Yc (Z19 HR0_0.out HB.out)) HC0_0.out A3.out).mono ?_); rintro e w' ⟨rfl, ⟨nd, rfl⟩⟩; refine ⟨_, rfl, ?_⟩))
  go_ret
  exact ⟨Q2, Q12⟩
 ·rw [if_neg c4] at H
  have c4b0 : decide (t117 < 0) = false := Z34 c4
  clear c4
  replace H := Z33.mp H
  obtain ⟨t118, A70, H⟩ := H
  replace H : (if t118 < 0 then (some (-1)) else ((laws_szBoolS.f l0_2 t118).bind fun t119 => (if t119 < 0 then (some (-1)) else ((laws_szIntS.f l0_3 t119).bind fun t120 => (if t120 < 0 then (some (-1)) else (some t120)))))) = some r := H
  have A7 := Ya A70
  clear A70
  by_cases c8 : t118 < 0
  ·rw [if_pos c8] at H
   have c8b0 : decide (t118 < 0) = true := Z35 c8
   clear c8
   obtain rfl := Option.some.inj H
   go_enter Try.func8, Try.ntmps8
   go_wp2_with (first | ((with_reducible refine gate_dst (N := 2) rfl ?_); refine Yx 2 #[.slice A0_0 l0_0.length c0_0, .slice A0_1 l0_1.length c0_1, .slice A0_2 l0_2.length c0_2, .slice A0_3 l0_3.length c0_3] 25 ?_; intro gb116 hg w9 hbox hb; have BK116 := Ya hbox; have GE116 := Yg hg; replace HB := Yh hb; clear hb hbox hg; have hz10 := Y4 BK116.out) | ((with_reducible refine gate_callee (f := 28) rfl ?_); refine Yz 8 Try.func28 #[.slice A0_0 l0_0.length c0_0, .int .i64 a1] ?_; (with_reducible refine (laws_szIntS.calls _ _ l0_0 a1 t117 _ (Yc (Z19 HR0_0.out HB.out)) HC0_0.out A3.out).mono ?_); rintro e w' ⟨rfl, ⟨nd, rfl⟩⟩; refine ⟨_, rfl, ?_⟩) | ((with_reducible refine gate_callee (f := 28) rfl ?_); refine Yz 14 Try.func28 #[.slice A0_1 l0_1.length c0_1, .int .i64 t117] ?_; (with_reducible refine (laws_szIntS.calls _ _ l0_1 t117 t118 _ ?side1 HC0_1.out A7.out).mono ?_); (case side1 => exact Yc (Z19 HR0_1.out Q0)); rintro e w' ⟨rfl, ⟨nd, rfl⟩⟩; refine ⟨_, rfl, ?_⟩))
   go_ret
   exact ⟨Q2, Q12⟩
  ·rw [if_neg c8] at H
   have c8b0 : decide (t118 < 0) = false := Z34 c8
   clear c8
   replace H := Z33.mp H
   obtain ⟨t119, A110, H⟩ := H
   replace H : (if t119 < 0 then (some (-1)) else ((laws_szIntS.f l0_3 t119).bind fun t120 => (if t120 < 0 then (some (-1)) else (some t120)))) = some r := H
   have A11 := Ya A110
   clear A110
   by_cases c12 : t119 < 0
   ·rw [if_pos c12] at H
    have c12b0 : decide (t119 < 0) = true := Z35 c12
    clear c12
    obtain rfl := Option.some.inj H
    go_enter Try.func8, Try.ntmps8
    go_wp2_with (first | ((with_reducible refine gate_dst (N := 2) rfl ?_); refine Yx 2 #[.slice A0_0 l0_0.length c0_0, .slice A0_1 l0_1.length c0_1, .slice A0_2 l0_2.length c0_2, .slice A0_3 l0_3.length c0_3] 25 ?_; intro gb116 hg w13 hbox hb; have BK116 := Ya hbox; have GE116 := Yg hg; replace HB := Yh hb; clear hb hbox hg; obtain ⟨hcz14_0, hcz14_1, hcz14_2, hcz14_3, hfz14_0, hfz14_1, hfz14_2, hfz14_3⟩ := Y4 BK116.out) | ((with_reducible refine gate_callee (f := 28) rfl ?_); refine Yz 8 Try.func28 #[.slice A0_0 l0_0.length c0_0, .int .i64 a1] ?_; (with_reducible refine (laws_szIntS.calls _ _ l0_0 a1 t117 _ (Yc (Z19 HR0_0.out HB.out)) HC0_0.out A3.out).mono ?_); rintro e w' ⟨rfl, ⟨nd, rfl⟩⟩; refine ⟨_, rfl, ?_⟩) | ((with_reducible refine gate_callee (f := 28) rfl ?_); refine Yz 14 Try.func28 #[.slice A0_1 l0_1.length c0_1, .int .i64 t117] ?_; (with_reducible refine (laws_szIntS.calls _ _ l0_1 t117 t118 _ ?side1 HC0_1.out A7.out).mono ?_); (case side1 => exact Yc (Z19 HR0_1.out Q0)); rintro e w' ⟨rfl, ⟨nd, rfl⟩⟩; refine ⟨_, rfl, ?_⟩) | ((with_reducible refine gate_callee (f := 29) rfl ?_); refine Yz 20 Try.func29 #[.slice A0_2 l0_2.length c0_2, .int .i64 t118] ?_; (with_reducible refine (laws_szBoolS.calls _ _ l0_2 t118 t119 _ ?side1 HC0_2.out A11.out).mono ?_); (case side1 => exact Yc (Z19 HR0_2.out Q0)); rintro e w' ⟨rfl, ⟨nd, rfl⟩⟩; refine ⟨_, rfl, ?_⟩))
    go_ret
    exact ⟨Q2, Q12⟩
   ·rw [if_neg c12] at H
    have c12b0 : decide (t119 < 0) = false := Z34 c12
    clear c12
    replace H := Z33.mp H
    obtain ⟨t120, A150, H⟩ := H
    replace H : (if t120 < 0 then (some (-1)) else (some t120)) = some r := H
    have A15 := Ya A150
    clear A150
    by_cases c16 : t120 < 0
    ·rw [if_pos c16] at H
     have c16b0 : decide (t120 < 0) = true := Z35 c16
     clear c16
     obtain rfl := Option.some.inj H
     go_enter Try.func8, Try.ntmps8
     go_wp2_with (first | ((with_reducible refine gate_dst (N := 2) rfl ?_); refine Yx 2 #[.slice A0_0 l0_0.length c0_0, .slice A0_1 l0_1.length c0_1, .slice A0_2 l0_2.length c0_2, .slice A0_3 l0_3.length c0_3] 25 ?_; intro gb116 hg w17 hbox hb; have BK116 := Ya hbox; have GE116 := Yg hg; replace HB := Yh hb; clear hb hbox hg; have hz18 := Y4 BK116.out) | ((with_reducible refine gate_callee (f := 28) rfl ?_); refine Yz 8 Try.func28 #[.slice A0_0 l0_0.length c0_0, .int .i64 a1] ?_; (with_reducible refine (laws_szIntS.calls _ _ l0_0 a1 t117 _ (Yc (Z19 HR0_0.out HB.out)) HC0_0.out A3.out).mono ?_); rintro e w' ⟨rfl, ⟨nd, rfl⟩⟩; refine ⟨_, rfl, ?_⟩) | ((with_reducible refine gate_callee (f := 28) rfl ?_); refine Yz 14 Try.func28 #[.slice A0_1 l0_1.length c0_1, .int .i64 t117] ?_; (with_reducible refine (laws_szIntS.calls _ _ l0_1 t117 t118 _ ?side1 HC0_1.out A7.out).mono ?_); (case side1 => exact Yc (Z19 HR0_1.out Q0)); rintro e w' ⟨rfl, ⟨nd, rfl⟩⟩; refine ⟨_, rfl, ?_⟩) | ((with_reducible refine gate_callee (f := 29) rfl ?_); refine Yz 20 Try.func29 #[.slice A0_2 l0_2.length c0_2, .int .i64 t118] ?_; (with_reducible refine (laws_szBoolS.calls _ _ l0_2 t118 t119 _ ?side1 HC0_2.out A11.out).mono ?_); (case side1 => exact Yc (Z19 HR0_2.out Q0)); rintro e w' ⟨rfl, ⟨nd, rfl⟩⟩; refine ⟨_, rfl, ?_⟩) | ((with_reducible refine gate_callee (f := 28) rfl ?_); refine Yz 26 Try.func28 #[.slice A0_3 l0_3.length c0_3, .int .i64 t119] ?_; (with_reducible refine (laws_szIntS.calls _ _ l0_3 t119 t120 _ ?side1 HC0_3.out A15.out).mono ?_); (case side1 => exact Yc (Z19 HR0_3.out Q0)); rintro e w' ⟨rfl, ⟨nd, rfl⟩⟩; refine ⟨_, rfl, ?_⟩))
     go_ret
     exact ⟨Q2, Q12⟩
    ·rw [if_neg c16] at H
     have c16b0 : decide (t120 < 0) = false := Z34 c16
     clear c16
     obtain rfl := Option.some.inj H
     go_enter Try.func8, Try.ntmps8
     go_wp2_with (first | ((with_reducible refine gate_dst (N := 2) rfl ?_); refine Yx 2 #[.slice A0_0 l0_0.length c0_0, .slice A0_1 l0_1.length c0_1, .slice A0_2 l0_2.length c0_2, .slice A0_3 l0_3.length c0_3] 25 ?_; intro gb116 hg w19 hbox hb; have BK116 := Ya hbox; have GE116 := Yg hg; replace HB := Yh hb; clear hb hbox hg; obtain ⟨hcz20_0, hcz20_1, hcz20_2, hcz20_3, hfz20_0, hfz20_1, hfz20_2, hfz20_3⟩ := Y4 BK116.out) | ((with_reducible refine gate_callee (f := 28) rfl ?_); refine Yz 8 Try.func28 #[.slice A0_0 l0_0.length c0_0, .int .i64 a1] ?_; (with_reducible refine (laws_szIntS.calls _ _ l0_0 a1 t117 _ (Yc (Z19 HR0_0.out HB.out)) HC0_0.out A3.out).mono ?_); rintro e w' ⟨rfl, ⟨nd, rfl⟩⟩; refine ⟨_, rfl, ?_⟩) | ((with_reducible refine gate_callee (f := 28) rfl ?_); refine Yz 14 Try.func28 #[.slice A0_1 l0_1.length c0_1, .int .i64 t117] ?_; (with_reducible refine (laws_szIntS.calls _ _ l0_1 t117 t118 _ ?side1 HC0_1.out A7.out).mono ?_); (case side1 => exact Yc (Z19 HR0_1.out Q0)); rintro e w' ⟨rfl, ⟨nd, rfl⟩⟩; refine ⟨_, rfl, ?_⟩) | ((with_reducible refine gate_callee (f := 29) rfl ?_); refine Yz 20 Try.func29 #[.slice A0_2 l0_2.length c0_2, .int .i64 t118] ?_; (with_reducible refine (laws_szBoolS.calls _ _ l0_2 t118 t119 _ ?side1 HC0_2.out A11.out).mono ?_); (case side1 => exact Yc (Z19 HR0_2.out Q0)); rintro e w' ⟨rfl, ⟨nd, rfl⟩⟩; refine ⟨_, rfl, ?_⟩) | ((with_reducible refine gate_callee (f := 28) rfl ?_); refine Yz 26 Try.func28 #[.slice A0_3 l0_3.length c0_3, .int .i64 t119] ?_; (with_reducible refine (laws_szIntS.calls _ _ l0_3 t119 t120 _ ?side1 HC0_3.out A15.out).mono ?_); (case side1 => exact Yc (Z19 HR0_3.out Q0)); rintro e w' ⟨rfl, ⟨nd, rfl⟩⟩; refine ⟨_, rfl, ?_⟩))
     go_ret
     exact ⟨Q2, Q12⟩
def laws_szSwapper.f (l0_0 : List Int) (l0_1 : List Int) (l0_2 : List Bool) (l0_3 : List Int) (l0_4 : List Int) (l0_5 : List Int) (a1 : Int) : Option (Int) := (laws_szFocus.f l0_0 l0_1 l0_2 l0_3 a1).bind fun t122 => (if t122 < 0 then (some (-1)) else ((laws_szIntS.f l0_4 t122).bind fun t123 => (if t123 < 0 then (some (-1)) else ((laws_szIntS.f l0_5 t123).bind fun t124 => (if t124 < 0 then (some (-1)) else (some t124))))))
set_option maxHeartbeats 8000000 in
set_option maxRecDepth 100000 in
theorem laws_szSwapper.calls (A0_0 : Option Addr) (c0_0 : Nat) (l0_0 : List Int) (A0_1 : Option Addr) (c0_1 : Nat) (l0_1 : List Int) (A0_2 : Option Addr) (c0_2 : Nat) (l0_2 : List Bool) (A0_3 : Option Addr) (c0_3 : Nat) (l0_3 : List Int) (A0_4 : Option Addr) (c0_4 : Nat) (l0_4 : List Int) (A0_5 : Option Addr) (c0_5 : Nat) (l0_5 : List Int) (a1 : Int) (r : Int) (w : World) (hr0_0 : Kd.C (Kd.int .i64) w A0_0 l0_0.length l0_0) (hc0_0 : l0_0.length ≤ c0_0) (hr0_1 : Kd.C (Kd.int .i64) w A0_1 l0_1.length l0_1) (hc0_1 : l0_1.length ≤ c0_1) (hr0_2 : Kd.C Kd.bool w A0_2 l0_2.length l0_2) (hc0_2 : l0_2.length ≤ c0_2) (hr0_3 : Kd.C (Kd.int .i64) w A0_3 l0_3.length l0_3) (hc0_3 : l0_3.length ≤ c0_3) (hr0_4 : Kd.C (Kd.int .i64) w A0_4 l0_4.length l0_4) (hc0_4 : l0_4.length ≤ c0_4) (hr0_5 : Kd.C (Kd.int .i64) w A0_5 l0_5.length l0_5) (hc0_5 : l0_5.length ≤ c0_5) (h : laws_szSwapper.f l0_0 l0_1 l0_2 l0_3 l0_4 l0_5 a1 = some r) :
  Calls Try.prog 20 #[.agg #[.slice A0_0 l0_0.length c0_0, .slice A0_1 l0_1.length c0_1, .slice A0_2 l0_2.length c0_2, .slice A0_3 l0_3.length c0_3, .slice A0_4 l0_4.length c0_4, .slice A0_5 l0_5.length c0_5], .int .i64 a1] w fun e w' => e = .returned (.int .i64 r) ∧ Below w.heap.size w w' := by
 have hu42 := Try.underlying42
 have hu25 := Try.underlying25
 have HR0_0 := Ya hr0_0
 have HC0_0 := Ya hc0_0
 clear hr0_0 hc0_0
 have HR0_1 := Ya hr0_1
 have HC0_1 := Ya hc0_1
 clear hr0_1 hc0_1
 have HR0_2 := Ya hr0_2
 have HC0_2 := Ya hc0_2
 clear hr0_2 hc0_2
 have HR0_3 := Ya hr0_3
 have HC0_3 := Ya hc0_3
 clear hr0_3 hc0_3
 have HR0_4 := Ya hr0_4
 have HC0_4 := Ya hc0_4
 clear hr0_4 hc0_4
 have HR0_5 := Ya hr0_5
 have HC0_5 := Ya hc0_5
 clear hr0_5 hc0_5
 have HB := Ya (Below.refl w.heap.size w)
 have H : ((laws_szFocus.f l0_0 l0_1 l0_2 l0_3 a1).bind fun t122 => (if t122 < 0 then (some (-1)) else ((laws_szIntS.f l0_4 t122).bind fun t123 => (if t123 < 0 then (some (-1)) else ((laws_szIntS.f l0_5 t123).bind fun t124 => (if t124 < 0 then (some (-1)) else (some t124))))))) = some r := h
 clear h
 replace H := Z33.mp H
 obtain ⟨t122, A30, H⟩ := H
 replace H : (if t122 < 0 then (some (-1)) else ((laws_szIntS.f l0_4 t122).bind fun t123 => (if t123 < 0 then (some (-1)) else ((laws_szIntS.f l0_5 t123).bind fun t124 => (if t124 < 0 then (some (-1)) else (some t124)))))) = some r := H
 have A3 := Ya A30
 clear A30
 by_cases c4 : t122 < 0
 ·rw [if_pos c4] at H
  have c4b0 : decide (t122 < 0) = true := Z35 c4
  clear c4
  obtain rfl := Option.some.inj H
  go_enter Try.func20, Try.ntmps20
  go_wp2_with (first | ((with_reducible refine gate_dst (N := 2) rfl ?_); refine Yx 2 #[.slice A0_0 l0_0.length c0_0, .slice A0_1 l0_1.length c0_1, .slice A0_2 l0_2.length c0_2, .slice A0_3 l0_3.length c0_3, .slice A0_4 l0_4.length c0_4, .slice A0_5 l0_5.length c0_5] 42 ?_; intro gb121 hg w5 hbox hb; have BK121 := Ya hbox; have GE121 := Yg hg; replace HB := Yh hb; clear hb hbox hg; obtain ⟨hcz6_0, hcz6_1, hcz6_2, hcz6_3, hcz6_4, hcz6_5, hfz6_0, hfz6_1, hfz6_2, hfz6_3, hfz6_4, hfz6_5⟩ := Y6 BK121.out) | ((with_reducible refine gate_callee (f := 8) rfl ?_); refine Yz 8 Try.func8 #[.agg #[.slice A0_0 l0_0.length c0_0, .slice A0_1 l0_1.length c0_1, .slice A0_2 l0_2.length c0_2, .slice A0_3 l0_3.length c0_3], .int .i64 a1] ?_; (with_reducible refine (laws_szFocus.calls _ _ l0_0 _ _ l0_1 _ _ l0_2 _ _ l0_3 a1 t122 _ (Yc (Z19 HR0_0.out HB.out)) HC0_0.out (Yc (Z19 HR0_1.out HB.out)) HC0_1.out (Yc (Z19 HR0_2.out HB.out)) HC0_2.out (Yc (Z19 HR0_3.out HB.out)) HC0_3.out A3.out).mono ?_); rintro e w7 ⟨rfl, hb⟩; refine ⟨_, rfl, ?_⟩; replace BK121 := Yb BK121 hb; replace HB := Yh hb; (try clear hb)))
  go_ret
  exact ⟨Q2, Q12⟩
 ·rw [if_neg c4] at H
  have c4b0 : decide (t122 < 0) = false := Z34 c4
  clear c4
  replace H := Z33.mp H
  obtain ⟨t123, A80, H⟩ := H
  replace H : (if t123 < 0 then (some (-1)) else ((laws_szIntS.f l0_5 t123).bind fun t124 => (if t124 < 0 then (some (-1)) else (some t124)))) = some r := H
  have A8 := Ya A80
  clear A80
  by_cases c9 : t123 < 0
  ·rw [if_pos c9] at H
   have c9b0 : decide (t123 < 0) = true := Z35 c9
   clear c9
   obtain rfl := Option.some.inj H
   go_enter Try.func20, Try.ntmps20
   go_wp2_with (first | ((with_reducible refine gate_dst (N := 2) rfl ?_); refine Yx 2 #[.slice A0_0 l0_0.length c0_0, .slice A0_1 l0_1.length c0_1, .slice A0_2 l0_2.length c0_2, .slice A0_3 l0_3.length c0_3, .slice A0_4 l0_4.length c0_4, .slice A0_5 l0_5.length c0_5] 42 ?_; intro gb121 hg w10 hbox hb; have BK121 := Ya hbox; have GE121 := Yg hg; replace HB := Yh hb; clear hb hbox hg; have hz11 := Y6 BK121.out) | ((with_reducible refine gate_callee (f := 8) rfl ?_); refine Yz 8 Try.func8 #[.agg #[.slice A0_0 l0_0.length c0_0, .slice A0_1 l0_1.length c0_1, .slice A0_2 l0_2.length c0_2, .slice A0_3 l0_3.length c0_3], .int .i64 a1] ?_; (with_reducible refine (laws_szFocus.calls _ _ l0_0 _ _ l0_1 _ _ l0_2 _ _ l0_3 a1 t122 _ (Yc (Z19 HR0_0.out HB.out)) HC0_0.out (Yc (Z19 HR0_1.out HB.out)) HC0_1.out (Yc (Z19 HR0_2.out HB.out)) HC0_2.out (Yc (Z19 HR0_3.out HB.out)) HC0_3.out A3.out).mono ?_); rintro e w12 ⟨rfl, hb⟩; refine ⟨_, rfl, ?_⟩; replace BK121 := Yb BK121 hb; replace HB := Yh hb; (try clear hb); obtain ⟨hcz13_0, hcz13_1, hcz13_2, hcz13_3, hcz13_4, hcz13_5, hfz13_0, hfz13_1, hfz13_2, hfz13_3, hfz13_4, hfz13_5⟩ := Y6 BK121.out) | ((with_reducible refine gate_callee (f := 28) rfl ?_); refine Yz 14 Try.func28 #[.slice A0_4 l0_4.length c0_4, .int .i64 t122] ?_; (with_reducible refine (laws_szIntS.calls _ _ l0_4 t122 t123 _ (Yc (Z19 HR0_4.out HB.out)) HC0_4.out A8.out).mono ?_); rintro e w' ⟨rfl, ⟨nd, rfl⟩⟩; refine ⟨_, rfl, ?_⟩))
   go_ret
   exact ⟨Q2, Q12⟩
  ·rw [if_neg c9] at H
   have c9b0 : decide (t123 < 0) = false := Z34 c9
   clear c9
   replace H := Z33.mp H
   obtain ⟨t124, A140, H⟩ := H
   replace H : (if t124 < 0 then (some (-1)) else (some t124)) = some r := H
   have A14 := Ya A140
   clear A140
   by_cases c15 : t124 < 0
   ·rw [if_pos c15] at H
    have c15b0 : decide (t124 < 0) = true := Z35 c15
    clear c15
    obtain rfl := Option.some.inj H
    go_enter Try.func20, Try.ntmps20
    go_wp2_with (first | ((with_reducible refine gate_dst (N := 2) rfl ?_); refine Yx 2 #[.slice A0_0 l0_0.length c0_0, .slice A0_1 l0_1.length c0_1, .slice A0_2 l0_2.length c0_2, .slice A0_3 l0_3.length c0_3, .slice A0_4 l0_4.length c0_4, .slice A0_5 l0_5.length c0_5] 42 ?_; intro gb121 hg w16 hbox hb; have BK121 := Ya hbox; have GE121 := Yg hg; replace HB := Yh hb; clear hb hbox hg; have hz17 := Y6 BK121.out) | ((with_reducible refine gate_callee (f := 8) rfl ?_); refine Yz 8 Try.func8 #[.agg #[.slice A0_0 l0_0.length c0_0, .slice A0_1 l0_1.length c0_1, .slice A0_2 l0_2.length c0_2, .slice A0_3 l0_3.length c0_3], .int .i64 a1] ?_; (with_reducible refine (laws_szFocus.calls _ _ l0_0 _ _ l0_1 _ _ l0_2 _ _ l0_3 a1 t122 _ (Yc (Z19 HR0_0.out HB.out)) HC0_0.out (Yc (Z19 HR0_1.out HB.out)) HC0_1.out (Yc (Z19 HR0_2.out HB.out)) HC0_2.out (Yc (Z19 HR0_3.out HB.out)) HC0_3.out A3.out).mono ?_); rintro e w18 ⟨rfl, hb⟩; refine ⟨_, rfl, ?_⟩; replace BK121 := Yb BK121 hb; replace HB := Yh hb; (try clear hb); obtain ⟨hcz19_0, hcz19_1, hcz19_2, hcz19_3, hcz19_4, hcz19_5, hfz19_0, hfz19_1, hfz19_2, hfz19_3, hfz19_4, hfz19_5⟩ := Y6 BK121.out) | ((with_reducible refine gate_callee (f := 28) rfl ?_); refine Yz 14 Try.func28 #[.slice A0_4 l0_4.length c0_4, .int .i64 t122] ?_; (with_reducible refine (laws_szIntS.calls _ _ l0_4 t122 t123 _ (Yc (Z19 HR0_4.out HB.out)) HC0_4.out A8.out).mono ?_); rintro e w' ⟨rfl, ⟨nd, rfl⟩⟩; refine ⟨_, rfl, ?_⟩) | ((with_reducible refine gate_callee (f := 28) rfl ?_); refine Yz 20 Try.func28 #[.slice A0_5 l0_5.length c0_5, .int .i64 t123] ?_; (with_reducible refine (laws_szIntS.calls _ _ l0_5 t123 t124 _ ?side1 HC0_5.out A14.out).mono ?_); (case side1 => exact Yc (Z19 HR0_5.out Q0)); rintro e w' ⟨rfl, ⟨nd, rfl⟩⟩; refine ⟨_, rfl, ?_⟩))
    go_ret
    exact ⟨Q2, Q12⟩
   ·rw [if_neg c15] at H
    have c15b0 : decide (t124 < 0) = false := Z34 c15
    clear c15
    obtain rfl := Option.some.inj H
    go_enter Try.func20, Try.ntmps20
    go_wp2_with (first | ((with_reducible refine gate_dst (N := 2) rfl ?_); refine Yx 2 #[.slice A0_0 l0_0.length c0_0, .slice A0_1 l0_1.length c0_1, .slice A0_2 l0_2.length c0_2, .slice A0_3 l0_3.length c0_3, .slice A0_4 l0_4.length c0_4, .slice A0_5 l0_5.length c0_5] 42 ?_; intro gb121 hg w20 hbox hb; have BK121 := Ya hbox; have GE121 := Yg hg; replace HB := Yh hb; clear hb hbox hg; obtain ⟨hcz21_0, hcz21_1, hcz21_2, hcz21_3, hcz21_4, hcz21_5, hfz21_0, hfz21_1, hfz21_2, hfz21_3, hfz21_4, hfz21_5⟩ := Y6 BK121.out) | ((with_reducible refine gate_callee (f := 8) rfl ?_); refine Yz 8 Try.func8 #[.agg #[.slice A0_0 l0_0.length c0_0, .slice A0_1 l0_1.length c0_1, .slice A0_2 l0_2.length c0_2, .slice A0_3 l0_3.length c0_3], .int .i64 a1] ?_; (with_reducible refine (laws_szFocus.calls _ _ l0_0 _ _ l0_1 _ _ l0_2 _ _ l0_3 a1 t122 _ (Yc (Z19 HR0_0.out HB.out)) HC0_0.out (Yc (Z19 HR0_1.out HB.out)) HC0_1.out (Yc (Z19 HR0_2.out HB.out)) HC0_2.out (Yc (Z19 HR0_3.out HB.out)) HC0_3.out A3.out).mono ?_); rintro e w22 ⟨rfl, hb⟩; refine ⟨_, rfl, ?_⟩; replace BK121 := Yb BK121 hb; replace HB := Yh hb; (try clear hb); obtain ⟨hcz23_0, hcz23_1, hcz23_2, hcz23_3, hcz23_4, hcz23_5, hfz23_0, hfz23_1, hfz23_2, hfz23_3, hfz23_4, hfz23_5⟩ := Y6 BK121.out) | ((with_reducible refine gate_callee (f := 28) rfl ?_); refine Yz 14 Try.func28 #[.slice A0_4 l0_4.length c0_4, .int .i64 t122] ?_; (with_reducible refine (laws_szIntS.calls _ _ l0_4 t122 t123 _ (Yc (Z19 HR0_4.out HB.out)) HC0_4.out A8.out).mono ?_); rintro e w' ⟨rfl, ⟨nd, rfl⟩⟩; refine ⟨_, rfl, ?_⟩) | ((with_reducible refine gate_callee (f := 28) rfl ?_); refine Yz 20 Try.func28 #[.slice A0_5 l0_5.length c0_5, .int .i64 t123] ?_; (with_reducible refine (laws_szIntS.calls _ _ l0_5 t123 t124 _ ?side1 HC0_5.out A14.out).mono ?_); (case side1 => exact Yc (Z19 HR0_5.out Q0)); rintro e w' ⟨rfl, ⟨nd, rfl⟩⟩; refine ⟨_, rfl, ?_⟩))
    go_ret
    exact ⟨Q2, Q12⟩
end Go.Proofs.Ytpfakdhfffehaaa.MFnExactSwapperRank
