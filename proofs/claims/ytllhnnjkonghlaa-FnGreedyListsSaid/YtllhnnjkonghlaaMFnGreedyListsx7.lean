import Derived.Test.YtllhnnjkonghlaaMFnGreedyListsx0
import Derived.Test.YtllhnnjkonghlaaMFnGreedyListsx1
import Derived.Test.YtllhnnjkonghlaaMFnGreedyListsx3
import Derived.Test.YtllhnnjkonghlaaMFnGreedyListsx6
namespace Go.Proofs.Ytllhnnjkonghlaa.MFnGreedyLists
open Go.RowKit Go.Proofs.YtllhnnjkonghlaaW.PrintWords Go.Proofs.YtllhnnjkonghlaaW.PrintLast Go.Proofs.YtllhnnjkonghlaaW.PrintMore
attribute [local go_sem] max2_int min2_int max_two min_two max_three min_three max_four min_four   
set_option linter.unusedVariables false
set_option linter.unusedSimpArgs false
def spec_l1Same.l0 : Nat → List Int → List Int → Int → Int → Option (Bool)
 | 0, _, _, _, _ => none
 | k + 1, x0, x1, x12, x13 => if x13 < x12 then (if 0 ≤ x13 then (if x13 < (x0.length : Int) then (if x13 < (x1.length : Int) then (if (rd x0 x13) = (rd x1 x13) then (spec_l1Same.l0 k x0 x1 x12 (wrap64 (x13 + 1))) else (some false)) else (none)) else (none)) else (none)) else (some true)
def spec_l1Same.f (k : Nat) (l0 : List Int) (l1 : List Int) : Option (Bool) := if (l0.length : Int) = (l1.length : Int) then (spec_l1Same.l0 k l0 l1 (l0.length : Int) 0) else (some false)
theorem spec_l1Same.mono_l : ∀ k, (∀ y0 y1 y2 y3, LeO (spec_l1Same.l0 k y0 y1 y2 y3) (spec_l1Same.l0 (k + 1) y0 y1 y2 y3))
 | 0 => fun _ _ _ _ r h => by simp [spec_l1Same.l0] at h
 | k + 1 => by
  have ih0 := spec_l1Same.mono_l k
  ·intro y0 y1 y2 y3
   unfold spec_l1Same.l0
   repeat' first
   | (with_reducible exact ih0 _ _ _ _)
   | (with_reducible exact LeO.refl _)
   | (with_reducible exact LeO.none _)
   | (with_reducible refine LeO.ite ?_ ?_)
   | (with_reducible refine LeO.bind ?_ (fun _ => ?_))
   | exact ih0 _ _ _ _
   | exact LeO.none _
   | refine LeO.ite ?_ ?_
   | refine LeO.bind ?_ (fun _ => ?_)
theorem spec_l1Same.mono : ∀ a0 a1 k, LeO (spec_l1Same.f k a0 a1) (spec_l1Same.f (k + 1) a0 a1) := by
 intro a0 a1 k
 have ih0 := spec_l1Same.mono_l k
 unfold spec_l1Same.f
 repeat' first
   | (with_reducible exact ih0 _ _ _ _)
   | (with_reducible exact LeO.refl _)
   | (with_reducible exact LeO.none _)
   | (with_reducible refine LeO.ite ?_ ?_)
   | (with_reducible refine LeO.bind ?_ (fun _ => ?_))
   | exact ih0 _ _ _ _
   | exact LeO.none _
   | refine LeO.ite ?_ ?_
   | refine LeO.bind ?_ (fun _ => ?_)
set_option maxHeartbeats 8000000 in
set_option maxRecDepth 100000 in
theorem spec_l1Same.calls (k : Nat) (A0 : Option Addr) (c0 : Nat) (l0 : List Int) (A1 : Option Addr) (c1 : Nat) (l1 : List Int) (r : Bool) (w : World) (hr0 : Kd.C (Kd.int .i64) w A0 l0.length l0) (hc0 : l0.length ≤ c0) (hr1 : Kd.C (Kd.int .i64) w A1 l1.length l1) (hc1 : l1.length ≤ c1) (h : spec_l1Same.f k l0 l1 = some r) :
  Calls Try.prog 99 #[.slice A0 l0.length c0, .slice A1 l1.length c1] w fun e w' => e = .returned (.bool r) ∧ Drawn0 w w' := by
 have HR0 := Ya hr0
 have HC0 := Ya hc0
 clear hr0 hc0
 have HR1 := Ya hr1
 have HC1 := Ya hc1
 clear hr1 hc1
 have H : (if (l0.length : Int) = (l1.length : Int) then (spec_l1Same.l0 k l0 l1 (l0.length : Int) 0) else (some false)) = some r := h
 clear h
 by_cases c3 : (l0.length : Int) = (l1.length : Int)
 ·rw [if_pos c3] at H
  have c3b0 : ((l0.length : Int) == (l1.length : Int)) = true := beq_iff_eq.mpr c3
  have c3b1 : ((l0.length : Int) != (l1.length : Int)) = false := bne_eq_false_iff_eq.mpr c3
  have c3b2 : (l0.length == l1.length) = true := by first | simpa using c3 | (simp at c3 ⊢; omega)
  clear c3
  have H' := Ya H
  clear H
  go_enter Try.func99, Try.ntmps99
  go_wp2
  repeat (go_quiet (fail); try go_wp2)
  go_loopg [13] k (fun kq v13 w' => ∃ (x13_1 : Int), v13 = .int .i64 x13_1 ∧ Aside0 (spec_l1Same.l0 kq l0 l1 (l0.length : Int) x13_1 = some r) ∧ Aside0 (kq ≤ k) ∧ Drawn0 w w')
  case atStart => exact ⟨(0), Q5, H', ⟨Nat.le_refl _⟩, Q7⟩
  case round =>
   clear H'
   try clear c1
   try clear p2
   try clear c3
   try clear c3b0
   try clear c3b1
   try clear c3b2
   obtain ⟨x13_1, rfl, HA, HK1, ⟨m1, rfl⟩⟩ := hrel
   cases gk with
   | zero => exact absurd HA.out (by simp [spec_l1Same.l0])
   | succ k1 =>
    have H := HA.out
    clear HA
    simp only [spec_l1Same.l0] at H
    by_cases c4 : x13_1 < (l0.length : Int)
    ·rw [if_pos c4] at H
     have c4b0 := Z37 c4
     clear c4
     by_cases c5 : 0 ≤ x13_1
     ·rw [if_pos c5] at H
      have c5b0 := Z37 c5
      clear c5
      by_cases c6 : x13_1 < (l0.length : Int)
      ·rw [if_pos c6] at H
       have c6b0 := Z37 c6
       clear c6
       by_cases c7 : x13_1 < (l1.length : Int)
       ·rw [if_pos c7] at H
        have c7b0 := Z37 c7
        clear c7
        by_cases c8 : (rd l0 x13_1) = (rd l1 x13_1)
        ·rw [if_pos c8] at H
         have c8b0 : ((rd l0 x13_1) == (rd l1 x13_1)) = true := beq_iff_eq.mpr c8
         have c8b1 : ((rd l0 x13_1) != (rd l1 x13_1)) = false := bne_eq_false_iff_eq.mpr c8
         clear c8
         have H' := Ya H
         clear H
         have p315 : 0 ≤ (x13_1 : Int) := Z29 Q1
         have q315 : x13_1 < (l0.length : Int) := Z29 Q1
         obtain ⟨ad315, e315, hx315_0⟩ := Kd.at_int HR0.out x13_1 p315 q315
         cases e315
         replace p315 := eq_true p315
         replace q315 := eq_true q315
         have p316 : 0 ≤ (x13_1 : Int) := Z29 Q1
         have q316 : x13_1 < (l1.length : Int) := Z29 Q1
         obtain ⟨ad316, e316, hx316_0⟩ := Kd.at_int HR1.out x13_1 p316 q316
         cases e316
         replace p316 := eq_true p316
         replace q316 := eq_true q316
         go_wp2
         repeat (go_quiet (fail); try go_wp2)
         go_roundg k1
         case measure => have := HK1.out; omega
         case rel => exact ⟨(wrap64 (x13_1 + 1)), Q5, H', ⟨Q28⟩, Q7⟩
        ·rw [if_neg c8] at H
         have c8b0 : ((rd l0 x13_1) == (rd l1 x13_1)) = false := beq_eq_false_iff_ne.mpr c8
         have c8b1 : ((rd l0 x13_1) != (rd l1 x13_1)) = true := bne_iff_ne.mpr c8
         obtain rfl := Option.some.inj H
         have p315 : 0 ≤ (x13_1 : Int) := Z29 Q1
         have q315 : x13_1 < (l0.length : Int) := Z29 Q1
         obtain ⟨ad315, e315, hx315_0⟩ := Kd.at_int HR0.out x13_1 p315 q315
         cases e315
         replace p315 := eq_true p315
         replace q315 := eq_true q315
         have p316 : 0 ≤ (x13_1 : Int) := Z29 Q1
         have q316 : x13_1 < (l1.length : Int) := Z29 Q1
         obtain ⟨ad316, e316, hx316_0⟩ := Kd.at_int HR1.out x13_1 p316 q316
         cases e316
         replace p316 := eq_true p316
         replace q316 := eq_true q316
         go_wp2
         repeat (go_quiet (fail); try go_wp2)
         go_ret
         exact ⟨Q18, Q7⟩
       ·rw [if_neg c7] at H
        exact absurd H (by simp)
      ·rw [if_neg c6] at H
       exact absurd H (by simp)
     ·rw [if_neg c5] at H
      exact absurd H (by simp)
    ·rw [if_neg c4] at H
     have c4b0 := Z36 c4
     clear c4
     obtain rfl := Option.some.inj H
     go_wp2
     repeat (go_quiet (fail); try go_wp2)
     go_ret
     exact ⟨Q18, Q7⟩
 ·rw [if_neg c3] at H
  have c3b0 : ((l0.length : Int) == (l1.length : Int)) = false := beq_eq_false_iff_ne.mpr c3
  have c3b1 : ((l0.length : Int) != (l1.length : Int)) = true := bne_iff_ne.mpr c3
  have c3b2 : (l0.length == l1.length) = false := by first | simpa using c3 | (simp at c3 ⊢; omega)
  obtain rfl := Option.some.inj H
  go_enter Try.func99, Try.ntmps99
  go_wp2
  repeat (go_quiet (fail); try go_wp2)
  go_ret
  exact ⟨Q18, Q7⟩
def spec_raPlace.l0 : Nat → List Int → List (List Int) → Int → Int → Option (Int)
 | 0, _, _, _, _ => none
 | k + 1, x1, x7, x8, x9 => if x9 < x8 then (if 0 ≤ x9 then (if x9 < (x7.length : Int) then ((spec_l1Same.f k (rd_L3 x7 x9) x1).bind fun t318 => (if t318 = true then (some x9) else (spec_raPlace.l0 k x1 x7 x8 (wrap64 (x9 + 1))))) else (none)) else (none)) else (some (-1))
def spec_raPlace.f (k : Nat) (l0 : List (List Int)) (l1 : List Int) : Option (Int) := spec_raPlace.l0 k l1 l0 (l0.length : Int) 0
theorem spec_raPlace.mono_l : ∀ k, (∀ y0 y1 y2 y3, LeO (spec_raPlace.l0 k y0 y1 y2 y3) (spec_raPlace.l0 (k + 1) y0 y1 y2 y3))
 | 0 => fun _ _ _ _ r h => by simp [spec_raPlace.l0] at h
 | k + 1 => by
  have ih0 := spec_raPlace.mono_l k
  ·intro y0 y1 y2 y3
   unfold spec_raPlace.l0
   repeat' first
   | (with_reducible exact ih0 _ _ _ _)
   | (with_reducible exact spec_l1Same.mono _ _ _)
   | (with_reducible exact LeO.refl _)
   | (with_reducible exact LeO.none _)
   | (with_reducible refine LeO.ite ?_ ?_)
   | (with_reducible refine LeO.bind ?_ (fun _ => ?_))
   | exact ih0 _ _ _ _
   | exact spec_l1Same.mono _ _ _
   | exact LeO.none _
   | refine LeO.ite ?_ ?_
   | refine LeO.bind ?_ (fun _ => ?_)
theorem spec_raPlace.mono : ∀ a0 a1 k, LeO (spec_raPlace.f k a0 a1) (spec_raPlace.f (k + 1) a0 a1) := by
 intro a0 a1 k
 have ih0 := spec_raPlace.mono_l k
 unfold spec_raPlace.f
 repeat' first
   | (with_reducible exact ih0 _ _ _ _)
   | (with_reducible exact spec_l1Same.mono _ _ _)
   | (with_reducible exact LeO.refl _)
   | (with_reducible exact LeO.none _)
   | (with_reducible refine LeO.ite ?_ ?_)
   | (with_reducible refine LeO.bind ?_ (fun _ => ?_))
   | exact ih0 _ _ _ _
   | exact spec_l1Same.mono _ _ _
   | exact LeO.none _
   | refine LeO.ite ?_ ?_
   | refine LeO.bind ?_ (fun _ => ?_)
set_option maxHeartbeats 8000000 in
set_option maxRecDepth 100000 in
theorem spec_raPlace.calls (k : Nat) (A0 : Option Addr) (c0 : Nat) (l0 : List (List Int)) (A1 : Option Addr) (c1 : Nat) (l1 : List Int) (r : Int) (w : World) (hr0 : Kd.C (Kd.slice 3 (Kd.int .i64)) w A0 l0.length l0) (hc0 : l0.length ≤ c0) (hr1 : Kd.C (Kd.int .i64) w A1 l1.length l1) (hc1 : l1.length ≤ c1) (h : spec_raPlace.f k l0 l1 = some r) :
  Calls Try.prog 82 #[.slice A0 l0.length c0, .slice A1 l1.length c1] w fun e w' => e = .returned (.int .i64 r) ∧ Drawn0 w w' := by
 have HR0 := Ya hr0
 have HC0 := Ya hc0
 clear hr0 hc0
 have HR1 := Ya hr1
 have HC1 := Ya hc1
 clear hr1 hc1
 have H : (spec_raPlace.l0 k l1 l0 (l0.length : Int) 0) = some r := h
 clear h
 have H' := Ya H
 clear H
 go_enter Try.func82, Try.ntmps82
 go_wp2
 go_loopg [9] k (fun kq v9 w' => ∃ (x9_1 : Int), v9 = .int .i64 x9_1 ∧ Aside0 (spec_raPlace.l0 kq l1 l0 (l0.length : Int) x9_1 = some r) ∧ Aside0 (kq ≤ k) ∧ Drawn0 w w')
 case atStart => exact ⟨(0), Q5, H', ⟨Nat.le_refl _⟩, Q7⟩
 case round =>
  clear H'
  try clear c1
  try clear p2
  obtain ⟨x9_1, rfl, HA, HK1, ⟨m1, rfl⟩⟩ := hrel
  cases gk with
  | zero => exact absurd HA.out (by simp [spec_raPlace.l0])
  | succ k1 =>
   have H := HA.out
   clear HA
   simp only [spec_raPlace.l0] at H
   by_cases c3 : x9_1 < (l0.length : Int)
   ·rw [if_pos c3] at H
    have c3b0 := Z37 c3
    clear c3
    by_cases c4 : 0 ≤ x9_1
    ·rw [if_pos c4] at H
     have c4b0 := Z37 c4
     clear c4
     by_cases c5 : x9_1 < (l0.length : Int)
     ·rw [if_pos c5] at H
      have c5b0 := Z37 c5
      clear c5
      replace H := Z35.mp H
      obtain ⟨t318, A60, H⟩ := H
      replace H : (if t318 = true then (some x9_1) else (spec_raPlace.l0 k1 l1 l0 (l0.length : Int) (wrap64 (x9_1 + 1)))) = some r := H
      have A6 := Ya A60
      clear A60
      by_cases c7 : t318 = true
      ·subst c7
       have H1 : (some x9_1) = some r := by rw [if_pos rfl] at H; exact H
       clear H
       have H := H1
       clear H1
       obtain rfl := Option.some.inj H
       have p317 : 0 ≤ (x9_1 : Int) := Z29 Q1
       have q317 : x9_1 < (l0.length : Int) := Z29 Q1
       obtain ⟨ad317, A317_0, c317_0, e317, hx317_0, hl317_0, hi317_0⟩ := at_L3 HR0.out x9_1 p317 q317
       cases e317
       have HR317_0 := Ya hi317_0
       have HC317_0 := Ya hl317_0
       clear hi317_0 hl317_0
       replace p317 := eq_true p317
       replace q317 := eq_true q317
       go_wp2_with (first | ((with_reducible refine gate_callee (f := 99) rfl ?_); refine Yz 16 Try.func99 #[.slice A317_0 (rd_L3 l0 x9_1).length c317_0, .slice A1 l1.length c1] ?_; (with_reducible refine (spec_l1Same.calls k1 _ _ (rd_L3 l0 x9_1) _ _ l1 true _ (Yc HR317_0.out) HC317_0.out (Yc HR1.out) HC1.out A6.out).mono ?_); rintro e w' ⟨rfl, ⟨nd, rfl⟩⟩; refine ⟨_, rfl, ?_⟩))
       go_ret
       exact ⟨Q18, Q7⟩
      ·replace c7 := Bool.eq_false_iff.mpr c7
       subst c7
       have H1 : (spec_raPlace.l0 k1 l1 l0 (l0.length : Int) (wrap64 (x9_1 + 1))) = some r := by rw [if_neg (show ¬ (false = true) by decide)] at H; exact H
       clear H
       have H := H1
       clear H1
       have H' := Ya H
       clear H
       have p317 : 0 ≤ (x9_1 : Int) := Z29 Q1
       have q317 : x9_1 < (l0.length : Int) := Z29 Q1
       obtain ⟨ad317, A317_0, c317_0, e317, hx317_0, hl317_0, hi317_0⟩ := at_L3 HR0.out x9_1 p317 q317
       cases e317
       have HR317_0 := Ya hi317_0
       have HC317_0 := Ya hl317_0
       clear hi317_0 hl317_0
       replace p317 := eq_true p317
       replace q317 := eq_true q317
       go_wp2_with (first | ((with_reducible refine gate_callee (f := 99) rfl ?_); refine Yz 16 Try.func99 #[.slice A317_0 (rd_L3 l0 x9_1).length c317_0, .slice A1 l1.length c1] ?_; (with_reducible refine (spec_l1Same.calls k1 _ _ (rd_L3 l0 x9_1) _ _ l1 false _ (Yc HR317_0.out) HC317_0.out (Yc HR1.out) HC1.out A6.out).mono ?_); rintro e w' ⟨rfl, ⟨nd, rfl⟩⟩; refine ⟨_, rfl, ?_⟩))
       go_roundg k1
       case measure => have := HK1.out; omega
       case rel => exact ⟨(wrap64 (x9_1 + 1)), Q5, H', ⟨Q28⟩, Q7⟩
     ·rw [if_neg c5] at H
      exact absurd H (by simp)
    ·rw [if_neg c4] at H
     exact absurd H (by simp)
   ·rw [if_neg c3] at H
    have c3b0 := Z36 c3
    clear c3
    obtain rfl := Option.some.inj H
    go_wp2
    go_ret
    exact ⟨Q18, Q7⟩
def spec_moNew.l0 : Nat → List (List Int) → List (S45) → Int → Int → Option (Int)
 | 0, _, _, _, _ => none
 | k + 1, x0, x7, x8, x9 => if x9 < x8 then (if 0 ≤ x9 then (if x9 < (x7.length : Int) then (if 0 ≤ (wrap64 ((x0.length : Int) - 1)) then (if (wrap64 ((x0.length : Int) - 1)) < (x0.length : Int) then ((spec_moApply.f k (rd_L3 x0 (wrap64 ((x0.length : Int) - 1))) ((rd_T45 x7 x9).f0) ((rd_T45 x7 x9).f1) ((rd_T45 x7 x9).f2)).bind fun t322 => ((spec_raPlace.f k x0 t322).bind fun t325 => (if t325 < 0 then (some x9) else (spec_moNew.l0 k x0 x7 x8 (wrap64 (x9 + 1)))))) else (none)) else (none)) else (none)) else (none)) else (some (-1))
def spec_moNew.f (k : Nat) (l0 : List (List Int)) (l1 : List (S45)) : Option (Int) := spec_moNew.l0 k l0 l1 (l1.length : Int) 0
theorem spec_moNew.mono_l : ∀ k, (∀ y0 y1 y2 y3, LeO (spec_moNew.l0 k y0 y1 y2 y3) (spec_moNew.l0 (k + 1) y0 y1 y2 y3))
 | 0 => fun _ _ _ _ r h => by simp [spec_moNew.l0] at h
 | k + 1 => by
  have ih0 := spec_moNew.mono_l k
  ·intro y0 y1 y2 y3
   unfold spec_moNew.l0
   repeat' first
   | (with_reducible exact ih0 _ _ _ _)
   | (with_reducible exact spec_moApply.mono _ _ _ _ _)
   | (with_reducible exact spec_raPlace.mono _ _ _)
   | (with_reducible exact LeO.refl _)
   | (with_reducible exact LeO.none _)
   | (with_reducible refine LeO.ite ?_ ?_)
   | (with_reducible refine LeO.bind ?_ (fun _ => ?_))
   | exact ih0 _ _ _ _
   | exact spec_moApply.mono _ _ _ _ _
   | exact spec_raPlace.mono _ _ _
   | exact LeO.none _
   | refine LeO.ite ?_ ?_
   | refine LeO.bind ?_ (fun _ => ?_)
theorem spec_moNew.mono : ∀ a0 a1 k, LeO (spec_moNew.f k a0 a1) (spec_moNew.f (k + 1) a0 a1) := by
 intro a0 a1 k
 have ih0 := spec_moNew.mono_l k
 unfold spec_moNew.f
 repeat' first
   | (with_reducible exact ih0 _ _ _ _)
   | (with_reducible exact spec_moApply.mono _ _ _ _ _)
   | (with_reducible exact spec_raPlace.mono _ _ _)
   | (with_reducible exact LeO.refl _)
   | (with_reducible exact LeO.none _)
   | (with_reducible refine LeO.ite ?_ ?_)
   | (with_reducible refine LeO.bind ?_ (fun _ => ?_))
   | exact ih0 _ _ _ _
   | exact spec_moApply.mono _ _ _ _ _
   | exact spec_raPlace.mono _ _ _
   | exact LeO.none _
   | refine LeO.ite ?_ ?_
   | refine LeO.bind ?_ (fun _ => ?_)
def spec_moNew.T4 : Bool × List (List Nat × List Nat) := (true, [([], []), ([], []), ([], []), ([2], [2]), ([3], [3]), ([1, 4], [1, 4]), ([5], [5]), ([], []), ([6, 7], [6, 7]), ([0, 8, 8], [0, 8]), ([9], [9])])
def spec_moNew.B4 : List Nat := [0, 0, 0, 4, 12, 30, 62, 0, 254, 511, 1023]
theorem spec_moNew.tab4 : rtab .any (opsOf Try.f75 4) = spec_moNew.T4 := by kernel_rfl
theorem spec_moNew.bits4 : waitsOk spec_moNew.T4.2 spec_moNew.B4 = true := by kernel_rfl
set_option maxHeartbeats 8000000 in
set_option maxRecDepth 100000 in
theorem spec_moNew.calls (k : Nat) (A0 : Option Addr) (c0 : Nat) (l0 : List (List Int)) (A1 : Option Addr) (c1 : Nat) (l1 : List (S45)) (r : Int) (w : World) (hr0 : Kd.C (Kd.slice 3 (Kd.int .i64)) w A0 l0.length l0) (hc0 : l0.length ≤ c0) (hr1 : Kd.C k45 w A1 l1.length l1) (hc1 : l1.length ≤ c1) (h : spec_moNew.f k l0 l1 = some r) :
  Calls Try.prog 75 #[.slice A0 l0.length c0, .slice A1 l1.length c1] w fun e w' => e = .returned (.int .i64 r) ∧ Below w.heap.size w w' := by
 have hu45 := Try.underlying45
 have HR0 := Ya hr0
 have HC0 := Ya hc0
 clear hr0 hc0
 have HR1 := Ya hr1
 have HC1 := Ya hc1
 clear hr1 hc1
 have HB := Ya (Below.refl w.heap.size w)
 have H : (spec_moNew.l0 k l0 l1 (l1.length : Int) 0) = some r := h
 clear h
 have H' := Ya H
 clear H
 go_enter Try.func75, Try.ntmps75
 go_wp2
 go_loopg [9] k (fun kq v9 w' => ∃ (x9_1 : Int), v9 = .int .i64 x9_1 ∧ Aside0 (spec_moNew.l0 kq l0 l1 (l1.length : Int) x9_1 = some r) ∧ Aside0 (kq ≤ k) ∧ Aside0 (Below w.heap.size w w'))
 case atStart => exact ⟨(0), Q5, H', ⟨Nat.le_refl _⟩, ⟨Q0⟩⟩
 case round =>
  clear H'
  try clear c1
  try clear p2
  obtain ⟨x9_1, rfl, HA, HK1, HB⟩ := hrel
  cases gk with
  | zero => exact absurd HA.out (by simp [spec_moNew.l0])
  | succ k1 =>
   have H := HA.out
   clear HA
   simp only [spec_moNew.l0] at H
   by_cases c3 : x9_1 < (l1.length : Int)
   ·rw [if_pos c3] at H
    have c3b0 := Z37 c3
    clear c3
    by_cases c4 : 0 ≤ x9_1
    ·rw [if_pos c4] at H
     have c4b0 := Z37 c4
     clear c4
     by_cases c5 : x9_1 < (l1.length : Int)
     ·rw [if_pos c5] at H
      have c5b0 := Z37 c5
      clear c5
      obtain ⟨ji6, hji6⟩ : ∃ j_ : Int, (wrap64 ((l0.length : Int) - 1)) = j_ := ⟨_, rfl⟩
      replace H : (if 0 ≤ (ji6) then (if (ji6) < (l0.length : Int) then ((spec_moApply.f k1 (rd_L3 l0 (ji6)) ((rd_T45 l1 x9_1).f0) ((rd_T45 l1 x9_1).f1) ((rd_T45 l1 x9_1).f2)).bind fun t322 => ((spec_raPlace.f k1 l0 t322).bind fun t325 => (if t325 < 0 then (some x9_1) else (spec_moNew.l0 k1 l0 l1 (l1.length : Int) (wrap64 (x9_1 + 1)))))) else (none)) else (none)) = some r := by first | (rw [hji6] at H; exact H) | (simp only [hji6] at H ⊢; exact H)
      have hji6w : (IntKind.i64.wrap ((l0.length : Int) - 1)) = ji6 := (i64_w _).trans hji6
      by_cases c7 : 0 ≤ (ji6)
      ·rw [if_pos c7] at H
       have c7b0 := Z37 c7
       clear c7
       by_cases c8 : (ji6) < (l0.length : Int)
       ·rw [if_pos c8] at H
        have c8b0 := Z37 c8
        clear c8
        replace H := Z35.mp H
        obtain ⟨t322, A90, H⟩ := H
        replace H : ((spec_raPlace.f k1 l0 t322).bind fun t325 => (if t325 < 0 then (some x9_1) else (spec_moNew.l0 k1 l0 l1 (l1.length : Int) (wrap64 (x9_1 + 1))))) = some r := H
        have A9 := Ya A90
        clear A90
        replace H := Z35.mp H
        obtain ⟨t325, A100, H⟩ := H
        replace H : (if t325 < 0 then (some x9_1) else (spec_moNew.l0 k1 l0 l1 (l1.length : Int) (wrap64 (x9_1 + 1)))) = some r := H
        have A10 := Ya A100
        clear A100
        by_cases c11 : t325 < 0
        ·rw [if_pos c11] at H
         have c11b0 := Z37 c11
         clear c11
         obtain rfl := Option.some.inj H
         have p319 : 0 ≤ (x9_1 : Int) := Z29 Q1
         have q319 : x9_1 < (l1.length : Int) := Z29 Q1
         obtain ⟨ad319, e319, hx319_0, hx319_1, hx319_2⟩ := at_T45 HR1.out x9_1 p319 q319
         cases e319
         try replace hx319_0 := (HB.out.cell (World.block_lt_of_cell? w _ hx319_0)).trans hx319_0
         try replace hx319_1 := (HB.out.cell (World.block_lt_of_cell? w _ hx319_1)).trans hx319_1
         try replace hx319_2 := (HB.out.cell (World.block_lt_of_cell? w _ hx319_2)).trans hx319_2
         replace p319 := eq_true p319
         replace q319 := eq_true q319
         try go_wp2_with (first | ((with_reducible refine gate_dst (N := 6) rfl ?_); refine Yx 6 #[.int .i64 0, .int .i64 0, .int .i64 0] 45 ?_; intro gb320 hg w12 hbox hb; have BK320 := Ya hbox; have GE320 := Yg hg; replace HB := Yh hb; clear hb hbox hg; have hcz13_0 : w12.cell? ⟨gb320, 0, none⟩ = some (.int .i64 0) := (Z22 BK320.out 0).trans rfl; have hcz13_1 : w12.cell? ⟨gb320, 1, none⟩ = some (.int .i64 0) := (Z22 BK320.out 1).trans rfl; have hcz13_2 : w12.cell? ⟨gb320, 2, none⟩ = some (.int .i64 0) := (Z22 BK320.out 2).trans rfl; have hfz13_0 := Z23 BK320.out 0; have hfz13_1 := Z23 BK320.out 1; have hfz13_2 := Z23 BK320.out 2))
         replace BK320 : Aside0 ((((w12.setCell ⟨gb320, 0, none⟩ (.int .i64 ((rd_T45 l1 x9_1).f0))).setCell ⟨gb320, 1, none⟩ (.int .i64 ((rd_T45 l1 x9_1).f1))).setCell ⟨gb320, 2, none⟩ (.int .i64 ((rd_T45 l1 x9_1).f2))).heap[gb320]? = some (.cells #[.int .i64 ((rd_T45 l1 x9_1).f0), .int .i64 ((rd_T45 l1 x9_1).f1), .int .i64 ((rd_T45 l1 x9_1).f2)] 45 (0, 0))) := ⟨Q32⟩
         replace HB : Aside0 (Below w.heap.size w (((w12.setCell ⟨gb320, 0, none⟩ (.int .i64 ((rd_T45 l1 x9_1).f0))).setCell ⟨gb320, 1, none⟩ (.int .i64 ((rd_T45 l1 x9_1).f1))).setCell ⟨gb320, 2, none⟩ (.int .i64 ((rd_T45 l1 x9_1).f2)))) := ⟨Q0⟩
         generalize (((w12.setCell ⟨gb320, 0, none⟩ (.int .i64 ((rd_T45 l1 x9_1).f0))).setCell ⟨gb320, 1, none⟩ (.int .i64 ((rd_T45 l1 x9_1).f1))).setCell ⟨gb320, 2, none⟩ (.int .i64 ((rd_T45 l1 x9_1).f2))) = w14 at BK320 HB ⊢
         replace BK320 := Ya (Z25 BK320.out)
         replace HB := Ya (Z4 HB.out)
         have p321 : 0 ≤ ((ji6) : Int) := Z29 Q1
         have q321 : (ji6) < (l0.length : Int) := Z29 Q1
         obtain ⟨ad321, A321_0, c321_0, e321, hx321_0, hl321_0, hi321_0⟩ := at_L3 HR0.out (ji6) p321 q321
         have hw321_0 := hx321_0
         cases e321
         try replace hx321_0 := (HB.out.cell (World.block_lt_of_cell? w _ hx321_0)).trans hx321_0
         have HR321_0 := Ya hi321_0
         have HC321_0 := Ya hl321_0
         clear hi321_0 hl321_0
         replace p321 := eq_true p321
         replace q321 := eq_true q321
         refine start_ (n := 11) (S := fun w' => w'.cell? ⟨gb320, 0, none⟩ = some (.int .i64 ((rd_T45 l1 x9_1).f0)) ∧ w'.cell? ⟨gb320, 1, none⟩ = some (.int .i64 ((rd_T45 l1 x9_1).f1)) ∧ w'.cell? ⟨gb320, 2, none⟩ = some (.int .i64 ((rd_T45 l1 x9_1).f2)) ∧ w'.cell? (ad321.add ((ji6)).toNat) = some (.slice A321_0 (rd_L3 l0 (ji6)).length c321_0)) (ds := []) (YA 11 0) (by kernel_rfl) rfl rfl ⟨(Z22 BK320.out 0).trans rfl, (Z22 BK320.out 1).trans rfl, (Z22 BK320.out 2).trans rfl, ((HB.out.cell (World.block_lt_of_cell? w _ hw321_0)).trans hw321_0)⟩ (fun hHeld => ?_); refine with_tabW spec_moNew.tab4 spec_moNew.bits4 (fun HT_ HW_ => ?_)
         generalize w14.drew = w15 at BK320 HB HR321_0 hx321_0 hHeld ⊢
         refine Yp 0 (some 14) (YA 11 1) rfl HT_.out ?_
         refine Yp 1 (some 15) (YA 11 3) rfl HT_.out ?_
         refine Yp 2 (some 16) (YA 11 7) rfl HT_.out ?_
         refine Yp 3 (some 17) (YA 11 15) rfl HT_.out ?_
         refine Yp 4 (some 18) (YA 11 31) rfl HT_.out ?_
         refine Yp 5 (some 19) (YA 11 63) rfl HT_.out ?_
         refine Yt 6 (some 20) (YA 11 127) rfl HT_.out HW_.out hHeld Q17 ?_
         refine Yt 7 (some 21) (YA 11 255) rfl HT_.out HW_.out hHeld Q17 ?_
         refine one_ (i := 8) (N := some 22) (YA 11 511) rfl rfl (one_of HT_.out (by kernel_rfl)) (by decide) (fun K hK => ?_)
         refine goes_ Try.func72 (by kernel_rfl) rfl #[.slice A321_0 (rd_L3 l0 (ji6)).length c321_0, .agg #[.int .i64 ((rd_T45 l1 x9_1).f0), .int .i64 ((rd_T45 l1 x9_1).f1), .int .i64 ((rd_T45 l1 x9_1).f2)]] (by rfl) rfl rfl (by (try simp only [Z32, Z33, Z34]); first | done | (simp only [hji6]; rfl) | rfl | (simp only [Z30, Z31]; rfl)) ?_
         with_reducible refine (spec_moApply.calls k1 _ _ (rd_L3 l0 (ji6)) ((rd_T45 l1 x9_1).f0) ((rd_T45 l1 x9_1).f1) ((rd_T45 l1 x9_1).f2) t322 _ ?side1 ?side2 A9.out).mono ?_
         (case side1 => exact Yc (Z21 HR321_0.out HB.out))
         (case side2 => exact HC321_0.out)
         rintro e w16 ⟨v323, rfl, ho0, hb⟩
         refine ⟨_, rfl, ?_⟩
         have HO324 := Yl ho0
         replace BK320 := Yb BK320 hb
         replace HB := Yh hb
         (try clear hb ho0)
         obtain ⟨Ao17, co17, eo17⟩ := Z17 HO324.out
         (first | subst eo17 | (injection eo17 with f1_ f2_ f3_; have f4_ := f1_.symm; have f5_ := f3_.symm; clear f1_ f2_ f3_; subst f4_; subst f5_))
         refine hK.out _ _ ⟨(Z22 BK320.out 0).trans rfl, (Z22 BK320.out 1).trans rfl, (Z22 BK320.out 2).trans rfl, ((HB.out.cell (World.block_lt_of_cell? w _ hw321_0)).trans hw321_0)⟩ (fun hHeld => ?_)
         clear hK K
         refine norm_ (a' := ?_) ?_ ?_
         rotate_left
         ·show Act.put _ (some 22) _ = _
          simp only [Act.put, Z0, Z1, Z2, i64_w, i32_w]
          rfl
         refine one_ (i := 9) (N := some 23) (YA 11 1023) rfl rfl (one_of HT_.out (by kernel_rfl)) (by decide) (fun K hK => ?_)
         refine goes_ Try.func82 (by kernel_rfl) rfl #[.slice (some ad321) l0.length c0, .slice Ao17 t322.length co17] (by rfl) rfl rfl (by (try simp only [Z32, Z33, Z34]); first | done | rfl | (simp only [Z30, Z31]; rfl)) ?_
         with_reducible refine (spec_raPlace.calls k1 _ _ l0 _ _ t322 t325 _ ?side1 ?side2 ?side3 ?side4 A10.out).mono ?_
         (case side1 => exact Yc (Z21 HR0.out HB.out))
         (case side2 => exact HC0.out)
         (case side3 => exact Yc (Kd.R_reads' HO324.out).2.2)
         (case side4 => exact (Kd.R_reads' HO324.out).2.1)
         rintro e w' ⟨rfl, ⟨nd, rfl⟩⟩
         refine ⟨_, rfl, ?_⟩
         refine hK.out _ _ ⟨(Z22 BK320.out 0).trans rfl, (Z22 BK320.out 1).trans rfl, (Z22 BK320.out 2).trans rfl, ((HB.out.cell (World.block_lt_of_cell? w _ hw321_0)).trans hw321_0)⟩ (fun hHeld => ?_)
         clear hK K
         refine norm_ (a' := ?_) ?_ ?_
         rotate_left
         ·show Act.put _ (some 23) _ = _
          simp only [Act.put, Z0, Z1, Z2, i64_w, i32_w]
          rfl
         refine Yp 10 (some 24) (YA 11 2047) rfl HT_.out ?_
         refine done_ (done_of HT_.out (by kernel_rfl)) ?_
         try go_wp2
         go_ret
         exact ⟨Q52, Q0⟩
        ·rw [if_neg c11] at H
         have c11b0 := Z36 c11
         clear c11
         have H' := Ya H
         clear H
         have p319 : 0 ≤ (x9_1 : Int) := Z29 Q1
         have q319 : x9_1 < (l1.length : Int) := Z29 Q1
         obtain ⟨ad319, e319, hx319_0, hx319_1, hx319_2⟩ := at_T45 HR1.out x9_1 p319 q319
         cases e319
         try replace hx319_0 := (HB.out.cell (World.block_lt_of_cell? w _ hx319_0)).trans hx319_0
         try replace hx319_1 := (HB.out.cell (World.block_lt_of_cell? w _ hx319_1)).trans hx319_1
         try replace hx319_2 := (HB.out.cell (World.block_lt_of_cell? w _ hx319_2)).trans hx319_2
         replace p319 := eq_true p319
         replace q319 := eq_true q319
         try go_wp2_with (first | ((with_reducible refine gate_dst (N := 6) rfl ?_); refine Yx 6 #[.int .i64 0, .int .i64 0, .int .i64 0] 45 ?_; intro gb320 hg w18 hbox hb; have BK320 := Ya hbox; have GE320 := Yg hg; replace HB := Yh hb; clear hb hbox hg; have hcz19_0 : w18.cell? ⟨gb320, 0, none⟩ = some (.int .i64 0) := (Z22 BK320.out 0).trans rfl; have hcz19_1 : w18.cell? ⟨gb320, 1, none⟩ = some (.int .i64 0) := (Z22 BK320.out 1).trans rfl; have hcz19_2 : w18.cell? ⟨gb320, 2, none⟩ = some (.int .i64 0) := (Z22 BK320.out 2).trans rfl; have hfz19_0 := Z23 BK320.out 0; have hfz19_1 := Z23 BK320.out 1; have hfz19_2 := Z23 BK320.out 2))
         replace BK320 : Aside0 ((((w18.setCell ⟨gb320, 0, none⟩ (.int .i64 ((rd_T45 l1 x9_1).f0))).setCell ⟨gb320, 1, none⟩ (.int .i64 ((rd_T45 l1 x9_1).f1))).setCell ⟨gb320, 2, none⟩ (.int .i64 ((rd_T45 l1 x9_1).f2))).heap[gb320]? = some (.cells #[.int .i64 ((rd_T45 l1 x9_1).f0), .int .i64 ((rd_T45 l1 x9_1).f1), .int .i64 ((rd_T45 l1 x9_1).f2)] 45 (0, 0))) := ⟨Q32⟩
         replace HB : Aside0 (Below w.heap.size w (((w18.setCell ⟨gb320, 0, none⟩ (.int .i64 ((rd_T45 l1 x9_1).f0))).setCell ⟨gb320, 1, none⟩ (.int .i64 ((rd_T45 l1 x9_1).f1))).setCell ⟨gb320, 2, none⟩ (.int .i64 ((rd_T45 l1 x9_1).f2)))) := ⟨Q0⟩
         generalize (((w18.setCell ⟨gb320, 0, none⟩ (.int .i64 ((rd_T45 l1 x9_1).f0))).setCell ⟨gb320, 1, none⟩ (.int .i64 ((rd_T45 l1 x9_1).f1))).setCell ⟨gb320, 2, none⟩ (.int .i64 ((rd_T45 l1 x9_1).f2))) = w20 at BK320 HB ⊢
         replace BK320 := Ya (Z25 BK320.out)
         replace HB := Ya (Z4 HB.out)
         have p321 : 0 ≤ ((ji6) : Int) := Z29 Q1
         have q321 : (ji6) < (l0.length : Int) := Z29 Q1
         obtain ⟨ad321, A321_0, c321_0, e321, hx321_0, hl321_0, hi321_0⟩ := at_L3 HR0.out (ji6) p321 q321
         have hw321_0 := hx321_0
         cases e321
         try replace hx321_0 := (HB.out.cell (World.block_lt_of_cell? w _ hx321_0)).trans hx321_0
         have HR321_0 := Ya hi321_0
         have HC321_0 := Ya hl321_0
         clear hi321_0 hl321_0
         replace p321 := eq_true p321
         replace q321 := eq_true q321
         refine start_ (n := 11) (S := fun w' => w'.cell? ⟨gb320, 0, none⟩ = some (.int .i64 ((rd_T45 l1 x9_1).f0)) ∧ w'.cell? ⟨gb320, 1, none⟩ = some (.int .i64 ((rd_T45 l1 x9_1).f1)) ∧ w'.cell? ⟨gb320, 2, none⟩ = some (.int .i64 ((rd_T45 l1 x9_1).f2)) ∧ w'.cell? (ad321.add ((ji6)).toNat) = some (.slice A321_0 (rd_L3 l0 (ji6)).length c321_0)) (ds := []) (YA 11 0) (by kernel_rfl) rfl rfl ⟨(Z22 BK320.out 0).trans rfl, (Z22 BK320.out 1).trans rfl, (Z22 BK320.out 2).trans rfl, ((HB.out.cell (World.block_lt_of_cell? w _ hw321_0)).trans hw321_0)⟩ (fun hHeld => ?_); refine with_tabW spec_moNew.tab4 spec_moNew.bits4 (fun HT_ HW_ => ?_)
         generalize w20.drew = w21 at BK320 HB HR321_0 hx321_0 hHeld ⊢
         refine Yp 0 (some 14) (YA 11 1) rfl HT_.out ?_
         refine Yp 1 (some 15) (YA 11 3) rfl HT_.out ?_
         refine Yp 2 (some 16) (YA 11 7) rfl HT_.out ?_
         refine Yp 3 (some 17) (YA 11 15) rfl HT_.out ?_
         refine Yp 4 (some 18) (YA 11 31) rfl HT_.out ?_
         refine Yp 5 (some 19) (YA 11 63) rfl HT_.out ?_
         refine Yt 6 (some 20) (YA 11 127) rfl HT_.out HW_.out hHeld Q17 ?_
         refine Yt 7 (some 21) (YA 11 255) rfl HT_.out HW_.out hHeld Q17 ?_
         refine one_ (i := 8) (N := some 22) (YA 11 511) rfl rfl (one_of HT_.out (by kernel_rfl)) (by decide) (fun K hK => ?_)
         refine goes_ Try.func72 (by kernel_rfl) rfl #[.slice A321_0 (rd_L3 l0 (ji6)).length c321_0, .agg #[.int .i64 ((rd_T45 l1 x9_1).f0), .int .i64 ((rd_T45 l1 x9_1).f1), .int .i64 ((rd_T45 l1 x9_1).f2)]] (by rfl) rfl rfl (by (try simp only [Z32, Z33, Z34]); first | done | (simp only [hji6]; rfl) | rfl | (simp only [Z30, Z31]; rfl)) ?_
         with_reducible refine (spec_moApply.calls k1 _ _ (rd_L3 l0 (ji6)) ((rd_T45 l1 x9_1).f0) ((rd_T45 l1 x9_1).f1) ((rd_T45 l1 x9_1).f2) t322 _ ?side1 ?side2 A9.out).mono ?_
         (case side1 => exact Yc (Z21 HR321_0.out HB.out))
         (case side2 => exact HC321_0.out)
         rintro e w22 ⟨v323, rfl, ho0, hb⟩
         refine ⟨_, rfl, ?_⟩
         have HO324 := Yl ho0
         replace BK320 := Yb BK320 hb
         replace HB := Yh hb
         (try clear hb ho0)
         obtain ⟨Ao23, co23, eo23⟩ := Z17 HO324.out
         (first | subst eo23 | (injection eo23 with f1_ f2_ f3_; have f4_ := f1_.symm; have f5_ := f3_.symm; clear f1_ f2_ f3_; subst f4_; subst f5_))
         refine hK.out _ _ ⟨(Z22 BK320.out 0).trans rfl, (Z22 BK320.out 1).trans rfl, (Z22 BK320.out 2).trans rfl, ((HB.out.cell (World.block_lt_of_cell? w _ hw321_0)).trans hw321_0)⟩ (fun hHeld => ?_)
         clear hK K
         refine norm_ (a' := ?_) ?_ ?_
         rotate_left
         ·show Act.put _ (some 22) _ = _
          simp only [Act.put, Z0, Z1, Z2, i64_w, i32_w]
          rfl
         refine one_ (i := 9) (N := some 23) (YA 11 1023) rfl rfl (one_of HT_.out (by kernel_rfl)) (by decide) (fun K hK => ?_)
         refine goes_ Try.func82 (by kernel_rfl) rfl #[.slice (some ad321) l0.length c0, .slice Ao23 t322.length co23] (by rfl) rfl rfl (by (try simp only [Z32, Z33, Z34]); first | done | rfl | (simp only [Z30, Z31]; rfl)) ?_
         with_reducible refine (spec_raPlace.calls k1 _ _ l0 _ _ t322 t325 _ ?side1 ?side2 ?side3 ?side4 A10.out).mono ?_
         (case side1 => exact Yc (Z21 HR0.out HB.out))
         (case side2 => exact HC0.out)
         (case side3 => exact Yc (Kd.R_reads' HO324.out).2.2)
         (case side4 => exact (Kd.R_reads' HO324.out).2.1)
         rintro e w' ⟨rfl, ⟨nd, rfl⟩⟩
         refine ⟨_, rfl, ?_⟩
         refine hK.out _ _ ⟨(Z22 BK320.out 0).trans rfl, (Z22 BK320.out 1).trans rfl, (Z22 BK320.out 2).trans rfl, ((HB.out.cell (World.block_lt_of_cell? w _ hw321_0)).trans hw321_0)⟩ (fun hHeld => ?_)
         clear hK K
         refine norm_ (a' := ?_) ?_ ?_
         rotate_left
         ·show Act.put _ (some 23) _ = _
          simp only [Act.put, Z0, Z1, Z2, i64_w, i32_w]
          rfl
         refine Yp 10 (some 24) (YA 11 2047) rfl HT_.out ?_
         refine done_ (done_of HT_.out (by kernel_rfl)) ?_
         try go_wp2
         go_roundg k1
         case measure => have := HK1.out; omega
         case rel => exact ⟨(wrap64 (x9_1 + 1)), Q5, H', ⟨Q28⟩, ⟨Q0⟩⟩
       ·rw [if_neg c8] at H
        exact absurd H (by simp)
      ·rw [if_neg c7] at H
       exact absurd H (by simp)
     ·rw [if_neg c5] at H
      exact absurd H (by simp)
    ·rw [if_neg c4] at H
     exact absurd H (by simp)
   ·rw [if_neg c3] at H
    have c3b0 := Z36 c3
    clear c3
    obtain rfl := Option.some.inj H
    go_wp2
    go_ret
    exact ⟨Q2, Q0⟩
def spec_GreedyList.l0 : Nat → List (S45) → List (List Int) → Int → Option ((List (List Int)) × Bool)
 | 0, _, _, _ => none
 | k + 1, x1, x6, x7 => if x7 ≥ 0 then (if 0 ≤ (wrap64 ((x6.length : Int) - 1)) then (if (wrap64 ((x6.length : Int) - 1)) < (x6.length : Int) then (if 0 ≤ x7 then (if x7 < (x1.length : Int) then ((spec_moApply.f k (rd_L3 x6 (wrap64 ((x6.length : Int) - 1))) ((rd_T45 x1 x7).f0) ((rd_T45 x1 x7).f1) ((rd_T45 x1 x7).f2)).bind fun t336 => (if x6.length < 5864062014805 then ((some (x6 ++ [t336] : List (List Int))).bind fun y339 => ((spec_moNew.f k y339 x1).bind fun t342 => (spec_GreedyList.l0 k x1 y339 t342))) else (none))) else (none)) else (none)) else (none)) else (none)) else (some (x6, true))
def spec_GreedyList.f (k : Nat) (a0 : Int) (l1 : List (S45)) : Option ((List (List Int)) × Bool) := (spec_moTask.f k a0 l1).bind fun t326 => (if t326 = true then ((spec_raUpTo.f k a0).bind fun t327 => ((some (([t327] : List (List Int)) : List (List Int))).bind fun y330 => ((spec_moNew.f k y330 l1).bind fun t333 => (spec_GreedyList.l0 k l1 y330 t333)))) else (some (([] : List (List Int)), false)))
theorem spec_GreedyList.mono_l : ∀ k, (∀ y0 y1 y2, LeO (spec_GreedyList.l0 k y0 y1 y2) (spec_GreedyList.l0 (k + 1) y0 y1 y2))
 | 0 => fun _ _ _ r h => by simp [spec_GreedyList.l0] at h
 | k + 1 => by
  have ih0 := spec_GreedyList.mono_l k
  ·intro y0 y1 y2
   unfold spec_GreedyList.l0
   repeat' first
   | (with_reducible exact ih0 _ _ _)
   | (with_reducible exact spec_moApply.mono _ _ _ _ _)
   | (with_reducible exact spec_moNew.mono _ _ _)
   | (with_reducible exact spec_moTask.mono _ _ _)
   | (with_reducible exact spec_raUpTo.mono _ _)
   | (with_reducible exact LeO.refl _)
   | (with_reducible exact LeO.none _)
   | (with_reducible refine LeO.ite ?_ ?_)
   | (with_reducible refine LeO.bind ?_ (fun _ => ?_))
   | exact ih0 _ _ _
   | exact spec_moApply.mono _ _ _ _ _
   | exact spec_moNew.mono _ _ _
   | exact spec_moTask.mono _ _ _
   | exact spec_raUpTo.mono _ _
   | exact LeO.none _
   | refine LeO.ite ?_ ?_
   | refine LeO.bind ?_ (fun _ => ?_)
theorem spec_GreedyList.mono : ∀ a0 a1 k, LeO (spec_GreedyList.f k a0 a1) (spec_GreedyList.f (k + 1) a0 a1) := by
 intro a0 a1 k
 have ih0 := spec_GreedyList.mono_l k
 unfold spec_GreedyList.f
 repeat' first
   | (with_reducible exact ih0 _ _ _)
   | (with_reducible exact spec_moApply.mono _ _ _ _ _)
   | (with_reducible exact spec_moNew.mono _ _ _)
   | (with_reducible exact spec_moTask.mono _ _ _)
   | (with_reducible exact spec_raUpTo.mono _ _)
   | (with_reducible exact LeO.refl _)
   | (with_reducible exact LeO.none _)
   | (with_reducible refine LeO.ite ?_ ?_)
   | (with_reducible refine LeO.bind ?_ (fun _ => ?_))
   | exact ih0 _ _ _
   | exact spec_moApply.mono _ _ _ _ _
   | exact spec_moNew.mono _ _ _
   | exact spec_moTask.mono _ _ _
   | exact spec_raUpTo.mono _ _
   | exact LeO.none _
   | refine LeO.ite ?_ ?_
   | refine LeO.bind ?_ (fun _ => ?_)
def spec_GreedyList.T7 : Bool × List (List Nat × List Nat) := (true, [([], []), ([], []), ([], []), ([2], [2]), ([3], [3]), ([1, 4], [1, 4]), ([5], [5]), ([], []), ([], []), ([7, 8], [7, 8]), ([9], [9]), ([6, 10], [6, 10]), ([11], [11]), ([0, 12, 11], [0, 12]), ([13, 13, 0, 1, 2, 3, 4, 5, 6, 7, 8, 9, 10, 11, 12, 13], [0, 1, 2, 13])])
def spec_GreedyList.B7 : List Nat := [0, 0, 0, 4, 12, 30, 62, 0, 0, 384, 896, 2046, 4094, 8191, 16383]
theorem spec_GreedyList.tab7 : rtab .any (opsOf Try.f34 7) = spec_GreedyList.T7 := by kernel_rfl
theorem spec_GreedyList.bits7 : waitsOk spec_GreedyList.T7.2 spec_GreedyList.B7 = true := by kernel_rfl
set_option maxHeartbeats 8000000 in
set_option maxRecDepth 100000 in
theorem spec_GreedyList.calls (k : Nat) (a0 : Int) (A1 : Option Addr) (c1 : Nat) (l1 : List (S45)) (r1 : List (List Int)) (r2 : Bool) (w : World) (hr1 : Kd.C k45 w A1 l1.length l1) (hc1 : l1.length ≤ c1) (h : spec_GreedyList.f k a0 l1 = some (r1, r2)) :
  Calls Try.prog 34 #[.int .i64 a0, .slice A1 l1.length c1] w fun e w' => ∃ v0_ : Value, e = .returned (.tuple #[v0_, .bool r2]) ∧ Kd.N (Kd.slice 3 (Kd.int .i64)) 24 w' w.heap.size (fun k_ => (w.heap.size ≤ k_)) v0_ r1 ∧ Below w.heap.size w w' := by
 have hu45 := Try.underlying45
 have HR1 := Ya hr1
 have HC1 := Ya hc1
 clear hr1 hc1
 have HB := Ya (Below.refl w.heap.size w)
 have H : ((spec_moTask.f k a0 l1).bind fun t326 => (if t326 = true then ((spec_raUpTo.f k a0).bind fun t327 => ((some (([t327] : List (List Int)) : List (List Int))).bind fun y330 => ((spec_moNew.f k y330 l1).bind fun t333 => (spec_GreedyList.l0 k l1 y330 t333)))) else (some (([] : List (List Int)), false)))) = some (r1, r2) := h
 clear h
 replace H := Z35.mp H
 obtain ⟨t326, A30, H⟩ := H
 replace H : (if t326 = true then ((spec_raUpTo.f k a0).bind fun t327 => ((some (([t327] : List (List Int)) : List (List Int))).bind fun y330 => ((spec_moNew.f k y330 l1).bind fun t333 => (spec_GreedyList.l0 k l1 y330 t333)))) else (some (([] : List (List Int)), false))) = some (r1, r2) := H
 have A3 := Ya A30
 clear A30
 by_cases c4 : t326 = true
 ·subst c4
  have H1 : ((spec_raUpTo.f k a0).bind fun t327 => ((some (([t327] : List (List Int)) : List (List Int))).bind fun y330 => ((spec_moNew.f k y330 l1).bind fun t333 => (spec_GreedyList.l0 k l1 y330 t333)))) = some (r1, r2) := by rw [if_pos rfl] at H; exact H
  clear H
  have H := H1
  clear H1
  replace H := Z35.mp H
  obtain ⟨t327, A50, H⟩ := H
  replace H : ((some (([t327] : List (List Int)) : List (List Int))).bind fun y330 => ((spec_moNew.f k y330 l1).bind fun t333 => (spec_GreedyList.l0 k l1 y330 t333))) = some (r1, r2) := H
  have A5 := Ya A50
  clear A50
  obtain ⟨y330, hy330⟩ : ∃ y_ : List (List Int), y_ = (([t327] : List (List Int))) := ⟨_, rfl⟩
  replace H : ((spec_moNew.f k y330 l1).bind fun t333 => (spec_GreedyList.l0 k l1 y330 t333)) = some (r1, r2) := by first | (rw [hy330]; with_reducible exact H) | (have H2_ := (Option.bind_some _ _).symm.trans H; rw [hy330]; with_reducible exact H2_) | (have H2_ := (Option.bind_some _ _).symm.trans H; with_reducible exact H2_) | with_reducible exact H | (rw [hy330]; exact H) | exact H
  have Ny330 := Ya hy330
  clear hy330
  replace H := Z35.mp H
  obtain ⟨t333, A60, H⟩ := H
  replace H : (spec_GreedyList.l0 k l1 y330 t333) = some (r1, r2) := H
  have A6 := Ya A60
  clear A60
  have H' := Ya H
  clear H
  go_enter Try.func34, Try.ntmps34
  go_wp2_with (first | ((with_reducible refine gate_callee (f := 41) rfl ?_); refine Yz 10 Try.func41 #[.int .i64 a0, .slice A1 l1.length c1] ?_; (with_reducible refine (spec_moTask.calls k a0 _ _ l1 true _ (Yc HR1.out) HC1.out A3.out).mono ?_); rintro e w7 ⟨rfl, hb⟩; refine ⟨_, rfl, ?_⟩; replace HB := Yh hb; (try clear hb)) | ((with_reducible refine gate_callee (f := 45) rfl ?_); refine Yz 13 Try.func45 #[.int .i64 a0] ?_; (with_reducible refine (spec_raUpTo.calls k a0 t327 _ A5.out).mono ?_); rintro e w8 ⟨v328, rfl, ho0, hb⟩; refine ⟨_, rfl, ?_⟩; have HO329 := Yl (Kd.R_newM (M := fun k_ => (w.heap.size ≤ k_)) ho0 (Z7 Q12) (fun k_ h_ => h_)); replace HB := Yh hb; (try clear hb ho0); obtain ⟨Ao9, co9, rfl⟩ := Z17 HO329.out) | ((with_reducible refine gate_dst (N := 14) rfl ?_); refine Kd.N_lit (Kd.slice 3 (Kd.int .i64)) _ 24 ?hg (N' := 14) ?hd (xs := ([t327] : List (List Int))) (inner := [.slice Ao9 t327.length co9]) (ok := (fun k_ => (w.heap.size ≤ k_))) (okp := (fun k_ => (w.heap.size ≤ k_))) ?hr ?hp (fun _ hk => hk) ((show ∀ k_, w8.heap.size ≤ k_ → (fun k_ => (w.heap.size ≤ k_)) k_ from fun k_ hk => (Nat.le_trans (Z7 Q12) hk)) _ (Nat.le_refl _)) (Below.refl _ _) (Nat.le_refl _) (by simp) ?_; (case hd => rfl); (case hg => rfl); (case hr => first | (go_simp; done) | (go_simp; rfl)); (case hp => exact (Reps.one (show Kd.FK (Kd.slice 3 (Kd.int .i64)) _ _ t327 [.slice Ao9 t327.length co9] from (Kd.FK_slice_mk (Kd.R_reads' (Z12 (ok' := (fun k_ => (w.heap.size ≤ k_))) (HO329.out) (fun k_ hk => hk.1))).2.1 (Kd.R_F (Z12 (ok' := (fun k_ => (w.heap.size ≤ k_))) (HO329.out) (fun k_ hk => hk.1))))) (Reps.none _ _))); intro v331 w10 ho11 hb hg_ hnew_; clear hg_ hnew_; (first | rw [← Ny330.out] at ho11 | (simp only [Int.reduceToNat] at ho11; rw [← Ny330.out] at ho11)); have HO332 := Ya (Kd.N_lower ho11 (Z7 Q12)); replace HB := Yh hb; clear HO329; clear hb ho11; obtain ⟨Ao12, co12, eo12⟩ := Kd.N_slice HO332.out; subst eo12) | ((with_reducible refine gate_callee (f := 75) rfl ?_); refine Yz 17 Try.func75 #[.slice Ao12 y330.length co12, .slice A1 l1.length c1] ?_; (with_reducible refine (spec_moNew.calls k _ _ y330 _ _ l1 t333 _ (Yc (Kd.N_reads' HO332.out).2.2) ?side2 (Yc (Z21 HR1.out HB.out)) HC1.out A6.out).mono ?_); (case side2 => exact (Kd.N_reads' HO332.out).2.1); rintro e w13 ⟨rfl, hb⟩; refine ⟨_, rfl, ?_⟩; replace HO332 := Ya (Kd.N_below (Qm0 HO332.out) hb); replace HB := Yh hb; (try clear hb)))
  go_loopg [6, 7] k (fun kq v6 v7 w' => ∃ (x6_1 : List (List Int)) (x7_1 : Int), v7 = .int .i64 x7_1 ∧ Aside0 (spec_GreedyList.l0 kq l1 x6_1 x7_1 = some (r1, r2)) ∧ Aside0 (kq ≤ k) ∧ Aside0 (Kd.N (Kd.slice 3 (Kd.int .i64)) 24 w' w.heap.size (fun k_ => (w.heap.size ≤ k_)) v6 x6_1) ∧ Aside0 (Below w.heap.size w w'))
  case atStart => exact ⟨(y330), (t333), Q5, H', ⟨Nat.le_refl _⟩, ⟨by (with_reducible repeat (first | apply Kd.N_alloc | apply Kd.N_drewN | apply Kd.N_drew)); exact HO332.out⟩, ⟨Q0⟩⟩
  case round =>
   clear H'
   try clear c1
   try clear p2
   try clear c3
   try clear c4
   try clear c7
   obtain ⟨x6_1, x7_1, rfl, HA, HK1, HO_6, HB⟩ := hrel
   cases gk with
   | zero => exact absurd HA.out (by simp [spec_GreedyList.l0])
   | succ k1 =>
    have H := HA.out
    clear HA
    simp only [spec_GreedyList.l0] at H
    by_cases c14 : x7_1 ≥ 0
    ·rw [if_pos c14] at H
     have c14b0 : decide (0 ≤ x7_1) = true := Z37 c14
     clear c14
     obtain ⟨ji15, hji15⟩ : ∃ j_ : Int, (wrap64 ((x6_1.length : Int) - 1)) = j_ := ⟨_, rfl⟩
     replace H : (if 0 ≤ (ji15) then (if (ji15) < (x6_1.length : Int) then (if 0 ≤ x7_1 then (if x7_1 < (l1.length : Int) then ((spec_moApply.f k1 (rd_L3 x6_1 (ji15)) ((rd_T45 l1 x7_1).f0) ((rd_T45 l1 x7_1).f1) ((rd_T45 l1 x7_1).f2)).bind fun t336 => (if x6_1.length < 5864062014805 then ((some (x6_1 ++ [t336] : List (List Int))).bind fun y339 => ((spec_moNew.f k1 y339 l1).bind fun t342 => (spec_GreedyList.l0 k1 l1 y339 t342))) else (none))) else (none)) else (none)) else (none)) else (none)) = some (r1, r2) := by first | (rw [hji15] at H; exact H) | (simp only [hji15] at H ⊢; exact H)
     have hji15w : (IntKind.i64.wrap ((x6_1.length : Int) - 1)) = ji15 := (i64_w _).trans hji15
     by_cases c16 : 0 ≤ (ji15)
     ·rw [if_pos c16] at H
      have c16b0 := Z37 c16
      clear c16
      by_cases c17 : (ji15) < (x6_1.length : Int)
      ·rw [if_pos c17] at H
       have c17b0 := Z37 c17
       clear c17
       by_cases c18 : 0 ≤ x7_1
       ·rw [if_pos c18] at H
        have c18b0 := Z37 c18
        clear c18
        by_cases c19 : x7_1 < (l1.length : Int)
        ·rw [if_pos c19] at H
         have c19b0 := Z37 c19
         clear c19
         replace H := Z35.mp H
         obtain ⟨t336, A200, H⟩ := H
         replace H : (if x6_1.length < 5864062014805 then ((some (x6_1 ++ [t336] : List (List Int))).bind fun y339 => ((spec_moNew.f k1 y339 l1).bind fun t342 => (spec_GreedyList.l0 k1 l1 y339 t342))) else (none)) = some (r1, r2) := H
         have A20 := Ya A200
         clear A200
         by_cases c21 : x6_1.length < 5864062014805
         ·rw [if_pos c21] at H
          have LMc21 := Ya c21
          clear c21
          obtain ⟨y339, hy339⟩ : ∃ y_ : List (List Int), y_ = (x6_1 ++ [t336]) := ⟨_, rfl⟩
          replace H : ((spec_moNew.f k1 y339 l1).bind fun t342 => (spec_GreedyList.l0 k1 l1 y339 t342)) = some (r1, r2) := by first | (rw [hy339]; with_reducible exact H) | (have H2_ := (Option.bind_some _ _).symm.trans H; rw [hy339]; with_reducible exact H2_) | (have H2_ := (Option.bind_some _ _).symm.trans H; with_reducible exact H2_) | with_reducible exact H | (rw [hy339]; exact H) | exact H
          have Ny339 := Ya hy339
          clear hy339
          replace H := Z35.mp H
          obtain ⟨t342, A220, H⟩ := H
          replace H : (spec_GreedyList.l0 k1 l1 y339 t342) = some (r1, r2) := H
          have A22 := Ya A220
          clear A220
          have H' := Ya H
          clear H
          try go_wp2
          replace HO_6 := Ya (Kd.N_drew HO_6.out)
          replace HB := Ya (Z4 HB.out)
          obtain ⟨Ao24, co24, eo24⟩ := Kd.N_slice HO_6.out
          (first | subst eo24 | (injection eo24 with f1_ f2_ f3_; have f4_ := f1_.symm; have f5_ := f3_.symm; clear f1_ f2_ f3_; subst f4_; subst f5_))
          have p334 : 0 ≤ ((ji15) : Int) := Z29 Q1
          have q334 : (ji15) < (x6_1.length : Int) := Z29 Q1
          obtain ⟨ad334, A334_0, c334_0, e334, hx334_0, hl334_0, hi334_0⟩ := at_L3 (Kd.N_reads' HO_6.out).2.2 (ji15) p334 q334
          cases e334
          obtain ⟨ce334, hce334, hMe334, hcc334⟩ := Kd.N_get HO_6.out [] (ji15) p334 (by first | exact q334 | exact Z29 Q1 | (have e_ := (Kd.N_reads' HO_6.out).1; omega))
          obtain ⟨ua334_0, uc334_0, rfl, ul334_0, ge334_0⟩ := Kd.FK_slice_open hMe334
          have hv334_0 := hcc334 0 _ rfl
          rw [Nat.add_zero, show ((Kd.slice 3 (Kd.int .i64))).sz = 1 from rfl, Nat.mul_one] at hv334_0
          replace hv334_0 := Option.some.inj (hv334_0.symm.trans hx334_0)
          injection hv334_0 with hva_ hvn_ hvc_
          rw [hva_] at ge334_0
          rw [hvc_] at ul334_0
          have HL334_0 := Ya (show Kd.V (Kd.int .i64) 3 _ w.heap.size _ _ (rd_L3 x6_1 (ji15)) from Kd.V_mk ul334_0 ge334_0)
          clear hva_ hvn_ hvc_ ge334_0 ul334_0
          clear hcc334 hce334
          have HR334_0 := Ya hi334_0
          have HC334_0 := Ya hl334_0
          clear hi334_0 hl334_0
          replace p334 := eq_true p334
          replace q334 := eq_true q334
          have p335 : 0 ≤ (x7_1 : Int) := Z29 Q1
          have q335 : x7_1 < (l1.length : Int) := Z29 Q1
          obtain ⟨ad335, e335, hx335_0, hx335_1, hx335_2⟩ := at_T45 HR1.out x7_1 p335 q335
          have hw335_2 := hx335_2
          have hw335_1 := hx335_1
          have hw335_0 := hx335_0
          cases e335
          try replace hx335_0 := (HB.out.cell (World.block_lt_of_cell? w _ hx335_0)).trans hx335_0
          try replace hx335_1 := (HB.out.cell (World.block_lt_of_cell? w _ hx335_1)).trans hx335_1
          try replace hx335_2 := (HB.out.cell (World.block_lt_of_cell? w _ hx335_2)).trans hx335_2
          replace p335 := eq_true p335
          replace q335 := eq_true q335
          refine start_ (n := 15) (S := fun w' => w'.cell? (ad334.add ((ji15)).toNat) = some (.slice A334_0 (rd_L3 x6_1 (ji15)).length c334_0) ∧ w'.cell? (ad335.add ((x7_1).toNat * 3)) = some (.int .i64 ((rd_T45 l1 x7_1).f0)) ∧ w'.cell? ⟨(ad335.add ((x7_1).toNat * 3)).block, (ad335.add ((x7_1).toNat * 3)).off + 1, none⟩ = some (.int .i64 ((rd_T45 l1 x7_1).f1)) ∧ w'.cell? ⟨(ad335.add ((x7_1).toNat * 3)).block, (ad335.add ((x7_1).toNat * 3)).off + 2, none⟩ = some (.int .i64 ((rd_T45 l1 x7_1).f2))) (ds := [12, 13]) (YA 15 0) (by kernel_rfl) rfl rfl ⟨hx334_0, ((HB.out.cell (World.block_lt_of_cell? w _ hw335_0)).trans hw335_0), ((HB.out.cell (World.block_lt_of_cell? w _ hw335_1)).trans hw335_1), ((HB.out.cell (World.block_lt_of_cell? w _ hw335_2)).trans hw335_2)⟩ (fun hHeld => ?_); refine with_tabW spec_GreedyList.tab7 spec_GreedyList.bits7 (fun HT_ HW_ => ?_)
          generalize wr.drew = w23 at HO_6 HB HL334_0 HR334_0 hx334_0 hx335_0 hx335_1 hx335_2 hHeld ⊢
          refine Yp 0 (some 23) (YA 15 1) rfl HT_.out ?_
          refine Yp 1 (some 24) (YA 15 3) rfl HT_.out ?_
          refine Yp 2 (some 25) (YA 15 7) rfl HT_.out ?_
          refine Yp 3 (some 26) (YA 15 15) rfl HT_.out ?_
          refine Yp 4 (some 27) (YA 15 31) rfl HT_.out ?_
          refine Yp 5 (some 28) (YA 15 63) rfl HT_.out ?_
          refine Yp 7 (some 30) (YA 15 191) rfl HT_.out ?_
          refine Yp 8 (some 31) (YA 15 447) rfl HT_.out ?_
          refine Yp 9 (some 32) (YA 15 959) rfl HT_.out ?_
          refine Yt 6 (some 29) (YA 15 1023) rfl HT_.out HW_.out hHeld Q17 ?_
          refine Yt 10 (some 33) (YA 15 2047) rfl HT_.out HW_.out hHeld Q17 ?_
          refine one_ (i := 11) (N := some 34) (YA 15 4095) rfl rfl (one_of HT_.out (by kernel_rfl)) (by decide) (fun K hK => ?_)
          refine goes_ Try.func72 (by kernel_rfl) rfl #[.slice A334_0 (rd_L3 x6_1 (ji15)).length c334_0, .agg #[.int .i64 ((rd_T45 l1 x7_1).f0), .int .i64 ((rd_T45 l1 x7_1).f1), .int .i64 ((rd_T45 l1 x7_1).f2)]] (by rfl) rfl rfl (by (try simp only [Z32, Z33, Z34]); first | done | (simp only [hji15]; rfl) | rfl | (simp only [Z30, Z31]; rfl)) ?_
          with_reducible refine (spec_moApply.calls k1 _ _ (rd_L3 x6_1 (ji15)) ((rd_T45 l1 x7_1).f0) ((rd_T45 l1 x7_1).f1) ((rd_T45 l1 x7_1).f2) t336 _ ?side1 ?side2 A20.out).mono ?_
          (case side1 => exact Yc (by repeat (first | (with_reducible exact HR334_0.out) | (with_reducible refine Z18 ?_ _) | (with_reducible refine Z19 ?_ _) | (with_reducible refine Z20 ?_) | exact HR334_0.out)))
          (case side2 => exact HC334_0.out)
          rintro e w25 ⟨v337, rfl, ho0, hb⟩
          have HS0_ := (hb.cell (World.block_lt_of_cell? _ _ (hHeld.1))).trans (hHeld.1)
          refine ⟨_, rfl, ?_⟩
          replace HO_6 := Ya (Kd.N_elder' (Qm0 HO_6.out) (Kd.R_base ho0) hb)
          replace HL334_0 := Ya (Kd.V_elder' (Qm1 HL334_0.out) (Kd.R_base ho0) hb)
          have HO338 := Yl (Kd.R_newM (M := fun k_ => (w.heap.size ≤ k_)) ho0 (Z7 Q12) (fun k_ h_ => h_))
          replace HR334_0 := Ya (Z21 (by first | (with_reducible exact HR334_0.out) | (with_reducible exact Z19 HR334_0.out _) | (with_reducible exact Z20 HR334_0.out) | (with_reducible exact Z18 HR334_0.out _) | repeat (first | (with_reducible exact HR334_0.out) | (with_reducible refine Z18 ?_ _) | (with_reducible refine Z19 ?_ _) | (with_reducible refine Z20 ?_) | exact HR334_0.out)) hb)
          replace HB := Yh hb
          (try clear hb ho0)
          obtain ⟨Ao27, co27, eo27⟩ := Z17 HO338.out
          (first | subst eo27 | (injection eo27 with f1_ f2_ f3_; have f4_ := f1_.symm; have f5_ := f3_.symm; clear f1_ f2_ f3_; subst f4_; subst f5_))
          refine hK.out _ _ ⟨HS0_, ((HB.out.cell (World.block_lt_of_cell? w _ hw335_0)).trans hw335_0), ((HB.out.cell (World.block_lt_of_cell? w _ hw335_1)).trans hw335_1), ((HB.out.cell (World.block_lt_of_cell? w _ hw335_2)).trans hw335_2)⟩ (fun hHeld => ?_)
          clear hK K
          refine norm_ (a' := ?_) ?_ ?_
          rotate_left
          ·show Act.put _ (some 34) _ = _
           simp only [Act.put, Z0, Z1, Z2, i64_w, i32_w]
           rfl
          refine last_ (i := 12) (N := some 35) (YA 15 8191) rfl rfl (one_of HT_.out (by kernel_rfl)) (by decide) (fun K hK => ?_)
          refine value_ (w1 := ?_) (v := ?_) (by rfl) rfl ?_ ?_
          rotate_left 2
          ·go_simp
           constructor
           ·rfl
           ·rfl
          refine hK.out _ _ ?_
          clear hK K
          refine norm_ (a' := ?_) ?_ ?_
          rotate_left
          ·show Act.put _ (some 35) _ = _
           simp only [Act.put, Z0, Z1, Z2, i64_w, i32_w]
           rfl
          refine last_ (i := 13) (N := some 36) (YA 15 16383) rfl rfl (one_of HT_.out (by kernel_rfl)) (by decide) (fun K hK => ?_)
          refine Kd.N_append_step (Kd.slice 3 (Kd.int .i64)) (w0 := w) w.heap.size (by rfl) (.tmp 23) (.tmp 35) 50 24 (.slice none 0 0) 24 rfl Try.underlying50 info24 rfl (by decide) (by omega) (.slice (some ad334) x6_1.length co24) x6_1 t336 [.slice Ao27 t336.length co27] (fun k_ => (w.heap.size ≤ k_)) (fun k_ => ((fun k_ => (w.heap.size ≤ k_))) k_ ∧ some k_ ≠ (.slice (some ad334) x6_1.length co24 : Value).ownBlock) rfl rfl ?aP (fun _ hk => hk) ?aF ?aO ?aB ?aS ?aL ?_
          (case aP => exact (Kd.FK_slice_mk (Kd.R_reads' (Z12 (ok' := (fun k_ => ((fun k_ => (w.heap.size ≤ k_))) k_ ∧ some k_ ≠ (.slice (some ad334) x6_1.length co24 : Value).ownBlock)) (Kd.R_apart' (HO338.out) (Kd.N_typed HO_6.out) (by decide)) (fun k_ hk => ⟨hk.1.1, hk.2⟩))).2.1 (Kd.R_F (Z12 (ok' := (fun k_ => ((fun k_ => (w.heap.size ≤ k_))) k_ ∧ some k_ ≠ (.slice (some ad334) x6_1.length co24 : Value).ownBlock)) (Kd.R_apart' (HO338.out) (Kd.N_typed HO_6.out) (by decide)) (fun k_ hk => ⟨hk.1.1, hk.2⟩)))))
          (case aB => exact Q12)
          (case aF => exact (fun k_ hk => (Nat.le_trans (Z7 Q12) hk)))
          (case aO => exact (by (with_reducible repeat (first | apply Kd.N_alloc | apply Kd.N_drewN | apply Kd.N_drew)); exact Kd.N_mono HO_6.out (fun _ hk => hk.1)))
          (case aS => exact (Z7 Q12))
          (case aL => have := LMc21.out; omega)
          intro v340 w26 ho hb hg hat
          rw [← Ny339.out] at ho
          replace HL334_0 := Ya (Kd.V_afterv (ok := (fun k_ => (w.heap.size ≤ k_) ∧ some k_ ≠ (.slice Ao27 t336.length co27 : Value).ownBlock)) (by (with_reducible repeat (first | apply Kd.V_alloc | apply Kd.V_drewN | apply Kd.V_drew)); exact Kd.V_mono HL334_0.out (fun _ hk => ⟨⟨hk.1.1, hk.2⟩, hk.1.2⟩)) hg hat)
          replace HB := Ya hb
          have HO341 := Ya ho
          clear HO_6 HO338
          clear ho hb hg hat
          refine hK.out _ _ ?_
          clear hK K
          refine norm_ (a' := ?_) ?_ ?_
          rotate_left
          ·show Act.put _ (some 36) _ = _
           simp only [Act.put, Z0, Z1, Z2, i64_w, i32_w]
           rfl
          refine Yp 14 (some 6) (YA 15 32767) rfl HT_.out ?_
          refine done_ (done_of HT_.out (by kernel_rfl)) ?_
          obtain ⟨Ao28, co28, eo28⟩ := Kd.N_slice HO341.out
          subst eo28
          try go_wp2_with (first | ((with_reducible refine gate_callee (f := 75) rfl ?_); refine Yz 22 Try.func75 #[.slice Ao28 y339.length co28, .slice (some ad335) l1.length c1] ?_; (with_reducible refine (spec_moNew.calls k1 _ _ y339 _ _ l1 t342 _ (Yc (Kd.N_reads' HO341.out).2.2) ?side2 (Yc (Z21 HR1.out HB.out)) HC1.out A22.out).mono ?_); (case side2 => exact (Kd.N_reads' HO341.out).2.1); rintro e w29 ⟨rfl, hb⟩; refine ⟨_, rfl, ?_⟩; replace HL334_0 := Ya (Kd.V_below (Qm1 HL334_0.out) hb); replace HO341 := Ya (Kd.N_below (Qm0 HO341.out) hb); replace HB := Yh hb; (try clear hb)))
          go_roundg k1
          case measure => have := HK1.out; omega
          case rel => exact ⟨(y339), (t342), Q5, H', ⟨Q28⟩, ⟨by (with_reducible repeat (first | apply Kd.N_alloc | apply Kd.N_drewN | apply Kd.N_drew)); exact HO341.out⟩, ⟨Q0⟩⟩
         ·rw [if_neg c21] at H
          exact absurd H (by simp)
        ·rw [if_neg c19] at H
         exact absurd H (by simp)
       ·rw [if_neg c18] at H
        exact absurd H (by simp)
      ·rw [if_neg c17] at H
       exact absurd H (by simp)
     ·rw [if_neg c16] at H
      exact absurd H (by simp)
    ·rw [if_neg c14] at H
     have c14b0 : decide (0 ≤ x7_1) = false := Z36 c14
     clear c14
     simp only [Option.some.injEq, Prod.mk.injEq] at H
     obtain ⟨rfl, rfl⟩ := H
     go_wp2
     go_ret2
     exact ⟨_, Q2, by (with_reducible repeat (first | apply Kd.N_alloc | apply Kd.N_drewN | apply Kd.N_drew)); exact HO_6.out, Q0⟩
 ·replace c4 := Bool.eq_false_iff.mpr c4
  subst c4
  have H1 : (some (([] : List (List Int)), false)) = some (r1, r2) := by rw [if_neg (show ¬ (false = true) by decide)] at H; exact H
  clear H
  have H := H1
  clear H1
  simp only [Option.some.injEq, Prod.mk.injEq] at H
  obtain ⟨rfl, rfl⟩ := H
  go_enter Try.func34, Try.ntmps34
  go_wp2_with (first | ((with_reducible refine gate_callee (f := 41) rfl ?_); refine Yz 10 Try.func41 #[.int .i64 a0, .slice A1 l1.length c1] ?_; (with_reducible refine (spec_moTask.calls k a0 _ _ l1 false _ (Yc HR1.out) HC1.out A3.out).mono ?_); rintro e w30 ⟨rfl, hb⟩; refine ⟨_, rfl, ?_⟩; replace HB := Yh hb; (try clear hb)))
  go_ret2
  exact ⟨_, Q2, Q45, Q0⟩
def impl_MovesOf.f (k : Nat) (a0 : Int) (l1 : List (List Int)) (l2 : List (S45)) : Option (List Int × Bool) := (impl_areMoves.f k a0 l2).bind fun t343 => (if t343 = true then ((impl_arePermutations.f k a0 l1).bind fun t344 => (if t344 = true then ((impl_steps.f k l1 l2).bind fun bt345 => (some (bt345.1, bt345.2))) else (some (([] : List Int), false)))) else (some (([] : List Int), false)))
theorem impl_MovesOf.mono : ∀ a0 a1 a2 k, LeO (impl_MovesOf.f k a0 a1 a2) (impl_MovesOf.f (k + 1) a0 a1 a2) := by
 intro a0 a1 a2 k
 unfold impl_MovesOf.f
 repeat' first
   | (with_reducible exact impl_areMoves.mono _ _ _)
   | (with_reducible exact impl_arePermutations.mono _ _ _)
   | (with_reducible exact impl_steps.mono _ _ _)
   | (with_reducible exact LeO.refl _)
   | (with_reducible exact LeO.none _)
   | (with_reducible refine LeO.ite ?_ ?_)
   | (with_reducible refine LeO.bind ?_ (fun _ => ?_))
   | exact impl_areMoves.mono _ _ _
   | exact impl_arePermutations.mono _ _ _
   | exact impl_steps.mono _ _ _
   | exact LeO.none _
   | refine LeO.ite ?_ ?_
   | refine LeO.bind ?_ (fun _ => ?_)
set_option maxHeartbeats 8000000 in
set_option maxRecDepth 100000 in
theorem impl_MovesOf.calls (k : Nat) (a0 : Int) (A1 : Option Addr) (c1 : Nat) (l1 : List (List Int)) (A2 : Option Addr) (c2 : Nat) (l2 : List (S45)) (r1 : List Int) (r2 : Bool) (w : World) (hr1 : Kd.C (Kd.slice 3 (Kd.int .i64)) w A1 l1.length l1) (hc1 : l1.length ≤ c1) (hr2 : Kd.C k45 w A2 l2.length l2) (hc2 : l2.length ≤ c2) (h : impl_MovesOf.f k a0 l1 l2 = some (r1, r2)) :
  Calls Try.prog 35 #[.int .i64 a0, .slice A1 l1.length c1, .slice A2 l2.length c2] w fun e w' => ∃ v0_ : Value, e = .returned (.tuple #[v0_, .bool r2]) ∧ Kd.R (Kd.int .i64) 3 w' w.heap.size (fun _ => True) v0_ r1 ∧ Below w.heap.size w w' := by
 have HR1 := Ya hr1
 have HC1 := Ya hc1
 clear hr1 hc1
 have HR2 := Ya hr2
 have HC2 := Ya hc2
 clear hr2 hc2
 have HB := Ya (Below.refl w.heap.size w)
 have H : ((impl_areMoves.f k a0 l2).bind fun t343 => (if t343 = true then ((impl_arePermutations.f k a0 l1).bind fun t344 => (if t344 = true then ((impl_steps.f k l1 l2).bind fun bt345 => (some (bt345.1, bt345.2))) else (some (([] : List Int), false)))) else (some (([] : List Int), false)))) = some (r1, r2) := h
 clear h
 replace H := Z35.mp H
 obtain ⟨t343, A40, H⟩ := H
 replace H : (if t343 = true then ((impl_arePermutations.f k a0 l1).bind fun t344 => (if t344 = true then ((impl_steps.f k l1 l2).bind fun bt345 => (some (bt345.1, bt345.2))) else (some (([] : List Int), false)))) else (some (([] : List Int), false))) = some (r1, r2) := H
 have A4 := Ya A40
 clear A40
 by_cases c5 : t343 = true
 ·subst c5
  have H1 : ((impl_arePermutations.f k a0 l1).bind fun t344 => (if t344 = true then ((impl_steps.f k l1 l2).bind fun bt345 => (some (bt345.1, bt345.2))) else (some (([] : List Int), false)))) = some (r1, r2) := by rw [if_pos rfl] at H; exact H
  clear H
  have H := H1
  clear H1
  replace H := Z35.mp H
  obtain ⟨t344, A60, H⟩ := H
  replace H : (if t344 = true then ((impl_steps.f k l1 l2).bind fun bt345 => (some (bt345.1, bt345.2))) else (some (([] : List Int), false))) = some (r1, r2) := H
  have A6 := Ya A60
  clear A60
  by_cases c7 : t344 = true
  ·subst c7
   have H1 : ((impl_steps.f k l1 l2).bind fun bt345 => (some (bt345.1, bt345.2))) = some (r1, r2) := by rw [if_pos rfl] at H; exact H
   clear H
   have H := H1
   clear H1
   replace H := Z35.mp H
   obtain ⟨⟨t345, t346⟩, A80, H⟩ := H
   replace H : (some (t345, t346)) = some (r1, r2) := H
   have A8 := Ya A80
   clear A80
   simp only [Option.some.injEq, Prod.mk.injEq] at H
   obtain ⟨rfl, rfl⟩ := H
   go_enter Try.func35, Try.ntmps35
   go_wp2_with (first | ((with_reducible refine gate_callee (f := 47) rfl ?_); refine Yz 10 Try.func47 #[.int .i64 a0, .slice A2 l2.length c2] ?_; (with_reducible refine (impl_areMoves.calls k a0 _ _ l2 true _ (Yc HR2.out) HC2.out A4.out).mono ?_); rintro e w9 ⟨rfl, hb⟩; refine ⟨_, rfl, ?_⟩; replace HB := Yh hb; (try clear hb)) | (go_at_call 67; (with_reducible refine (impl_arePermutations.calls k a0 _ _ l1 true _ (Yc (Z21 HR1.out HB.out)) HC1.out A6.out).mono ?_); rintro e w10 ⟨rfl, hb⟩; replace HB := Yh hb; (try clear hb)) | ((with_reducible refine gate_callee (f := 68) rfl ?_); refine Yz 20 Try.func68 #[.slice A1 l1.length c1, .slice A2 l2.length c2] ?_; (with_reducible refine (impl_steps.calls k _ _ l1 _ _ l2 t345 t346 _ (Yc (Z21 HR1.out HB.out)) HC1.out (Yc (Z21 HR2.out HB.out)) HC2.out A8.out).mono ?_); rintro e w11 ⟨v347, rfl, ho0, hb⟩; refine ⟨_, rfl, ?_⟩; have HO348 := Yl ho0; replace HB := Yh hb; (try clear hb ho0)))
   go_ret2
   exact ⟨_, Q2, by (with_reducible repeat (first | apply Z9 | apply Z10 | apply Z11)); exact HO348.out, Q0⟩
  ·replace c7 := Bool.eq_false_iff.mpr c7
   subst c7
   have H1 : (some (([] : List Int), false)) = some (r1, r2) := by rw [if_neg (show ¬ (false = true) by decide)] at H; exact H
   clear H
   have H := H1
   clear H1
   simp only [Option.some.injEq, Prod.mk.injEq] at H
   obtain ⟨rfl, rfl⟩ := H
   go_enter Try.func35, Try.ntmps35
   go_wp2_with (first | ((with_reducible refine gate_callee (f := 47) rfl ?_); refine Yz 10 Try.func47 #[.int .i64 a0, .slice A2 l2.length c2] ?_; (with_reducible refine (impl_areMoves.calls k a0 _ _ l2 true _ (Yc HR2.out) HC2.out A4.out).mono ?_); rintro e w12 ⟨rfl, hb⟩; refine ⟨_, rfl, ?_⟩; replace HB := Yh hb; (try clear hb)) | (go_at_call 67; (with_reducible refine (impl_arePermutations.calls k a0 _ _ l1 false _ (Yc (Z21 HR1.out HB.out)) HC1.out A6.out).mono ?_); rintro e w13 ⟨rfl, hb⟩; replace HB := Yh hb; (try clear hb)))
   go_ret2
   exact ⟨_, Q2, Q11, Q0⟩
 ·replace c5 := Bool.eq_false_iff.mpr c5
  subst c5
  have H1 : (some (([] : List Int), false)) = some (r1, r2) := by rw [if_neg (show ¬ (false = true) by decide)] at H; exact H
  clear H
  have H := H1
  clear H1
  simp only [Option.some.injEq, Prod.mk.injEq] at H
  obtain ⟨rfl, rfl⟩ := H
  go_enter Try.func35, Try.ntmps35
  go_wp2_with (first | ((with_reducible refine gate_callee (f := 47) rfl ?_); refine Yz 10 Try.func47 #[.int .i64 a0, .slice A2 l2.length c2] ?_; (with_reducible refine (impl_areMoves.calls k a0 _ _ l2 false _ (Yc HR2.out) HC2.out A4.out).mono ?_); rintro e w14 ⟨rfl, hb⟩; refine ⟨_, rfl, ?_⟩; replace HB := Yh hb; (try clear hb)))
  go_ret2
  exact ⟨_, Q2, Q11, Q0⟩
def laws_uHas.l0 : Nat → Int → List Int → Int → Int → Option (Bool)
 | 0, _, _, _, _ => none
 | k + 1, x1, x7, x8, x9 => if x9 < x8 then (if 0 ≤ x9 then (if x9 < (x7.length : Int) then (if (rd x7 x9) = x1 then (some true) else (laws_uHas.l0 k x1 x7 x8 (wrap64 (x9 + 1)))) else (none)) else (none)) else (some false)
def laws_uHas.f (k : Nat) (l0 : List Int) (a1 : Int) : Option (Bool) := laws_uHas.l0 k a1 l0 (l0.length : Int) 0
theorem laws_uHas.mono_l : ∀ k, (∀ y0 y1 y2 y3, LeO (laws_uHas.l0 k y0 y1 y2 y3) (laws_uHas.l0 (k + 1) y0 y1 y2 y3))
 | 0 => fun _ _ _ _ r h => by simp [laws_uHas.l0] at h
 | k + 1 => by
  have ih0 := laws_uHas.mono_l k
  ·intro y0 y1 y2 y3
   unfold laws_uHas.l0
   repeat' first
   | (with_reducible exact ih0 _ _ _ _)
   | (with_reducible exact LeO.refl _)
   | (with_reducible exact LeO.none _)
   | (with_reducible refine LeO.ite ?_ ?_)
   | (with_reducible refine LeO.bind ?_ (fun _ => ?_))
   | exact ih0 _ _ _ _
   | exact LeO.none _
   | refine LeO.ite ?_ ?_
   | refine LeO.bind ?_ (fun _ => ?_)
theorem laws_uHas.mono : ∀ a0 a1 k, LeO (laws_uHas.f k a0 a1) (laws_uHas.f (k + 1) a0 a1) := by
 intro a0 a1 k
 have ih0 := laws_uHas.mono_l k
 unfold laws_uHas.f
 repeat' first
   | (with_reducible exact ih0 _ _ _ _)
   | (with_reducible exact LeO.refl _)
   | (with_reducible exact LeO.none _)
   | (with_reducible refine LeO.ite ?_ ?_)
   | (with_reducible refine LeO.bind ?_ (fun _ => ?_))
   | exact ih0 _ _ _ _
   | exact LeO.none _
   | refine LeO.ite ?_ ?_
   | refine LeO.bind ?_ (fun _ => ?_)
set_option maxHeartbeats 8000000 in
set_option maxRecDepth 100000 in
theorem laws_uHas.calls (k : Nat) (A0 : Option Addr) (c0 : Nat) (l0 : List Int) (a1 : Int) (r : Bool) (w : World) (hr0 : Kd.C (Kd.int .i64) w A0 l0.length l0) (hc0 : l0.length ≤ c0) (h : laws_uHas.f k l0 a1 = some r) :
  Calls Try.prog 36 #[.slice A0 l0.length c0, .int .i64 a1] w fun e w' => e = .returned (.bool r) ∧ Drawn0 w w' := by
 have HR0 := Ya hr0
 have HC0 := Ya hc0
 clear hr0 hc0
 have H : (laws_uHas.l0 k a1 l0 (l0.length : Int) 0) = some r := h
 clear h
 have H' := Ya H
 clear H
 go_enter Try.func36, Try.ntmps36
 go_wp2
 go_loopg [9] k (fun kq v9 w' => ∃ (x9_1 : Int), v9 = .int .i64 x9_1 ∧ Aside0 (laws_uHas.l0 kq a1 l0 (l0.length : Int) x9_1 = some r) ∧ Aside0 (kq ≤ k) ∧ Drawn0 w w')
 case atStart => exact ⟨(0), Q5, H', ⟨Nat.le_refl _⟩, Q7⟩
 case round =>
  clear H'
  try clear p2
  obtain ⟨x9_1, rfl, HA, HK1, ⟨m1, rfl⟩⟩ := hrel
  cases gk with
  | zero => exact absurd HA.out (by simp [laws_uHas.l0])
  | succ k1 =>
   have H := HA.out
   clear HA
   simp only [laws_uHas.l0] at H
   by_cases c3 : x9_1 < (l0.length : Int)
   ·rw [if_pos c3] at H
    have c3b0 := Z37 c3
    clear c3
    by_cases c4 : 0 ≤ x9_1
    ·rw [if_pos c4] at H
     have c4b0 := Z37 c4
     clear c4
     by_cases c5 : x9_1 < (l0.length : Int)
     ·rw [if_pos c5] at H
      have c5b0 := Z37 c5
      clear c5
      by_cases c6 : (rd l0 x9_1) = a1
      ·rw [if_pos c6] at H
       have c6b0 : ((rd l0 x9_1) == a1) = true := beq_iff_eq.mpr c6
       have c6b1 : ((rd l0 x9_1) != a1) = false := bne_eq_false_iff_eq.mpr c6
       clear c6
       obtain rfl := Option.some.inj H
       have p349 : 0 ≤ (x9_1 : Int) := Z29 Q1
       have q349 : x9_1 < (l0.length : Int) := Z29 Q1
       obtain ⟨ad349, e349, hx349_0⟩ := Kd.at_int HR0.out x9_1 p349 q349
       cases e349
       replace p349 := eq_true p349
       replace q349 := eq_true q349
       go_wp2
       go_ret
       exact ⟨Q18, Q7⟩
      ·rw [if_neg c6] at H
       have c6b0 : ((rd l0 x9_1) == a1) = false := beq_eq_false_iff_ne.mpr c6
       have c6b1 : ((rd l0 x9_1) != a1) = true := bne_iff_ne.mpr c6
       have H' := Ya H
       clear H
       have p349 : 0 ≤ (x9_1 : Int) := Z29 Q1
       have q349 : x9_1 < (l0.length : Int) := Z29 Q1
       obtain ⟨ad349, e349, hx349_0⟩ := Kd.at_int HR0.out x9_1 p349 q349
       cases e349
       replace p349 := eq_true p349
       replace q349 := eq_true q349
       go_wp2
       go_roundg k1
       case measure => have := HK1.out; omega
       case rel => exact ⟨(wrap64 (x9_1 + 1)), Q5, H', ⟨Q28⟩, Q7⟩
     ·rw [if_neg c5] at H
      exact absurd H (by simp)
    ·rw [if_neg c4] at H
     exact absurd H (by simp)
   ·rw [if_neg c3] at H
    have c3b0 := Z36 c3
    clear c3
    obtain rfl := Option.some.inj H
    go_wp2
    go_ret
    exact ⟨Q18, Q7⟩
def impl_Factorial.f (k : Nat) (a0 : Int) : Option (Int × Bool) := (impl_within.f a0 0 12).bind fun t350 => (if t350 = true then ((impl_factorial.f k a0).bind fun t351 => (some (t351, true))) else (some (0, false)))
theorem impl_Factorial.mono : ∀ a0 k, LeO (impl_Factorial.f k a0) (impl_Factorial.f (k + 1) a0) := by
 intro a0 k
 unfold impl_Factorial.f
 repeat' first
   | (with_reducible exact impl_factorial.mono _ _)
   | (with_reducible exact LeO.refl _)
   | (with_reducible exact LeO.none _)
   | (with_reducible refine LeO.ite ?_ ?_)
   | (with_reducible refine LeO.bind ?_ (fun _ => ?_))
   | exact impl_factorial.mono _ _
   | exact LeO.none _
   | refine LeO.ite ?_ ?_
   | refine LeO.bind ?_ (fun _ => ?_)
set_option maxHeartbeats 8000000 in
set_option maxRecDepth 100000 in
theorem impl_Factorial.calls (k : Nat) (a0 : Int) (r1 : Int) (r2 : Bool) (w : World) (h : impl_Factorial.f k a0 = some (r1, r2)) :
  Calls Try.prog 37 #[.int .i64 a0] w fun e w' => e = .returned (.tuple #[.int .i64 r1, .bool r2]) ∧ Drawn0 w w' := by
 have H : ((impl_within.f a0 0 12).bind fun t350 => (if t350 = true then ((impl_factorial.f k a0).bind fun t351 => (some (t351, true))) else (some (0, false)))) = some (r1, r2) := h
 clear h
 replace H := Z35.mp H
 obtain ⟨t350, A20, H⟩ := H
 replace H : (if t350 = true then ((impl_factorial.f k a0).bind fun t351 => (some (t351, true))) else (some (0, false))) = some (r1, r2) := H
 have A2 := Ya A20
 clear A20
 by_cases c3 : t350 = true
 ·subst c3
  have H1 : ((impl_factorial.f k a0).bind fun t351 => (some (t351, true))) = some (r1, r2) := by rw [if_pos rfl] at H; exact H
  clear H
  have H := H1
  clear H1
  replace H := Z35.mp H
  obtain ⟨t351, A40, H⟩ := H
  replace H : (some (t351, true)) = some (r1, r2) := H
  have A4 := Ya A40
  clear A40
  simp only [Option.some.injEq, Prod.mk.injEq] at H
  obtain ⟨rfl, rfl⟩ := H
  go_enter Try.func37, Try.ntmps37
  go_wp2_with (first | ((with_reducible refine gate_callee (f := 48) rfl ?_); refine Yz 5 Try.func48 #[.int .i64 a0, .int .i64 0, .int .i64 12] ?_; (with_reducible refine (impl_within.calls a0 0 12 true _ A2.out).mono ?_); rintro e w' ⟨rfl, ⟨nd, rfl⟩⟩; refine ⟨_, rfl, ?_⟩) | ((with_reducible refine gate_callee (f := 50) rfl ?_); refine Yz 8 Try.func50 #[.int .i64 a0] ?_; (with_reducible refine (impl_factorial.calls k a0 t351 _ A4.out).mono ?_); rintro e w' ⟨rfl, ⟨nd, rfl⟩⟩; refine ⟨_, rfl, ?_⟩))
  go_ret2
  exact ⟨Q18, Q7⟩
 ·replace c3 := Bool.eq_false_iff.mpr c3
  subst c3
  have H1 : (some (0, false)) = some (r1, r2) := by rw [if_neg (show ¬ (false = true) by decide)] at H; exact H
  clear H
  have H := H1
  clear H1
  simp only [Option.some.injEq, Prod.mk.injEq] at H
  obtain ⟨rfl, rfl⟩ := H
  go_enter Try.func37, Try.ntmps37
  go_wp2_with (first | ((with_reducible refine gate_callee (f := 48) rfl ?_); refine Yz 5 Try.func48 #[.int .i64 a0, .int .i64 0, .int .i64 12] ?_; (with_reducible refine (impl_within.calls a0 0 12 false _ A2.out).mono ?_); rintro e w' ⟨rfl, ⟨nd, rfl⟩⟩; refine ⟨_, rfl, ?_⟩))
  go_ret2
  exact ⟨Q18, Q7⟩
def spec_raFactorial.f : Nat → Int → Option (Int)
 | 0, _ => none
 | k + 1, a0 => if a0 = 0 then (some 1) else ((spec_raFactorial.f k (wrap64 (a0 - 1))).bind fun t352 => (some (wrap64 (a0 * t352))))
theorem spec_raFactorial.mono_l : ∀ k, (∀ y0, LeO (spec_raFactorial.f k y0) (spec_raFactorial.f (k + 1) y0))
 | 0 => fun _ r h => by simp [spec_raFactorial.f] at h
 | k + 1 => by
  have ih0 := spec_raFactorial.mono_l k
  ·intro y0
   unfold spec_raFactorial.f
   repeat' first
   | (with_reducible exact ih0 _)
   | (with_reducible exact LeO.refl _)
   | (with_reducible exact LeO.none _)
   | (with_reducible refine LeO.ite ?_ ?_)
   | (with_reducible refine LeO.bind ?_ (fun _ => ?_))
   | exact ih0 _
   | exact LeO.none _
   | refine LeO.ite ?_ ?_
   | refine LeO.bind ?_ (fun _ => ?_)
theorem spec_raFactorial.mono : ∀ a0 k, LeO (spec_raFactorial.f k a0) (spec_raFactorial.f (k + 1) a0) := by
 intro a0 k
 have ih0 := spec_raFactorial.mono_l k
 exact ih0 a0
set_option maxHeartbeats 8000000 in
set_option maxRecDepth 100000 in
theorem spec_raFactorial.calls (k : Nat) : ∀ (a0 : Int) (r : Int) (w : World) (h : spec_raFactorial.f k a0 = some r),
  Calls Try.prog 43 #[.int .i64 a0] w fun e w' => e = .returned (.int .i64 r) ∧ Drawn0 w w' := by
 induction k using Nat.strongRecOn with
 | _ k ih =>
 intro a0 r w h
 cases k with
 | zero => exact absurd h (by simp [spec_raFactorial.f])
 | succ k =>
 simp only [spec_raFactorial.f] at h
 have H : (if a0 = 0 then (some 1) else ((spec_raFactorial.f k (wrap64 (a0 - 1))).bind fun t352 => (some (wrap64 (a0 * t352))))) = some r := h
 clear h
 by_cases c2 : a0 = 0
 ·rw [if_pos c2] at H
  have c2b0 : (a0 == 0) = true := beq_iff_eq.mpr c2
  have c2b1 : (a0 != 0) = false := bne_eq_false_iff_eq.mpr c2
  clear c2
  obtain rfl := Option.some.inj H
  go_enter Try.func43, Try.ntmps43
  go_wp2
  go_ret
  exact ⟨Q18, Q7⟩
 ·rw [if_neg c2] at H
  have c2b0 : (a0 == 0) = false := beq_eq_false_iff_ne.mpr c2
  have c2b1 : (a0 != 0) = true := bne_iff_ne.mpr c2
  replace H := Z35.mp H
  obtain ⟨t352, A30, H⟩ := H
  replace H : (some (wrap64 (a0 * t352))) = some r := H
  have A3 := Ya A30
  clear A30
  obtain rfl := Option.some.inj H
  go_enter Try.func43, Try.ntmps43
  go_wp2_with (first | ((with_reducible refine gate_callee (f := 43) rfl ?_); refine Yz 8 Try.func43 #[.int .i64 (wrap64 (a0 - 1))] ?_; (with_reducible refine (ih k (by omega) (wrap64 (a0 - 1)) t352 _ A3.out).mono ?_); rintro e w' ⟨rfl, ⟨nd, rfl⟩⟩; refine ⟨_, rfl, ?_⟩))
  go_ret
  exact ⟨Q18, Q7⟩
def spec_l1Least.f (a0 : Int) (a1 : Int) : Option (Int) := if a0 < a1 then (some a0) else (some a1)
set_option maxHeartbeats 8000000 in
set_option maxRecDepth 100000 in
theorem spec_l1Least.calls (a0 : Int) (a1 : Int) (r : Int) (w : World) (h : spec_l1Least.f a0 a1 = some r) :
  Calls Try.prog 96 #[.int .i64 a0, .int .i64 a1] w fun e w' => e = .returned (.int .i64 r) ∧ Drawn0 w w' := by
 have H : (if a0 < a1 then (some a0) else (some a1)) = some r := h
 clear h
 by_cases c3 : a0 < a1
 ·rw [if_pos c3] at H
  have c3b0 := Z37 c3
  clear c3
  obtain rfl := Option.some.inj H
  go_enter Try.func96, Try.ntmps96
  go_wp2
  go_ret
  exact ⟨Q18, Q7⟩
 ·rw [if_neg c3] at H
  have c3b0 := Z36 c3
  clear c3
  obtain rfl := Option.some.inj H
  go_enter Try.func96, Try.ntmps96
  go_wp2
  go_ret
  exact ⟨Q18, Q7⟩
end Go.Proofs.Ytllhnnjkonghlaa.MFnGreedyLists
