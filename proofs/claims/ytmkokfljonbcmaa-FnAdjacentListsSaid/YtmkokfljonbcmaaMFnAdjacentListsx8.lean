import Derived.Test.YtmkokfljonbcmaaMFnAdjacentListsx0
import Derived.Test.YtmkokfljonbcmaaMFnAdjacentListsx1
import Derived.Test.YtmkokfljonbcmaaMFnAdjacentListsx3
import Derived.Test.YtmkokfljonbcmaaMFnAdjacentListsx4
import Derived.Test.YtmkokfljonbcmaaMFnAdjacentListsx5
import Derived.Test.YtmkokfljonbcmaaMFnAdjacentListsx7
namespace Go.Proofs.Ytmkokfljonbcmaa.MFnAdjacentLists
open Go.RowKit Go.Proofs.YtmkokfljonbcmaaW.PrintWords Go.Proofs.YtmkokfljonbcmaaW.PrintLast Go.Proofs.YtmkokfljonbcmaaW.PrintMore
attribute [local go_sem] max2_int min2_int max_two min_two max_three min_three max_four min_four   
set_option linter.unusedVariables false
set_option linter.unusedSimpArgs false
def impl_increasing.l0 : Nat → List Int → Int → Option (Bool)
 | 0, _, _ => none
 | k + 1, x0, x3 => if x3 < (x0.length : Int) then (if 0 ≤ (wrap64 (x3 - 1)) then (if (wrap64 (x3 - 1)) < (x0.length : Int) then (if 0 ≤ x3 then (if (rd x0 (wrap64 (x3 - 1))) ≥ (rd x0 x3) then (some false) else (impl_increasing.l0 k x0 (wrap64 (x3 + 1)))) else (none)) else (none)) else (none)) else (some true)
def impl_increasing.f (k : Nat) (l0 : List Int) : Option (Bool) := impl_increasing.l0 k l0 1
theorem impl_increasing.mono_l : ∀ k, (∀ y0 y1, LeO (impl_increasing.l0 k y0 y1) (impl_increasing.l0 (k + 1) y0 y1))
 | 0 => fun _ _ r h => by simp [impl_increasing.l0] at h
 | k + 1 => by
  have ih0 := impl_increasing.mono_l k
  ·intro y0 y1
   unfold impl_increasing.l0
   repeat' first
   | (with_reducible exact ih0 _ _)
   | (with_reducible exact LeO.refl _)
   | (with_reducible exact LeO.none _)
   | (with_reducible refine LeO.ite ?_ ?_)
   | (with_reducible refine LeO.bind ?_ (fun _ => ?_))
   | exact ih0 _ _
   | exact LeO.none _
   | refine LeO.ite ?_ ?_
   | refine LeO.bind ?_ (fun _ => ?_)
theorem impl_increasing.mono : ∀ a0 k, LeO (impl_increasing.f k a0) (impl_increasing.f (k + 1) a0) := by
 intro a0 k
 have ih0 := impl_increasing.mono_l k
 unfold impl_increasing.f
 repeat' first
   | (with_reducible exact ih0 _ _)
   | (with_reducible exact LeO.refl _)
   | (with_reducible exact LeO.none _)
   | (with_reducible refine LeO.ite ?_ ?_)
   | (with_reducible refine LeO.bind ?_ (fun _ => ?_))
   | exact ih0 _ _
   | exact LeO.none _
   | refine LeO.ite ?_ ?_
   | refine LeO.bind ?_ (fun _ => ?_)
set_option maxHeartbeats 8000000 in
set_option maxRecDepth 100000 in
theorem impl_increasing.calls (k : Nat) (A0 : Option Addr) (c0 : Nat) (l0 : List Int) (r : Bool) (w : World) (hr0 : Kd.C (Kd.int .i64) w A0 l0.length l0) (hc0 : l0.length ≤ c0) (h : impl_increasing.f k l0 = some r) :
  Calls Try.prog 81 #[.slice A0 l0.length c0] w fun e w' => e = .returned (.bool r) ∧ Drawn0 w w' := by
 have HR0 := Aside0.mk hr0
 have HC0 := Aside0.mk hc0
 clear hr0 hc0
 have H : (impl_increasing.l0 k l0 1) = some r := h
 clear h
 have H' := Aside0.mk H
 clear H
 go_enter Try.func81, Try.ntmps81
 go_wp2
 repeat (go_quiet (fail); try go_wp2)
 go_loopg [3] k (fun kq v3 w' => ∃ (x3_1 : Int), v3 = .int .i64 x3_1 ∧ Aside0 (impl_increasing.l0 kq l0 x3_1 = some r) ∧ Aside0 (kq ≤ k) ∧ Drawn0 w w')
 case atStart => exact ⟨(1), (by first | rfl | (simp; done) | (simp [*]; done)), H', ⟨Nat.le_refl _⟩, by repeat (first | exact Drawn0.refl _ | apply Drawn0.step)⟩
 case round =>
  clear H'
  obtain ⟨x3_1, rfl, HA, HK1, ⟨m1, rfl⟩⟩ := hrel
  cases gk with
  | zero => exact absurd HA.out (by simp [impl_increasing.l0])
  | succ k1 =>
   have H := HA.out
   clear HA
   simp only [impl_increasing.l0] at H
   by_cases c2 : x3_1 < (l0.length : Int)
   ·rw [if_pos c2] at H
    have c2b0 : decide (x3_1 < (l0.length : Int)) = true := decide_eq_true c2
    clear c2
    obtain ⟨ji3, hji3⟩ : ∃ j_ : Int, (wrap64 (x3_1 - 1)) = j_ := ⟨_, rfl⟩
    replace H : (if 0 ≤ (ji3) then (if (ji3) < (l0.length : Int) then (if 0 ≤ x3_1 then (if (rd l0 (ji3)) ≥ (rd l0 x3_1) then (some false) else (impl_increasing.l0 k1 l0 (wrap64 (x3_1 + 1)))) else (none)) else (none)) else (none)) = some r := by first | (rw [hji3] at H; exact H) | (simp only [hji3] at H ⊢; exact H)
    have hji3w : (IntKind.i64.wrap (x3_1 - 1)) = ji3 := (i64_w _).trans hji3
    by_cases c4 : 0 ≤ (ji3)
    ·rw [if_pos c4] at H
     have c4b0 : decide (0 ≤ (ji3)) = true := decide_eq_true c4
     clear c4
     by_cases c5 : (ji3) < (l0.length : Int)
     ·rw [if_pos c5] at H
      have c5b0 : decide ((ji3) < (l0.length : Int)) = true := decide_eq_true c5
      clear c5
      by_cases c6 : 0 ≤ x3_1
      ·rw [if_pos c6] at H
       have c6b0 : decide (0 ≤ x3_1) = true := decide_eq_true c6
       clear c6
       by_cases c7 : (rd l0 (ji3)) ≥ (rd l0 x3_1)
       ·rw [if_pos c7] at H
        have c7b0 : decide ((rd l0 x3_1) ≤ (rd l0 (ji3))) = true := decide_eq_true c7
        clear c7
        obtain rfl := Option.some.inj H
        have p275 : 0 ≤ ((ji3) : Int) := of_decide_eq_true (by first | (with_reducible assumption) | assumption)
        have q275 : (ji3) < (l0.length : Int) := of_decide_eq_true (by first | (with_reducible assumption) | assumption)
        obtain ⟨ad275, e275, hx275_0⟩ := Kd.at_int HR0.out (ji3) p275 q275
        cases e275
        replace p275 := eq_true p275
        replace q275 := eq_true q275
        have p276 : 0 ≤ (x3_1 : Int) := of_decide_eq_true (by first | (with_reducible assumption) | assumption)
        have q276 : x3_1 < (l0.length : Int) := of_decide_eq_true (by first | (with_reducible assumption) | assumption)
        obtain ⟨ad276, e276, hx276_0⟩ := Kd.at_int HR0.out x3_1 p276 q276
        obtain rfl : ad275 = ad276 := (by injection e276)
        replace p276 := eq_true p276
        replace q276 := eq_true q276
        go_wp2
        repeat (go_quiet (fail); try go_wp2)
        go_ret
        exact ⟨by first | rfl | (simp; done) | (simp only [← hji3] <;> (first | rfl | simp)) | (simp [*]; done), by repeat (first | exact Drawn0.refl _ | apply Drawn0.step)⟩
       ·rw [if_neg c7] at H
        have c7b0 : decide ((rd l0 x3_1) ≤ (rd l0 (ji3))) = false := decide_eq_false c7
        clear c7
        have H' := Aside0.mk H
        clear H
        have p275 : 0 ≤ ((ji3) : Int) := of_decide_eq_true (by first | (with_reducible assumption) | assumption)
        have q275 : (ji3) < (l0.length : Int) := of_decide_eq_true (by first | (with_reducible assumption) | assumption)
        obtain ⟨ad275, e275, hx275_0⟩ := Kd.at_int HR0.out (ji3) p275 q275
        cases e275
        replace p275 := eq_true p275
        replace q275 := eq_true q275
        have p276 : 0 ≤ (x3_1 : Int) := of_decide_eq_true (by first | (with_reducible assumption) | assumption)
        have q276 : x3_1 < (l0.length : Int) := of_decide_eq_true (by first | (with_reducible assumption) | assumption)
        obtain ⟨ad276, e276, hx276_0⟩ := Kd.at_int HR0.out x3_1 p276 q276
        obtain rfl : ad275 = ad276 := (by injection e276)
        replace p276 := eq_true p276
        replace q276 := eq_true q276
        go_wp2
        repeat (go_quiet (fail); try go_wp2)
        go_roundg k1
        case measure => have := HK1.out; omega
        case rel => exact ⟨(wrap64 (x3_1 + 1)), (by first | rfl | (simp; done) | (simp [*]; done)), H', ⟨by have := HK1.out; omega⟩, by repeat (first | exact Drawn0.refl _ | apply Drawn0.step)⟩
      ·rw [if_neg c6] at H
       exact absurd H (by simp)
     ·rw [if_neg c5] at H
      exact absurd H (by simp)
    ·rw [if_neg c4] at H
     exact absurd H (by simp)
   ·rw [if_neg c2] at H
    have c2b0 : decide (x3_1 < (l0.length : Int)) = false := decide_eq_false c2
    clear c2
    obtain rfl := Option.some.inj H
    go_wp2
    repeat (go_quiet (fail); try go_wp2)
    go_ret
    exact ⟨by first | rfl | (simp; done) | (simp [*]; done), by repeat (first | exact Drawn0.refl _ | apply Drawn0.step)⟩
def impl_IsCombination.f (k : Nat) (a0 : Int) (l1 : List Int) : Option (Bool) := (impl_within.f a0 0 12).bind fun t277 => (if t277 = true then ((impl_allWithin.f k l1 0 (wrap64 (a0 - 1))).bind fun t278 => (if t278 = true then ((impl_increasing.f k l1).bind fun t279 => (some t279)) else (some false))) else (some false))
theorem impl_IsCombination.mono : ∀ a0 a1 k, LeO (impl_IsCombination.f k a0 a1) (impl_IsCombination.f (k + 1) a0 a1) := by
 intro a0 a1 k
 unfold impl_IsCombination.f
 repeat' first
   | (with_reducible exact impl_allWithin.mono _ _ _ _)
   | (with_reducible exact impl_increasing.mono _ _)
   | (with_reducible exact LeO.refl _)
   | (with_reducible exact LeO.none _)
   | (with_reducible refine LeO.ite ?_ ?_)
   | (with_reducible refine LeO.bind ?_ (fun _ => ?_))
   | exact impl_allWithin.mono _ _ _ _
   | exact impl_increasing.mono _ _
   | exact LeO.none _
   | refine LeO.ite ?_ ?_
   | refine LeO.bind ?_ (fun _ => ?_)
set_option maxHeartbeats 8000000 in
set_option maxRecDepth 100000 in
theorem impl_IsCombination.calls (k : Nat) (a0 : Int) (A1 : Option Addr) (c1 : Nat) (l1 : List Int) (r : Bool) (w : World) (hr1 : Kd.C (Kd.int .i64) w A1 l1.length l1) (hc1 : l1.length ≤ c1) (h : impl_IsCombination.f k a0 l1 = some r) :
  Calls Try.prog 60 #[.int .i64 a0, .slice A1 l1.length c1] w fun e w' => e = .returned (.bool r) ∧ Drawn0 w w' := by
 have HR1 := Aside0.mk hr1
 have HC1 := Aside0.mk hc1
 clear hr1 hc1
 have H : ((impl_within.f a0 0 12).bind fun t277 => (if t277 = true then ((impl_allWithin.f k l1 0 (wrap64 (a0 - 1))).bind fun t278 => (if t278 = true then ((impl_increasing.f k l1).bind fun t279 => (some t279)) else (some false))) else (some false))) = some r := h
 clear h
 replace H := Option.bind_eq_some_iff.mp H
 obtain ⟨t277, A30, H⟩ := H
 replace H : (if t277 = true then ((impl_allWithin.f k l1 0 (wrap64 (a0 - 1))).bind fun t278 => (if t278 = true then ((impl_increasing.f k l1).bind fun t279 => (some t279)) else (some false))) else (some false)) = some r := H
 have A3 := Aside0.mk A30
 clear A30
 by_cases c4 : t277 = true
 ·subst c4
  have H1 : ((impl_allWithin.f k l1 0 (wrap64 (a0 - 1))).bind fun t278 => (if t278 = true then ((impl_increasing.f k l1).bind fun t279 => (some t279)) else (some false))) = some r := by rw [if_pos rfl] at H; exact H
  clear H
  have H := H1
  clear H1
  replace H := Option.bind_eq_some_iff.mp H
  obtain ⟨t278, A50, H⟩ := H
  replace H : (if t278 = true then ((impl_increasing.f k l1).bind fun t279 => (some t279)) else (some false)) = some r := H
  have A5 := Aside0.mk A50
  clear A50
  by_cases c6 : t278 = true
  ·subst c6
   have H1 : ((impl_increasing.f k l1).bind fun t279 => (some t279)) = some r := by rw [if_pos rfl] at H; exact H
   clear H
   have H := H1
   clear H1
   replace H := Option.bind_eq_some_iff.mp H
   obtain ⟨t279, A70, H⟩ := H
   replace H : (some t279) = some r := H
   have A7 := Aside0.mk A70
   clear A70
   obtain rfl := Option.some.inj H
   go_enter Try.func60, Try.ntmps60
   go_wp2_with (first | ((with_reducible refine gate_callee (f := 53) rfl ?_); refine goesL_ (some 6) rfl rfl Try.func53 (by kernel_rfl) rfl #[.int .i64 a0, .int .i64 0, .int .i64 12] rfl (by (try simp only [List.map_toArray, List.map_cons, List.map_nil]); first | done | rfl | (simp only [List.length_drop, List.length_take]; rfl)) ?_; (with_reducible refine (impl_within.calls a0 0 12 true _ A3.out).mono ?_); rintro e w' ⟨rfl, ⟨nd, rfl⟩⟩; refine ⟨_, rfl, ?_⟩) | (go_at_call 80; (with_reducible refine (impl_allWithin.calls k _ _ l1 0 (wrap64 (a0 - 1)) true _ ?side1 ?side2 A5.out).mono ?_); (case side1 => repeat (first | exact HR1.out | (with_reducible refine Kd.C_alloc ?_ _) | (with_reducible refine Kd.C_drewN ?_ _) | (with_reducible refine Kd.C_drew ?_))); (case side2 => exact HC1.out); rintro e w' ⟨rfl, ⟨nd, rfl⟩⟩) | (go_at_call 81; (with_reducible refine (impl_increasing.calls k _ _ l1 t279 _ ?side1 ?side2 A7.out).mono ?_); (case side1 => repeat (first | exact HR1.out | (with_reducible refine Kd.C_alloc ?_ _) | (with_reducible refine Kd.C_drewN ?_ _) | (with_reducible refine Kd.C_drew ?_))); (case side2 => exact HC1.out); rintro e w' ⟨rfl, ⟨nd, rfl⟩⟩))
   go_ret
   exact ⟨by first | rfl | (simp; done) | (simp [*]; done), by repeat (first | exact Drawn0.refl _ | apply Drawn0.step)⟩
  ·replace c6 := Bool.eq_false_iff.mpr c6
   subst c6
   have H1 : (some false) = some r := by rw [if_neg (show ¬ (false = true) by decide)] at H; exact H
   clear H
   have H := H1
   clear H1
   obtain rfl := Option.some.inj H
   go_enter Try.func60, Try.ntmps60
   go_wp2_with (first | ((with_reducible refine gate_callee (f := 53) rfl ?_); refine goesL_ (some 6) rfl rfl Try.func53 (by kernel_rfl) rfl #[.int .i64 a0, .int .i64 0, .int .i64 12] rfl (by (try simp only [List.map_toArray, List.map_cons, List.map_nil]); first | done | rfl | (simp only [List.length_drop, List.length_take]; rfl)) ?_; (with_reducible refine (impl_within.calls a0 0 12 true _ A3.out).mono ?_); rintro e w' ⟨rfl, ⟨nd, rfl⟩⟩; refine ⟨_, rfl, ?_⟩) | (go_at_call 80; (with_reducible refine (impl_allWithin.calls k _ _ l1 0 (wrap64 (a0 - 1)) false _ ?side1 ?side2 A5.out).mono ?_); (case side1 => repeat (first | exact HR1.out | (with_reducible refine Kd.C_alloc ?_ _) | (with_reducible refine Kd.C_drewN ?_ _) | (with_reducible refine Kd.C_drew ?_))); (case side2 => exact HC1.out); rintro e w' ⟨rfl, ⟨nd, rfl⟩⟩))
   go_ret
   exact ⟨by first | rfl | (simp; done) | (simp [*]; done), by repeat (first | exact Drawn0.refl _ | apply Drawn0.step)⟩
 ·replace c4 := Bool.eq_false_iff.mpr c4
  subst c4
  have H1 : (some false) = some r := by rw [if_neg (show ¬ (false = true) by decide)] at H; exact H
  clear H
  have H := H1
  clear H1
  obtain rfl := Option.some.inj H
  go_enter Try.func60, Try.ntmps60
  go_wp2_with (first | ((with_reducible refine gate_callee (f := 53) rfl ?_); refine goesL_ (some 6) rfl rfl Try.func53 (by kernel_rfl) rfl #[.int .i64 a0, .int .i64 0, .int .i64 12] rfl (by (try simp only [List.map_toArray, List.map_cons, List.map_nil]); first | done | rfl | (simp only [List.length_drop, List.length_take]; rfl)) ?_; (with_reducible refine (impl_within.calls a0 0 12 false _ A3.out).mono ?_); rintro e w' ⟨rfl, ⟨nd, rfl⟩⟩; refine ⟨_, rfl, ?_⟩))
  go_ret
  exact ⟨by first | rfl | (simp; done) | (simp [*]; done), by repeat (first | exact Drawn0.refl _ | apply Drawn0.step)⟩
def impl_areCombinations.l0 : Nat → Int → List (List Int) → List (List Int) → Int → Int → Option (Bool)
 | 0, _, _, _, _, _ => none
 | k + 1, x0, x1, x7, x8, x9 => if x9 < x8 then (if 0 ≤ x9 then (if x9 < (x7.length : Int) then ((impl_IsCombination.f k x0 (rd_L1 x7 x9)).bind fun t281 => (if t281 = true then (impl_areCombinations.l0 k x0 x1 x7 x8 (wrap64 (x9 + 1))) else (some false))) else (none)) else (none)) else ((impl_within.f x0 0 12).bind fun t282 => (if t282 = true then (some (decide ((x1.length : Int) ≤ 1100))) else (some false)))
def impl_areCombinations.f (k : Nat) (a0 : Int) (l1 : List (List Int)) : Option (Bool) := impl_areCombinations.l0 k a0 l1 l1 (l1.length : Int) 0
theorem impl_areCombinations.mono_l : ∀ k, (∀ y0 y1 y2 y3 y4, LeO (impl_areCombinations.l0 k y0 y1 y2 y3 y4) (impl_areCombinations.l0 (k + 1) y0 y1 y2 y3 y4))
 | 0 => fun _ _ _ _ _ r h => by simp [impl_areCombinations.l0] at h
 | k + 1 => by
  have ih0 := impl_areCombinations.mono_l k
  ·intro y0 y1 y2 y3 y4
   unfold impl_areCombinations.l0
   repeat' first
   | (with_reducible exact ih0 _ _ _ _ _)
   | (with_reducible exact impl_IsCombination.mono _ _ _)
   | (with_reducible exact LeO.refl _)
   | (with_reducible exact LeO.none _)
   | (with_reducible refine LeO.ite ?_ ?_)
   | (with_reducible refine LeO.bind ?_ (fun _ => ?_))
   | exact ih0 _ _ _ _ _
   | exact impl_IsCombination.mono _ _ _
   | exact LeO.none _
   | refine LeO.ite ?_ ?_
   | refine LeO.bind ?_ (fun _ => ?_)
theorem impl_areCombinations.mono : ∀ a0 a1 k, LeO (impl_areCombinations.f k a0 a1) (impl_areCombinations.f (k + 1) a0 a1) := by
 intro a0 a1 k
 have ih0 := impl_areCombinations.mono_l k
 unfold impl_areCombinations.f
 repeat' first
   | (with_reducible exact ih0 _ _ _ _ _)
   | (with_reducible exact impl_IsCombination.mono _ _ _)
   | (with_reducible exact LeO.refl _)
   | (with_reducible exact LeO.none _)
   | (with_reducible refine LeO.ite ?_ ?_)
   | (with_reducible refine LeO.bind ?_ (fun _ => ?_))
   | exact ih0 _ _ _ _ _
   | exact impl_IsCombination.mono _ _ _
   | exact LeO.none _
   | refine LeO.ite ?_ ?_
   | refine LeO.bind ?_ (fun _ => ?_)
set_option maxHeartbeats 8000000 in
set_option maxRecDepth 100000 in
theorem impl_areCombinations.calls (k : Nat) (a0 : Int) (A1 : Option Addr) (c1 : Nat) (l1 : List (List Int)) (r : Bool) (w : World) (hr1 : Kd.C (Kd.slice 3 (Kd.int .i64)) w A1 l1.length l1) (hc1 : l1.length ≤ c1) (h : impl_areCombinations.f k a0 l1 = some r) :
  Calls Try.prog 47 #[.int .i64 a0, .slice A1 l1.length c1] w fun e w' => e = .returned (.bool r) ∧ Drawn0 w w' := by
 have HR1 := Aside0.mk hr1
 have HC1 := Aside0.mk hc1
 clear hr1 hc1
 have H : (impl_areCombinations.l0 k a0 l1 l1 (l1.length : Int) 0) = some r := h
 clear h
 have H' := Aside0.mk H
 clear H
 go_enter Try.func47, Try.ntmps47
 go_wp2
 go_loopg [9] k (fun kq v9 w' => ∃ (x9_1 : Int), v9 = .int .i64 x9_1 ∧ Aside0 (impl_areCombinations.l0 kq a0 l1 l1 (l1.length : Int) x9_1 = some r) ∧ Aside0 (kq ≤ k) ∧ Drawn0 w w')
 case atStart => exact ⟨(0), (by first | rfl | (simp; done) | (simp [*]; done)), H', ⟨Nat.le_refl _⟩, by repeat (first | exact Drawn0.refl _ | apply Drawn0.step)⟩
 case round =>
  clear H'
  try clear c1
  try clear p2
  obtain ⟨x9_1, rfl, HA, HK1, ⟨m1, rfl⟩⟩ := hrel
  cases gk with
  | zero => exact absurd HA.out (by simp [impl_areCombinations.l0])
  | succ k1 =>
   have H := HA.out
   clear HA
   simp only [impl_areCombinations.l0] at H
   by_cases c3 : x9_1 < (l1.length : Int)
   ·rw [if_pos c3] at H
    have c3b0 : decide (x9_1 < (l1.length : Int)) = true := decide_eq_true c3
    clear c3
    by_cases c4 : 0 ≤ x9_1
    ·rw [if_pos c4] at H
     have c4b0 : decide (0 ≤ x9_1) = true := decide_eq_true c4
     clear c4
     by_cases c5 : x9_1 < (l1.length : Int)
     ·rw [if_pos c5] at H
      have c5b0 : decide (x9_1 < (l1.length : Int)) = true := decide_eq_true c5
      clear c5
      replace H := Option.bind_eq_some_iff.mp H
      obtain ⟨t281, A60, H⟩ := H
      replace H : (if t281 = true then (impl_areCombinations.l0 k1 a0 l1 l1 (l1.length : Int) (wrap64 (x9_1 + 1))) else (some false)) = some r := H
      have A6 := Aside0.mk A60
      clear A60
      by_cases c7 : t281 = true
      ·subst c7
       have H1 : (impl_areCombinations.l0 k1 a0 l1 l1 (l1.length : Int) (wrap64 (x9_1 + 1))) = some r := by rw [if_pos rfl] at H; exact H
       clear H
       have H := H1
       clear H1
       have H' := Aside0.mk H
       clear H
       have p280 : 0 ≤ (x9_1 : Int) := of_decide_eq_true (by first | (with_reducible assumption) | assumption)
       have q280 : x9_1 < (l1.length : Int) := of_decide_eq_true (by first | (with_reducible assumption) | assumption)
       obtain ⟨ad280, A280_0, c280_0, e280, hx280_0, hl280_0, hi280_0⟩ := at_L1 HR1.out x9_1 p280 q280
       cases e280
       have HR280_0 := Aside0.mk hi280_0
       have HC280_0 := Aside0.mk hl280_0
       clear hi280_0 hl280_0
       replace p280 := eq_true p280
       replace q280 := eq_true q280
       go_wp2_with (first | ((with_reducible refine gate_callee (f := 60) rfl ?_); refine goesL_ (some 15) rfl rfl Try.func60 (by kernel_rfl) rfl #[.int .i64 a0, .slice A280_0 (rd_L1 l1 x9_1).length c280_0] rfl (by (try simp only [List.map_toArray, List.map_cons, List.map_nil]); first | done | rfl | (simp only [List.length_drop, List.length_take]; rfl)) ?_; (with_reducible refine (impl_IsCombination.calls k1 a0 _ _ (rd_L1 l1 x9_1) true _ ?side1 ?side2 A6.out).mono ?_); (case side1 => repeat (first | exact HR280_0.out | (with_reducible refine Kd.C_alloc ?_ _) | (with_reducible refine Kd.C_drewN ?_ _) | (with_reducible refine Kd.C_drew ?_))); (case side2 => exact HC280_0.out); rintro e w' ⟨rfl, ⟨nd, rfl⟩⟩; refine ⟨_, rfl, ?_⟩))
       go_roundg k1
       case measure => have := HK1.out; omega
       case rel => exact ⟨(wrap64 (x9_1 + 1)), (by first | rfl | (simp; done) | (simp [*]; done)), H', ⟨by have := HK1.out; omega⟩, by repeat (first | exact Drawn0.refl _ | apply Drawn0.step)⟩
      ·replace c7 := Bool.eq_false_iff.mpr c7
       subst c7
       have H1 : (some false) = some r := by rw [if_neg (show ¬ (false = true) by decide)] at H; exact H
       clear H
       have H := H1
       clear H1
       obtain rfl := Option.some.inj H
       have p280 : 0 ≤ (x9_1 : Int) := of_decide_eq_true (by first | (with_reducible assumption) | assumption)
       have q280 : x9_1 < (l1.length : Int) := of_decide_eq_true (by first | (with_reducible assumption) | assumption)
       obtain ⟨ad280, A280_0, c280_0, e280, hx280_0, hl280_0, hi280_0⟩ := at_L1 HR1.out x9_1 p280 q280
       cases e280
       have HR280_0 := Aside0.mk hi280_0
       have HC280_0 := Aside0.mk hl280_0
       clear hi280_0 hl280_0
       replace p280 := eq_true p280
       replace q280 := eq_true q280
       go_wp2_with (first | ((with_reducible refine gate_callee (f := 60) rfl ?_); refine goesL_ (some 15) rfl rfl Try.func60 (by kernel_rfl) rfl #[.int .i64 a0, .slice A280_0 (rd_L1 l1 x9_1).length c280_0] rfl (by (try simp only [List.map_toArray, List.map_cons, List.map_nil]); first | done | rfl | (simp only [List.length_drop, List.length_take]; rfl)) ?_; (with_reducible refine (impl_IsCombination.calls k1 a0 _ _ (rd_L1 l1 x9_1) false _ ?side1 ?side2 A6.out).mono ?_); (case side1 => repeat (first | exact HR280_0.out | (with_reducible refine Kd.C_alloc ?_ _) | (with_reducible refine Kd.C_drewN ?_ _) | (with_reducible refine Kd.C_drew ?_))); (case side2 => exact HC280_0.out); rintro e w' ⟨rfl, ⟨nd, rfl⟩⟩; refine ⟨_, rfl, ?_⟩))
       go_ret
       exact ⟨by first | rfl | (simp; done) | (simp [*]; done), by repeat (first | exact Drawn0.refl _ | apply Drawn0.step)⟩
     ·rw [if_neg c5] at H
      exact absurd H (by simp)
    ·rw [if_neg c4] at H
     exact absurd H (by simp)
   ·rw [if_neg c3] at H
    have c3b0 : decide (x9_1 < (l1.length : Int)) = false := decide_eq_false c3
    clear c3
    replace H := Option.bind_eq_some_iff.mp H
    obtain ⟨t282, A80, H⟩ := H
    replace H : (if t282 = true then (some (decide ((l1.length : Int) ≤ 1100))) else (some false)) = some r := H
    have A8 := Aside0.mk A80
    clear A80
    by_cases c9 : t282 = true
    ·subst c9
     have H1 : (some (decide ((l1.length : Int) ≤ 1100))) = some r := by rw [if_pos rfl] at H; exact H
     clear H
     have H := H1
     clear H1
     obtain rfl := Option.some.inj H
     go_wp2_with (first | ((with_reducible refine gate_callee (f := 53) rfl ?_); refine goesL_ (some 19) rfl rfl Try.func53 (by kernel_rfl) rfl #[.int .i64 a0, .int .i64 0, .int .i64 12] rfl (by (try simp only [List.map_toArray, List.map_cons, List.map_nil]); first | done | rfl | (simp only [List.length_drop, List.length_take]; rfl)) ?_; (with_reducible refine (impl_within.calls a0 0 12 true _ A8.out).mono ?_); rintro e w' ⟨rfl, ⟨nd, rfl⟩⟩; refine ⟨_, rfl, ?_⟩))
     go_ret
     exact ⟨by first | rfl | (simp; done) | (simp [*]; done), by repeat (first | exact Drawn0.refl _ | apply Drawn0.step)⟩
    ·replace c9 := Bool.eq_false_iff.mpr c9
     subst c9
     have H1 : (some false) = some r := by rw [if_neg (show ¬ (false = true) by decide)] at H; exact H
     clear H
     have H := H1
     clear H1
     obtain rfl := Option.some.inj H
     go_wp2_with (first | ((with_reducible refine gate_callee (f := 53) rfl ?_); refine goesL_ (some 19) rfl rfl Try.func53 (by kernel_rfl) rfl #[.int .i64 a0, .int .i64 0, .int .i64 12] rfl (by (try simp only [List.map_toArray, List.map_cons, List.map_nil]); first | done | rfl | (simp only [List.length_drop, List.length_take]; rfl)) ?_; (with_reducible refine (impl_within.calls a0 0 12 false _ A8.out).mono ?_); rintro e w' ⟨rfl, ⟨nd, rfl⟩⟩; refine ⟨_, rfl, ?_⟩))
     go_ret
     exact ⟨by first | rfl | (simp; done) | (simp [*]; done), by repeat (first | exact Drawn0.refl _ | apply Drawn0.step)⟩
mutual
def impl_combinationRank.l0 : Nat → Int → List Int → Int → Int → List Int → Int → Int → Option (Int)
 | 0, _, _, _, _, _, _, _ => none
 | k + 1, x0, x1, x5, x6, x9, x10, x11 => if x11 < x10 then (if 0 ≤ x11 then (if x11 < (x9.length : Int) then (impl_combinationRank.l1 k x0 x1 x5 x6 x11 (rd x9 x11) x9 x10 x11) else (none)) else (none)) else (some x5)
def impl_combinationRank.l1 : Nat → Int → List Int → Int → Int → Int → Int → List Int → Int → Int → Option (Int)
 | 0, _, _, _, _, _, _, _, _, _ => none
 | k + 1, x0, x1, x5, x6, x7, x8, x9, x10, x11 => if x6 < x8 then ((impl_binomial.f k (wrap64 ((wrap64 (x0 - x6)) - 1)) (wrap64 ((wrap64 ((x1.length : Int) - x7)) - 1))).bind fun t284 => (impl_combinationRank.l1 k x0 x1 (wrap64 (x5 + t284)) (wrap64 (x6 + 1)) x7 x8 x9 x10 x11)) else (impl_combinationRank.l0 k x0 x1 x5 (wrap64 (x6 + 1)) x9 x10 (wrap64 (x11 + 1)))
end
def impl_combinationRank.f (k : Nat) (a0 : Int) (l1 : List Int) : Option (Int) := impl_combinationRank.l0 k a0 l1 0 0 l1 (l1.length : Int) 0
theorem impl_combinationRank.mono_l : ∀ k, (∀ y0 y1 y2 y3 y4 y5 y6, LeO (impl_combinationRank.l0 k y0 y1 y2 y3 y4 y5 y6) (impl_combinationRank.l0 (k + 1) y0 y1 y2 y3 y4 y5 y6)) ∧ (∀ y0 y1 y2 y3 y4 y5 y6 y7 y8, LeO (impl_combinationRank.l1 k y0 y1 y2 y3 y4 y5 y6 y7 y8) (impl_combinationRank.l1 (k + 1) y0 y1 y2 y3 y4 y5 y6 y7 y8))
 | 0 => ⟨fun _ _ _ _ _ _ _ r h => by simp [impl_combinationRank.l0] at h, fun _ _ _ _ _ _ _ _ _ r h => by simp [impl_combinationRank.l1] at h⟩
 | k + 1 => by
  obtain ⟨ih0, ih1⟩ := impl_combinationRank.mono_l k
  refine ⟨?_, ?_⟩
  ·intro y0 y1 y2 y3 y4 y5 y6
   unfold impl_combinationRank.l0
   repeat' first
   | (with_reducible exact ih0 _ _ _ _ _ _ _)
   | (with_reducible exact ih1 _ _ _ _ _ _ _ _ _)
   | (with_reducible exact impl_binomial.mono _ _ _)
   | (with_reducible exact LeO.refl _)
   | (with_reducible exact LeO.none _)
   | (with_reducible refine LeO.ite ?_ ?_)
   | (with_reducible refine LeO.bind ?_ (fun _ => ?_))
   | exact ih0 _ _ _ _ _ _ _
   | exact ih1 _ _ _ _ _ _ _ _ _
   | exact impl_binomial.mono _ _ _
   | exact LeO.none _
   | refine LeO.ite ?_ ?_
   | refine LeO.bind ?_ (fun _ => ?_)
  ·intro y0 y1 y2 y3 y4 y5 y6 y7 y8
   unfold impl_combinationRank.l1
   repeat' first
   | (with_reducible exact ih0 _ _ _ _ _ _ _)
   | (with_reducible exact ih1 _ _ _ _ _ _ _ _ _)
   | (with_reducible exact impl_binomial.mono _ _ _)
   | (with_reducible exact LeO.refl _)
   | (with_reducible exact LeO.none _)
   | (with_reducible refine LeO.ite ?_ ?_)
   | (with_reducible refine LeO.bind ?_ (fun _ => ?_))
   | exact ih0 _ _ _ _ _ _ _
   | exact ih1 _ _ _ _ _ _ _ _ _
   | exact impl_binomial.mono _ _ _
   | exact LeO.none _
   | refine LeO.ite ?_ ?_
   | refine LeO.bind ?_ (fun _ => ?_)
theorem impl_combinationRank.mono : ∀ a0 a1 k, LeO (impl_combinationRank.f k a0 a1) (impl_combinationRank.f (k + 1) a0 a1) := by
 intro a0 a1 k
 obtain ⟨ih0, ih1⟩ := impl_combinationRank.mono_l k
 unfold impl_combinationRank.f
 repeat' first
   | (with_reducible exact ih0 _ _ _ _ _ _ _)
   | (with_reducible exact ih1 _ _ _ _ _ _ _ _ _)
   | (with_reducible exact impl_binomial.mono _ _ _)
   | (with_reducible exact LeO.refl _)
   | (with_reducible exact LeO.none _)
   | (with_reducible refine LeO.ite ?_ ?_)
   | (with_reducible refine LeO.bind ?_ (fun _ => ?_))
   | exact ih0 _ _ _ _ _ _ _
   | exact ih1 _ _ _ _ _ _ _ _ _
   | exact impl_binomial.mono _ _ _
   | exact LeO.none _
   | refine LeO.ite ?_ ?_
   | refine LeO.bind ?_ (fun _ => ?_)
set_option maxHeartbeats 8000000 in
set_option maxRecDepth 100000 in
theorem impl_combinationRank.calls (k : Nat) (a0 : Int) (A1 : Option Addr) (c1 : Nat) (l1 : List Int) (r : Int) (w : World) (hr1 : Kd.C (Kd.int .i64) w A1 l1.length l1) (hc1 : l1.length ≤ c1) (h : impl_combinationRank.f k a0 l1 = some r) :
  Calls Try.prog 74 #[.int .i64 a0, .slice A1 l1.length c1] w fun e w' => e = .returned (.int .i64 r) ∧ Drawn0 w w' := by
 have HR1 := Aside0.mk hr1
 have HC1 := Aside0.mk hc1
 clear hr1 hc1
 have H : (impl_combinationRank.l0 k a0 l1 0 0 l1 (l1.length : Int) 0) = some r := h
 clear h
 have H' := Aside0.mk H
 clear H
 go_enter Try.func74, Try.ntmps74
 go_wp2
 go_loopg [5, 6, 11] k (fun kq v5 v6 v11 w' => ∃ (x5_1 : Int) (x6_1 : Int) (x11_1 : Int), v5 = .int .i64 x5_1 ∧ v6 = .int .i64 x6_1 ∧ v11 = .int .i64 x11_1 ∧ Aside0 (impl_combinationRank.l0 kq a0 l1 x5_1 x6_1 l1 (l1.length : Int) x11_1 = some r) ∧ Aside0 (kq ≤ k) ∧ Drawn0 w w')
 case atStart => exact ⟨(0), (0), (0), (by first | rfl | (simp; done) | (simp [*]; done)), (by first | rfl | (simp; done) | (simp [*]; done)), (by first | rfl | (simp; done) | (simp [*]; done)), H', ⟨Nat.le_refl _⟩, by repeat (first | exact Drawn0.refl _ | apply Drawn0.step)⟩
 case round =>
  clear H'
  try clear c1
  try clear p2
  obtain ⟨x5_1, x6_1, x11_1, rfl, rfl, rfl, HA, HK1, ⟨m1, rfl⟩⟩ := hrel
  cases gk with
  | zero => exact absurd HA.out (by simp [impl_combinationRank.l0])
  | succ k1 =>
   have H := HA.out
   clear HA
   simp only [impl_combinationRank.l0] at H
   by_cases c3 : x11_1 < (l1.length : Int)
   ·rw [if_pos c3] at H
    have c3b0 : decide (x11_1 < (l1.length : Int)) = true := decide_eq_true c3
    clear c3
    by_cases c4 : 0 ≤ x11_1
    ·rw [if_pos c4] at H
     have c4b0 : decide (0 ≤ x11_1) = true := decide_eq_true c4
     clear c4
     by_cases c5 : x11_1 < (l1.length : Int)
     ·rw [if_pos c5] at H
      have c5b0 : decide (x11_1 < (l1.length : Int)) = true := decide_eq_true c5
      clear c5
      have H' := Aside0.mk H
      clear H
      have p283 : 0 ≤ (x11_1 : Int) := of_decide_eq_true (by first | (with_reducible assumption) | assumption)
      have q283 : x11_1 < (l1.length : Int) := of_decide_eq_true (by first | (with_reducible assumption) | assumption)
      obtain ⟨ad283, e283, hx283_0⟩ := Kd.at_int HR1.out x11_1 p283 q283
      cases e283
      replace p283 := eq_true p283
      replace q283 := eq_true q283
      go_wp2
      go_loopg [5, 6] k1 (fun kq v5 v6 w' => ∃ (x5_2 : Int) (x6_2 : Int), v5 = .int .i64 x5_2 ∧ v6 = .int .i64 x6_2 ∧ Aside0 (impl_combinationRank.l1 kq a0 l1 x5_2 x6_2 x11_1 (rd l1 x11_1) l1 (l1.length : Int) x11_1 = some r) ∧ Aside0 (kq ≤ k1) ∧ Drawn0 w w')
      case atStart => exact ⟨(x5_1), (x6_1), (by first | rfl | (simp; done) | (simp [*]; done)), (by first | rfl | (simp; done) | (simp [*]; done)), H', ⟨Nat.le_refl _⟩, by repeat (first | exact Drawn0.refl _ | apply Drawn0.step)⟩
      case round =>
       clear H'
       try clear c1
       try clear p2
       try clear q2
       try clear hx2
       try clear c3
       try clear c3b0
       try clear c4
       try clear c4b0
       try clear c5
       try clear c5b0
       try clear hx283_0
       try clear p2
       try clear p283
       try clear q283
       obtain ⟨x5_2, x6_2, rfl, rfl, HA, HK2, ⟨m2, rfl⟩⟩ := hrel
       cases gk with
       | zero => exact absurd HA.out (by simp [impl_combinationRank.l1])
       | succ k2 =>
        have H := HA.out
        clear HA
        simp only [impl_combinationRank.l1] at H
        by_cases c6 : x6_2 < (rd l1 x11_1)
        ·rw [if_pos c6] at H
         have c6b0 : decide (x6_2 < (rd l1 x11_1)) = true := decide_eq_true c6
         clear c6
         replace H := Option.bind_eq_some_iff.mp H
         obtain ⟨t284, A70, H⟩ := H
         replace H : (impl_combinationRank.l1 k2 a0 l1 (wrap64 (x5_2 + t284)) (wrap64 (x6_2 + 1)) x11_1 (rd l1 x11_1) l1 (l1.length : Int) x11_1) = some r := H
         have A7 := Aside0.mk A70
         clear A70
         have H' := Aside0.mk H
         clear H
         go_wp2_with (first | ((with_reducible refine gate_callee (f := 50) rfl ?_); refine goesL_ (some 31) rfl rfl Try.func50 (by kernel_rfl) rfl #[.int .i64 (wrap64 ((wrap64 (a0 - x6_2)) - 1)), .int .i64 (wrap64 ((wrap64 ((l1.length : Int) - x11_1)) - 1))] rfl (by (try simp only [List.map_toArray, List.map_cons, List.map_nil]); first | done | rfl | (simp only [List.length_drop, List.length_take]; rfl)) ?_; (with_reducible refine (impl_binomial.calls k2 (wrap64 ((wrap64 (a0 - x6_2)) - 1)) (wrap64 ((wrap64 ((l1.length : Int) - x11_1)) - 1)) t284 _ A7.out).mono ?_); rintro e w' ⟨rfl, ⟨nd, rfl⟩⟩; refine ⟨_, rfl, ?_⟩))
         go_roundg k2
         case measure => have := HK1.out; have := HK2.out; omega
         case rel => exact ⟨(wrap64 (x5_2 + t284)), (wrap64 (x6_2 + 1)), (by first | rfl | (simp; done) | (simp [*]; done)), (by first | rfl | (simp; done) | (simp [*]; done)), H', ⟨by have := HK1.out; have := HK2.out; omega⟩, by repeat (first | exact Drawn0.refl _ | apply Drawn0.step)⟩
        ·rw [if_neg c6] at H
         have c6b0 : decide (x6_2 < (rd l1 x11_1)) = false := decide_eq_false c6
         clear c6
         have H' := Aside0.mk H
         clear H
         go_wp2
         go_roundg k2
         case measure => have := HK1.out; have := HK2.out; omega
         case rel => exact ⟨(x5_2), (wrap64 (x6_2 + 1)), (wrap64 (x11_1 + 1)), (by first | rfl | (simp; done) | (simp [*]; done)), (by first | rfl | (simp; done) | (simp [*]; done)), (by first | rfl | (simp; done) | (simp [*]; done)), H', ⟨by have := HK1.out; have := HK2.out; omega⟩, by repeat (first | exact Drawn0.refl _ | apply Drawn0.step)⟩
     ·rw [if_neg c5] at H
      exact absurd H (by simp)
    ·rw [if_neg c4] at H
     exact absurd H (by simp)
   ·rw [if_neg c3] at H
    have c3b0 : decide (x11_1 < (l1.length : Int)) = false := decide_eq_false c3
    clear c3
    obtain rfl := Option.some.inj H
    go_wp2
    go_ret
    exact ⟨by first | rfl | (simp; done) | (simp [*]; done), by repeat (first | exact Drawn0.refl _ | apply Drawn0.step)⟩
theorem impl_IsAdjacentList.zeroB (w : World) : (zeroValue 4).run Try.prog w = .ok (.bool false) w := by kernel_rfl
theorem impl_IsAdjacentList.mt : Try.prog.underlying 77 = some (.map 3 4) := Try.underlying77
theorem impl_IsAdjacentList.mk_ : Try.prog.underlying 3 = some (.int .i64) := Try.underlying3
theorem impl_IsAdjacentList.me : Try.prog.underlying 4 = some .bool := Try.underlying4
def impl_IsAdjacentList.g0 : Nat → Int → Int → List (List Int) → Int → List Int → Option Bool
 | 0, _, _, _, _, _ => none
 | k + 1, n, kk, L, i, met => if i < (L.length : Int) then (if 0 ≤ i then (if i < 1000000 then (if ((rd_L1 L i).length : Int) = kk then ((impl_combinationRank.f k n (rd_L1 L i)).bind fun r => (if (Lit.int .i64 r).wf = true then (if r ∈ met then (some false) else (if met.length < 1000000 then (if i = 0 then (impl_IsAdjacentList.g0 k n kk L (wrap64 (i + 1)) (r :: met)) else ((impl_exchange.f k (rd_L1 L (i - 1)) (rd_L1 L i)).bind fun x => (if x.2.2 = true then ((impl_adjacent.f x.1 x.2.1).bind fun m => (if m = true then (impl_IsAdjacentList.g0 k n kk L (wrap64 (i + 1)) (r :: met)) else (some false))) else (some false)))) else none)) else none)) else (some false)) else none) else none) else ((impl_binomial.f k n kk).bind fun b => (some ((L.length : Int) == b)))
theorem impl_IsAdjacentList.g0_mono : ∀ k n kk L i met, LeO (impl_IsAdjacentList.g0 k n kk L i met) (impl_IsAdjacentList.g0 (k + 1) n kk L i met)
 | 0, _, _, _, _, _ => fun r h => by simp [impl_IsAdjacentList.g0] at h
 | k + 1, n, kk, L, i, met => by
  unfold impl_IsAdjacentList.g0
  exact LeO.ite (LeO.ite (LeO.ite (LeO.ite (LeO.bind (impl_combinationRank.mono _ _ _) (fun _ => LeO.ite (LeO.ite (LeO.refl _) (LeO.ite (LeO.ite (impl_IsAdjacentList.g0_mono k _ _ _ _ _) (LeO.bind (impl_exchange.mono _ _ _) (fun _ => LeO.ite (LeO.bind (LeO.refl _) (fun _ => LeO.ite (impl_IsAdjacentList.g0_mono k _ _ _ _ _) (LeO.refl _))) (LeO.refl _)))) (LeO.none _))) (LeO.none _))) (LeO.refl _)) (LeO.none _)) (LeO.none _)) (LeO.bind (impl_binomial.mono _ _ _) (fun _ => LeO.refl _))
open Go.Proofs.Ytmkokfljonbcmaa.MapSet in
set_option maxHeartbeats 8000000 in
set_option maxRecDepth 100000 in
theorem impl_IsAdjacentList.goes (k : Nat) (n kk : Int) (A2 : Option Addr) (c2 : Nat) (L : List (List Int)) (r : Bool) (w : World) (hr2 : Kd.C (Kd.slice 3 (Kd.int .i64)) w A2 L.length L) (hc2 : L.length ≤ c2) (h : impl_IsAdjacentList.g0 k n kk L 0 [] = some r) :
  Calls Try.prog 48 #[.int .i64 n, .int .i64 kk, .slice A2 L.length c2, .func (Fn.func 40) #[] #[]] w fun e w' => e = .returned (.bool r) ∧ Below w.heap.size w w' := by
 have HR := Aside0.mk hr2
 have HC := Aside0.mk hc2
 have H' := Aside0.mk h
 have hmm := @run_makeMap Try.prog
 clear hr2 hc2 h
 go_enter Try.func48, Try.ntmps48
 go_wp2
 have HM := Aside0.mk (MSet.made w Try.prog 3 4)
 have HB := Aside0.mk (below_alloc (Below.refl w.heap.size w) (.map #[] 0))
 clear hmm
 go_loopg [18] k (fun kq v18 w' => ∃ (i : Int) (met : List Int), v18 = .int .i64 i ∧ Aside0 (impl_IsAdjacentList.g0 kq n kk L i met = some r) ∧ Aside0 (kq ≤ k) ∧ Aside0 (MSet Try.prog 3 4 w' w.heap.size met) ∧ Aside0 (Below w.heap.size w w'))
 case atStart => exact ⟨0, [], rfl, H', ⟨Nat.le_refl _⟩, HM, HB⟩
 case round =>
  clear H' HM HB
  obtain ⟨i, met, rfl, HA, HK1, HM, HB⟩ := hrel
  cases gk with
  | zero => exact absurd HA.out (by simp [impl_IsAdjacentList.g0])
  | succ k1 =>
   have H := HA.out
   clear HA
   simp only [impl_IsAdjacentList.g0] at H
   by_cases c : i < (L.length : Int)
   rotate_left
   ·rw [if_neg c] at H
    have cb : decide (i < (L.length : Int)) = false := decide_eq_false c
    clear c
    obtain ⟨b, hb, H⟩ := Option.bind_eq_some_iff.mp H
    obtain rfl := Option.some.inj H
    have HBN := Aside0.mk hb
    clear hb H
    go_wp2_with fail
    refine (impl_binomial.calls k1 n kk b _ HBN.out).mono ?_
    rintro e w3 ⟨rfl, hd⟩
    have HB3 := Aside0.mk (HB.out.trans ((Drawn0.below hd).mono HB.out.size))
    clear hd
    go_wp2
    go_ret
    exact ⟨by first | rfl | simp, HB3.out⟩
   rw [if_pos c] at H
   have cb : decide (i < (L.length : Int)) = true := decide_eq_true c
   by_cases p : 0 ≤ i
   rotate_left
   ·rw [if_neg p] at H; cases H
   rw [if_pos p] at H
   by_cases p3 : i < 1000000
   rotate_left
   ·rw [if_neg p3] at H; cases H
   rw [if_pos p3] at H
   obtain ⟨ad, Ai, ci, ead, hxe, hle, hie⟩ := at_L1 HR.out i p c
   cases ead
   have HIE := Aside0.mk hie
   have HLE := Aside0.mk hle
   have HXE := Aside0.mk hxe
   replace hxe := (HB.out.cell (World.block_lt_of_cell? w _ hxe)).trans hxe
   have pb : (0 ≤ i) = True := eq_true p
   have qb : (i < (L.length : Int)) = True := eq_true c
   have P0 := Aside0.mk p
   have PC := Aside0.mk c
   have P3 := Aside0.mk p3
   clear p c p3 hle hie
   by_cases cl : ((rd_L1 L i).length : Int) = kk
   rotate_left
   ·rw [if_neg cl] at H
    have cb1 : (((rd_L1 L i).length : Int) == kk) = false := beq_eq_false_iff_ne.mpr cl
    have cb2 : (((rd_L1 L i).length : Int) != kk) = true := by simp [cb1, bne]
    clear cl
    obtain rfl := Option.some.inj H
    clear H
    go_wp2
    go_ret
    exact ⟨rfl, HB.out⟩
   rw [if_pos cl] at H
   have cb1 : (((rd_L1 L i).length : Int) == kk) = true := beq_iff_eq.mpr cl
   have cb2 : (((rd_L1 L i).length : Int) != kk) = false := by simp [cb1, bne]
   clear cl
   obtain ⟨q, hq, H⟩ := Option.bind_eq_some_iff.mp H
   by_cases cw : (Lit.int .i64 q).wf = true
   rotate_left
   ·rw [if_neg cw] at H; cases H
   rw [if_pos cw] at H
   have HQ := Aside0.mk hq
   have HW := Aside0.mk cw
   clear hq cw
   by_cases cm : q ∈ met
   ·rw [if_pos cm] at H
    have cm1 : decide (q ∈ met) = true := decide_eq_true cm
    clear cm
    obtain rfl := Option.some.inj H
    clear H
    go_wp2_with fail
    refine (impl_combinationRank.calls k1 n Ai ci (rd_L1 L i) q _ (Kd.C_below HIE.out HB.out) HLE.out HQ.out).mono ?_
    rintro e w3 ⟨rfl, hd⟩
    have HB3 := Aside0.mk (HB.out.trans ((Drawn0.below hd).mono HB.out.size))
    have HM3 := Aside0.mk (HM.out.below (Drawn0.below hd))
    clear hd hxe HB HM
    go_wp2_with (first | ((try (refine gate_guard (by rfl) ?_; dsimp only)); (with_reducible refine wpList_lookup rfl (.tmp 28) (.tmp 31) rfl impl_IsAdjacentList.mt impl_IsAdjacentList.mk_ impl_IsAdjacentList.me (impl_IsAdjacentList.zeroB _) rfl HM3.out q HW.out rfl ?_); rw [cm1]))
    go_ret
    exact ⟨rfl, HB3.out⟩
   rw [if_neg cm] at H
   have cm1 : decide (q ∈ met) = false := decide_eq_false cm
   by_cases cml : met.length < 1000000
   rotate_left
   ·rw [if_neg cml] at H; cases H
   rw [if_pos cml] at H
   have HML := Aside0.mk cml
   have HNM := Aside0.mk cm
   clear cm cml
   by_cases ci0 : i = 0
   ·rw [if_pos ci0] at H
    have Hn := Aside0.mk H
    have ci1 : (i == 0) = true := beq_iff_eq.mpr ci0
    clear ci0 H
    go_wp2_with fail
    refine (impl_combinationRank.calls k1 n Ai ci (rd_L1 L i) q _ (Kd.C_below HIE.out HB.out) HLE.out HQ.out).mono ?_
    rintro e w3 ⟨rfl, hd⟩
    have HB3 := Aside0.mk (HB.out.trans ((Drawn0.below hd).mono HB.out.size))
    have HM3 := Aside0.mk (HM.out.below (Drawn0.below hd))
    clear hd hxe HB HM
    go_wp2_with (first | ((try (refine gate_guard (by rfl) ?_; dsimp only)); (with_reducible refine wpList_lookup rfl (.tmp 28) (.tmp 31) rfl impl_IsAdjacentList.mt impl_IsAdjacentList.mk_ impl_IsAdjacentList.me (impl_IsAdjacentList.zeroB _) rfl HM3.out q HW.out rfl ?_); rw [cm1]) | fail)
    refine (impl_combinationRank.calls k1 n Ai ci (rd_L1 L i) q _ (Kd.C_below HIE.out HB3.out) HLE.out HQ.out).mono ?_
    rintro e w4 ⟨rfl, hd⟩
    have HB4 := Aside0.mk (HB3.out.trans ((Drawn0.below hd).mono HB3.out.size))
    have HM4 := Aside0.mk (HM3.out.below (Drawn0.below hd))
    clear hd HB3 HM3
    go_wp2_with (first | ((with_reducible refine wpList_store rfl (.tmp 34) (.tmp 37) (.const (.bool true)) rfl impl_IsAdjacentList.mt impl_IsAdjacentList.mk_ impl_IsAdjacentList.me rfl HM4.out ?hn q HW.out rfl rfl ?_); (case hn => have := HML.out; unfold maxLen; omega); intro w5 hm5 hg5; have HM5 := Aside0.mk (show MSet Try.prog 3 4 w5 w.heap.size (q :: met) by rw [if_neg HNM.out] at hm5; exact hm5); have HB5 := Aside0.mk (HB4.out.grown hg5 HB4.out.size (fun j hj => by cases hj; exact Nat.le_refl _)); clear hm5 hg5 HM4 HB4))
    go_roundg k1
    case measure => have := HK1.out; omega
    case rel => exact ⟨wrap64 (i + 1), q :: met, rfl, Hn, ⟨by have := HK1.out; omega⟩, HM5, HB5⟩
   rw [if_neg ci0] at H
   have ci1 : (i == 0) = false := beq_eq_false_iff_ne.mpr ci0
   obtain ⟨⟨x, y, ok⟩, hx, H⟩ := Option.bind_eq_some_iff.mp H
   have HX := Aside0.mk hx
   obtain ⟨ad', Ap, cp, ead', hxp, hlp, hip⟩ := at_L1 HR.out (i - 1) (by have := P0.out; omega) (by have := PC.out; omega)
   cases ead'
   have hw1 : IntKind.i64.wrap (i - 1) = i - 1 := IntWalk.i64_in _ (by have := P0.out; have := P3.out; omega)
   have hmin : (i - 1).toNat = i.toNat - 1 := by omega
   rw [hmin] at hxp
   have HXP := Aside0.mk hxp
   have HIP := Aside0.mk hip
   have HLP := Aside0.mk hlp
   have q0 : (0 ≤ i - 1) = True := eq_true (by have := P0.out; omega)
   have q0' : (1 ≤ i) = True := eq_true (by have := P0.out; omega)
   have q1 : (i - 1 < (L.length : Int)) = True := eq_true (by have := PC.out; omega)
   clear ci0 hx hxp hip hlp hmin
   go_wp2_with fail
   refine (impl_combinationRank.calls k1 n Ai ci (rd_L1 L i) q _ (Kd.C_below HIE.out HB.out) HLE.out HQ.out).mono ?_
   rintro e w3 ⟨rfl, hd⟩
   have HB3 := Aside0.mk (HB.out.trans ((Drawn0.below hd).mono HB.out.size))
   have HM3 := Aside0.mk (HM.out.below (Drawn0.below hd))
   clear hd hxe HB HM
   go_wp2_with (first | ((try (refine gate_guard (by rfl) ?_; dsimp only)); (with_reducible refine wpList_lookup rfl (.tmp 28) (.tmp 31) rfl impl_IsAdjacentList.mt impl_IsAdjacentList.mk_ impl_IsAdjacentList.me (impl_IsAdjacentList.zeroB _) rfl HM3.out q HW.out rfl ?_); rw [cm1]) | fail)
   refine (impl_combinationRank.calls k1 n Ai ci (rd_L1 L i) q _ (Kd.C_below HIE.out HB3.out) HLE.out HQ.out).mono ?_
   rintro e w4 ⟨rfl, hd⟩
   have HB4 := Aside0.mk (HB3.out.trans ((Drawn0.below hd).mono HB3.out.size))
   have HM4 := Aside0.mk (HM3.out.below (Drawn0.below hd))
   clear hd HB3 HM3
   go_wp2_with (first | ((with_reducible refine wpList_store rfl (.tmp 34) (.tmp 37) (.const (.bool true)) rfl impl_IsAdjacentList.mt impl_IsAdjacentList.mk_ impl_IsAdjacentList.me rfl HM4.out ?hn q HW.out rfl rfl ?_); (case hn => have := HML.out; unfold maxLen; omega); intro w5 hm5 hg5; have HM5 := Aside0.mk (show MSet Try.prog 3 4 w5 w.heap.size (q :: met) by rw [if_neg HNM.out] at hm5; exact hm5); have HB5 := Aside0.mk (HB4.out.grown hg5 HB4.out.size (fun j hj => by cases hj; exact Nat.le_refl _)); have hxp5 := (HB5.out.cell (World.block_lt_of_cell? w _ HXP.out)).trans HXP.out; clear hm5 hg5 HM4 HB4))
   refine (impl_exchange.calls k1 Ap cp (rd_L1 L (i - 1)) Ai ci (rd_L1 L i) x y ok _ (Kd.C_below HIP.out HB5.out) HLP.out (Kd.C_below HIE.out HB5.out) HLE.out HX.out).mono ?_
   rintro e w6 ⟨rfl, hb6⟩
   have HB6 := Aside0.mk (HB5.out.trans (hb6.mono HB5.out.size))
   have HM6 := Aside0.mk (HM5.out.below hb6)
   clear hb6 hxp5 HB5 HM5 hw1 q0 q0' q1
   cases ok
   ·simp only [Bool.false_eq_true, if_false] at H
    obtain rfl := Option.some.inj H
    clear H
    go_wp2
    go_ret
    exact ⟨rfl, HB6.out⟩
   simp only [if_true] at H
   obtain ⟨m, hm, H⟩ := Option.bind_eq_some_iff.mp H
   have HMY := Aside0.mk hm
   clear hm
   cases m
   ·simp only [Bool.false_eq_true, if_false] at H
    obtain rfl := Option.some.inj H
    clear H
    go_wp2_with fail
    refine (impl_adjacent.calls x y false _ HMY.out).mono ?_
    rintro e w7 ⟨rfl, hd⟩
    have HB7 := Aside0.mk (HB6.out.trans ((by first | exact hd | exact Drawn0.below hd : Below w6.heap.size w6 w7).mono HB6.out.size))
    clear hd
    go_wp2
    go_ret
    exact ⟨rfl, HB7.out⟩
   ·simp only [if_true] at H
    have Hn := Aside0.mk H
    clear H
    go_wp2_with fail
    refine (impl_adjacent.calls x y true _ HMY.out).mono ?_
    rintro e w7 ⟨rfl, hd⟩
    have hb7 : Below w6.heap.size w6 w7 := by first | exact hd | exact Drawn0.below hd
    have HB7 := Aside0.mk (HB6.out.trans (hb7.mono HB6.out.size))
    have HM7 := Aside0.mk (HM6.out.below hb7)
    clear hd hb7 HB6 HM6
    go_wp2
    go_roundg k1
    case measure => have := HK1.out; omega
    case rel => exact ⟨wrap64 (i + 1), q :: met, rfl, Hn, ⟨by have := HK1.out; omega⟩, HM7, HB7⟩
def impl_IsAdjacentList.f (k : Nat) (a0 a1 : Int) (l2 : List (List Int)) : Option (Bool × Bool) := (impl_isChoice.f a0 a1).bind fun t => (if t = true then ((impl_areCombinations.f k a0 l2).bind fun u => (if u = true then ((impl_IsAdjacentList.g0 k a0 a1 l2 0 []).bind fun r => some (r, true)) else some (false, false))) else some (false, false))
theorem impl_IsAdjacentList.mono : ∀ a0 a1 a2 k, LeO (impl_IsAdjacentList.f k a0 a1 a2) (impl_IsAdjacentList.f (k + 1) a0 a1 a2) := by
 intro a0 a1 a2 k
 unfold impl_IsAdjacentList.f
 exact LeO.bind (LeO.refl _) (fun _ => LeO.ite (LeO.bind (impl_areCombinations.mono _ _ _) (fun _ => LeO.ite (LeO.bind (impl_IsAdjacentList.g0_mono _ _ _ _ _ _) (fun _ => LeO.refl _)) (LeO.refl _))) (LeO.refl _))
set_option maxHeartbeats 8000000 in
set_option maxRecDepth 100000 in
theorem impl_IsAdjacentList.calls (k : Nat) (a0 a1 : Int) (A2 : Option Addr) (c2 : Nat) (l2 : List (List Int)) (r1 r2 : Bool) (w : World) (hr2 : Kd.C (Kd.slice 3 (Kd.int .i64)) w A2 l2.length l2) (hc2 : l2.length ≤ c2) (h : impl_IsAdjacentList.f k a0 a1 l2 = some (r1, r2)) :
  Calls Try.prog 14 #[.int .i64 a0, .int .i64 a1, .slice A2 l2.length c2] w fun e w' => e = .returned (.tuple #[.bool r1, .bool r2]) ∧ Below w.heap.size w w' := by
 have HR := Aside0.mk hr2
 have HC := Aside0.mk hc2
 unfold impl_IsAdjacentList.f at h
 obtain ⟨t1, h1, H⟩ := Option.bind_eq_some_iff.mp h
 have T1 := Aside0.mk h1
 clear h h1 hr2 hc2
 cases t1
 ·simp only [Bool.false_eq_true, if_false, Option.some.injEq, Prod.mk.injEq] at H
  obtain ⟨rfl, rfl⟩ := H
  go_enter Try.func14, Try.ntmps14
  go_wp2_with fail
  refine (impl_isChoice.calls a0 a1 false _ T1.out).mono ?_
  rintro e w1 ⟨rfl, hd⟩
  have HB1 := Aside0.mk (Drawn0.below hd)
  clear hd
  go_wp2
  go_ret2
  exact ⟨rfl, HB1.out⟩
 simp only [if_true] at H
 obtain ⟨t2, h2, H⟩ := Option.bind_eq_some_iff.mp H
 have T2 := Aside0.mk h2
 clear h2
 cases t2
 ·simp only [Bool.false_eq_true, if_false, Option.some.injEq, Prod.mk.injEq] at H
  obtain ⟨rfl, rfl⟩ := H
  go_enter Try.func14, Try.ntmps14
  go_wp2_with fail
  refine (impl_isChoice.calls a0 a1 true _ T1.out).mono ?_
  rintro e w1 ⟨rfl, hd⟩
  have HB1 := Aside0.mk (Drawn0.below hd)
  clear hd
  go_wp2_with fail
  refine (impl_areCombinations.calls k a0 A2 c2 l2 false _ (Kd.C_below HR.out HB1.out) HC.out T2.out).mono ?_
  rintro e w2 ⟨rfl, hd⟩
  have HB2 := Aside0.mk (HB1.out.trans ((Drawn0.below hd).mono HB1.out.size))
  clear hd
  go_wp2
  go_ret2
  exact ⟨rfl, HB2.out⟩
 simp only [if_true] at H
 obtain ⟨r, hr, H⟩ := Option.bind_eq_some_iff.mp H
 simp only [Option.some.injEq, Prod.mk.injEq] at H
 obtain ⟨rfl, rfl⟩ := H
 have T3 := Aside0.mk hr
 clear hr
 go_enter Try.func14, Try.ntmps14
 go_wp2_with fail
 refine (impl_isChoice.calls a0 a1 true _ T1.out).mono ?_
 rintro e w1 ⟨rfl, hd⟩
 have HB1 := Aside0.mk (Drawn0.below hd)
 clear hd
 go_wp2_with fail
 refine (impl_areCombinations.calls k a0 A2 c2 l2 true _ (Kd.C_below HR.out HB1.out) HC.out T2.out).mono ?_
 rintro e w2 ⟨rfl, hd⟩
 have HB2 := Aside0.mk (HB1.out.trans ((Drawn0.below hd).mono HB1.out.size))
 clear hd
 go_wp2_with fail
 refine (impl_IsAdjacentList.goes k a0 a1 A2 c2 l2 r _ (Kd.C_below HR.out HB2.out) HC.out T3.out).mono ?_
 rintro e w3 ⟨rfl, hb⟩
 have HB3 := Aside0.mk (HB2.out.trans (hb.mono HB2.out.size))
 clear hb
 go_wp2
 go_ret2
 exact ⟨rfl, HB3.out⟩
def spec_DrawRevolvingList.f (l0 : List Int) : Option (Int × Int) := (spec_l1Cur_size3.f l0 0 0 9).bind fun bt => (some (bt.1, bt.2.1))
set_option maxHeartbeats 4000000 in
set_option maxRecDepth 100000 in
theorem spec_DrawRevolvingList.calls (A0 : Option Addr) (c0 : Nat) (l0 : List Int) (r1 : Int) (r2 : Int) (w : World) (hr0 : Kd.C (Kd.int .u8) w A0 l0.length l0) (hc0 : l0.length ≤ c0) (h : spec_DrawRevolvingList.f l0 = some (r1, r2)) :
  Calls Try.prog 51 #[.slice A0 l0.length c0] w fun e w' => e = .returned (.tuple #[.int .i64 r1, .int .i64 r2]) ∧ Below w.heap.size w w' := by
 have hu := Try.underlying63
 have HR := Aside0.mk hr0
 have HC := Aside0.mk hc0
 have HB := Aside0.mk (Below.refl w.heap.size w)
 unfold spec_DrawRevolvingList.f at h
 obtain ⟨⟨s1, s2, s3, s4⟩, h1, h⟩ := Option.bind_eq_some_iff.mp h
 simp only [Option.some.injEq, Prod.mk.injEq] at h
 obtain ⟨rfl, rfl⟩ := h
 have H1 := Aside0.mk h1
 clear h1 hr0 hc0
 go_enter Try.func51, Try.ntmps51
 go_wp2_with (first | ((with_reducible refine gate_dst (N := 7) rfl ?_); refine box_event ?hg (N := 7) ?hd (cs := #[.slice A0 l0.length c0, .int .i64 0, .int .u64 0]) (t := 63) ?hr ?_; (case hd => rfl); (case hg => rfl); (case hr => first | (go_simp; done) | (go_simp; rfl)); intro gx hgx w2 hbox hb2; have HI := Aside0.mk (show IsS63 w w2 gx l0 0 0 from ⟨A0, c0, hbox, by have := HB.out.size; omega, HR.out⟩); have HB2 := Aside0.mk (show Below w.heap.size w w2 from HB.out.trans (hb2.mono HB.out.size)); clear HB; have HB := HB2; clear HB2 hb2 hbox hgx))
 refine (spec_l1Cur_size3.calls gx l0 0 0 9 s1 s2 s3 s4 w _ HI.out HB.out H1.out).mono ?_
 rintro e w3 ⟨rfl, hI3, hb3, _⟩
 have HB3 := Aside0.mk hb3
 clear hb3 hI3
 go_wp2
 go_ret2
 exact ⟨rfl, HB3.out⟩
def spec_DrawAdjacentHalves.f (l0 : List Int) : Option (Int × Int) := (spec_DrawRevolvingList.f l0).bind fun bt285 => (some (bt285.1, bt285.2))
set_option maxHeartbeats 8000000 in
set_option maxRecDepth 100000 in
theorem spec_DrawAdjacentHalves.calls (A0 : Option Addr) (c0 : Nat) (l0 : List Int) (r1 : Int) (r2 : Int) (w : World) (hr0 : Kd.C (Kd.int .u8) w A0 l0.length l0) (hc0 : l0.length ≤ c0) (h : spec_DrawAdjacentHalves.f l0 = some (r1, r2)) :
  Calls Try.prog 16 #[.slice A0 l0.length c0] w fun e w' => e = .returned (.tuple #[.int .i64 r1, .int .i64 r2]) ∧ Below w.heap.size w w' := by
 have HR0 := Aside0.mk hr0
 have HC0 := Aside0.mk hc0
 clear hr0 hc0
 have HB := Aside0.mk (Below.refl w.heap.size w)
 have H : ((spec_DrawRevolvingList.f l0).bind fun bt285 => (some (bt285.1, bt285.2))) = some (r1, r2) := h
 clear h
 replace H := Option.bind_eq_some_iff.mp H
 obtain ⟨⟨t285, t286⟩, A20, H⟩ := H
 replace H : (some (t285, t286)) = some (r1, r2) := H
 have A2 := Aside0.mk A20
 clear A20
 simp only [Option.some.injEq, Prod.mk.injEq] at H
 obtain ⟨rfl, rfl⟩ := H
 go_enter Try.func16, Try.ntmps16
 go_wp2_with (first | ((with_reducible refine gate_callee (f := 51) rfl ?_); refine goesL_ (some 5) rfl rfl Try.func51 (by kernel_rfl) rfl #[.slice A0 l0.length c0] rfl (by (try simp only [List.map_toArray, List.map_cons, List.map_nil]); first | done | rfl | (simp only [List.length_drop, List.length_take]; rfl)) ?_; (with_reducible refine (spec_DrawRevolvingList.calls _ _ l0 t285 t286 _ ?side1 ?side2 A2.out).mono ?_); (case side1 => repeat (first | exact HR0.out | (with_reducible refine Kd.C_alloc ?_ _) | (with_reducible refine Kd.C_drewN ?_ _) | (with_reducible refine Kd.C_drew ?_))); (case side2 => exact HC0.out); rintro e w3 ⟨rfl, hb⟩; refine ⟨_, rfl, ?_⟩; have n0_ := Aside0.mk (below_step (by repeat (first | (with_reducible first | exact HB.out | apply below_alloc | apply pw_below_drewN | apply below_drew1) | exact HB.out)) hb); clear HB; have HB := n0_; clear n0_; (try clear hb); (try clear hb2); (try clear hk); (try clear hi)))
 go_ret2
 exact ⟨by first | rfl | (simp [errW_none, errW_some] <;> rfl) | (simp [*, errW_none, errW_some] <;> rfl), by repeat (first | (with_reducible first | exact HB.out | apply below_alloc | apply pw_below_drewN | apply below_drew1) | exact HB.out)⟩
def spec_raItems.f (a0 : Int) : Option (Bool) := (spec_l1In.f a0 0 12).bind fun t287 => (some t287)
set_option maxHeartbeats 8000000 in
set_option maxRecDepth 100000 in
theorem spec_raItems.calls (a0 : Int) (r : Bool) (w : World) (h : spec_raItems.f a0 = some r) :
  Calls Try.prog 75 #[.int .i64 a0] w fun e w' => e = .returned (.bool r) ∧ Drawn0 w w' := by
 have H : ((spec_l1In.f a0 0 12).bind fun t287 => (some t287)) = some r := h
 clear h
 replace H := Option.bind_eq_some_iff.mp H
 obtain ⟨t287, A20, H⟩ := H
 replace H : (some t287) = some r := H
 have A2 := Aside0.mk A20
 clear A20
 obtain rfl := Option.some.inj H
 go_enter Try.func75, Try.ntmps75
 go_wp2_with (first | ((with_reducible refine gate_callee (f := 31) rfl ?_); refine goesL_ (some 4) rfl rfl Try.func31 (by kernel_rfl) rfl #[.int .i64 a0, .int .i64 0, .int .i64 12] rfl (by (try simp only [List.map_toArray, List.map_cons, List.map_nil]); first | done | rfl | (simp only [List.length_drop, List.length_take]; rfl)) ?_; (with_reducible refine (spec_l1In.calls a0 0 12 t287 _ A2.out).mono ?_); rintro e w' ⟨rfl, ⟨nd, rfl⟩⟩; refine ⟨_, rfl, ?_⟩))
 go_ret
 exact ⟨by first | rfl | (simp; done) | (simp [*]; done), by repeat (first | exact Drawn0.refl _ | apply Drawn0.step)⟩
end Go.Proofs.Ytmkokfljonbcmaa.MFnAdjacentLists
