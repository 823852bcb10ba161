import Derived.Test.YtpfakdhfffehaaaMFnExactStepFocusx0
import Derived.Test.YtpfakdhfffehaaaMFnExactStepFocusx15
namespace Go.Proofs.Ytpfakdhfffehaaa.MFnExactStepFocus
open Go.RowKit Go.Proofs.YtpfakdhfffehaaaW.PrintWords Go.Proofs.YtpfakdhfffehaaaW.PrintLast Go.Proofs.YtpfakdhfffehaaaW.PrintMore
attribute [local go_sem] max2_int min2_int max_two min_two max_three min_three max_four min_four   
set_option linter.unusedVariables false
set_option linter.unusedSimpArgs false
def laws_heldBoolS.l0 : Nat → List Bool → Int → Int → Option (Int)
 | 0, _, _, _ => none
 | k + 1, x0, x1, x5 => if x5 < (x0.length : Int) then (if 0 ≤ x5 then (if ((rdOf false x0 x5) != ((Int.tmod x1 3) == 0)) = true then (some (-1)) else (laws_heldBoolS.l0 k x0 (wrap64 (x1 + 1)) (wrap64 (x5 + 1)))) else (none)) else (some x1)
def laws_heldBoolS.f (k : Nat) (l0 : List Bool) (a1 : Int) : Option (Int) := laws_heldBoolS.l0 k l0 a1 0
theorem laws_heldBoolS.mono_l : ∀ k, (∀ y0 y1 y2, LeO (laws_heldBoolS.l0 k y0 y1 y2) (laws_heldBoolS.l0 (k + 1) y0 y1 y2))
 | 0 => fun _ _ _ r h => by simp [laws_heldBoolS.l0] at h
 | k + 1 => by
  have ih0 := laws_heldBoolS.mono_l k
  ·intro y0 y1 y2
   unfold laws_heldBoolS.l0
   repeat' first
   | (with_reducible exact ih0 _ _ _)
   | (with_reducible exact LeO.refl _)
   | (with_reducible exact LeO.none _)
   | (with_reducible refine LeO.ite ?_ ?_)
   | (with_reducible refine LeO.bind ?_ (fun _ => ?_))
   | exact ih0 _ _ _
   | exact LeO.none _
   | refine LeO.ite ?_ ?_
   | refine LeO.bind ?_ (fun _ => ?_)
theorem laws_heldBoolS.mono : ∀ a0 a1 k, LeO (laws_heldBoolS.f k a0 a1) (laws_heldBoolS.f (k + 1) a0 a1) := by
 intro a0 a1 k
 have ih0 := laws_heldBoolS.mono_l k
 unfold laws_heldBoolS.f
 repeat' first
   | (with_reducible exact ih0 _ _ _)
   | (with_reducible exact LeO.refl _)
   | (with_reducible exact LeO.none _)
   | (with_reducible refine LeO.ite ?_ ?_)
   | (with_reducible refine LeO.bind ?_ (fun _ => ?_))
   | exact ih0 _ _ _
   | exact LeO.none _
   | refine LeO.ite ?_ ?_
   | refine LeO.bind ?_ (fun _ => ?_)
set_option maxHeartbeats 8000000 in
set_option maxRecDepth 100000 in
theorem laws_heldBoolS.calls (k : Nat) (A0 : Option Addr) (c0 : Nat) (l0 : List Bool) (a1 : Int) (r : Int) (w : World) (hr0 : Kd.C Kd.bool w A0 l0.length l0) (hc0 : l0.length ≤ c0) (h : laws_heldBoolS.f k l0 a1 = some r) :
  Calls Try.prog 42 #[.slice A0 l0.length c0, .int .i64 a1] w fun e w' => e = .returned (.int .i64 r) ∧ Drawn0 w w' := by
 have HR0 := Ya hr0
 have HC0 := Ya hc0
 clear hr0 hc0
 have H : (laws_heldBoolS.l0 k l0 a1 0) = some r := h
 clear h
 have H' := Ya H
 clear H
 go_enter Try.func42, Try.ntmps42
 go_wp2
 go_loopg [1, 5] k (fun kq v1 v5 w' => ∃ (x1_1 : Int) (x5_1 : Int), v1 = .int .i64 x1_1 ∧ v5 = .int .i64 x5_1 ∧ Aside0 (laws_heldBoolS.l0 kq l0 x1_1 x5_1 = some r) ∧ Aside0 (kq ≤ k) ∧ Drawn0 w w')
 case atStart => exact ⟨(a1), (0), Q7, Q7, H', ⟨Nat.le_refl _⟩, Q5⟩
 case round =>
  clear H'
  try clear p2
  obtain ⟨x1_1, x5_1, rfl, rfl, HA, HK1, ⟨m1, rfl⟩⟩ := hrel
  cases gk with
  | zero => exact absurd HA.out (by simp [laws_heldBoolS.l0])
  | succ k1 =>
   have H := HA.out
   clear HA
   simp only [laws_heldBoolS.l0] at H
   by_cases c3 : x5_1 < (l0.length : Int)
   ·rw [if_pos c3] at H
    have c3b0 : decide (x5_1 < (l0.length : Int)) = true := Z38 c3
    clear c3
    by_cases c4 : 0 ≤ x5_1
    ·rw [if_pos c4] at H
     have c4b0 : decide (0 ≤ x5_1) = true := Z38 c4
     clear c4
     by_cases c5 : ((rdOf false l0 x5_1) != ((Int.tmod x1_1 3) == 0)) = true
     ·rw [if_pos c5] at H
      have c5b0 : ((rdOf false l0 x5_1) != ((Int.tmod x1_1 3) == 0)) = true := c5
      (try (have c5b1 : decide ((rdOf false l0 x5_1) = ((Int.tmod x1_1 3) == 0)) = false := by simpa using c5))
      (try (have c5b2 : ((rdOf false l0 x5_1) == ((Int.tmod x1_1 3) == 0)) = false := by simpa using c5))
      (try (have c5b3 : ¬ ((rdOf false l0 x5_1) = ((Int.tmod x1_1 3) == 0)) := by simpa using c5))
      clear c5
      obtain rfl := Option.some.inj H
      have p372 : 0 ≤ (x5_1 : Int) := Z30 Q1
      have q372 : x5_1 < (l0.length : Int) := Z30 Q1
      obtain ⟨ad372, e372, hx372_0⟩ := Kd.at_bool HR0.out x5_1 p372 q372
      cases e372
      replace p372 := eq_true p372
      replace q372 := eq_true q372
      go_wp2
      go_ret
      exact ⟨Q13, Q5⟩
     ·rw [if_neg c5] at H
      have c5b0 : ((rdOf false l0 x5_1) != ((Int.tmod x1_1 3) == 0)) = false := by simpa using c5
      (try (have c5b1 : decide ((rdOf false l0 x5_1) = ((Int.tmod x1_1 3) == 0)) = true := by simpa using c5))
      (try (have c5b2 : ((rdOf false l0 x5_1) == ((Int.tmod x1_1 3) == 0)) = true := by simpa using c5))
      clear c5
      have H' := Ya H
      clear H
      have p372 : 0 ≤ (x5_1 : Int) := Z30 Q1
      have q372 : x5_1 < (l0.length : Int) := Z30 Q1
      obtain ⟨ad372, e372, hx372_0⟩ := Kd.at_bool HR0.out x5_1 p372 q372
      cases e372
      replace p372 := eq_true p372
      replace q372 := eq_true q372
      go_wp2
      go_roundg k1
      case measure => have := HK1.out; omega
      case rel => exact ⟨(wrap64 (x1_1 + 1)), (wrap64 (x5_1 + 1)), Q7, Q7, H', ⟨Q80⟩, Q5⟩
    ·rw [if_neg c4] at H
     exact absurd H (by simp)
   ·rw [if_neg c3] at H
    have c3b0 : decide (x5_1 < (l0.length : Int)) = false := Z37 c3
    clear c3
    obtain rfl := Option.some.inj H
    go_wp2
    go_ret
    exact ⟨Q13, Q5⟩
def laws_heldFocus.f (k : Nat) (l0_0 : List Int) (l0_1 : List Int) (l0_2 : List Bool) (l0_3 : List Int) (a1 : Int) : Option (Int) := (laws_heldIntS.f k l0_0 a1).bind fun t374 => (if t374 < 0 then (some (-1)) else ((laws_heldIntS.f k l0_1 t374).bind fun t375 => (if t375 < 0 then (some (-1)) else ((laws_heldBoolS.f k l0_2 t375).bind fun t376 => (if t376 < 0 then (some (-1)) else ((laws_heldIntS.f k l0_3 t376).bind fun t377 => (if t377 < 0 then (some (-1)) else (some t377))))))))
theorem laws_heldFocus.mono : ∀ a0 a1 a2 a3 a4 k, LeO (laws_heldFocus.f k a0 a1 a2 a3 a4) (laws_heldFocus.f (k + 1) a0 a1 a2 a3 a4) := by
 intro a0 a1 a2 a3 a4 k
 unfold laws_heldFocus.f
 repeat' first
   | (with_reducible exact laws_heldBoolS.mono _ _ _)
   | (with_reducible exact laws_heldIntS.mono _ _ _)
   | (with_reducible exact LeO.refl _)
   | (with_reducible exact LeO.none _)
   | (with_reducible refine LeO.ite ?_ ?_)
   | (with_reducible refine LeO.bind ?_ (fun _ => ?_))
   | exact laws_heldBoolS.mono _ _ _
   | exact laws_heldIntS.mono _ _ _
   | exact LeO.none _
   | refine LeO.ite ?_ ?_
   | refine LeO.bind ?_ (fun _ => ?_)
set_option maxHeartbeats 8000000 in
set_option maxRecDepth 100000 in
theorem laws_heldFocus.calls (k : Nat) (A0_0 : Option Addr) (c0_0 : Nat) (l0_0 : List Int) (A0_1 : Option Addr) (c0_1 : Nat) (l0_1 : List Int) (A0_2 : Option Addr) (c0_2 : Nat) (l0_2 : List Bool) (A0_3 : Option Addr) (c0_3 : Nat) (l0_3 : List Int) (a1 : Int) (r : Int) (w : World) (hr0_0 : Kd.C (Kd.int .i64) w A0_0 l0_0.length l0_0) (hc0_0 : l0_0.length ≤ c0_0) (hr0_1 : Kd.C (Kd.int .i64) w A0_1 l0_1.length l0_1) (hc0_1 : l0_1.length ≤ c0_1) (hr0_2 : Kd.C Kd.bool w A0_2 l0_2.length l0_2) (hc0_2 : l0_2.length ≤ c0_2) (hr0_3 : Kd.C (Kd.int .i64) w A0_3 l0_3.length l0_3) (hc0_3 : l0_3.length ≤ c0_3) (h : laws_heldFocus.f k l0_0 l0_1 l0_2 l0_3 a1 = some r) :
  Calls Try.prog 14 #[.agg #[.slice A0_0 l0_0.length c0_0, .slice A0_1 l0_1.length c0_1, .slice A0_2 l0_2.length c0_2, .slice A0_3 l0_3.length c0_3], .int .i64 a1] w fun e w' => e = .returned (.int .i64 r) ∧ Below w.heap.size w w' := by
 have hu27 := Try.underlying27
 have HR0_0 := Ya hr0_0
 have HC0_0 := Ya hc0_0
 clear hr0_0 hc0_0
 have HR0_1 := Ya hr0_1
 have HC0_1 := Ya hc0_1
 clear hr0_1 hc0_1
 have HR0_2 := Ya hr0_2
 have HC0_2 := Ya hc0_2
 clear hr0_2 hc0_2
 have HR0_3 := Ya hr0_3
 have HC0_3 := Ya hc0_3
 clear hr0_3 hc0_3
 have HB := Ya (Below.refl w.heap.size w)
 have H : ((laws_heldIntS.f k l0_0 a1).bind fun t374 => (if t374 < 0 then (some (-1)) else ((laws_heldIntS.f k l0_1 t374).bind fun t375 => (if t375 < 0 then (some (-1)) else ((laws_heldBoolS.f k l0_2 t375).bind fun t376 => (if t376 < 0 then (some (-1)) else ((laws_heldIntS.f k l0_3 t376).bind fun t377 => (if t377 < 0 then (some (-1)) else (some t377))))))))) = some r := h
 clear h
 replace H := Z36.mp H
 obtain ⟨t374, A30, H⟩ := H
 replace H : (if t374 < 0 then (some (-1)) else ((laws_heldIntS.f k l0_1 t374).bind fun t375 => (if t375 < 0 then (some (-1)) else ((laws_heldBoolS.f k l0_2 t375).bind fun t376 => (if t376 < 0 then (some (-1)) else ((laws_heldIntS.f k l0_3 t376).bind fun t377 => (if t377 < 0 then (some (-1)) else (some t377)))))))) = some r := H
 have A3 := Ya A30
 clear A30
 by_cases c4 : t374 < 0
 ·rw [if_pos c4] at H
  have c4b0 : decide (t374 < 0) = true := Z38 c4
  clear c4
  obtain rfl := Option.some.inj H
  go_enter Try.func14, Try.ntmps14
  go_wp2_with (first | ((with_reducible refine gate_dst (N := 2) rfl ?_); refine Yx 2 #[.slice A0_0 l0_0.length c0_0, .slice A0_1 l0_1.length c0_1, .slice A0_2 l0_2.length c0_2, .slice A0_3 l0_3.length c0_3] 27 ?_; intro gb373 hg w5 hbox hb; have BK373 := Ya hbox; have GE373 := Yg hg; replace HB := Yh hb; clear hb hbox hg; have hz6 := Y4 BK373.out) | ((with_reducible refine gate_callee (f := 41) rfl ?_); refine Yz 8 Try.func41 #[.slice A0_0 l0_0.length c0_0, .int .i64 a1] ?_; (with_reducible refine (laws_heldIntS.calls k _ _ l0_0 a1 t374 _ (Yc (Z22 HR0_0.out HB.out)) HC0_0.out A3.out).mono ?_); rintro e w' ⟨rfl, ⟨nd, rfl⟩⟩; refine ⟨_, rfl, ?_⟩))
  go_ret
  exact ⟨Q2, Q12⟩
 ·rw [if_neg c4] at H
  have c4b0 : decide (t374 < 0) = false := Z37 c4
  clear c4
  replace H := Z36.mp H
  obtain ⟨t375, A70, H⟩ := H
  replace H : (if t375 < 0 then (some (-1)) else ((laws_heldBoolS.f k l0_2 t375).bind fun t376 => (if t376 < 0 then (some (-1)) else ((laws_heldIntS.f k l0_3 t376).bind fun t377 => (if t377 < 0 then (some (-1)) else (some t377)))))) = some r := H
  have A7 := Ya A70
  clear A70
  by_cases c8 : t375 < 0
  ·rw [if_pos c8] at H
   have c8b0 : decide (t375 < 0) = true := Z38 c8
   clear c8
   obtain rfl := Option.some.inj H
   go_enter Try.func14, Try.ntmps14
   go_wp2_with (first | ((with_reducible refine gate_dst (N := 2) rfl ?_); refine Yx 2 #[.slice A0_0 l0_0.length c0_0, .slice A0_1 l0_1.length c0_1, .slice A0_2 l0_2.length c0_2, .slice A0_3 l0_3.length c0_3] 27 ?_; intro gb373 hg w9 hbox hb; have BK373 := Ya hbox; have GE373 := Yg hg; replace HB := Yh hb; clear hb hbox hg; have hz10 := Y4 BK373.out) | ((with_reducible refine gate_callee (f := 41) rfl ?_); refine Yz 8 Try.func41 #[.slice A0_0 l0_0.length c0_0, .int .i64 a1] ?_; (with_reducible refine (laws_heldIntS.calls k _ _ l0_0 a1 t374 _ (Yc (Z22 HR0_0.out HB.out)) HC0_0.out A3.out).mono ?_); rintro e w' ⟨rfl, ⟨nd, rfl⟩⟩; refine ⟨_, rfl, ?_⟩) | ((with_reducible refine gate_callee (f := 41) rfl ?_); refine Yz 14 Try.func41 #[.slice A0_1 l0_1.length c0_1, .int .i64 t374] ?_; (with_reducible refine (laws_heldIntS.calls k _ _ l0_1 t374 t375 _ ?side1 HC0_1.out A7.out).mono ?_); (case side1 => exact Yc (Z22 HR0_1.out Q0)); rintro e w' ⟨rfl, ⟨nd, rfl⟩⟩; refine ⟨_, rfl, ?_⟩))
   go_ret
   exact ⟨Q2, Q12⟩
  ·rw [if_neg c8] at H
   have c8b0 : decide (t375 < 0) = false := Z37 c8
   clear c8
   replace H := Z36.mp H
   obtain ⟨t376, A110, H⟩ := H
   replace H : (if t376 < 0 then (some (-1)) else ((laws_heldIntS.f k l0_3 t376).bind fun t377 => (if t377 < 0 then (some (-1)) else (some t377)))) = some r := H
   have A11 := Ya A110
   clear A110
   by_cases c12 : t376 < 0
   ·rw [if_pos c12] at H
    have c12b0 : decide (t376 < 0) = true := Z38 c12
    clear c12
    obtain rfl := Option.some.inj H
    go_enter Try.func14, Try.ntmps14
    go_wp2_with (first | ((with_reducible refine gate_dst (N := 2) rfl ?_); refine Yx 2 #[.slice A0_0 l0_0.length c0_0, .slice A0_1 l0_1.length c0_1, .slice A0_2 l0_2.length c0_2, .slice A0_3 l0_3.length c0_3] 27 ?_; intro gb373 hg w13 hbox hb; have BK373 := Ya hbox; have GE373 := Yg hg; replace HB := Yh hb; clear hb hbox hg; have hz14 := Y4 BK373.out) | ((with_reducible refine gate_callee (f := 41) rfl ?_); refine Yz 8 Try.func41 #[.slice A0_0 l0_0.length c0_0, .int .i64 a1] ?_; (with_reducible refine (laws_heldIntS.calls k _ _ l0_0 a1 t374 _ (Yc (Z22 HR0_0.out HB.out)) HC0_0.out A3.out).mono ?_); rintro e w' ⟨rfl, ⟨nd, rfl⟩⟩; refine ⟨_, rfl, ?_⟩) | ((with_reducible refine gate_callee (f := 41) rfl ?_); refine Yz 14 Try.func41 #[.slice A0_1 l0_1.length c0_1, .int .i64 t374] ?_; (with_reducible refine (laws_heldIntS.calls k _ _ l0_1 t374 t375 _ ?side1 HC0_1.out A7.out).mono ?_); (case side1 => exact Yc (Z22 HR0_1.out Q0)); rintro e w' ⟨rfl, ⟨nd, rfl⟩⟩; refine ⟨_, rfl, ?_⟩) | ((with_reducible refine gate_callee (f := 42) rfl ?_); refine Yz 20 Try.func42 #[.slice A0_2 l0_2.length c0_2, .int .i64 t375] ?_; (with_reducible refine (laws_heldBoolS.calls k _ _ l0_2 t375 t376 _ ?side1 HC0_2.out A11.out).mono ?_); (case side1 => exact Yc (Z22 HR0_2.out Q0)); rintro e w' ⟨rfl, ⟨nd, rfl⟩⟩; refine ⟨_, rfl, ?_⟩))
    go_ret
    exact ⟨Q2, Q12⟩
   ·rw [if_neg c12] at H
    have c12b0 : decide (t376 < 0) = false := Z37 c12
    clear c12
    replace H := Z36.mp H
    obtain ⟨t377, A150, H⟩ := H
    replace H : (if t377 < 0 then (some (-1)) else (some t377)) = some r := H
    have A15 := Ya A150
    clear A150
    by_cases c16 : t377 < 0
    ·rw [if_pos c16] at H
     have c16b0 : decide (t377 < 0) = true := Z38 c16
     clear c16
     obtain rfl := Option.some.inj H
     go_enter Try.func14, Try.ntmps14
     go_wp2_with (first | ((with_reducible refine gate_dst (N := 2) rfl ?_); refine Yx 2 #[.slice A0_0 l0_0.length c0_0, .slice A0_1 l0_1.length c0_1, .slice A0_2 l0_2.length c0_2, .slice A0_3 l0_3.length c0_3] 27 ?_; intro gb373 hg w17 hbox hb; have BK373 := Ya hbox; have GE373 := Yg hg; replace HB := Yh hb; clear hb hbox hg; have hz18 := Y4 BK373.out) | ((with_reducible refine gate_callee (f := 41) rfl ?_); refine Yz 8 Try.func41 #[.slice A0_0 l0_0.length c0_0, .int .i64 a1] ?_; (with_reducible refine (laws_heldIntS.calls k _ _ l0_0 a1 t374 _ (Yc (Z22 HR0_0.out HB.out)) HC0_0.out A3.out).mono ?_); rintro e w' ⟨rfl, ⟨nd, rfl⟩⟩; refine ⟨_, rfl, ?_⟩) | ((with_reducible refine gate_callee (f := 41) rfl ?_); refine Yz 14 Try.func41 #[.slice A0_1 l0_1.length c0_1, .int .i64 t374] ?_; (with_reducible refine (laws_heldIntS.calls k _ _ l0_1 t374 t375 _ ?side1 HC0_1.out A7.out).mono ?_); (case side1 => exact Yc (Z22 HR0_1.out Q0)); rintro e w' ⟨rfl, ⟨nd, rfl⟩⟩; refine ⟨_, rfl, ?_⟩) | ((with_reducible refine gate_callee (f := 42) rfl ?_); refine Yz 20 Try.func42 #[.slice A0_2 l0_2.length c0_2, .int .i64 t375] ?_; (with_reducible refine (laws_heldBoolS.calls k _ _ l0_2 t375 t376 _ ?side1 HC0_2.out A11.out).mono ?_); (case side1 => exact Yc (Z22 HR0_2.out Q0)); rintro e w' ⟨rfl, ⟨nd, rfl⟩⟩; refine ⟨_, rfl, ?_⟩) | ((with_reducible refine gate_callee (f := 41) rfl ?_); refine Yz 26 Try.func41 #[.slice A0_3 l0_3.length c0_3, .int .i64 t376] ?_; (with_reducible refine (laws_heldIntS.calls k _ _ l0_3 t376 t377 _ ?side1 HC0_3.out A15.out).mono ?_); (case side1 => exact Yc (Z22 HR0_3.out Q0)); rintro e w' ⟨rfl, ⟨nd, rfl⟩⟩; refine ⟨_, rfl, ?_⟩))
     go_ret
     exact ⟨Q2, Q12⟩
    ·rw [if_neg c16] at H
     have c16b0 : decide (t377 < 0) = false := Z37 c16
     clear c16
     obtain rfl := Option.some.inj H
     go_enter Try.func14, Try.ntmps14
     go_wp2_with (first | ((with_reducible refine gate_dst (N := 2) rfl ?_); refine Yx 2 #[.slice A0_0 l0_0.length c0_0, .slice A0_1 l0_1.length c0_1, .slice A0_2 l0_2.length c0_2, .slice A0_3 l0_3.length c0_3] 27 ?_; intro gb373 hg w19 hbox hb; have BK373 := Ya hbox; have GE373 := Yg hg; replace HB := Yh hb; clear hb hbox hg; have hz20 := Y4 BK373.out) | ((with_reducible refine gate_callee (f := 41) rfl ?_); refine Yz 8 Try.func41 #[.slice A0_0 l0_0.length c0_0, .int .i64 a1] ?_; (with_reducible refine (laws_heldIntS.calls k _ _ l0_0 a1 t374 _ (Yc (Z22 HR0_0.out HB.out)) HC0_0.out A3.out).mono ?_); rintro e w' ⟨rfl, ⟨nd, rfl⟩⟩; refine ⟨_, rfl, ?_⟩) | ((with_reducible refine gate_callee (f := 41) rfl ?_); refine Yz 14 Try.func41 #[.slice A0_1 l0_1.length c0_1, .int .i64 t374] ?_; (with_reducible refine (laws_heldIntS.calls k _ _ l0_1 t374 t375 _ ?side1 HC0_1.out A7.out).mono ?_); (case side1 => exact Yc (Z22 HR0_1.out Q0)); rintro e w' ⟨rfl, ⟨nd, rfl⟩⟩; refine ⟨_, rfl, ?_⟩) | ((with_reducible refine gate_callee (f := 42) rfl ?_); refine Yz 20 Try.func42 #[.slice A0_2 l0_2.length c0_2, .int .i64 t375] ?_; (with_reducible refine (laws_heldBoolS.calls k _ _ l0_2 t375 t376 _ ?side1 HC0_2.out A11.out).mono ?_); (case side1 => exact Yc (Z22 HR0_2.out Q0)); rintro e w' ⟨rfl, ⟨nd, rfl⟩⟩; refine ⟨_, rfl, ?_⟩) | ((with_reducible refine gate_callee (f := 41) rfl ?_); refine Yz 26 Try.func41 #[.slice A0_3 l0_3.length c0_3, .int .i64 t376] ?_; (with_reducible refine (laws_heldIntS.calls k _ _ l0_3 t376 t377 _ ?side1 HC0_3.out A15.out).mono ?_); (case side1 => exact Yc (Z22 HR0_3.out Q0)); rintro e w' ⟨rfl, ⟨nd, rfl⟩⟩; refine ⟨_, rfl, ?_⟩))
     go_ret
     exact ⟨Q2, Q12⟩
end Go.Proofs.Ytpfakdhfffehaaa.MFnExactStepFocus
