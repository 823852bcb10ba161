import Derived.Test.YtapbbmicfkbafaaMFnFocusStepsx0
import Derived.Test.YtapbbmicfkbafaaMFnFocusStepsx3
import Derived.Test.YtapbbmicfkbafaaMFnFocusStepsx4
import Derived.Test.YtapbbmicfkbafaaMFnFocusStepsx6
import Derived.Test.YtapbbmicfkbafaaMFnFocusStepsx7
namespace Go.Proofs.Ytapbbmicfkbafaa.MFnFocusSteps
open Go.RowKit Go.Proofs.YtapbbmicfkbafaaW.PrintWords Go.Proofs.YtapbbmicfkbafaaW.PrintLast Go.Proofs.YtapbbmicfkbafaaW.PrintMore
attribute [local go_sem] max2_int min2_int max_two min_two max_three min_three max_four min_four   
set_option linter.unusedVariables false
set_option linter.unusedSimpArgs false
def spec_DrawIsFocus.f (k : Nat) (l0 : List Int) : Option (List Int × List Int × List Bool × List Int) := (spec_l1Cur_focus.f k l0 0 0).bind fun bt430 => (some (bt430.1, bt430.2.1, bt430.2.2.1, bt430.2.2.2.1))
theorem spec_DrawIsFocus.mono : ∀ a0 k, LeO (spec_DrawIsFocus.f k a0) (spec_DrawIsFocus.f (k + 1) a0) := by
 intro a0 k
 unfold spec_DrawIsFocus.f
 repeat' first
   | (with_reducible exact spec_l1Cur_focus.mono _ _ _ _)
   | (with_reducible exact LeO.refl _)
   | (with_reducible exact LeO.none _)
   | (with_reducible refine LeO.ite ?_ ?_)
   | (with_reducible refine LeO.bind ?_ (fun _ => ?_))
   | exact spec_l1Cur_focus.mono _ _ _ _
   | exact LeO.none _
   | refine LeO.ite ?_ ?_
   | refine LeO.bind ?_ (fun _ => ?_)
set_option maxHeartbeats 8000000 in
set_option maxRecDepth 100000 in
theorem spec_DrawIsFocus.calls (k : Nat) (A0 : Option Addr) (c0 : Nat) (l0 : List Int) (r1 : List Int) (r2 : List Int) (r3 : List Bool) (r4 : List Int) (w : World) (hr0 : Kd.C (Kd.int .u8) w A0 l0.length l0) (hc0 : l0.length ≤ c0) (h : spec_DrawIsFocus.f k l0 = some (r1, r2, r3, r4)) :
  Calls Try.prog 48 #[.slice A0 l0.length c0] w fun e w' => ∃ v0_ v1_ v2_ v3_ : Value, e = .returned (.agg #[v0_, v1_, v2_, v3_]) ∧ Kd.R (Kd.int .i64) 3 w' w.heap.size (fun k_ => some k_ ≠ (v1_ : Value).ownBlock ∧ some k_ ≠ (v3_ : Value).ownBlock) v0_ r1 ∧ Kd.R (Kd.int .i64) 3 w' w.heap.size (fun k_ => some k_ ≠ (v0_ : Value).ownBlock ∧ some k_ ≠ (v3_ : Value).ownBlock) v1_ r2 ∧ Kd.R Kd.bool 4 w' w.heap.size (fun _ => True) v2_ r3 ∧ Kd.R (Kd.int .i64) 3 w' w.heap.size (fun k_ => some k_ ≠ (v0_ : Value).ownBlock ∧ some k_ ≠ (v1_ : Value).ownBlock) v3_ r4 ∧ Below w.heap.size w w' := by
 have hu33 := Try.underlying33
 have hu52 := Try.underlying52
 have HR0 := Ya hr0
 have HC0 := Ya hc0
 clear hr0 hc0
 have HB := Ya (Below.refl w.heap.size w)
 have H : ((spec_l1Cur_focus.f k l0 0 0).bind fun bt430 => (some (bt430.1, bt430.2.1, bt430.2.2.1, bt430.2.2.2.1))) = some (r1, r2, r3, r4) := h
 clear h
 replace H := Z37.mp H
 obtain ⟨⟨t430, t433, t436, t439, t442, t443⟩, A20, H⟩ := H
 replace H : (some (t430, t433, t436, t439)) = some (r1, r2, r3, r4) := H
 have A2 := Ya A20
 clear A20
 simp only [Option.some.injEq, Prod.mk.injEq] at H
 obtain ⟨rfl, rfl, rfl, rfl⟩ := H
 go_enter Try.func48, Try.ntmps48
 go_wp2_with (first | ((with_reducible refine gate_dst (N := 2) rfl ?_); refine Yx 2 #[.slice none 0 0, .slice none 0 0, .slice none 0 0, .slice none 0 0] 33 ?_; intro gb428 hg w3 hbox hb; have BK428 := Ya hbox; have GE428 := Yg hg; replace HB := Yh hb; clear hb hbox hg) | ((with_reducible refine gate_dst (N := 6) rfl ?_); refine Yx 6 #[.slice A0 l0.length c0, .int .i64 0, .int .u64 0] 52 ?_; intro gb429 hg w4 hbox hb; have HI429 := Ya ((show IsS52 w w4 gb429 l0 0 0 from ⟨_, _, hbox, (by rw [hg]; exact (Z7 Q0) : w.heap.size ≤ gb429), HR0.out⟩)); replace HB := Yh hb; have NB428_429 := Yn BK428 hg; have NB429_428 := Ym BK428 hg; replace BK428 := Yb BK428 hb; clear hb hbox hg) | ((with_reducible refine gate_callee (f := 62) rfl ?_); refine Yz 8 Try.func62 #[.pointer (some ⟨gb429, 0, none⟩)] ?_; (with_reducible refine (spec_l1Cur_focus.calls k gb429 l0 0 0 t430 t433 t436 t439 t442 t443 w _ ?side1 ?side2 A2.out).mono ?_); (case side1 => repeat (first | (with_reducible first | exact HI429.out | apply IsS52.alloc | apply IsS52.drewN | apply IsS52.drew | apply IsS52.set_1 | apply IsS52.set_2 | refine IsS52.far ?_ NB429_428.out _) | exact HI429.out)); (case side2 => repeat (first | (with_reducible first | exact HB.out | apply Z5 | apply Z3 | apply Z4 | refine Z6 ?_ (IsS52.ge HI429.out) | refine Z6 ?_ GE428.out) | exact HB.out)); rintro e w5 ⟨v431, v434, v437, v440, rfl, ho0, ho1, ho2, ho3, hi, hb, hk⟩; refine ⟨_, rfl, ?_⟩; replace BK428 := Ya (KeepBut.blk hk (g' := gb428) (o := .cells #[.slice none 0 0, .slice none 0 0, .slice none 0 0, .slice none 0 0] 33 (0, 0)) (Yk BK428.out) NB428_429.out (by simp)); have HO432 := Ya (Kd.R_lower ho0 (Z7 Q43)); have HO435 := Ya (Kd.R_lower ho1 (Z7 Q43)); have HO438 := Ya (Kd.R_lower ho2 (Z7 Q43)); have HO441 := Ya (Kd.R_lower ho3 (Z7 Q43)); replace HB := Ya hb; replace HI429 := Ya hi; (try clear hb hk hi ho0 ho1 ho2 ho3); obtain ⟨Ao6, co6, rfl⟩ := Z19 HO432.out; have hnb7 := NB428_429.out; have hnc7 := NB429_428.out; have hz8 := Y4 BK428.out; obtain ⟨Ao9, co9, rfl⟩ := Z19 HO435.out; obtain ⟨Ao10, co10, rfl⟩ := Z19 HO438.out; obtain ⟨Ao11, co11, rfl⟩ := Z19 HO441.out))
 refine bodyPost_ret (results_cell_row rfl _ _ gb428 33 #[.slice Ao6 t430.length co6, .slice Ao9 t433.length co9, .slice Ao10 t436.length co10, .slice Ao11 t439.length co11] (0, 0) _ rfl (Yk (Yv4 BK428.out)) Try.underlying33 rfl (by kernel_rfl)) rfl ?_
 exact ⟨_, _, _, _, Q1, Yj (Yf4 HO432.out BK428.out) (fun _ hk => ⟨hk.1.1, hk.1.2⟩), Yj (Yf4 HO435.out BK428.out) (fun _ hk => ⟨hk.1.1, hk.1.2⟩), Yj (Yf4 HO438.out BK428.out) (fun _ hk => trivial), Yj (Yf4 HO441.out BK428.out) (fun _ hk => ⟨hk.1.1, hk.1.2⟩), by repeat (first | (with_reducible first | exact HB.out | apply Z5 | apply Z3 | apply Z4 | refine Z6 ?_ (IsS52.ge HI429.out) | refine Z6 ?_ GE428.out) | exact HB.out)⟩
def spec_DrawStepFocus.f (k : Nat) (l0 : List Int) : Option (List Int × List Int × List Bool × List Int) := (spec_DrawIsFocus.f k l0).bind fun bt445 => (some (bt445.1, bt445.2.1, bt445.2.2.1, bt445.2.2.2))
theorem spec_DrawStepFocus.mono : ∀ a0 k, LeO (spec_DrawStepFocus.f k a0) (spec_DrawStepFocus.f (k + 1) a0) := by
 intro a0 k
 unfold spec_DrawStepFocus.f
 repeat' first
   | (with_reducible exact spec_DrawIsFocus.mono _ _)
   | (with_reducible exact LeO.refl _)
   | (with_reducible exact LeO.none _)
   | (with_reducible refine LeO.ite ?_ ?_)
   | (with_reducible refine LeO.bind ?_ (fun _ => ?_))
   | exact spec_DrawIsFocus.mono _ _
   | exact LeO.none _
   | refine LeO.ite ?_ ?_
   | refine LeO.bind ?_ (fun _ => ?_)
set_option maxHeartbeats 8000000 in
set_option maxRecDepth 100000 in
theorem spec_DrawStepFocus.calls (k : Nat) (A0 : Option Addr) (c0 : Nat) (l0 : List Int) (r1 : List Int) (r2 : List Int) (r3 : List Bool) (r4 : List Int) (w : World) (hr0 : Kd.C (Kd.int .u8) w A0 l0.length l0) (hc0 : l0.length ≤ c0) (h : spec_DrawStepFocus.f k l0 = some (r1, r2, r3, r4)) :
  Calls Try.prog 20 #[.slice A0 l0.length c0] w fun e w' => ∃ v0_ v1_ v2_ v3_ : Value, e = .returned (.agg #[v0_, v1_, v2_, v3_]) ∧ Kd.R (Kd.int .i64) 3 w' w.heap.size (fun k_ => some k_ ≠ (v1_ : Value).ownBlock ∧ some k_ ≠ (v3_ : Value).ownBlock) v0_ r1 ∧ Kd.R (Kd.int .i64) 3 w' w.heap.size (fun k_ => some k_ ≠ (v0_ : Value).ownBlock ∧ some k_ ≠ (v3_ : Value).ownBlock) v1_ r2 ∧ Kd.R Kd.bool 4 w' w.heap.size (fun _ => True) v2_ r3 ∧ Kd.R (Kd.int .i64) 3 w' w.heap.size (fun k_ => some k_ ≠ (v0_ : Value).ownBlock ∧ some k_ ≠ (v1_ : Value).ownBlock) v3_ r4 ∧ Below w.heap.size w w' := by
 have hu33 := Try.underlying33
 have HR0 := Ya hr0
 have HC0 := Ya hc0
 clear hr0 hc0
 have HB := Ya (Below.refl w.heap.size w)
 have H : ((spec_DrawIsFocus.f k l0).bind fun bt445 => (some (bt445.1, bt445.2.1, bt445.2.2.1, bt445.2.2.2))) = some (r1, r2, r3, r4) := h
 clear h
 replace H := Z37.mp H
 obtain ⟨⟨t445, t448, t451, t454⟩, A20, H⟩ := H
 replace H : (some (t445, t448, t451, t454)) = some (r1, r2, r3, r4) := H
 have A2 := Ya A20
 clear A20
 simp only [Option.some.injEq, Prod.mk.injEq] at H
 obtain ⟨rfl, rfl, rfl, rfl⟩ := H
 go_enter Try.func20, Try.ntmps20
 go_wp2_with (first | ((with_reducible refine gate_dst (N := 2) rfl ?_); refine Yx 2 #[.slice none 0 0, .slice none 0 0, .slice none 0 0, .slice none 0 0] 33 ?_; intro gb444 hg w3 hbox hb; have BK444 := Ya hbox; have GE444 := Yg hg; replace HB := Yh hb; clear hb hbox hg) | ((with_reducible refine gate_callee (f := 48) rfl ?_); refine Yz 4 Try.func48 #[.slice A0 l0.length c0] ?_; (with_reducible refine (spec_DrawIsFocus.calls k _ _ l0 t445 t448 t451 t454 _ (Yc (Z23 HR0.out HB.out)) HC0.out A2.out).mono ?_); rintro e w4 ⟨v446, v449, v452, v455, rfl, ho0, ho1, ho2, ho3, hb⟩; refine ⟨_, rfl, ?_⟩; have HO447 := Yl ho0; have HO450 := Yl ho1; have HO453 := Yl ho2; have HO456 := Yl ho3; replace BK444 := Yb BK444 hb; replace HB := Yh hb; (try clear hb ho0 ho1 ho2 ho3); obtain ⟨Ao5, co5, rfl⟩ := Z19 HO447.out; have hz6 := Y4 BK444.out; obtain ⟨Ao7, co7, rfl⟩ := Z19 HO450.out; obtain ⟨Ao8, co8, rfl⟩ := Z19 HO453.out; obtain ⟨Ao9, co9, rfl⟩ := Z19 HO456.out))
 refine bodyPost_ret (results_cell_row rfl _ _ gb444 33 #[.slice Ao5 t445.length co5, .slice Ao7 t448.length co7, .slice Ao8 t451.length co8, .slice Ao9 t454.length co9] (0, 0) _ rfl (Yk (Yv4 BK444.out)) Try.underlying33 rfl (by kernel_rfl)) rfl ?_
 exact ⟨_, _, _, _, Q1, Yj (Yf4 HO447.out BK444.out) (fun _ hk => ⟨hk.1.1, hk.1.2⟩), Yj (Yf4 HO450.out BK444.out) (fun _ hk => ⟨hk.1.1, hk.1.2⟩), Yj (Yf4 HO453.out BK444.out) (fun _ hk => trivial), Yj (Yf4 HO456.out BK444.out) (fun _ hk => ⟨hk.1.1, hk.1.2⟩), Q12⟩
def spec_raAreDigits.l0 : Nat → List Int → List Int → Int → Int → Option (Bool)
 | 0, _, _, _, _ => none
 | k + 1, x0, x12, x13, x14 => if x14 < x13 then (if 0 ≤ x14 then (if x14 < (x12.length : Int) then (if x14 < (x0.length : Int) then ((spec_l1In.f (rd x12 x14) 0 (wrap64 ((rd x0 x14) - 1))).bind fun t459 => (if t459 = true then (spec_raAreDigits.l0 k x0 x12 x13 (wrap64 (x14 + 1))) else (some false))) else (none)) else (none)) else (none)) else (some true)
def spec_raAreDigits.f (k : Nat) (l0 : List Int) (l1 : List Int) : Option (Bool) := if (l1.length : Int) = (l0.length : Int) then (spec_raAreDigits.l0 k l0 l1 (l1.length : Int) 0) else (some false)
theorem spec_raAreDigits.mono_l : ∀ k, (∀ y0 y1 y2 y3, LeO (spec_raAreDigits.l0 k y0 y1 y2 y3) (spec_raAreDigits.l0 (k + 1) y0 y1 y2 y3))
 | 0 => fun _ _ _ _ r h => by simp [spec_raAreDigits.l0] at h
 | k + 1 => by
  have ih0 := spec_raAreDigits.mono_l k
  ·intro y0 y1 y2 y3
   unfold spec_raAreDigits.l0
   repeat' first
   | (with_reducible exact ih0 _ _ _ _)
   | (with_reducible exact LeO.refl _)
   | (with_reducible exact LeO.none _)
   | (with_reducible refine LeO.ite ?_ ?_)
   | (with_reducible refine LeO.bind ?_ (fun _ => ?_))
   | exact ih0 _ _ _ _
   | exact LeO.none _
   | refine LeO.ite ?_ ?_
   | refine LeO.bind ?_ (fun _ => ?_)
theorem spec_raAreDigits.mono : ∀ a0 a1 k, LeO (spec_raAreDigits.f k a0 a1) (spec_raAreDigits.f (k + 1) a0 a1) := by
 intro a0 a1 k
 have ih0 := spec_raAreDigits.mono_l k
 unfold spec_raAreDigits.f
 repeat' first
   | (with_reducible exact ih0 _ _ _ _)
   | (with_reducible exact LeO.refl _)
   | (with_reducible exact LeO.none _)
   | (with_reducible refine LeO.ite ?_ ?_)
   | (with_reducible refine LeO.bind ?_ (fun _ => ?_))
   | exact ih0 _ _ _ _
   | exact LeO.none _
   | refine LeO.ite ?_ ?_
   | refine LeO.bind ?_ (fun _ => ?_)
set_option maxHeartbeats 8000000 in
set_option maxRecDepth 100000 in
theorem spec_raAreDigits.calls (k : Nat) (A0 : Option Addr) (c0 : Nat) (l0 : List Int) (A1 : Option Addr) (c1 : Nat) (l1 : List Int) (r : Bool) (w : World) (hr0 : Kd.C (Kd.int .i64) w A0 l0.length l0) (hc0 : l0.length ≤ c0) (hr1 : Kd.C (Kd.int .i64) w A1 l1.length l1) (hc1 : l1.length ≤ c1) (h : spec_raAreDigits.f k l0 l1 = some r) :
  Calls Try.prog 63 #[.slice A0 l0.length c0, .slice A1 l1.length c1] w fun e w' => e = .returned (.bool r) ∧ Drawn0 w w' := by
 have HR0 := Ya hr0
 have HC0 := Ya hc0
 clear hr0 hc0
 have HR1 := Ya hr1
 have HC1 := Ya hc1
 clear hr1 hc1
 have H : (if (l1.length : Int) = (l0.length : Int) then (spec_raAreDigits.l0 k l0 l1 (l1.length : Int) 0) else (some false)) = some r := h
 clear h
 by_cases c3 : (l1.length : Int) = (l0.length : Int)
 ·rw [if_pos c3] at H
  have c3b0 : ((l1.length : Int) == (l0.length : Int)) = true := beq_iff_eq.mpr c3
  have c3b1 : ((l1.length : Int) != (l0.length : Int)) = false := bne_eq_false_iff_eq.mpr c3
  have c3b2 : (l1.length == l0.length) = true := by first | simpa using c3 | (simp at c3 ⊢; omega)
  clear c3
  have H' := Ya H
  clear H
  go_enter Try.func63, Try.ntmps63
  go_wp2
  go_loopg [14] k (fun kq v14 w' => ∃ (x14_1 : Int), v14 = .int .i64 x14_1 ∧ Aside0 (spec_raAreDigits.l0 kq l0 l1 (l1.length : Int) x14_1 = some r) ∧ Aside0 (kq ≤ k) ∧ Drawn0 w w')
  case atStart => exact ⟨(0), Q9, H', ⟨Nat.le_refl _⟩, Q10⟩
  case round =>
   clear H'
   try clear c1
   try clear p2
   try clear c3
   try clear c3b0
   try clear c3b1
   try clear c3b2
   obtain ⟨x14_1, rfl, HA, HK1, ⟨m1, rfl⟩⟩ := hrel
   cases gk with
   | zero => exact absurd HA.out (by simp [spec_raAreDigits.l0])
   | succ k1 =>
    have H := HA.out
    clear HA
    simp only [spec_raAreDigits.l0] at H
    by_cases c4 : x14_1 < (l1.length : Int)
    ·rw [if_pos c4] at H
     have c4b0 := Z39 c4
     clear c4
     by_cases c5 : 0 ≤ x14_1
     ·rw [if_pos c5] at H
      have c5b0 := Z39 c5
      clear c5
      by_cases c6 : x14_1 < (l1.length : Int)
      ·rw [if_pos c6] at H
       have c6b0 := Z39 c6
       clear c6
       by_cases c7 : x14_1 < (l0.length : Int)
       ·rw [if_pos c7] at H
        have c7b0 := Z39 c7
        clear c7
        replace H := Z37.mp H
        obtain ⟨t459, A80, H⟩ := H
        replace H : (if t459 = true then (spec_raAreDigits.l0 k1 l0 l1 (l1.length : Int) (wrap64 (x14_1 + 1))) else (some false)) = some r := H
        have A8 := Ya A80
        clear A80
        by_cases c9 : t459 = true
        ·subst c9
         have H1 : (spec_raAreDigits.l0 k1 l0 l1 (l1.length : Int) (wrap64 (x14_1 + 1))) = some r := by rw [if_pos rfl] at H; exact H
         clear H
         have H := H1
         clear H1
         have H' := Ya H
         clear H
         have p457 : 0 ≤ (x14_1 : Int) := Z31 Q2
         have q457 : x14_1 < (l1.length : Int) := Z31 Q2
         obtain ⟨ad457, e457, hx457_0⟩ := Kd.at_int HR1.out x14_1 p457 q457
         cases e457
         replace p457 := eq_true p457
         replace q457 := eq_true q457
         have p458 : 0 ≤ (x14_1 : Int) := Z31 Q2
         have q458 : x14_1 < (l0.length : Int) := Z31 Q2
         obtain ⟨ad458, e458, hx458_0⟩ := Kd.at_int HR0.out x14_1 p458 q458
         cases e458
         replace p458 := eq_true p458
         replace q458 := eq_true q458
         go_wp2_with (first | ((with_reducible refine gate_callee (f := 33) rfl ?_); refine Yz 25 Try.func33 #[.int .i64 (rd l1 x14_1), .int .i64 0, .int .i64 (wrap64 ((rd l0 x14_1) - 1))] ?_; (with_reducible refine (spec_l1In.calls (rd l1 x14_1) 0 (wrap64 ((rd l0 x14_1) - 1)) true _ A8.out).mono ?_); rintro e w' ⟨rfl, ⟨nd, rfl⟩⟩; refine ⟨_, rfl, ?_⟩))
         go_roundg k1
         case measure => have := HK1.out; omega
         case rel => exact ⟨(wrap64 (x14_1 + 1)), Q9, H', ⟨Q45⟩, Q10⟩
        ·replace c9 := Bool.eq_false_iff.mpr c9
         subst c9
         have H1 : (some false) = some r := by rw [if_neg (show ¬ (false = true) by decide)] at H; exact H
         clear H
         have H := H1
         clear H1
         obtain rfl := Option.some.inj H
         have p457 : 0 ≤ (x14_1 : Int) := Z31 Q2
         have q457 : x14_1 < (l1.length : Int) := Z31 Q2
         obtain ⟨ad457, e457, hx457_0⟩ := Kd.at_int HR1.out x14_1 p457 q457
         cases e457
         replace p457 := eq_true p457
         replace q457 := eq_true q457
         have p458 : 0 ≤ (x14_1 : Int) := Z31 Q2
         have q458 : x14_1 < (l0.length : Int) := Z31 Q2
         obtain ⟨ad458, e458, hx458_0⟩ := Kd.at_int HR0.out x14_1 p458 q458
         cases e458
         replace p458 := eq_true p458
         replace q458 := eq_true q458
         go_wp2_with (first | ((with_reducible refine gate_callee (f := 33) rfl ?_); refine Yz 25 Try.func33 #[.int .i64 (rd l1 x14_1), .int .i64 0, .int .i64 (wrap64 ((rd l0 x14_1) - 1))] ?_; (with_reducible refine (spec_l1In.calls (rd l1 x14_1) 0 (wrap64 ((rd l0 x14_1) - 1)) false _ A8.out).mono ?_); rintro e w' ⟨rfl, ⟨nd, rfl⟩⟩; refine ⟨_, rfl, ?_⟩))
         go_ret
         exact ⟨Q19, Q10⟩
       ·rw [if_neg c7] at H
        exact absurd H (by simp)
      ·rw [if_neg c6] at H
       exact absurd H (by simp)
     ·rw [if_neg c5] at H
      exact absurd H (by simp)
    ·rw [if_neg c4] at H
     have c4b0 := Z38 c4
     clear c4
     obtain rfl := Option.some.inj H
     go_wp2
     go_ret
     exact ⟨Q19, Q10⟩
 ·rw [if_neg c3] at H
  have c3b0 : ((l1.length : Int) == (l0.length : Int)) = false := beq_eq_false_iff_ne.mpr c3
  have c3b1 : ((l1.length : Int) != (l0.length : Int)) = true := bne_iff_ne.mpr c3
  have c3b2 : (l1.length == l0.length) = false := by first | simpa using c3 | (simp at c3 ⊢; omega)
  obtain rfl := Option.some.inj H
  go_enter Try.func63, Try.ntmps63
  go_wp2
  go_ret
  exact ⟨Q19, Q10⟩
def spec_gcMixedRank.f : Nat → List Int → List Int → Option (Int)
 | 0, _, _ => none
 | k + 1, l0, l1 => if (l0.length : Int) = 0 then (some 0) else (if 1 ≤ (l0.length : Int) then ((spec_raProduct.f k (l0.drop 1)).bind fun t461 => (if 1 ≤ (l1.length : Int) then ((spec_gcMixedRank.f k (l0.drop 1) (l1.drop 1)).bind fun t464 => (if 0 < (l1.length : Int) then (if (Int.tmod (rd l1 0) 2) = 1 then (some (wrap64 ((wrap64 ((rd l1 0) * t461)) + (wrap64 ((wrap64 (t461 - 1)) - t464))))) else (some (wrap64 ((wrap64 ((rd l1 0) * t461)) + t464)))) else (none))) else (none))) else (none))
theorem spec_gcMixedRank.mono_l : ∀ k, (∀ y0 y1, LeO (spec_gcMixedRank.f k y0 y1) (spec_gcMixedRank.f (k + 1) y0 y1))
 | 0 => fun _ _ r h => by simp [spec_gcMixedRank.f] at h
 | k + 1 => by
  have ih0 := spec_gcMixedRank.mono_l k
  ·intro y0 y1
   unfold spec_gcMixedRank.f
   repeat' first
   | (with_reducible exact ih0 _ _)
   | (with_reducible exact spec_raProduct.mono _ _)
   | (with_reducible exact LeO.refl _)
   | (with_reducible exact LeO.none _)
   | (with_reducible refine LeO.ite ?_ ?_)
   | (with_reducible refine LeO.bind ?_ (fun _ => ?_))
   | exact ih0 _ _
   | exact spec_raProduct.mono _ _
   | exact LeO.none _
   | refine LeO.ite ?_ ?_
   | refine LeO.bind ?_ (fun _ => ?_)
theorem spec_gcMixedRank.mono : ∀ a0 a1 k, LeO (spec_gcMixedRank.f k a0 a1) (spec_gcMixedRank.f (k + 1) a0 a1) := by
 intro a0 a1 k
 have ih0 := spec_gcMixedRank.mono_l k
 exact ih0 a0 a1
set_option maxHeartbeats 8000000 in
set_option maxRecDepth 100000 in
theorem spec_gcMixedRank.calls (k : Nat) : ∀ (A0 : Option Addr) (c0 : Nat) (l0 : List Int) (A1 : Option Addr) (c1 : Nat) (l1 : List Int) (r : Int) (w : World) (hr0 : Kd.C (Kd.int .i64) w A0 l0.length l0) (hc0 : l0.length ≤ c0) (hr1 : Kd.C (Kd.int .i64) w A1 l1.length l1) (hc1 : l1.length ≤ c1) (h : spec_gcMixedRank.f k l0 l1 = some r),
  Calls Try.prog 64 #[.slice A0 l0.length c0, .slice A1 l1.length c1] w fun e w' => e = .returned (.int .i64 r) ∧ Below w.heap.size w w' := by
 induction k using Nat.strongRecOn with
 | _ k ih =>
 intro A0 c0 l0 A1 c1 l1 r w hr0 hc0 hr1 hc1 h
 cases k with
 | zero => exact absurd h (by simp [spec_gcMixedRank.f])
 | succ k =>
 simp only [spec_gcMixedRank.f] at h
 have HR0 := Ya hr0
 have HC0 := Ya hc0
 clear hr0 hc0
 have HR1 := Ya hr1
 have HC1 := Ya hc1
 clear hr1 hc1
 have HB := Ya (Below.refl w.heap.size w)
 have H : (if (l0.length : Int) = 0 then (some 0) else (if 1 ≤ (l0.length : Int) then ((spec_raProduct.f k (l0.drop 1)).bind fun t461 => (if 1 ≤ (l1.length : Int) then ((spec_gcMixedRank.f k (l0.drop 1) (l1.drop 1)).bind fun t464 => (if 0 < (l1.length : Int) then (if (Int.tmod (rd l1 0) 2) = 1 then (some (wrap64 ((wrap64 ((rd l1 0) * t461)) + (wrap64 ((wrap64 (t461 - 1)) - t464))))) else (some (wrap64 ((wrap64 ((rd l1 0) * t461)) + t464)))) else (none))) else (none))) else (none))) = some r := h
 clear h
 by_cases c3 : (l0.length : Int) = 0
 ·rw [if_pos c3] at H
  have c3b0 : ((l0.length : Int) == 0) = true := beq_iff_eq.mpr c3
  have c3b1 : ((l0.length : Int) != 0) = false := bne_eq_false_iff_eq.mpr c3
  clear c3
  obtain rfl := Option.some.inj H
  go_enter Try.func64, Try.ntmps64
  go_wp2
  go_ret
  exact ⟨Q1, Q12⟩
 ·rw [if_neg c3] at H
  have c3b0 : ((l0.length : Int) == 0) = false := beq_eq_false_iff_ne.mpr c3
  have c3b1 : ((l0.length : Int) != 0) = true := bne_iff_ne.mpr c3
  have c3b2 : ¬ (l0 = []) := fun h_ => c3 (by rw [h_]; rfl)
  by_cases c4 : 1 ≤ (l0.length : Int)
  ·rw [if_pos c4] at H
   have c4b0 := eq_true c4
   have c4b1 := Z39 c4
   have HLEc4 := Ya c4
   clear c4
   replace H := Z37.mp H
   obtain ⟨t461, A50, H⟩ := H
   replace H : (if 1 ≤ (l1.length : Int) then ((spec_gcMixedRank.f k (l0.drop 1) (l1.drop 1)).bind fun t464 => (if 0 < (l1.length : Int) then (if (Int.tmod (rd l1 0) 2) = 1 then (some (wrap64 ((wrap64 ((rd l1 0) * t461)) + (wrap64 ((wrap64 (t461 - 1)) - t464))))) else (some (wrap64 ((wrap64 ((rd l1 0) * t461)) + t464)))) else (none))) else (none)) = some r := H
   have A5 := Ya A50
   clear A50
   have c6b0 := eq_true (Z31 Q2 : 1 ≤ (l0.length : Int))
   by_cases c7 : 1 ≤ (l1.length : Int)
   ·rw [if_pos c7] at H
    have c7b0 := eq_true c7
    have c7b1 := Z39 c7
    have HLEc7 := Ya c7
    clear c7
    replace H := Z37.mp H
    obtain ⟨t464, A80, H⟩ := H
    replace H : (if 0 < (l1.length : Int) then (if (Int.tmod (rd l1 0) 2) = 1 then (some (wrap64 ((wrap64 ((rd l1 0) * t461)) + (wrap64 ((wrap64 (t461 - 1)) - t464))))) else (some (wrap64 ((wrap64 ((rd l1 0) * t461)) + t464)))) else (none)) = some r := H
    have A8 := Ya A80
    clear A80
    by_cases c9 : 0 < (l1.length : Int)
    ·rw [if_pos c9] at H
     have c9b0 := Z39 c9
     have c9b1 : decide (0 < l1.length) = true := Z39 (by omega)
     clear c9
     by_cases c10 : (Int.tmod (rd l1 0) 2) = 1
     ·rw [if_pos c10] at H
      have c10b0 : ((Int.tmod (rd l1 0) 2) == 1) = true := beq_iff_eq.mpr c10
      have c10b1 : ((Int.tmod (rd l1 0) 2) != 1) = false := bne_eq_false_iff_eq.mpr c10
      clear c10
      obtain rfl := Option.some.inj H
      obtain ⟨i011, hi011, _, hsz11, _⟩ := info_parts info3
      obtain ⟨A11, hcut11, hA11, hC11⟩ := print_drop_of (P := Try.prog) (Value.int .i64) 0 24 3 .i64 Try.underlying24 hi011 hsz11 A0 c0 l0 1 (by omega) (Z31 Q2) HC0.out
      have HR460 := Ya (Kd.C_of_reads (h1 := fun _ => rfl) (hA11 _ (Kd.reads_of_C HR0.out)))
      have HC460 := Ya hC11
      clear hA11 hC11 hi011 hsz11
      go_enter Try.func64, Try.ntmps64
      try go_wp2_with (first | ((with_reducible refine gate_callee (f := 40) rfl ?_); refine Yz 12 Try.func40 #[.slice A11 (l0.drop 1).length (c0 - 1)] ?_ (hargs := Q44); (with_reducible refine (spec_raProduct.calls k _ _ (l0.drop 1) t461 _ ?side1 ?side2 A5.out).mono ?_); (case side1 => exact Yc HR460.out); (case side2 => exact HC460.out); rintro e w' ⟨rfl, ⟨nd, rfl⟩⟩; refine ⟨_, rfl, ?_⟩))
      replace HB := Ya (Z4 (Z3 HB.out nd))
      have HR462 := HR460
      have HC462 := HC460
      obtain ⟨i014, hi014, _, hsz14, _⟩ := info_parts info3
      obtain ⟨A14, hcut14, hA14, hC14⟩ := print_drop_of (P := Try.prog) (Value.int .i64) 0 24 3 .i64 Try.underlying24 hi014 hsz14 A1 c1 l1 1 (by omega) (Z31 Q2) HC1.out
      have HR463 := Ya (Kd.C_of_reads (h1 := fun _ => rfl) (hA14 _ (Kd.reads_of_C HR1.out)))
      have HC463 := Ya hC14
      clear hA14 hC14 hi014 hsz14
      refine start_ (n := 6) (S := fun w' => True) (ds := []) (YA 6 0) (by kernel_rfl) rfl rfl trivial (fun hHeld => ?_)
      generalize (w.drewN nd).drew = w12 at HB HR462 HR463 hHeld ⊢
      refine Yq 0 (some 13) (YA 6 1) rfl ?_
      refine Yq 1 (some 14) (YA 6 3) rfl ?_
      refine Yq 2 (some 15) (YA 6 7) rfl ?_
      refine Yq 3 (some 16) (YA 6 15) rfl ?_
      refine one_ (i := 4) (N := some 17) (YA 6 31) rfl rfl (by kernel_rfl) (by decide) (fun K hK => ?_)
      refine goes_ Try.func64 (by kernel_rfl) rfl #[.slice A11 (l0.drop 1).length (c0 - 1), .slice A14 (l1.drop 1).length (c1 - 1)] (by rfl) rfl rfl Q35 ?_
      with_reducible refine (ih k (by omega) _ _ (l0.drop 1) _ _ (l1.drop 1) t464 _ ?side1 ?side2 ?side3 ?side4 A8.out).mono ?_
      (case side1 => exact Yc (Z23 HR462.out HB.out))
      (case side2 => exact HC462.out)
      (case side3 => exact Yc (Z23 HR463.out HB.out))
      (case side4 => exact HC463.out)
      rintro e w15 ⟨rfl, hb⟩
      refine ⟨_, rfl, ?_⟩
      replace HB := Yh hb
      (try clear hb)
      refine hK.out _ _ trivial (fun hHeld => ?_)
      clear hK K
      refine norm_ (a' := ?_) ?_ ?_
      rotate_left
      ·show Act.put _ (some 17) _ = _
       simp only [Act.put, Z0, Z1, Z2, i64_w, i32_w]
       rfl
      refine Yq 5 (some 6) (YA 6 63) rfl ?_
      refine done_ (by kernel_rfl) ?_
      have p465 : 0 ≤ (0 : Int) := (by omega)
      have q465 : 0 < (l1.length : Int) := Z31 Q2
      obtain ⟨ad465, e465, hx465_0⟩ := Kd.at_int HR1.out 0 p465 q465
      cases e465
      have qi465 : (0 < l1.length) = True := eq_true (by omega)
      (try rw [show ((0 : Int)).toNat = 0 from rfl] at hx465_0)
      (try rw [Addr.add_zero'] at hx465_0)
      try replace hx465_0 := (HB.out.cell (World.block_lt_of_cell? w _ hx465_0)).trans hx465_0
      replace p465 := eq_true p465
      replace q465 := eq_true q465
      have p466 : 0 ≤ (0 : Int) := (by omega)
      have q466 : 0 < (l1.length : Int) := Z31 Q2
      obtain ⟨ad466, e466, hx466_0⟩ := Kd.at_int HR1.out 0 p466 q466
      obtain rfl : ad465 = ad466 := (by injection e466)
      have qi466 : (0 < l1.length) = True := eq_true (by omega)
      (try rw [show ((0 : Int)).toNat = 0 from rfl] at hx466_0)
      (try rw [Addr.add_zero'] at hx466_0)
      try replace hx466_0 := (HB.out.cell (World.block_lt_of_cell? w _ hx466_0)).trans hx466_0
      replace p466 := eq_true p466
      replace q466 := eq_true q466
      try go_wp2
      go_ret
      exact ⟨Q1, Q12⟩
     ·rw [if_neg c10] at H
      have c10b0 : ((Int.tmod (rd l1 0) 2) == 1) = false := beq_eq_false_iff_ne.mpr c10
      have c10b1 : ((Int.tmod (rd l1 0) 2) != 1) = true := bne_iff_ne.mpr c10
      obtain rfl := Option.some.inj H
      obtain ⟨i016, hi016, _, hsz16, _⟩ := info_parts info3
      obtain ⟨A16, hcut16, hA16, hC16⟩ := print_drop_of (P := Try.prog) (Value.int .i64) 0 24 3 .i64 Try.underlying24 hi016 hsz16 A0 c0 l0 1 (by omega) (Z31 Q2) HC0.out
      have HR460 := Ya (Kd.C_of_reads (h1 := fun _ => rfl) (hA16 _ (Kd.reads_of_C HR0.out)))
      have HC460 := Ya hC16
      clear hA16 hC16 hi016 hsz16
      go_enter Try.func64, Try.ntmps64
      try go_wp2_with (first | ((with_reducible refine gate_callee (f := 40) rfl ?_); refine Yz 12 Try.func40 #[.slice A16 (l0.drop 1).length (c0 - 1)] ?_ (hargs := Q44); (with_reducible refine (spec_raProduct.calls k _ _ (l0.drop 1) t461 _ ?side1 ?side2 A5.out).mono ?_); (case side1 => exact Yc HR460.out); (case side2 => exact HC460.out); rintro e w' ⟨rfl, ⟨nd, rfl⟩⟩; refine ⟨_, rfl, ?_⟩))
      replace HB := Ya (Z4 (Z3 HB.out nd))
      have HR462 := HR460
      have HC462 := HC460
      obtain ⟨i019, hi019, _, hsz19, _⟩ := info_parts info3
      obtain ⟨A19, hcut19, hA19, hC19⟩ := print_drop_of (P := Try.prog) (Value.int .i64) 0 24 3 .i64 Try.underlying24 hi019 hsz19 A1 c1 l1 1 (by omega) (Z31 Q2) HC1.out
      have HR463 := Ya (Kd.C_of_reads (h1 := fun _ => rfl) (hA19 _ (Kd.reads_of_C HR1.out)))
      have HC463 := Ya hC19
      clear hA19 hC19 hi019 hsz19
      refine start_ (n := 6) (S := fun w' => True) (ds := []) (YA 6 0) (by kernel_rfl) rfl rfl trivial (fun hHeld => ?_)
      generalize (w.drewN nd).drew = w17 at HB HR462 HR463 hHeld ⊢
      refine Yq 0 (some 13) (YA 6 1) rfl ?_
      refine Yq 1 (some 14) (YA 6 3) rfl ?_
      refine Yq 2 (some 15) (YA 6 7) rfl ?_
      refine Yq 3 (some 16) (YA 6 15) rfl ?_
      refine one_ (i := 4) (N := some 17) (YA 6 31) rfl rfl (by kernel_rfl) (by decide) (fun K hK => ?_)
      refine goes_ Try.func64 (by kernel_rfl) rfl #[.slice A16 (l0.drop 1).length (c0 - 1), .slice A19 (l1.drop 1).length (c1 - 1)] (by rfl) rfl rfl Q35 ?_
      with_reducible refine (ih k (by omega) _ _ (l0.drop 1) _ _ (l1.drop 1) t464 _ ?side1 ?side2 ?side3 ?side4 A8.out).mono ?_
      (case side1 => exact Yc (Z23 HR462.out HB.out))
      (case side2 => exact HC462.out)
      (case side3 => exact Yc (Z23 HR463.out HB.out))
      (case side4 => exact HC463.out)
      rintro e w20 ⟨rfl, hb⟩
      refine ⟨_, rfl, ?_⟩
      replace HB := Yh hb
      (try clear hb)
      refine hK.out _ _ trivial (fun hHeld => ?_)
      clear hK K
      refine norm_ (a' := ?_) ?_ ?_
      rotate_left
      ·show Act.put _ (some 17) _ = _
       simp only [Act.put, Z0, Z1, Z2, i64_w, i32_w]
       rfl
      refine Yq 5 (some 6) (YA 6 63) rfl ?_
      refine done_ (by kernel_rfl) ?_
      have p465 : 0 ≤ (0 : Int) := (by omega)
      have q465 : 0 < (l1.length : Int) := Z31 Q2
      obtain ⟨ad465, e465, hx465_0⟩ := Kd.at_int HR1.out 0 p465 q465
      cases e465
      have qi465 : (0 < l1.length) = True := eq_true (by omega)
      (try rw [show ((0 : Int)).toNat = 0 from rfl] at hx465_0)
      (try rw [Addr.add_zero'] at hx465_0)
      try replace hx465_0 := (HB.out.cell (World.block_lt_of_cell? w _ hx465_0)).trans hx465_0
      replace p465 := eq_true p465
      replace q465 := eq_true q465
      have p467 : 0 ≤ (0 : Int) := (by omega)
      have q467 : 0 < (l1.length : Int) := Z31 Q2
      obtain ⟨ad467, e467, hx467_0⟩ := Kd.at_int HR1.out 0 p467 q467
      obtain rfl : ad465 = ad467 := (by injection e467)
      have qi467 : (0 < l1.length) = True := eq_true (by omega)
      (try rw [show ((0 : Int)).toNat = 0 from rfl] at hx467_0)
      (try rw [Addr.add_zero'] at hx467_0)
      try replace hx467_0 := (HB.out.cell (World.block_lt_of_cell? w _ hx467_0)).trans hx467_0
      replace p467 := eq_true p467
      replace q467 := eq_true q467
      try go_wp2
      go_ret
      exact ⟨Q1, Q12⟩
    ·rw [if_neg c9] at H
     exact absurd H (by simp)
   ·rw [if_neg c7] at H
    exact absurd H (by simp)
  ·rw [if_neg c4] at H
   exact absurd H (by simp)
def spec_l1Same.l0 : Nat → List Int → List Int → Int → Int → Option (Bool)
 | 0, _, _, _, _ => none
 | k + 1, x0, x1, x12, x13 => if x13 < x12 then (if 0 ≤ x13 then (if x13 < (x0.length : Int) then (if x13 < (x1.length : Int) then (if (rd x0 x13) = (rd x1 x13) then (spec_l1Same.l0 k x0 x1 x12 (wrap64 (x13 + 1))) else (some false)) else (none)) else (none)) else (none)) else (some true)
def spec_l1Same.f (k : Nat) (l0 : List Int) (l1 : List Int) : Option (Bool) := if (l0.length : Int) = (l1.length : Int) then (spec_l1Same.l0 k l0 l1 (l0.length : Int) 0) else (some false)
theorem spec_l1Same.mono_l : ∀ k, (∀ y0 y1 y2 y3, LeO (spec_l1Same.l0 k y0 y1 y2 y3) (spec_l1Same.l0 (k + 1) y0 y1 y2 y3))
 | 0 => fun _ _ _ _ r h => by simp [spec_l1Same.l0] at h
 | k + 1 => by
  have ih0 := spec_l1Same.mono_l k
  ·intro y0 y1 y2 y3
   unfold spec_l1Same.l0
   repeat' first
   | (with_reducible exact ih0 _ _ _ _)
   | (with_reducible exact LeO.refl _)
   | (with_reducible exact LeO.none _)
   | (with_reducible refine LeO.ite ?_ ?_)
   | (with_reducible refine LeO.bind ?_ (fun _ => ?_))
   | exact ih0 _ _ _ _
   | exact LeO.none _
   | refine LeO.ite ?_ ?_
   | refine LeO.bind ?_ (fun _ => ?_)
theorem spec_l1Same.mono : ∀ a0 a1 k, LeO (spec_l1Same.f k a0 a1) (spec_l1Same.f (k + 1) a0 a1) := by
 intro a0 a1 k
 have ih0 := spec_l1Same.mono_l k
 unfold spec_l1Same.f
 repeat' first
   | (with_reducible exact ih0 _ _ _ _)
   | (with_reducible exact LeO.refl _)
   | (with_reducible exact LeO.none _)
   | (with_reducible refine LeO.ite ?_ ?_)
   | (with_reducible refine LeO.bind ?_ (fun _ => ?_))
   | exact ih0 _ _ _ _
   | exact LeO.none _
   | refine LeO.ite ?_ ?_
   | refine LeO.bind ?_ (fun _ => ?_)
set_option maxHeartbeats 8000000 in
set_option maxRecDepth 100000 in
theorem spec_l1Same.calls (k : Nat) (A0 : Option Addr) (c0 : Nat) (l0 : List Int) (A1 : Option Addr) (c1 : Nat) (l1 : List Int) (r : Bool) (w : World) (hr0 : Kd.C (Kd.int .i64) w A0 l0.length l0) (hc0 : l0.length ≤ c0) (hr1 : Kd.C (Kd.int .i64) w A1 l1.length l1) (hc1 : l1.length ≤ c1) (h : spec_l1Same.f k l0 l1 = some r) :
  Calls Try.prog 74 #[.slice A0 l0.length c0, .slice A1 l1.length c1] w fun e w' => e = .returned (.bool r) ∧ Drawn0 w w' := by
 have HR0 := Ya hr0
 have HC0 := Ya hc0
 clear hr0 hc0
 have HR1 := Ya hr1
 have HC1 := Ya hc1
 clear hr1 hc1
 have H : (if (l0.length : Int) = (l1.length : Int) then (spec_l1Same.l0 k l0 l1 (l0.length : Int) 0) else (some false)) = some r := h
 clear h
 by_cases c3 : (l0.length : Int) = (l1.length : Int)
 ·rw [if_pos c3] at H
  have c3b0 : ((l0.length : Int) == (l1.length : Int)) = true := beq_iff_eq.mpr c3
  have c3b1 : ((l0.length : Int) != (l1.length : Int)) = false := bne_eq_false_iff_eq.mpr c3
  have c3b2 : (l0.length == l1.length) = true := by first | simpa using c3 | (simp at c3 ⊢; omega)
  clear c3
  have H' := Ya H
  clear H
  go_enter Try.func74, Try.ntmps74
  go_wp2
  repeat (go_quiet (fail); try go_wp2)
  go_loopg [13] k (fun kq v13 w' => ∃ (x13_1 : Int), v13 = .int .i64 x13_1 ∧ Aside0 (spec_l1Same.l0 kq l0 l1 (l0.length : Int) x13_1 = some r) ∧ Aside0 (kq ≤ k) ∧ Drawn0 w w')
  case atStart => exact ⟨(0), Q9, H', ⟨Nat.le_refl _⟩, Q10⟩
  case round =>
   clear H'
   try clear c1
   try clear p2
   try clear c3
   try clear c3b0
   try clear c3b1
   try clear c3b2
   obtain ⟨x13_1, rfl, HA, HK1, ⟨m1, rfl⟩⟩ := hrel
   cases gk with
   | zero => exact absurd HA.out (by simp [spec_l1Same.l0])
   | succ k1 =>
    have H := HA.out
    clear HA
    simp only [spec_l1Same.l0] at H
    by_cases c4 : x13_1 < (l0.length : Int)
    ·rw [if_pos c4] at H
     have c4b0 := Z39 c4
     clear c4
     by_cases c5 : 0 ≤ x13_1
     ·rw [if_pos c5] at H
      have c5b0 := Z39 c5
      clear c5
      by_cases c6 : x13_1 < (l0.length : Int)
      ·rw [if_pos c6] at H
       have c6b0 := Z39 c6
       clear c6
       by_cases c7 : x13_1 < (l1.length : Int)
       ·rw [if_pos c7] at H
        have c7b0 := Z39 c7
        clear c7
        by_cases c8 : (rd l0 x13_1) = (rd l1 x13_1)
        ·rw [if_pos c8] at H
         have c8b0 : ((rd l0 x13_1) == (rd l1 x13_1)) = true := beq_iff_eq.mpr c8
         have c8b1 : ((rd l0 x13_1) != (rd l1 x13_1)) = false := bne_eq_false_iff_eq.mpr c8
         clear c8
         have H' := Ya H
         clear H
         have p468 : 0 ≤ (x13_1 : Int) := Z31 Q2
         have q468 : x13_1 < (l0.length : Int) := Z31 Q2
         obtain ⟨ad468, e468, hx468_0⟩ := Kd.at_int HR0.out x13_1 p468 q468
         cases e468
         replace p468 := eq_true p468
         replace q468 := eq_true q468
         have p469 : 0 ≤ (x13_1 : Int) := Z31 Q2
         have q469 : x13_1 < (l1.length : Int) := Z31 Q2
         obtain ⟨ad469, e469, hx469_0⟩ := Kd.at_int HR1.out x13_1 p469 q469
         cases e469
         replace p469 := eq_true p469
         replace q469 := eq_true q469
         go_wp2
         repeat (go_quiet (fail); try go_wp2)
         go_roundg k1
         case measure => have := HK1.out; omega
         case rel => exact ⟨(wrap64 (x13_1 + 1)), Q9, H', ⟨Q45⟩, Q10⟩
        ·rw [if_neg c8] at H
         have c8b0 : ((rd l0 x13_1) == (rd l1 x13_1)) = false := beq_eq_false_iff_ne.mpr c8
         have c8b1 : ((rd l0 x13_1) != (rd l1 x13_1)) = true := bne_iff_ne.mpr c8
         obtain rfl := Option.some.inj H
         have p468 : 0 ≤ (x13_1 : Int) := Z31 Q2
         have q468 : x13_1 < (l0.length : Int) := Z31 Q2
         obtain ⟨ad468, e468, hx468_0⟩ := Kd.at_int HR0.out x13_1 p468 q468
         cases e468
         replace p468 := eq_true p468
         replace q468 := eq_true q468
         have p469 : 0 ≤ (x13_1 : Int) := Z31 Q2
         have q469 : x13_1 < (l1.length : Int) := Z31 Q2
         obtain ⟨ad469, e469, hx469_0⟩ := Kd.at_int HR1.out x13_1 p469 q469
         cases e469
         replace p469 := eq_true p469
         replace q469 := eq_true q469
         go_wp2
         repeat (go_quiet (fail); try go_wp2)
         go_ret
         exact ⟨Q19, Q10⟩
       ·rw [if_neg c7] at H
        exact absurd H (by simp)
      ·rw [if_neg c6] at H
       exact absurd H (by simp)
     ·rw [if_neg c5] at H
      exact absurd H (by simp)
    ·rw [if_neg c4] at H
     have c4b0 := Z38 c4
     clear c4
     obtain rfl := Option.some.inj H
     go_wp2
     repeat (go_quiet (fail); try go_wp2)
     go_ret
     exact ⟨Q19, Q10⟩
 ·rw [if_neg c3] at H
  have c3b0 : ((l0.length : Int) == (l1.length : Int)) = false := beq_eq_false_iff_ne.mpr c3
  have c3b1 : ((l0.length : Int) != (l1.length : Int)) = true := bne_iff_ne.mpr c3
  have c3b2 : (l0.length == l1.length) = false := by first | simpa using c3 | (simp at c3 ⊢; omega)
  obtain rfl := Option.some.inj H
  go_enter Try.func74, Try.ntmps74
  go_wp2
  repeat (go_quiet (fail); try go_wp2)
  go_ret
  exact ⟨Q19, Q10⟩
mutual
def spec_foSame.j0 : Nat → Bool → List Int → List Int → List Bool → List Int → List Int → List Int → List Bool → List Int → Option (Bool)
 | 0, _, _, _, _, _, _, _, _, _ => none
 | k + 1, x37, x471000, x471001, x471002, x471003, x472000, x472001, x472002, x472003 => if x37 = true then (some false) else (spec_foSame.l0 k x471002 (x471002.length : Int) 0 x472000 x472001 x472002 x472003)
def spec_foSame.l0 : Nat → List Bool → Int → Int → List Int → List Int → List Bool → List Int → Option (Bool)
 | 0, _, _, _, _, _, _, _ => none
 | k + 1, x39, x40, x41, x472000, x472001, x472002, x472003 => if x41 < x40 then (if 0 ≤ x41 then (if x41 < (x39.length : Int) then (if x41 < (x472002.length : Int) then (if ((rdOf false x39 x41) != (rdOf false x472002 x41)) = true then (some false) else (spec_foSame.l0 k x39 x40 (wrap64 (x41 + 1)) x472000 x472001 x472002 x472003)) else (none)) else (none)) else (none)) else (some true)
end
def spec_foSame.f (k : Nat) (l0_0 : List Int) (l0_1 : List Int) (l0_2 : List Bool) (l0_3 : List Int) (l1_0 : List Int) (l1_1 : List Int) (l1_2 : List Bool) (l1_3 : List Int) : Option (Bool) := (spec_l1Same.f k l0_0 l1_0).bind fun t472 => (if t472 = true then ((spec_l1Same.f k l0_1 l1_1).bind fun t473 => (if t473 = true then ((spec_l1Same.f k l0_3 l1_3).bind fun t474 => (if t474 = true then (spec_foSame.j0 k ((l0_2.length : Int) != (l1_2.length : Int)) l0_0 l0_1 l0_2 l0_3 l1_0 l1_1 l1_2 l1_3) else (spec_foSame.j0 k true l0_0 l0_1 l0_2 l0_3 l1_0 l1_1 l1_2 l1_3))) else (spec_foSame.j0 k true l0_0 l0_1 l0_2 l0_3 l1_0 l1_1 l1_2 l1_3))) else (spec_foSame.j0 k true l0_0 l0_1 l0_2 l0_3 l1_0 l1_1 l1_2 l1_3))
theorem spec_foSame.mono_l : ∀ k, (∀ y0 y1 y2 y3 y4 y5 y6 y7 y8, LeO (spec_foSame.j0 k y0 y1 y2 y3 y4 y5 y6 y7 y8) (spec_foSame.j0 (k + 1) y0 y1 y2 y3 y4 y5 y6 y7 y8)) ∧ (∀ y0 y1 y2 y3 y4 y5 y6, LeO (spec_foSame.l0 k y0 y1 y2 y3 y4 y5 y6) (spec_foSame.l0 (k + 1) y0 y1 y2 y3 y4 y5 y6))
 | 0 => ⟨fun _ _ _ _ _ _ _ _ _ r h => by simp [spec_foSame.j0] at h, fun _ _ _ _ _ _ _ r h => by simp [spec_foSame.l0] at h⟩
 | k + 1 => by
  obtain ⟨ih0, ih1⟩ := spec_foSame.mono_l k
  refine ⟨?_, ?_⟩
  ·intro y0 y1 y2 y3 y4 y5 y6 y7 y8
   unfold spec_foSame.j0
   repeat' first
   | (with_reducible exact ih0 _ _ _ _ _ _ _ _ _)
   | (with_reducible exact ih1 _ _ _ _ _ _ _)
   | (with_reducible exact spec_l1Same.mono _ _ _)
   | (with_reducible exact LeO.refl _)
   | (with_reducible exact LeO.none _)
   | (with_reducible refine LeO.ite ?_ ?_)
   | (with_reducible refine LeO.bind ?_ (fun _ => ?_))
   | exact ih0 _ _ _ _ _ _ _ _ _
   | exact ih1 _ _ _ _ _ _ _
   | exact spec_l1Same.mono _ _ _
   | exact LeO.none _
   | refine LeO.ite ?_ ?_
   | refine LeO.bind ?_ (fun _ => ?_)
  ·intro y0 y1 y2 y3 y4 y5 y6
   unfold spec_foSame.l0
   repeat' first
   | (with_reducible exact ih0 _ _ _ _ _ _ _ _ _)
   | (with_reducible exact ih1 _ _ _ _ _ _ _)
   | (with_reducible exact spec_l1Same.mono _ _ _)
   | (with_reducible exact LeO.refl _)
   | (with_reducible exact LeO.none _)
   | (with_reducible refine LeO.ite ?_ ?_)
   | (with_reducible refine LeO.bind ?_ (fun _ => ?_))
   | exact ih0 _ _ _ _ _ _ _ _ _
   | exact ih1 _ _ _ _ _ _ _
   | exact spec_l1Same.mono _ _ _
   | exact LeO.none _
   | refine LeO.ite ?_ ?_
   | refine LeO.bind ?_ (fun _ => ?_)
theorem spec_foSame.mono : ∀ a0 a1 a2 a3 a4 a5 a6 a7 k, LeO (spec_foSame.f k a0 a1 a2 a3 a4 a5 a6 a7) (spec_foSame.f (k + 1) a0 a1 a2 a3 a4 a5 a6 a7) := by
 intro a0 a1 a2 a3 a4 a5 a6 a7 k
 obtain ⟨ih0, ih1⟩ := spec_foSame.mono_l k
 unfold spec_foSame.f
 repeat' first
   | (with_reducible exact ih0 _ _ _ _ _ _ _ _ _)
   | (with_reducible exact ih1 _ _ _ _ _ _ _)
   | (with_reducible exact spec_l1Same.mono _ _ _)
   | (with_reducible exact LeO.refl _)
   | (with_reducible exact LeO.none _)
   | (with_reducible refine LeO.ite ?_ ?_)
   | (with_reducible refine LeO.bind ?_ (fun _ => ?_))
   | exact ih0 _ _ _ _ _ _ _ _ _
   | exact ih1 _ _ _ _ _ _ _
   | exact spec_l1Same.mono _ _ _
   | exact LeO.none _
   | refine LeO.ite ?_ ?_
   | refine LeO.bind ?_ (fun _ => ?_)
set_option maxHeartbeats 8000000 in
set_option maxRecDepth 100000 in
theorem spec_foSame.calls (k : Nat) (A0_0 : Option Addr) (c0_0 : Nat) (l0_0 : List Int) (A0_1 : Option Addr) (c0_1 : Nat) (l0_1 : List Int) (A0_2 : Option Addr) (c0_2 : Nat) (l0_2 : List Bool) (A0_3 : Option Addr) (c0_3 : Nat) (l0_3 : List Int) (A1_0 : Option Addr) (c1_0 : Nat) (l1_0 : List Int) (A1_1 : Option Addr) (c1_1 : Nat) (l1_1 : List Int) (A1_2 : Option Addr) (c1_2 : Nat) (l1_2 : List Bool) (A1_3 : Option Addr) (c1_3 : Nat) (l1_3 : List Int) (r : Bool) (w : World) (hr0_0 : Kd.C (Kd.int .i64) w A0_0 l0_0.length l0_0) (hc0_0 : l0_0.length ≤ c0_0) (hr0_1 : Kd.C (Kd.int .i64) w A0_1 l0_1.length l0_1) (hc0_1 : l0_1.length ≤ c0_1) (hr0_2 : Kd.C Kd.bool w A0_2 l0_2.length l0_2) (hc0_2 : l0_2.length ≤ c0_2) (hr0_3 : Kd.C (Kd.int .i64) w A0_3 l0_3.length l0_3) (hc0_3 : l0_3.length ≤ c0_3) (hr1_0 : Kd.C (Kd.int .i64) w A1_0 l1_0.length l1_0) (hc1_0 : l1_0.length ≤ c1_0) (hr1_1 : Kd.C (Kd.int .i64) w A1_1 l1_1.length l1_1) (hc1_1 : l1_1.length ≤ c1_1) (hr1_2 : Kd.C Kd.bool w A1_2 l1_2.length l1_2) (hc1_2 : l1_2.length ≤ c1_2) (hr1_3 : Kd.C (Kd.int .i64) w A1_3 l1_3.length l1_3) (hc1_3 : l1_3.length ≤ c1_3) (h : spec_foSame.f k l0_0 l0_1 l0_2 l0_3 l1_0 l1_1 l1_2 l1_3 = some r) :
  Calls Try.prog 65 #[.agg #[.slice A0_0 l0_0.length c0_0, .slice A0_1 l0_1.length c0_1, .slice A0_2 l0_2.length c0_2, .slice A0_3 l0_3.length c0_3], .agg #[.slice A1_0 l1_0.length c1_0, .slice A1_1 l1_1.length c1_1, .slice A1_2 l1_2.length c1_2, .slice A1_3 l1_3.length c1_3]] w fun e w' => e = .returned (.bool r) ∧ Below w.heap.size w w' := by
 have hu33 := Try.underlying33
 have HR0_0 := Ya hr0_0
 have HC0_0 := Ya hc0_0
 clear hr0_0 hc0_0
 have HR0_1 := Ya hr0_1
 have HC0_1 := Ya hc0_1
 clear hr0_1 hc0_1
 have HR0_2 := Ya hr0_2
 have HC0_2 := Ya hc0_2
 clear hr0_2 hc0_2
 have HR0_3 := Ya hr0_3
 have HC0_3 := Ya hc0_3
 clear hr0_3 hc0_3
 have HR1_0 := Ya hr1_0
 have HC1_0 := Ya hc1_0
 clear hr1_0 hc1_0
 have HR1_1 := Ya hr1_1
 have HC1_1 := Ya hc1_1
 clear hr1_1 hc1_1
 have HR1_2 := Ya hr1_2
 have HC1_2 := Ya hc1_2
 clear hr1_2 hc1_2
 have HR1_3 := Ya hr1_3
 have HC1_3 := Ya hc1_3
 clear hr1_3 hc1_3
 have HB := Ya (Below.refl w.heap.size w)
 have H : ((spec_l1Same.f k l0_0 l1_0).bind fun t472 => (if t472 = true then ((spec_l1Same.f k l0_1 l1_1).bind fun t473 => (if t473 = true then ((spec_l1Same.f k l0_3 l1_3).bind fun t474 => (if t474 = true then (spec_foSame.j0 k ((l0_2.length : Int) != (l1_2.length : Int)) l0_0 l0_1 l0_2 l0_3 l1_0 l1_1 l1_2 l1_3) else (spec_foSame.j0 k true l0_0 l0_1 l0_2 l0_3 l1_0 l1_1 l1_2 l1_3))) else (spec_foSame.j0 k true l0_0 l0_1 l0_2 l0_3 l1_0 l1_1 l1_2 l1_3))) else (spec_foSame.j0 k true l0_0 l0_1 l0_2 l0_3 l1_0 l1_1 l1_2 l1_3))) = some r := h
 clear h
 have HC3 := Ya H
 clear H
 go_enter Try.func65, Try.ntmps65
 go_upto_region 1 with (first | ((with_reducible refine gate_dst (N := 2) rfl ?_); (try (refine gate_guard (by rfl) ?_; dsimp only)); refine Yx 2 #[.slice A0_0 l0_0.length c0_0, .slice A0_1 l0_1.length c0_1, .slice A0_2 l0_2.length c0_2, .slice A0_3 l0_3.length c0_3] 33 ?_; intro gb470 hg w4 hbox hb; have BK470 := Ya hbox; have GE470 := Yg hg; replace HB := Yh hb; clear hb hbox hg) | ((with_reducible refine gate_dst (N := 3) rfl ?_); (try (refine gate_guard (by rfl) ?_; dsimp only)); refine Yx 3 #[.slice A1_0 l1_0.length c1_0, .slice A1_1 l1_1.length c1_1, .slice A1_2 l1_2.length c1_2, .slice A1_3 l1_3.length c1_3] 33 ?_; intro gb471 hg w5 hbox hb; have BK471 := Ya hbox; have GE471 := Yg hg; replace HB := Yh hb; have NB470_471 := Yn BK470 hg; have NB471_470 := Ym BK470 hg; replace BK470 := Yb BK470 hb; clear hb hbox hg))
 (try simp only [Act.put, Z0, Z1, Z2])
 go_cut [37] (fun v37 wc => ∃ (kq : Nat) (x37_2 : Bool), v37 = .bool x37_2 ∧ Aside0 (spec_foSame.j0 kq x37_2 l0_0 l0_1 l0_2 l0_3 l1_0 l1_1 l1_2 l1_3 = some r) ∧ Aside0 (kq ≤ k) ∧ Aside0 (wc.heap[gb470]? = some (.cells #[(.slice A0_0 l0_0.length c0_0), (.slice A0_1 l0_1.length c0_1), (.slice A0_2 l0_2.length c0_2), (.slice A0_3 l0_3.length c0_3)] 33 (0, 0))) ∧ Aside0 (wc.heap[gb471]? = some (.cells #[(.slice A1_0 l1_0.length c1_0), (.slice A1_1 l1_1.length c1_1), (.slice A1_2 l1_2.length c1_2), (.slice A1_3 l1_3.length c1_3)] 33 (0, 0))) ∧ Aside0 (Below w.heap.size w wc))
 case first =>
  have H := HC3.out
  clear HC3
  replace H := Z37.mp H
  obtain ⟨t472, A60, H⟩ := H
  replace H : (if t472 = true then ((spec_l1Same.f k l0_1 l1_1).bind fun t473 => (if t473 = true then ((spec_l1Same.f k l0_3 l1_3).bind fun t474 => (if t474 = true then (spec_foSame.j0 k ((l0_2.length : Int) != (l1_2.length : Int)) l0_0 l0_1 l0_2 l0_3 l1_0 l1_1 l1_2 l1_3) else (spec_foSame.j0 k true l0_0 l0_1 l0_2 l0_3 l1_0 l1_1 l1_2 l1_3))) else (spec_foSame.j0 k true l0_0 l0_1 l0_2 l0_3 l1_0 l1_1 l1_2 l1_3))) else (spec_foSame.j0 k true l0_0 l0_1 l0_2 l0_3 l1_0 l1_1 l1_2 l1_3)) = some r := H
  have A6 := Ya A60
  clear A60
  by_cases c7 : t472 = true
  ·subst c7
   have H1 : ((spec_l1Same.f k l0_1 l1_1).bind fun t473 => (if t473 = true then ((spec_l1Same.f k l0_3 l1_3).bind fun t474 => (if t474 = true then (spec_foSame.j0 k ((l0_2.length : Int) != (l1_2.length : Int)) l0_0 l0_1 l0_2 l0_3 l1_0 l1_1 l1_2 l1_3) else (spec_foSame.j0 k true l0_0 l0_1 l0_2 l0_3 l1_0 l1_1 l1_2 l1_3))) else (spec_foSame.j0 k true l0_0 l0_1 l0_2 l0_3 l1_0 l1_1 l1_2 l1_3))) = some r := by rw [if_pos rfl] at H; exact H
   clear H
   have H := H1
   clear H1
   replace H := Z37.mp H
   obtain ⟨t473, A80, H⟩ := H
   replace H : (if t473 = true then ((spec_l1Same.f k l0_3 l1_3).bind fun t474 => (if t474 = true then (spec_foSame.j0 k ((l0_2.length : Int) != (l1_2.length : Int)) l0_0 l0_1 l0_2 l0_3 l1_0 l1_1 l1_2 l1_3) else (spec_foSame.j0 k true l0_0 l0_1 l0_2 l0_3 l1_0 l1_1 l1_2 l1_3))) else (spec_foSame.j0 k true l0_0 l0_1 l0_2 l0_3 l1_0 l1_1 l1_2 l1_3)) = some r := H
   have A8 := Ya A80
   clear A80
   by_cases c9 : t473 = true
   ·subst c9
    have H1 : ((spec_l1Same.f k l0_3 l1_3).bind fun t474 => (if t474 = true then (spec_foSame.j0 k ((l0_2.length : Int) != (l1_2.length : Int)) l0_0 l0_1 l0_2 l0_3 l1_0 l1_1 l1_2 l1_3) else (spec_foSame.j0 k true l0_0 l0_1 l0_2 l0_3 l1_0 l1_1 l1_2 l1_3))) = some r := by rw [if_pos rfl] at H; exact H
    clear H
    have H := H1
    clear H1
    replace H := Z37.mp H
    obtain ⟨t474, A100, H⟩ := H
    replace H : (if t474 = true then (spec_foSame.j0 k ((l0_2.length : Int) != (l1_2.length : Int)) l0_0 l0_1 l0_2 l0_3 l1_0 l1_1 l1_2 l1_3) else (spec_foSame.j0 k true l0_0 l0_1 l0_2 l0_3 l1_0 l1_1 l1_2 l1_3)) = some r := H
    have A10 := Ya A100
    clear A100
    by_cases c11 : t474 = true
    ·subst c11
     have H1 : (spec_foSame.j0 k ((l0_2.length : Int) != (l1_2.length : Int)) l0_0 l0_1 l0_2 l0_3 l1_0 l1_1 l1_2 l1_3) = some r := by rw [if_pos rfl] at H; exact H
     clear H
     have H := H1
     clear H1
     have H' := Ya H
     clear H
     have hnb12 := NB470_471.out
     have hnc12 := NB471_470.out
     obtain ⟨hcz13_0, hcz13_1, hcz13_2, hcz13_3, hfz13_0, hfz13_1, hfz13_2, hfz13_3⟩ := Y4 BK470.out
     obtain ⟨hcz14_0, hcz14_1, hcz14_2, hcz14_3, hfz14_0, hfz14_1, hfz14_2, hfz14_3⟩ := Y4 BK471.out
     go_wp2_with (first | ((with_reducible refine gate_callee (f := 74) rfl ?_); refine Yz 11 Try.func74 #[.slice A0_0 l0_0.length c0_0, .slice A1_0 l1_0.length c1_0] ?_; (with_reducible refine (spec_l1Same.calls k _ _ l0_0 _ _ l1_0 true _ (Yc (Z23 HR0_0.out HB.out)) HC0_0.out (Yc (Z23 HR1_0.out HB.out)) HC1_0.out A6.out).mono ?_); rintro e w' ⟨rfl, ⟨nd, rfl⟩⟩; refine ⟨_, rfl, ?_⟩) | (go_at_call 74; (with_reducible refine (spec_l1Same.calls k _ _ l0_1 _ _ l1_1 true _ ?side1 HC0_1.out ?side3 HC1_1.out A8.out).mono ?_); (case side1 => exact Yc (Z23 HR0_1.out Q0)); (case side3 => exact Yc (Z23 HR1_1.out Q0)); rintro e w' ⟨rfl, ⟨nd, rfl⟩⟩) | (go_at_call 74; (with_reducible refine (spec_l1Same.calls k _ _ l0_3 _ _ l1_3 true _ ?side1 HC0_3.out ?side3 HC1_3.out A10.out).mono ?_); (case side1 => exact Yc (Z23 HR0_3.out Q0)); (case side3 => exact Yc (Z23 HR1_3.out Q0)); rintro e w' ⟨rfl, ⟨nd, rfl⟩⟩))
     go_meet
     case rel => exact ⟨_, (((l0_2.length : Int) != (l1_2.length : Int))), Q9, H', ⟨Q46⟩, ⟨Q42⟩, ⟨Q41⟩, ⟨Q12⟩⟩
    ·replace c11 := Bool.eq_false_iff.mpr c11
     subst c11
     have H1 : (spec_foSame.j0 k true l0_0 l0_1 l0_2 l0_3 l1_0 l1_1 l1_2 l1_3) = some r := by rw [if_neg (show ¬ (false = true) by decide)] at H; exact H
     clear H
     have H := H1
     clear H1
     have H' := Ya H
     clear H
     have hnb15 := NB470_471.out
     have hnc15 := NB471_470.out
     obtain ⟨hcz16_0, hcz16_1, hcz16_2, hcz16_3, hfz16_0, hfz16_1, hfz16_2, hfz16_3⟩ := Y4 BK470.out
     obtain ⟨hcz17_0, hcz17_1, hcz17_2, hcz17_3, hfz17_0, hfz17_1, hfz17_2, hfz17_3⟩ := Y4 BK471.out
     go_wp2_with (first | ((with_reducible refine gate_callee (f := 74) rfl ?_); refine Yz 11 Try.func74 #[.slice A0_0 l0_0.length c0_0, .slice A1_0 l1_0.length c1_0] ?_; (with_reducible refine (spec_l1Same.calls k _ _ l0_0 _ _ l1_0 true _ (Yc (Z23 HR0_0.out HB.out)) HC0_0.out (Yc (Z23 HR1_0.out HB.out)) HC1_0.out A6.out).mono ?_); rintro e w' ⟨rfl, ⟨nd, rfl⟩⟩; refine ⟨_, rfl, ?_⟩) | (go_at_call 74; (with_reducible refine (spec_l1Same.calls k _ _ l0_1 _ _ l1_1 true _ ?side1 HC0_1.out ?side3 HC1_1.out A8.out).mono ?_); (case side1 => exact Yc (Z23 HR0_1.out Q0)); (case side3 => exact Yc (Z23 HR1_1.out Q0)); rintro e w' ⟨rfl, ⟨nd, rfl⟩⟩) | (go_at_call 74; (with_reducible refine (spec_l1Same.calls k _ _ l0_3 _ _ l1_3 false _ ?side1 HC0_3.out ?side3 HC1_3.out A10.out).mono ?_); (case side1 => exact Yc (Z23 HR0_3.out Q0)); (case side3 => exact Yc (Z23 HR1_3.out Q0)); rintro e w' ⟨rfl, ⟨nd, rfl⟩⟩))
     go_meet
     case rel => exact ⟨_, (true), Q9, H', ⟨Q46⟩, ⟨Q42⟩, ⟨Q41⟩, ⟨Q12⟩⟩
   ·replace c9 := Bool.eq_false_iff.mpr c9
    subst c9
    have H1 : (spec_foSame.j0 k true l0_0 l0_1 l0_2 l0_3 l1_0 l1_1 l1_2 l1_3) = some r := by rw [if_neg (show ¬ (false = true) by decide)] at H; exact H
    clear H
    have H := H1
    clear H1
    have H' := Ya H
    clear H
    have hnb18 := NB470_471.out
    have hnc18 := NB471_470.out
    obtain ⟨hcz19_0, hcz19_1, hcz19_2, hcz19_3, hfz19_0, hfz19_1, hfz19_2, hfz19_3⟩ := Y4 BK470.out
    obtain ⟨hcz20_0, hcz20_1, hcz20_2, hcz20_3, hfz20_0, hfz20_1, hfz20_2, hfz20_3⟩ := Y4 BK471.out
    go_wp2_with (first | ((with_reducible refine gate_callee (f := 74) rfl ?_); refine Yz 11 Try.func74 #[.slice A0_0 l0_0.length c0_0, .slice A1_0 l1_0.length c1_0] ?_; (with_reducible refine (spec_l1Same.calls k _ _ l0_0 _ _ l1_0 true _ (Yc (Z23 HR0_0.out HB.out)) HC0_0.out (Yc (Z23 HR1_0.out HB.out)) HC1_0.out A6.out).mono ?_); rintro e w' ⟨rfl, ⟨nd, rfl⟩⟩; refine ⟨_, rfl, ?_⟩) | (go_at_call 74; (with_reducible refine (spec_l1Same.calls k _ _ l0_1 _ _ l1_1 false _ ?side1 HC0_1.out ?side3 HC1_1.out A8.out).mono ?_); (case side1 => exact Yc (Z23 HR0_1.out Q0)); (case side3 => exact Yc (Z23 HR1_1.out Q0)); rintro e w' ⟨rfl, ⟨nd, rfl⟩⟩))
    go_meet
    case rel => exact ⟨_, (true), Q9, H', ⟨Q46⟩, ⟨Q42⟩, ⟨Q41⟩, ⟨Q12⟩⟩
  ·replace c7 := Bool.eq_false_iff.mpr c7
   subst c7
   have H1 : (spec_foSame.j0 k true l0_0 l0_1 l0_2 l0_3 l1_0 l1_1 l1_2 l1_3) = some r := by rw [if_neg (show ¬ (false = true) by decide)] at H; exact H
   clear H
   have H := H1
   clear H1
   have H' := Ya H
   clear H
   have hnb21 := NB470_471.out
   have hnc21 := NB471_470.out
   obtain ⟨hcz22_0, hcz22_1, hcz22_2, hcz22_3, hfz22_0, hfz22_1, hfz22_2, hfz22_3⟩ := Y4 BK470.out
   obtain ⟨hcz23_0, hcz23_1, hcz23_2, hcz23_3, hfz23_0, hfz23_1, hfz23_2, hfz23_3⟩ := Y4 BK471.out
   go_wp2_with (first | ((with_reducible refine gate_callee (f := 74) rfl ?_); refine Yz 11 Try.func74 #[.slice A0_0 l0_0.length c0_0, .slice A1_0 l1_0.length c1_0] ?_; (with_reducible refine (spec_l1Same.calls k _ _ l0_0 _ _ l1_0 false _ (Yc (Z23 HR0_0.out HB.out)) HC0_0.out (Yc (Z23 HR1_0.out HB.out)) HC1_0.out A6.out).mono ?_); rintro e w' ⟨rfl, ⟨nd, rfl⟩⟩; refine ⟨_, rfl, ?_⟩))
   go_meet
   case rel => exact ⟨_, (true), Q9, H', ⟨Q46⟩, ⟨Q42⟩, ⟨Q41⟩, ⟨Q12⟩⟩
 case rest =>
  clear HC3
  try clear c1
  try clear c2
  try clear p2
  try clear c6
  try clear c7
  try clear c9
  try clear c11
  try clear c12
  try clear c15
  try clear c18
  try clear c21
  try clear hcz13_0
  try clear hcz13_1
  try clear hcz13_2
  try clear hcz13_3
  try clear hcz14_0
  try clear hcz14_1
  try clear hcz14_2
  try clear hcz14_3
  try clear hcz16_0
  try clear hcz16_1
  try clear hcz16_2
  try clear hcz16_3
  try clear hcz17_0
  try clear hcz17_1
  try clear hcz17_2
  try clear hcz17_3
  try clear hcz19_0
  try clear hcz19_1
  try clear hcz19_2
  try clear hcz19_3
  try clear hcz20_0
  try clear hcz20_1
  try clear hcz20_2
  try clear hcz20_3
  try clear hcz22_0
  try clear hcz22_1
  try clear hcz22_2
  try clear hcz22_3
  try clear hcz23_0
  try clear hcz23_1
  try clear hcz23_2
  try clear hcz23_3
  try clear hfz13_0
  try clear hfz13_1
  try clear hfz13_2
  try clear hfz13_3
  try clear hfz14_0
  try clear hfz14_1
  try clear hfz14_2
  try clear hfz14_3
  try clear hfz16_0
  try clear hfz16_1
  try clear hfz16_2
  try clear hfz16_3
  try clear hfz17_0
  try clear hfz17_1
  try clear hfz17_2
  try clear hfz17_3
  try clear hfz19_0
  try clear hfz19_1
  try clear hfz19_2
  try clear hfz19_3
  try clear hfz20_0
  try clear hfz20_1
  try clear hfz20_2
  try clear hfz20_3
  try clear hfz22_0
  try clear hfz22_1
  try clear hfz22_2
  try clear hfz22_3
  try clear hfz23_0
  try clear hfz23_1
  try clear hfz23_2
  try clear hfz23_3
  obtain ⟨kq, x37_2, rfl, HA, HJ2, BK470, BK471, HB⟩ := hcut
  cases kq with
  | zero => exact absurd HA.out (by simp [spec_foSame.j0])
  | succ kj2 =>
   have H := HA.out
   clear HA
   simp only [spec_foSame.j0] at H
   by_cases c24 : x37_2 = true
   ·subst c24
    have H1 : (some false) = some r := by rw [if_pos rfl] at H; exact H
    clear H
    have H := H1
    clear H1
    obtain rfl := Option.some.inj H
    go_wp2
    go_ret
    exact ⟨Q1, Q12⟩
   ·replace c24 := Bool.eq_false_iff.mpr c24
    subst c24
    have H1 : (spec_foSame.l0 kj2 l0_2 (l0_2.length : Int) 0 l1_0 l1_1 l1_2 l1_3) = some r := by rw [if_neg (show ¬ (false = true) by decide)] at H; exact H
    clear H
    have H := H1
    clear H1
    have H' := Ya H
    clear H
    have hnb25 := NB470_471.out
    have hnc25 := NB471_470.out
    obtain ⟨hcz26_0, hcz26_1, hcz26_2, hcz26_3, hfz26_0, hfz26_1, hfz26_2, hfz26_3⟩ := Y4 BK470.out
    go_wp2
    go_loopg [41] kj2 (fun kq v41 w' => ∃ (x41_2 : Int), v41 = .int .i64 x41_2 ∧ Aside0 (spec_foSame.l0 kq l0_2 (l0_2.length : Int) x41_2 l1_0 l1_1 l1_2 l1_3 = some r) ∧ Aside0 (kq ≤ kj2) ∧ Aside0 (w'.heap[gb470]? = some (.cells #[(.slice A0_0 l0_0.length c0_0), (.slice A0_1 l0_1.length c0_1), (.slice A0_2 l0_2.length c0_2), (.slice A0_3 l0_3.length c0_3)] 33 (0, 0))) ∧ Aside0 (w'.heap[gb471]? = some (.cells #[(.slice A1_0 l1_0.length c1_0), (.slice A1_1 l1_1.length c1_1), (.slice A1_2 l1_2.length c1_2), (.slice A1_3 l1_3.length c1_3)] 33 (0, 0))) ∧ Aside0 (Below w.heap.size w w'))
    case atStart => exact ⟨(0), Q9, H', ⟨Nat.le_refl _⟩, ⟨Q42⟩, ⟨Q41⟩, ⟨Q12⟩⟩
    case round =>
     clear H'
     try clear c1
     try clear c2
     try clear p2
     try clear c6
     try clear c7
     try clear c9
     try clear c11
     try clear c12
     try clear c15
     try clear c18
     try clear c21
     try clear c24
     try clear c25
     try clear hcz13_0
     try clear hcz13_1
     try clear hcz13_2
     try clear hcz13_3
     try clear hcz14_0
     try clear hcz14_1
     try clear hcz14_2
     try clear hcz14_3
     try clear hcz16_0
     try clear hcz16_1
     try clear hcz16_2
     try clear hcz16_3
     try clear hcz17_0
     try clear hcz17_1
     try clear hcz17_2
     try clear hcz17_3
     try clear hcz19_0
     try clear hcz19_1
     try clear hcz19_2
     try clear hcz19_3
     try clear hcz20_0
     try clear hcz20_1
     try clear hcz20_2
     try clear hcz20_3
     try clear hcz22_0
     try clear hcz22_1
     try clear hcz22_2
     try clear hcz22_3
     try clear hcz23_0
     try clear hcz23_1
     try clear hcz23_2
     try clear hcz23_3
     try clear hcz26_0
     try clear hcz26_1
     try clear hcz26_2
     try clear hcz26_3
     try clear hfz13_0
     try clear hfz13_1
     try clear hfz13_2
     try clear hfz13_3
     try clear hfz14_0
     try clear hfz14_1
     try clear hfz14_2
     try clear hfz14_3
     try clear hfz16_0
     try clear hfz16_1
     try clear hfz16_2
     try clear hfz16_3
     try clear hfz17_0
     try clear hfz17_1
     try clear hfz17_2
     try clear hfz17_3
     try clear hfz19_0
     try clear hfz19_1
     try clear hfz19_2
     try clear hfz19_3
     try clear hfz20_0
     try clear hfz20_1
     try clear hfz20_2
     try clear hfz20_3
     try clear hfz22_0
     try clear hfz22_1
     try clear hfz22_2
     try clear hfz22_3
     try clear hfz23_0
     try clear hfz23_1
     try clear hfz23_2
     try clear hfz23_3
     try clear hfz26_0
     try clear hfz26_1
     try clear hfz26_2
     try clear hfz26_3
     try clear p2
     obtain ⟨x41_2, rfl, HA, HK2, BK470, BK471, HB⟩ := hrel
     cases gk with
     | zero => exact absurd HA.out (by simp [spec_foSame.l0])
     | succ k2 =>
      have H := HA.out
      clear HA
      simp only [spec_foSame.l0] at H
      by_cases c27 : x41_2 < (l0_2.length : Int)
      ·rw [if_pos c27] at H
       have c27b0 := Z39 c27
       clear c27
       by_cases c28 : 0 ≤ x41_2
       ·rw [if_pos c28] at H
        have c28b0 := Z39 c28
        clear c28
        by_cases c29 : x41_2 < (l0_2.length : Int)
        ·rw [if_pos c29] at H
         have c29b0 := Z39 c29
         clear c29
         by_cases c30 : x41_2 < (l1_2.length : Int)
         ·rw [if_pos c30] at H
          have c30b0 := Z39 c30
          clear c30
          by_cases c31 : ((rdOf false l0_2 x41_2) != (rdOf false l1_2 x41_2)) = true
          ·rw [if_pos c31] at H
           have c31b0 : ((rdOf false l0_2 x41_2) != (rdOf false l1_2 x41_2)) = true := c31
           (try (have c31b1 : decide ((rdOf false l0_2 x41_2) = (rdOf false l1_2 x41_2)) = false := by simpa using c31))
           (try (have c31b2 : ((rdOf false l0_2 x41_2) == (rdOf false l1_2 x41_2)) = false := by simpa using c31))
           (try (have c31b3 : ¬ ((rdOf false l0_2 x41_2) = (rdOf false l1_2 x41_2)) := by simpa using c31))
           clear c31
           obtain rfl := Option.some.inj H
           have p475 : 0 ≤ (x41_2 : Int) := Z31 Q2
           have q475 : x41_2 < (l0_2.length : Int) := Z31 Q2
           obtain ⟨ad475, e475, hx475_0⟩ := Kd.at_bool HR0_2.out x41_2 p475 q475
           cases e475
           try replace hx475_0 := (HB.out.cell (World.block_lt_of_cell? w _ hx475_0)).trans hx475_0
           replace p475 := eq_true p475
           replace q475 := eq_true q475
           have hnb32 := NB471_470.out
           have hnc32 := NB470_471.out
           have hz33 := Y4 BK471.out
           have p476 : 0 ≤ (x41_2 : Int) := Z31 Q2
           have q476 : x41_2 < (l1_2.length : Int) := Z31 Q2
           obtain ⟨ad476, e476, hx476_0⟩ := Kd.at_bool HR1_2.out x41_2 p476 q476
           cases e476
           try replace hx476_0 := (HB.out.cell (World.block_lt_of_cell? w _ hx476_0)).trans hx476_0
           replace p476 := eq_true p476
           replace q476 := eq_true q476
           go_wp2
           go_ret
           exact ⟨Q1, Q12⟩
          ·rw [if_neg c31] at H
           have c31b0 : ((rdOf false l0_2 x41_2) != (rdOf false l1_2 x41_2)) = false := by simpa using c31
           (try (have c31b1 : decide ((rdOf false l0_2 x41_2) = (rdOf false l1_2 x41_2)) = true := by simpa using c31))
           (try (have c31b2 : ((rdOf false l0_2 x41_2) == (rdOf false l1_2 x41_2)) = true := by simpa using c31))
           clear c31
           have H' := Ya H
           clear H
           have p475 : 0 ≤ (x41_2 : Int) := Z31 Q2
           have q475 : x41_2 < (l0_2.length : Int) := Z31 Q2
           obtain ⟨ad475, e475, hx475_0⟩ := Kd.at_bool HR0_2.out x41_2 p475 q475
           cases e475
           try replace hx475_0 := (HB.out.cell (World.block_lt_of_cell? w _ hx475_0)).trans hx475_0
           replace p475 := eq_true p475
           replace q475 := eq_true q475
           have hnb34 := NB471_470.out
           have hnc34 := NB470_471.out
           have hz35 := Y4 BK471.out
           have p476 : 0 ≤ (x41_2 : Int) := Z31 Q2
           have q476 : x41_2 < (l1_2.length : Int) := Z31 Q2
           obtain ⟨ad476, e476, hx476_0⟩ := Kd.at_bool HR1_2.out x41_2 p476 q476
           cases e476
           try replace hx476_0 := (HB.out.cell (World.block_lt_of_cell? w _ hx476_0)).trans hx476_0
           replace p476 := eq_true p476
           replace q476 := eq_true q476
           go_wp2
           go_roundg k2
           case measure => have := HJ2.out; have := HK2.out; omega
           case rel => exact ⟨(wrap64 (x41_2 + 1)), Q9, H', ⟨by have := HJ2.out; have := HK2.out; omega⟩, ⟨Q42⟩, ⟨Q41⟩, ⟨Q12⟩⟩
         ·rw [if_neg c30] at H
          exact absurd H (by simp)
        ·rw [if_neg c29] at H
         exact absurd H (by simp)
       ·rw [if_neg c28] at H
        exact absurd H (by simp)
      ·rw [if_neg c27] at H
       have c27b0 := Z38 c27
       clear c27
       obtain rfl := Option.some.inj H
       go_wp2
       go_ret
       exact ⟨Q1, Q12⟩
def spec_foGood.j0 : Nat → Bool → List Int → List Int → List Bool → List Int → Option (Bool)
 | 0, _, _, _, _, _ => none
 | k + 1, x16, x478000, x478001, x478002, x478003 => if x16 = true then (some false) else ((spec_gcMixedRank.f k x478000 x478001).bind fun t480 => ((spec_foAt.f k x478000 t480).bind fun bt481 => (if bt481.2.2.2.2 = true then ((spec_foSame.f k x478000 x478001 x478002 x478003 bt481.1 bt481.2.1 bt481.2.2.1 bt481.2.2.2.1).bind fun t495 => (some t495)) else (some false))))
def spec_foGood.f (k : Nat) (l0_0 : List Int) (l0_1 : List Int) (l0_2 : List Bool) (l0_3 : List Int) : Option (Bool) := (spec_foBases.f k l0_0).bind fun t478 => (if t478 = true then ((spec_raAreDigits.f k l0_0 l0_1).bind fun t479 => (spec_foGood.j0 k (!t479) l0_0 l0_1 l0_2 l0_3)) else (spec_foGood.j0 k true l0_0 l0_1 l0_2 l0_3))
theorem spec_foGood.mono_l : ∀ k, (∀ y0 y1 y2 y3 y4, LeO (spec_foGood.j0 k y0 y1 y2 y3 y4) (spec_foGood.j0 (k + 1) y0 y1 y2 y3 y4))
 | 0 => fun _ _ _ _ _ r h => by simp [spec_foGood.j0] at h
 | k + 1 => by
  have ih0 := spec_foGood.mono_l k
  ·intro y0 y1 y2 y3 y4
   unfold spec_foGood.j0
   repeat' first
   | (with_reducible exact ih0 _ _ _ _ _)
   | (with_reducible exact spec_foAt.mono _ _ _)
   | (with_reducible exact spec_foBases.mono _ _)
   | (with_reducible exact spec_foSame.mono _ _ _ _ _ _ _ _ _)
   | (with_reducible exact spec_gcMixedRank.mono _ _ _)
   | (with_reducible exact spec_raAreDigits.mono _ _ _)
   | (with_reducible exact LeO.refl _)
   | (with_reducible exact LeO.none _)
   | (with_reducible refine LeO.ite ?_ ?_)
   | (with_reducible refine LeO.bind ?_ (fun _ => ?_))
   | exact ih0 _ _ _ _ _
   | exact spec_foAt.mono _ _ _
   | exact spec_foBases.mono _ _
   | exact spec_foSame.mono _ _ _ _ _ _ _ _ _
   | exact spec_gcMixedRank.mono _ _ _
   | exact spec_raAreDigits.mono _ _ _
   | exact LeO.none _
   | refine LeO.ite ?_ ?_
   | refine LeO.bind ?_ (fun _ => ?_)
theorem spec_foGood.mono : ∀ a0 a1 a2 a3 k, LeO (spec_foGood.f k a0 a1 a2 a3) (spec_foGood.f (k + 1) a0 a1 a2 a3) := by
 intro a0 a1 a2 a3 k
 have ih0 := spec_foGood.mono_l k
 unfold spec_foGood.f
 repeat' first
   | (with_reducible exact ih0 _ _ _ _ _)
   | (with_reducible exact spec_foAt.mono _ _ _)
   | (with_reducible exact spec_foBases.mono _ _)
   | (with_reducible exact spec_foSame.mono _ _ _ _ _ _ _ _ _)
   | (with_reducible exact spec_gcMixedRank.mono _ _ _)
   | (with_reducible exact spec_raAreDigits.mono _ _ _)
   | (with_reducible exact LeO.refl _)
   | (with_reducible exact LeO.none _)
   | (with_reducible refine LeO.ite ?_ ?_)
   | (with_reducible refine LeO.bind ?_ (fun _ => ?_))
   | exact ih0 _ _ _ _ _
   | exact spec_foAt.mono _ _ _
   | exact spec_foBases.mono _ _
   | exact spec_foSame.mono _ _ _ _ _ _ _ _ _
   | exact spec_gcMixedRank.mono _ _ _
   | exact spec_raAreDigits.mono _ _ _
   | exact LeO.none _
   | refine LeO.ite ?_ ?_
   | refine LeO.bind ?_ (fun _ => ?_)
def spec_foGood.T3 : Bool × List (List Nat × List Nat) := (true, [([], []), ([0], [0]), ([], []), ([2], [2]), ([], []), ([4], [4]), ([3, 5], [3, 5]), ([1, 6, 6], [1, 6]), ([7], [7]), ([8], [8]), ([8], [8]), ([], []), ([11, 9, 7, 0, 1, 2, 3, 4, 5, 6, 7, 8, 9, 11], [9, 11]), ([10, 12, 0, 1, 2, 3, 4, 5, 6, 7, 8, 9, 10, 11, 12], [10])])
def spec_foGood.B3 : List Nat := [0, 1, 0, 4, 0, 16, 60, 127, 255, 511, 511, 0, 3071, 8191]
theorem spec_foGood.tab3 : rtab .any (opsOf Try.f49 3) = spec_foGood.T3 := by kernel_rfl
theorem spec_foGood.bits3 : waitsOk spec_foGood.T3.2 spec_foGood.B3 = true := by kernel_rfl
set_option maxHeartbeats 8000000 in
set_option maxRecDepth 100000 in
theorem spec_foGood.calls (k : Nat) (A0_0 : Option Addr) (c0_0 : Nat) (l0_0 : List Int) (A0_1 : Option Addr) (c0_1 : Nat) (l0_1 : List Int) (A0_2 : Option Addr) (c0_2 : Nat) (l0_2 : List Bool) (A0_3 : Option Addr) (c0_3 : Nat) (l0_3 : List Int) (r : Bool) (w : World) (hr0_0 : Kd.C (Kd.int .i64) w A0_0 l0_0.length l0_0) (hc0_0 : l0_0.length ≤ c0_0) (hr0_1 : Kd.C (Kd.int .i64) w A0_1 l0_1.length l0_1) (hc0_1 : l0_1.length ≤ c0_1) (hr0_2 : Kd.C Kd.bool w A0_2 l0_2.length l0_2) (hc0_2 : l0_2.length ≤ c0_2) (hr0_3 : Kd.C (Kd.int .i64) w A0_3 l0_3.length l0_3) (hc0_3 : l0_3.length ≤ c0_3) (h : spec_foGood.f k l0_0 l0_1 l0_2 l0_3 = some r) :
  Calls Try.prog 49 #[.agg #[.slice A0_0 l0_0.length c0_0, .slice A0_1 l0_1.length c0_1, .slice A0_2 l0_2.length c0_2, .slice A0_3 l0_3.length c0_3]] w fun e w' => e = .returned (.bool r) ∧ Below w.heap.size w w' := by
 have hu33 := Try.underlying33
 have HR0_0 := Ya hr0_0
 have HC0_0 := Ya hc0_0
 clear hr0_0 hc0_0
 have HR0_1 := Ya hr0_1
 have HC0_1 := Ya hc0_1
 clear hr0_1 hc0_1
 have HR0_2 := Ya hr0_2
 have HC0_2 := Ya hc0_2
 clear hr0_2 hc0_2
 have HR0_3 := Ya hr0_3
 have HC0_3 := Ya hc0_3
 clear hr0_3 hc0_3
 have HB := Ya (Below.refl w.heap.size w)
 have H : ((spec_foBases.f k l0_0).bind fun t478 => (if t478 = true then ((spec_raAreDigits.f k l0_0 l0_1).bind fun t479 => (spec_foGood.j0 k (!t479) l0_0 l0_1 l0_2 l0_3)) else (spec_foGood.j0 k true l0_0 l0_1 l0_2 l0_3))) = some r := h
 clear h
 have HC2 := Ya H
 clear H
 go_enter Try.func49, Try.ntmps49
 go_upto_region 1 with (first | ((with_reducible refine gate_dst (N := 1) rfl ?_); refine Yx 1 #[.slice A0_0 l0_0.length c0_0, .slice A0_1 l0_1.length c0_1, .slice A0_2 l0_2.length c0_2, .slice A0_3 l0_3.length c0_3] 33 ?_; intro gb477 hg w3 hbox hb; have BK477 := Ya hbox; have GW477 := Yg hg; have GE477 := GW477; replace HB := Yh hb; clear hb hbox hg))
 (try simp only [Act.put, Z0, Z1, Z2])
 go_cut [16] (fun v16 wc => ∃ (kq : Nat) (x16_1 : Bool), v16 = .bool x16_1 ∧ Aside0 (spec_foGood.j0 kq x16_1 l0_0 l0_1 l0_2 l0_3 = some r) ∧ Aside0 (kq ≤ k) ∧ Aside0 (wc.heap[gb477]? = some (.cells #[(.slice A0_0 l0_0.length c0_0), (.slice A0_1 l0_1.length c0_1), (.slice A0_2 l0_2.length c0_2), (.slice A0_3 l0_3.length c0_3)] 33 (0, 0))) ∧ Aside0 (Below w.heap.size w wc))
 case first =>
  have H := HC2.out
  clear HC2
  replace H := Z37.mp H
  obtain ⟨t478, A40, H⟩ := H
  replace H : (if t478 = true then ((spec_raAreDigits.f k l0_0 l0_1).bind fun t479 => (spec_foGood.j0 k (!t479) l0_0 l0_1 l0_2 l0_3)) else (spec_foGood.j0 k true l0_0 l0_1 l0_2 l0_3)) = some r := H
  have A4 := Ya A40
  clear A40
  by_cases c5 : t478 = true
  ·subst c5
   have H1 : ((spec_raAreDigits.f k l0_0 l0_1).bind fun t479 => (spec_foGood.j0 k (!t479) l0_0 l0_1 l0_2 l0_3)) = some r := by rw [if_pos rfl] at H; exact H
   clear H
   have H := H1
   clear H1
   replace H := Z37.mp H
   obtain ⟨t479, A60, H⟩ := H
   replace H : (spec_foGood.j0 k (!t479) l0_0 l0_1 l0_2 l0_3) = some r := H
   have A6 := Ya A60
   clear A60
   have H' := Ya H
   clear H
   obtain ⟨hcz7_0, hcz7_1, hcz7_2, hcz7_3, hfz7_0, hfz7_1, hfz7_2, hfz7_3⟩ := Y4 BK477.out
   go_wp2_with (first | ((with_reducible refine gate_callee (f := 32) rfl ?_); refine Yz 7 Try.func32 #[.slice A0_0 l0_0.length c0_0] ?_; (with_reducible refine (spec_foBases.calls k _ _ l0_0 true _ (Yc (Z23 HR0_0.out HB.out)) HC0_0.out A4.out).mono ?_); rintro e w' ⟨rfl, ⟨nd, rfl⟩⟩; refine ⟨_, rfl, ?_⟩) | (go_at_call 63; (with_reducible refine (spec_raAreDigits.calls k _ _ l0_0 _ _ l0_1 t479 _ ?side1 HC0_0.out ?side3 HC0_1.out A6.out).mono ?_); (case side1 => exact Yc (Z23 HR0_0.out Q0)); (case side3 => exact Yc (Z23 HR0_1.out Q0)); rintro e w' ⟨rfl, ⟨nd, rfl⟩⟩))
   go_meet
   case rel => exact ⟨_, (!t479), Q9, H', ⟨Q46⟩, ⟨by (with_reducible repeat (first | refine Z26 ?_ _ | refine Z27 ?_ | refine Z28 ?_ _)); exact BK477.out⟩, ⟨Q12⟩⟩
  ·replace c5 := Bool.eq_false_iff.mpr c5
   subst c5
   have H1 : (spec_foGood.j0 k true l0_0 l0_1 l0_2 l0_3) = some r := by rw [if_neg (show ¬ (false = true) by decide)] at H; exact H
   clear H
   have H := H1
   clear H1
   have H' := Ya H
   clear H
   obtain ⟨hcz8_0, hcz8_1, hcz8_2, hcz8_3, hfz8_0, hfz8_1, hfz8_2, hfz8_3⟩ := Y4 BK477.out
   go_wp2_with (first | ((with_reducible refine gate_callee (f := 32) rfl ?_); refine Yz 7 Try.func32 #[.slice A0_0 l0_0.length c0_0] ?_; (with_reducible refine (spec_foBases.calls k _ _ l0_0 false _ (Yc (Z23 HR0_0.out HB.out)) HC0_0.out A4.out).mono ?_); rintro e w' ⟨rfl, ⟨nd, rfl⟩⟩; refine ⟨_, rfl, ?_⟩))
   go_meet
   case rel => exact ⟨_, (true), Q9, H', ⟨Q46⟩, ⟨by (with_reducible repeat (first | refine Z26 ?_ _ | refine Z27 ?_ | refine Z28 ?_ _)); exact BK477.out⟩, ⟨Q12⟩⟩
 case rest =>
  clear HC2
  try clear p2
  try clear c3
  try clear c4
  try clear c5
  try clear hcz7_0
  try clear hcz7_1
  try clear hcz7_2
  try clear hcz7_3
  try clear hcz8_0
  try clear hcz8_1
  try clear hcz8_2
  try clear hcz8_3
  try clear hfz7_0
  try clear hfz7_1
  try clear hfz7_2
  try clear hfz7_3
  try clear hfz8_0
  try clear hfz8_1
  try clear hfz8_2
  try clear hfz8_3
  obtain ⟨kq, x16_1, rfl, HA, HJ1, BK477, HB⟩ := hcut
  cases kq with
  | zero => exact absurd HA.out (by simp [spec_foGood.j0])
  | succ kj1 =>
   have H := HA.out
   clear HA
   simp only [spec_foGood.j0] at H
   by_cases c9 : x16_1 = true
   ·subst c9
    have H1 : (some false) = some r := by rw [if_pos rfl] at H; exact H
    clear H
    have H := H1
    clear H1
    obtain rfl := Option.some.inj H
    go_wp2
    go_ret
    exact ⟨Q1, Q12⟩
   ·replace c9 := Bool.eq_false_iff.mpr c9
    subst c9
    have H1 : ((spec_gcMixedRank.f kj1 l0_0 l0_1).bind fun t480 => ((spec_foAt.f kj1 l0_0 t480).bind fun bt481 => (if bt481.2.2.2.2 = true then ((spec_foSame.f kj1 l0_0 l0_1 l0_2 l0_3 bt481.1 bt481.2.1 bt481.2.2.1 bt481.2.2.2.1).bind fun t495 => (some t495)) else (some false)))) = some r := by rw [if_neg (show ¬ (false = true) by decide)] at H; exact H
    clear H
    have H := H1
    clear H1
    replace H := Z37.mp H
    obtain ⟨t480, A100, H⟩ := H
    replace H : ((spec_foAt.f kj1 l0_0 t480).bind fun bt481 => (if bt481.2.2.2.2 = true then ((spec_foSame.f kj1 l0_0 l0_1 l0_2 l0_3 bt481.1 bt481.2.1 bt481.2.2.1 bt481.2.2.2.1).bind fun t495 => (some t495)) else (some false))) = some r := H
    have A10 := Ya A100
    clear A100
    replace H := Z37.mp H
    obtain ⟨⟨t481, t484, t487, t490, t493⟩, A110, H⟩ := H
    replace H : (if t493 = true then ((spec_foSame.f kj1 l0_0 l0_1 l0_2 l0_3 t481 t484 t487 t490).bind fun t495 => (some t495)) else (some false)) = some r := H
    have A11 := Ya A110
    clear A110
    by_cases c12 : t493 = true
    ·subst c12
     have H1 : ((spec_foSame.f kj1 l0_0 l0_1 l0_2 l0_3 t481 t484 t487 t490).bind fun t495 => (some t495)) = some r := by rw [if_pos rfl] at H; exact H
     clear H
     have H := H1
     clear H1
     replace H := Z37.mp H
     obtain ⟨t495, A130, H⟩ := H
     replace H : (some t495) = some r := H
     have A13 := Ya A130
     clear A130
     obtain rfl := Option.some.inj H
     try go_wp2
     replace BK477 := Ya (Z27 BK477.out)
     replace HB := Ya (Z4 HB.out)
     refine start_ (n := 14) (S := fun w' => w'.cell? ⟨gb477, 0, none⟩ = some (.slice A0_0 l0_0.length c0_0) ∧ w'.cell? ⟨gb477, 1, none⟩ = some (.slice A0_1 l0_1.length c0_1) ∧ w'.cell? ⟨gb477, 2, none⟩ = some (.slice A0_2 l0_2.length c0_2) ∧ w'.cell? ⟨gb477, 3, none⟩ = some (.slice A0_3 l0_3.length c0_3)) (ds := []) (YA 14 0) (by kernel_rfl) rfl rfl (Yz4 BK477.out) (fun hHeld => ?_); refine with_tabW spec_foGood.tab3 spec_foGood.bits3 (fun HT_ HW_ => ?_)
     generalize wc.drew = w14 at BK477 HB hHeld ⊢
     refine Yp 0 (some 18) (YA 14 1) rfl HT_.out ?_
     refine Yp 2 (some 20) (YA 14 5) rfl HT_.out ?_
     refine Yp 4 (some 22) (YA 14 21) rfl HT_.out ?_
     refine Yt 1 (some 19) (YA 14 23) rfl HT_.out HW_.out hHeld Q8 ?_
     refine Yt 3 (some 21) (YA 14 31) rfl HT_.out HW_.out hHeld Q8 ?_
     refine Yt 5 (some 23) (YA 14 63) rfl HT_.out HW_.out hHeld Q8 ?_
     refine join_ (σ := Value × Value × Value × Value × Nat) 2 (YA 14 4095) (fun s_ => [(24, .int .i64 t480), (25, .tuple #[.agg #[s_.1, s_.2.1, s_.2.2.1, s_.2.2.2.1], .bool true]), (3, .pointer (some ⟨s_.2.2.2.2, 0, none⟩)), (17, .tuple #[.agg #[s_.1, s_.2.1, s_.2.2.1, s_.2.2.2.1], .bool true]), (26, .agg #[s_.1, s_.2.1, s_.2.2.1, s_.2.2.2.1]), (27, .bool true)]) (fun s_ w' => (w'.cell? ⟨gb477, 0, none⟩ = some (.slice A0_0 l0_0.length c0_0) ∧ w'.cell? ⟨gb477, 1, none⟩ = some (.slice A0_1 l0_1.length c0_1) ∧ w'.cell? ⟨gb477, 2, none⟩ = some (.slice A0_2 l0_2.length c0_2) ∧ w'.cell? ⟨gb477, 3, none⟩ = some (.slice A0_3 l0_3.length c0_3)) ∧ (Kd.R (Kd.int .i64) 3 w' w.heap.size (fun k_ => some k_ ≠ (s_.2.1 : Value).ownBlock ∧ some k_ ≠ (s_.2.2.2.1 : Value).ownBlock) s_.1 t481) ∧ (Kd.R (Kd.int .i64) 3 w' w.heap.size (fun k_ => some k_ ≠ (s_.1 : Value).ownBlock ∧ some k_ ≠ (s_.2.2.2.1 : Value).ownBlock) s_.2.1 t484) ∧ (Kd.R Kd.bool 4 w' w.heap.size (fun _ => True) s_.2.2.1 t487) ∧ (Kd.R (Kd.int .i64) 3 w' w.heap.size (fun k_ => some k_ ≠ (s_.1 : Value).ownBlock ∧ some k_ ≠ (s_.2.1 : Value).ownBlock) s_.2.2.2.1 t490) ∧ (w'.heap[gb477]? = some (.cells #[.slice A0_0 l0_0.length c0_0, .slice A0_1 l0_1.length c0_1, .slice A0_2 l0_2.length c0_2, .slice A0_3 l0_3.length c0_3] 33 (0, 0))) ∧ (w'.heap[s_.2.2.2.2]? = some (.cells YN4 33 (0, 0))) ∧ (w.heap.size ≤ s_.2.2.2.2) ∧ (w.heap.size ≤ s_.2.2.2.2) ∧ (gb477 ≠ s_.2.2.2.2) ∧ (s_.2.2.2.2 ≠ gb477) ∧ (Below w.heap.size w w')) ?_ ?_
     rotate_left
     ·intro hCont
      refine two_ (i := 6) (j := 11) (Ni := some 24) (Nj := some 3) (YA 14 127) (YA 14 2111) rfl rfl rfl rfl (two_of HT_.out (by kernel_rfl)) (by decide) (by decide) (fun K hK => ?_) (fun K hK => ?_)
      ·skip
       refine goes_ Try.func64 (by kernel_rfl) rfl #[.slice A0_0 l0_0.length c0_0, .slice A0_1 l0_1.length c0_1] (by rfl) rfl rfl Q5 ?_
       with_reducible refine (spec_gcMixedRank.calls kj1 _ _ l0_0 _ _ l0_1 t480 _ ?side1 ?side2 ?side3 ?side4 A10.out).mono ?_
       (case side1 => exact Yc (Z23 HR0_0.out HB.out))
       (case side2 => exact HC0_0.out)
       (case side3 => exact Yc (Z23 HR0_1.out HB.out))
       (case side4 => exact HC0_1.out)
       rintro e w15 ⟨rfl, hb⟩
       refine ⟨_, rfl, ?_⟩
       replace BK477 := Yb BK477 hb
       replace HB := Yh hb
       (try clear hb)
       refine hK.out _ _ (Yz4 BK477.out) (fun hHeld => ?_)
       clear hK K
       refine norm_ (a' := ?_) ?_ ?_
       rotate_left
       ·show Act.put _ (some 24) _ = _
        simp only [Act.put, Z0, Z1, Z2, i64_w, i32_w]
        rfl
       refine two_ (i := 7) (j := 11) (Ni := some 25) (Nj := some 3) (YA 14 255) (YA 14 2175) rfl rfl rfl rfl (two_of HT_.out (by kernel_rfl)) (by decide) (by decide) (fun K hK => ?_) (fun K hK => ?_)
       ·skip
        refine goes_ Try.func43 (by kernel_rfl) rfl #[.slice A0_0 l0_0.length c0_0, .int .i64 t480] (by rfl) rfl rfl Q5 ?_
        with_reducible refine (spec_foAt.calls kj1 _ _ l0_0 t480 t481 t484 t487 t490 true _ ?side1 ?side2 A11.out).mono ?_
        (case side1 => exact Yc (Z23 HR0_0.out HB.out))
        (case side2 => exact HC0_0.out)
        rintro e w16 ⟨v482, v485, v488, v491, rfl, ho0, ho1, ho2, ho3, hb⟩
        refine ⟨_, rfl, ?_⟩
        have HO483 := Yl ho0
        have HO486 := Yl ho1
        have HO489 := Yl ho2
        have HO492 := Yl ho3
        replace BK477 := Yb BK477 hb
        replace HB := Yh hb
        (try clear hb ho0 ho1 ho2 ho3)
        refine hK.out _ _ (Yz4 BK477.out) (fun hHeld => ?_)
        clear hK K
        refine norm_ (a' := ?_) ?_ ?_
        rotate_left
        ·show Act.put _ (some 25) _ = _
         simp only [Act.put, Z0, Z1, Z2, i64_w, i32_w]
         rfl
        refine Yp 8 (some 17) (YA 14 511) rfl HT_.out ?_
        refine Yp 9 (some 26) (YA 14 1023) rfl HT_.out ?_
        refine Yp 10 (some 27) (YA 14 2047) rfl HT_.out ?_
        refine one_ (i := 11) (N := some 3) (YA 14 4095) rfl rfl (one_of HT_.out (by kernel_rfl)) (by decide) (fun K hK => ?_)
        refine Yy 3 YN4 33 ?_
        intro gb494 hg w17 hbox hb
        replace HO483 := Yw HO483 hb
        replace HO486 := Yw HO486 hb
        replace HO489 := Yw HO489 hb
        replace HO492 := Yw HO492 hb
        have BK494 := Ya hbox
        have GW494 := Yg hg
        have GE494 := GW494
        replace HB := Yh hb
        have NB477_494 := Yn BK477 hg
        have NB494_477 := Ym BK477 hg
        replace BK477 := Yb BK477 hb
        clear hb hbox hg
        refine hK.out _ _ (Yz4 BK477.out) (fun hHeld => ?_)
        clear hK K
        refine norm_ (a' := ?_) ?_ ?_
        rotate_left
        ·show Act.put _ (some 3) _ = _
         simp only [Act.put, Z0, Z1, Z2, i64_w, i32_w]
         rfl
        exact norm_ Q36 (hCont (v482, v485, v488, v491, gb494) _ ⟨hHeld, (Yr HO483.out), (Yr HO486.out), (Yr HO489.out), (Yr HO492.out), (Yk BK477.out), (Yk BK494.out), GW494.out, GE494.out, NB477_494.out, NB494_477.out, Q0⟩)
       ·skip
        refine Yy 3 YN4 33 ?_
        intro gb494 hg w16 hbox hb
        have BK494 := Ya hbox
        have GW494 := Yg hg
        have GE494 := GW494
        replace HB := Yh hb
        have NB477_494 := Yn BK477 hg
        have NB494_477 := Ym BK477 hg
        replace BK477 := Yb BK477 hb
        clear hb hbox hg
        refine hK.out _ _ (Yz4 BK477.out) (fun hHeld => ?_)
        clear hK K
        refine norm_ (a' := ?_) ?_ ?_
        rotate_left
        ·show Act.put _ (some 3) _ = _
         simp only [Act.put, Z0, Z1, Z2, i64_w, i32_w]
         rfl
        refine one_ (i := 7) (N := some 25) (YA 14 2303) rfl rfl (one_of HT_.out (by kernel_rfl)) (by decide) (fun K hK => ?_)
        refine goes_ Try.func43 (by kernel_rfl) rfl #[.slice A0_0 l0_0.length c0_0, .int .i64 t480] (by rfl) rfl rfl Q5 ?_
        with_reducible refine (spec_foAt.calls kj1 _ _ l0_0 t480 t481 t484 t487 t490 true _ ?side1 ?side2 A11.out).mono ?_
        (case side1 => exact Yc (Z23 HR0_0.out HB.out))
        (case side2 => exact HC0_0.out)
        rintro e w17 ⟨v482, v485, v488, v491, rfl, ho0, ho1, ho2, ho3, hb⟩
        refine ⟨_, rfl, ?_⟩
        have HO483 := Yl ho0
        have HO486 := Yl ho1
        have HO489 := Yl ho2
        have HO492 := Yl ho3
        replace BK477 := Yb BK477 hb
        replace BK494 := Yb BK494 hb
        replace HB := Yh hb
        (try clear hb ho0 ho1 ho2 ho3)
        refine hK.out _ _ (Yz4 BK477.out) (fun hHeld => ?_)
        clear hK K
        refine norm_ (a' := ?_) ?_ ?_
        rotate_left
        ·show Act.put _ (some 25) _ = _
         simp only [Act.put, Z0, Z1, Z2, i64_w, i32_w]
         rfl
        refine Yp 8 (some 17) (YA 14 2559) rfl HT_.out ?_
        refine Yp 9 (some 26) (YA 14 3071) rfl HT_.out ?_
        refine Yp 10 (some 27) (YA 14 4095) rfl HT_.out ?_
        exact norm_ Q36 (hCont (v482, v485, v488, v491, gb494) _ ⟨hHeld, (Yr HO483.out), (Yr HO486.out), (Yr HO489.out), (Yr HO492.out), (Yk BK477.out), (Yk BK494.out), GW494.out, GE494.out, NB477_494.out, NB494_477.out, Q0⟩)
      ·skip
       refine Yy 3 YN4 33 ?_
       intro gb494 hg w15 hbox hb
       have BK494 := Ya hbox
       have GW494 := Yg hg
       have GE494 := GW494
       replace HB := Yh hb
       have NB477_494 := Yn BK477 hg
       have NB494_477 := Ym BK477 hg
       replace BK477 := Yb BK477 hb
       clear hb hbox hg
       refine hK.out _ _ (Yz4 BK477.out) (fun hHeld => ?_)
       clear hK K
       refine norm_ (a' := ?_) ?_ ?_
       rotate_left
       ·show Act.put _ (some 3) _ = _
        simp only [Act.put, Z0, Z1, Z2, i64_w, i32_w]
        rfl
       refine one_ (i := 6) (N := some 24) (YA 14 2175) rfl rfl (one_of HT_.out (by kernel_rfl)) (by decide) (fun K hK => ?_)
       refine goes_ Try.func64 (by kernel_rfl) rfl #[.slice A0_0 l0_0.length c0_0, .slice A0_1 l0_1.length c0_1] (by rfl) rfl rfl Q5 ?_
       with_reducible refine (spec_gcMixedRank.calls kj1 _ _ l0_0 _ _ l0_1 t480 _ ?side1 ?side2 ?side3 ?side4 A10.out).mono ?_
       (case side1 => exact Yc (Z23 HR0_0.out HB.out))
       (case side2 => exact HC0_0.out)
       (case side3 => exact Yc (Z23 HR0_1.out HB.out))
       (case side4 => exact HC0_1.out)
       rintro e w16 ⟨rfl, hb⟩
       refine ⟨_, rfl, ?_⟩
       replace BK477 := Yb BK477 hb
       replace BK494 := Yb BK494 hb
       replace HB := Yh hb
       (try clear hb)
       refine hK.out _ _ (Yz4 BK477.out) (fun hHeld => ?_)
       clear hK K
       refine norm_ (a' := ?_) ?_ ?_
       rotate_left
       ·show Act.put _ (some 24) _ = _
        simp only [Act.put, Z0, Z1, Z2, i64_w, i32_w]
        rfl
       refine one_ (i := 7) (N := some 25) (YA 14 2303) rfl rfl (one_of HT_.out (by kernel_rfl)) (by decide) (fun K hK => ?_)
       refine goes_ Try.func43 (by kernel_rfl) rfl #[.slice A0_0 l0_0.length c0_0, .int .i64 t480] (by rfl) rfl rfl Q5 ?_
       with_reducible refine (spec_foAt.calls kj1 _ _ l0_0 t480 t481 t484 t487 t490 true _ ?side1 ?side2 A11.out).mono ?_
       (case side1 => exact Yc (Z23 HR0_0.out HB.out))
       (case side2 => exact HC0_0.out)
       rintro e w17 ⟨v482, v485, v488, v491, rfl, ho0, ho1, ho2, ho3, hb⟩
       refine ⟨_, rfl, ?_⟩
       have HO483 := Yl ho0
       have HO486 := Yl ho1
       have HO489 := Yl ho2
       have HO492 := Yl ho3
       replace BK477 := Yb BK477 hb
       replace BK494 := Yb BK494 hb
       replace HB := Yh hb
       (try clear hb ho0 ho1 ho2 ho3)
       refine hK.out _ _ (Yz4 BK477.out) (fun hHeld => ?_)
       clear hK K
       refine norm_ (a' := ?_) ?_ ?_
       rotate_left
       ·show Act.put _ (some 25) _ = _
        simp only [Act.put, Z0, Z1, Z2, i64_w, i32_w]
        rfl
       refine Yp 8 (some 17) (YA 14 2559) rfl HT_.out ?_
       refine Yp 9 (some 26) (YA 14 3071) rfl HT_.out ?_
       refine Yp 10 (some 27) (YA 14 4095) rfl HT_.out ?_
       exact norm_ Q36 (hCont (v482, v485, v488, v491, gb494) _ ⟨hHeld, (Yr HO483.out), (Yr HO486.out), (Yr HO489.out), (Yr HO492.out), (Yk BK477.out), (Yk BK494.out), GW494.out, GE494.out, NB477_494.out, NB494_477.out, Q0⟩)
     rintro ⟨v482, v485, v488, v491, gb494⟩ w18 ⟨hS_, h0_, h1_, h2_, h3_, h4_, h5_, h6_, h7_, h8_, h9_, h10_⟩
     have HO483 : Aside0 (Kd.R (Kd.int .i64) 3 w18 w.heap.size (fun k_ => some k_ ≠ (v485 : Value).ownBlock ∧ some k_ ≠ (v491 : Value).ownBlock) v482 t481) := ⟨h0_⟩
     have HO486 : Aside0 (Kd.R (Kd.int .i64) 3 w18 w.heap.size (fun k_ => some k_ ≠ (v482 : Value).ownBlock ∧ some k_ ≠ (v491 : Value).ownBlock) v485 t484) := ⟨h1_⟩
     have HO489 : Aside0 (Kd.R Kd.bool 4 w18 w.heap.size (fun _ => True) v488 t487) := ⟨h2_⟩
     have HO492 : Aside0 (Kd.R (Kd.int .i64) 3 w18 w.heap.size (fun k_ => some k_ ≠ (v482 : Value).ownBlock ∧ some k_ ≠ (v485 : Value).ownBlock) v491 t490) := ⟨h3_⟩
     replace BK477 : Aside0 (w18.heap[gb477]? = some (.cells #[.slice A0_0 l0_0.length c0_0, .slice A0_1 l0_1.length c0_1, .slice A0_2 l0_2.length c0_2, .slice A0_3 l0_3.length c0_3] 33 (0, 0))) := ⟨h4_⟩
     have BK494 : Aside0 (w18.heap[gb494]? = some (.cells YN4 33 (0, 0))) := ⟨h5_⟩
     have GW494 : Aside0 (w.heap.size ≤ gb494) := ⟨h6_⟩
     have GE494 : Aside0 (w.heap.size ≤ gb494) := ⟨h7_⟩
     have NB477_494 : Aside0 (gb477 ≠ gb494) := ⟨h8_⟩
     have NB494_477 : Aside0 (gb494 ≠ gb477) := ⟨h9_⟩
     replace HB : Aside0 (Below w.heap.size w w18) := ⟨h10_⟩
     clear h0_ h1_ h2_ h3_ h4_ h5_ h6_ h7_ h8_ h9_ h10_
     have hHeld : w18.cell? ⟨gb477, 0, none⟩ = some (.slice A0_0 l0_0.length c0_0) ∧ w18.cell? ⟨gb477, 1, none⟩ = some (.slice A0_1 l0_1.length c0_1) ∧ w18.cell? ⟨gb477, 2, none⟩ = some (.slice A0_2 l0_2.length c0_2) ∧ w18.cell? ⟨gb477, 3, none⟩ = some (.slice A0_3 l0_3.length c0_3) := hS_
     obtain ⟨Ao19, co19, eo19⟩ := Z19 HO483.out
     (first | subst eo19 | (injection eo19 with f1_ f2_ f3_; have f4_ := f1_.symm; have f5_ := f3_.symm; clear f1_ f2_ f3_; subst f4_; subst f5_))
     obtain ⟨Ao21, co21, eo21⟩ := Z19 HO486.out
     (first | subst eo21 | (injection eo21 with f1_ f2_ f3_; have f4_ := f1_.symm; have f5_ := f3_.symm; clear f1_ f2_ f3_; subst f4_; subst f5_))
     obtain ⟨Ao23, co23, eo23⟩ := Z19 HO489.out
     (first | subst eo23 | (injection eo23 with f1_ f2_ f3_; have f4_ := f1_.symm; have f5_ := f3_.symm; clear f1_ f2_ f3_; subst f4_; subst f5_))
     obtain ⟨Ao25, co25, eo25⟩ := Z19 HO492.out
     (first | subst eo25 | (injection eo25 with f1_ f2_ f3_; have f4_ := f1_.symm; have f5_ := f3_.symm; clear f1_ f2_ f3_; subst f4_; subst f5_))
     refine norm_ (a' := ?_) ?_ ?_
     rotate_left
     ·simp only [putAll, Act.put, Z0, Z1, Z2]
      rfl
     refine one_ (i := 12) (N := none) (YA 14 8191) rfl rfl (one_of HT_.out (by kernel_rfl)) (by decide) (fun K hK => ?_)
     have hs20 : w18.cell? ⟨gb494, 0, none⟩ = some (.slice none 0 0) := (Z24 BK494.out 0).trans rfl
     have hfs20 := Z25 BK494.out 0
     have hns20_0 := NB477_494.out
     have hms20_0 := NB494_477.out
     have hs22 : w18.cell? ⟨gb494, 1, none⟩ = some (.slice none 0 0) := (Z24 BK494.out 1).trans rfl
     have hfs22 := Z25 BK494.out 1
     have hns22_0 := NB477_494.out
     have hms22_0 := NB494_477.out
     have hs24 : w18.cell? ⟨gb494, 2, none⟩ = some (.slice none 0 0) := (Z24 BK494.out 2).trans rfl
     have hfs24 := Z25 BK494.out 2
     have hns24_0 := NB477_494.out
     have hms24_0 := NB494_477.out
     have hs26 : w18.cell? ⟨gb494, 3, none⟩ = some (.slice none 0 0) := (Z24 BK494.out 3).trans rfl
     have hfs26 := Z25 BK494.out 3
     have hns26_0 := NB477_494.out
     have hms26_0 := NB494_477.out
     refine skip_ (w1 := ?_) (by rfl) rfl ?_ ?_
     rotate_left
     ·go_simp
      rfl
     refine hK.out _ _ ⟨((cell_far (p := ⟨gb494, _, none⟩) NB477_494.out _).trans (((cell_far (p := ⟨gb494, _, none⟩) NB477_494.out _).trans (((cell_far (p := ⟨gb494, _, none⟩) NB477_494.out _).trans (((cell_far (p := ⟨gb494, _, none⟩) NB477_494.out _).trans (hHeld.1)))))))), ((cell_far (p := ⟨gb494, _, none⟩) NB477_494.out _).trans (((cell_far (p := ⟨gb494, _, none⟩) NB477_494.out _).trans (((cell_far (p := ⟨gb494, _, none⟩) NB477_494.out _).trans (((cell_far (p := ⟨gb494, _, none⟩) NB477_494.out _).trans (hHeld.2.1)))))))), ((cell_far (p := ⟨gb494, _, none⟩) NB477_494.out _).trans (((cell_far (p := ⟨gb494, _, none⟩) NB477_494.out _).trans (((cell_far (p := ⟨gb494, _, none⟩) NB477_494.out _).trans (((cell_far (p := ⟨gb494, _, none⟩) NB477_494.out _).trans (hHeld.2.2.1)))))))), ((cell_far (p := ⟨gb494, _, none⟩) NB477_494.out _).trans (((cell_far (p := ⟨gb494, _, none⟩) NB477_494.out _).trans (((cell_far (p := ⟨gb494, _, none⟩) NB477_494.out _).trans (((cell_far (p := ⟨gb494, _, none⟩) NB477_494.out _).trans (hHeld.2.2.2))))))))⟩ (fun hHeld => ?_)
     clear hK K
     refine Yp 13 (some 4) (YA 14 16383) rfl HT_.out ?_
     refine done_ (done_of HT_.out (by kernel_rfl)) ?_
     have hnb27 := NB477_494.out
     have hnc27 := NB494_477.out
     have hz28 := Y4 BK477.out
     have hz29 := Y4 BK494.out
     try go_wp2_with (first | (go_at_call 65; (with_reducible refine (spec_foSame.calls kj1 _ _ l0_0 _ _ l0_1 _ _ l0_2 _ _ l0_3 _ _ t481 _ _ t484 _ _ t487 _ _ t490 t495 _ ?side1 HC0_0.out ?side3 HC0_1.out ?side5 HC0_2.out ?side7 HC0_3.out ?side9 ((Kd.R_reads' HO483.out).2.1) ?side11 ((Kd.R_reads' HO486.out).2.1) ?side13 ((Kd.R_reads' HO489.out).2.1) ?side15 ((Kd.R_reads' HO492.out).2.1) A13.out).mono ?_); (case side1 => exact Z23 HR0_0.out Q0); (case side3 => exact Z23 HR0_1.out Q0); (case side5 => exact Z23 HR0_2.out Q0); (case side7 => exact Z23 HR0_3.out Q0); (case side9 => refine (Kd.R_reads' (e := 3) (base := w.heap.size) (ok := fun k_ => (some k_ ≠ (.slice Ao21 t484.length co21 : Value).ownBlock ∧ some k_ ≠ (.slice Ao25 t490.length co25 : Value).ownBlock)) (n := t481.length) (c := co19) ?_).2.2; exact (Yj (Yf4 HO483.out BK494.out) (fun _ h_ => h_.1))); (case side11 => refine (Kd.R_reads' (e := 3) (base := w.heap.size) (ok := fun k_ => (some k_ ≠ (.slice Ao19 t481.length co19 : Value).ownBlock ∧ some k_ ≠ (.slice Ao25 t490.length co25 : Value).ownBlock)) (n := t484.length) (c := co21) ?_).2.2; exact (Yj (Yf4 HO486.out BK494.out) (fun _ h_ => h_.1))); (case side13 => refine (Kd.R_reads' (e := 4) (base := w.heap.size) (ok := fun k_ => True) (n := t487.length) (c := co23) ?_).2.2; exact (Yj (Yf4 HO489.out BK494.out) (fun _ h_ => h_.1))); (case side15 => refine (Kd.R_reads' (e := 3) (base := w.heap.size) (ok := fun k_ => (some k_ ≠ (.slice Ao19 t481.length co19 : Value).ownBlock ∧ some k_ ≠ (.slice Ao21 t484.length co21 : Value).ownBlock)) (n := t490.length) (c := co25) ?_).2.2; exact (Yj (Yf4 HO492.out BK494.out) (fun _ h_ => h_.1))); rintro e w30 ⟨rfl, hb⟩; replace HO483 := Ya (Z14 (Yj (Yf4 HO483.out BK494.out) (fun _ h_ => h_.1)) hb); replace HO486 := Ya (Z14 (Yj (Yf4 HO486.out BK494.out) (fun _ h_ => h_.1)) hb); replace HO489 := Ya (Z14 (Yj (Yf4 HO489.out BK494.out) (fun _ h_ => h_.1)) hb); replace HO492 := Ya (Z14 (Yj (Yf4 HO492.out BK494.out) (fun _ h_ => h_.1)) hb); replace BK477 := Yb ⟨Yo4 BK477.out NB477_494.out⟩ hb; replace BK494 := Yb ⟨Yv4 BK494.out⟩ hb; replace HB := Yh hb; (try clear hb)))
     go_ret
     exact ⟨Q1, Q12⟩
    ·replace c12 := Bool.eq_false_iff.mpr c12
     subst c12
     have H1 : (some false) = some r := by rw [if_neg (show ¬ (false = true) by decide)] at H; exact H
     clear H
     have H := H1
     clear H1
     obtain rfl := Option.some.inj H
     try go_wp2
     replace BK477 := Ya (Z27 BK477.out)
     replace HB := Ya (Z4 HB.out)
     refine start_ (n := 14) (S := fun w' => w'.cell? ⟨gb477, 0, none⟩ = some (.slice A0_0 l0_0.length c0_0) ∧ w'.cell? ⟨gb477, 1, none⟩ = some (.slice A0_1 l0_1.length c0_1) ∧ w'.cell? ⟨gb477, 2, none⟩ = some (.slice A0_2 l0_2.length c0_2) ∧ w'.cell? ⟨gb477, 3, none⟩ = some (.slice A0_3 l0_3.length c0_3)) (ds := []) (YA 14 0) (by kernel_rfl) rfl rfl (Yz4 BK477.out) (fun hHeld => ?_); refine with_tabW spec_foGood.tab3 spec_foGood.bits3 (fun HT_ HW_ => ?_)
     generalize wc.drew = w31 at BK477 HB hHeld ⊢
     refine Yp 0 (some 18) (YA 14 1) rfl HT_.out ?_
     refine Yp 2 (some 20) (YA 14 5) rfl HT_.out ?_
     refine Yp 4 (some 22) (YA 14 21) rfl HT_.out ?_
     refine Yt 1 (some 19) (YA 14 23) rfl HT_.out HW_.out hHeld Q8 ?_
     refine Yt 3 (some 21) (YA 14 31) rfl HT_.out HW_.out hHeld Q8 ?_
     refine Yt 5 (some 23) (YA 14 63) rfl HT_.out HW_.out hHeld Q8 ?_
     refine join_ (σ := Value × Value × Value × Value × Nat) 2 (YA 14 4095) (fun s_ => [(24, .int .i64 t480), (25, .tuple #[.agg #[s_.1, s_.2.1, s_.2.2.1, s_.2.2.2.1], .bool false]), (3, .pointer (some ⟨s_.2.2.2.2, 0, none⟩)), (17, .tuple #[.agg #[s_.1, s_.2.1, s_.2.2.1, s_.2.2.2.1], .bool false]), (26, .agg #[s_.1, s_.2.1, s_.2.2.1, s_.2.2.2.1]), (27, .bool false)]) (fun s_ w' => (w'.cell? ⟨gb477, 0, none⟩ = some (.slice A0_0 l0_0.length c0_0) ∧ w'.cell? ⟨gb477, 1, none⟩ = some (.slice A0_1 l0_1.length c0_1) ∧ w'.cell? ⟨gb477, 2, none⟩ = some (.slice A0_2 l0_2.length c0_2) ∧ w'.cell? ⟨gb477, 3, none⟩ = some (.slice A0_3 l0_3.length c0_3)) ∧ (Kd.R (Kd.int .i64) 3 w' w.heap.size (fun k_ => some k_ ≠ (s_.2.1 : Value).ownBlock ∧ some k_ ≠ (s_.2.2.2.1 : Value).ownBlock) s_.1 t481) ∧ (Kd.R (Kd.int .i64) 3 w' w.heap.size (fun k_ => some k_ ≠ (s_.1 : Value).ownBlock ∧ some k_ ≠ (s_.2.2.2.1 : Value).ownBlock) s_.2.1 t484) ∧ (Kd.R Kd.bool 4 w' w.heap.size (fun _ => True) s_.2.2.1 t487) ∧ (Kd.R (Kd.int .i64) 3 w' w.heap.size (fun k_ => some k_ ≠ (s_.1 : Value).ownBlock ∧ some k_ ≠ (s_.2.1 : Value).ownBlock) s_.2.2.2.1 t490) ∧ (w'.heap[gb477]? = some (.cells #[.slice A0_0 l0_0.length c0_0, .slice A0_1 l0_1.length c0_1, .slice A0_2 l0_2.length c0_2, .slice A0_3 l0_3.length c0_3] 33 (0, 0))) ∧ (w'.heap[s_.2.2.2.2]? = some (.cells YN4 33 (0, 0))) ∧ (w.heap.size ≤ s_.2.2.2.2) ∧ (w.heap.size ≤ s_.2.2.2.2) ∧ (gb477 ≠ s_.2.2.2.2) ∧ (s_.2.2.2.2 ≠ gb477) ∧ (Below w.heap.size w w')) ?_ ?_
     rotate_left
     ·intro hCont
      refine two_ (i := 6) (j := 11) (Ni := some 24) (Nj := some 3) (YA 14 127) (YA 14 2111) rfl rfl rfl rfl (two_of HT_.out (by kernel_rfl)) (by decide) (by decide) (fun K hK => ?_) (fun K hK => ?_)
      ·skip
       refine goes_ Try.func64 (by kernel_rfl) rfl #[.slice A0_0 l0_0.length c0_0, .slice A0_1 l0_1.length c0_1] (by rfl) rfl rfl Q5 ?_
       with_reducible refine (spec_gcMixedRank.calls kj1 _ _ l0_0 _ _ l0_1 t480 _ ?side1 ?side2 ?side3 ?side4 A10.out).mono ?_
       (case side1 => exact Yc (Z23 HR0_0.out HB.out))
       (case side2 => exact HC0_0.out)
       (case side3 => exact Yc (Z23 HR0_1.out HB.out))
       (case side4 => exact HC0_1.out)
       rintro e w32 ⟨rfl, hb⟩
       refine ⟨_, rfl, ?_⟩
       replace BK477 := Yb BK477 hb
       replace HB := Yh hb
       (try clear hb)
       refine hK.out _ _ (Yz4 BK477.out) (fun hHeld => ?_)
       clear hK K
       refine norm_ (a' := ?_) ?_ ?_
       rotate_left
       ·show Act.put _ (some 24) _ = _
        simp only [Act.put, Z0, Z1, Z2, i64_w, i32_w]
        rfl
       refine two_ (i := 7) (j := 11) (Ni := some 25) (Nj := some 3) (YA 14 255) (YA 14 2175) rfl rfl rfl rfl (two_of HT_.out (by kernel_rfl)) (by decide) (by decide) (fun K hK => ?_) (fun K hK => ?_)
       ·skip
        refine goes_ Try.func43 (by kernel_rfl) rfl #[.slice A0_0 l0_0.length c0_0, .int .i64 t480] (by rfl) rfl rfl Q5 ?_
        with_reducible refine (spec_foAt.calls kj1 _ _ l0_0 t480 t481 t484 t487 t490 false _ ?side1 ?side2 A11.out).mono ?_
        (case side1 => exact Yc (Z23 HR0_0.out HB.out))
        (case side2 => exact HC0_0.out)
        rintro e w33 ⟨v482, v485, v488, v491, rfl, ho0, ho1, ho2, ho3, hb⟩
        refine ⟨_, rfl, ?_⟩
        have HO483 := Yl ho0
        have HO486 := Yl ho1
        have HO489 := Yl ho2
        have HO492 := Yl ho3
        replace BK477 := Yb BK477 hb
        replace HB := Yh hb
        (try clear hb ho0 ho1 ho2 ho3)
        refine hK.out _ _ (Yz4 BK477.out) (fun hHeld => ?_)
        clear hK K
        refine norm_ (a' := ?_) ?_ ?_
        rotate_left
        ·show Act.put _ (some 25) _ = _
         simp only [Act.put, Z0, Z1, Z2, i64_w, i32_w]
         rfl
        refine Yp 8 (some 17) (YA 14 511) rfl HT_.out ?_
        refine Yp 9 (some 26) (YA 14 1023) rfl HT_.out ?_
        refine Yp 10 (some 27) (YA 14 2047) rfl HT_.out ?_
        refine one_ (i := 11) (N := some 3) (YA 14 4095) rfl rfl (one_of HT_.out (by kernel_rfl)) (by decide) (fun K hK => ?_)
        refine Yy 3 YN4 33 ?_
        intro gb494 hg w34 hbox hb
        replace HO483 := Yw HO483 hb
        replace HO486 := Yw HO486 hb
        replace HO489 := Yw HO489 hb
        replace HO492 := Yw HO492 hb
        have BK494 := Ya hbox
        have GW494 := Yg hg
        have GE494 := GW494
        replace HB := Yh hb
        have NB477_494 := Yn BK477 hg
        have NB494_477 := Ym BK477 hg
        replace BK477 := Yb BK477 hb
        clear hb hbox hg
        refine hK.out _ _ (Yz4 BK477.out) (fun hHeld => ?_)
        clear hK K
        refine norm_ (a' := ?_) ?_ ?_
        rotate_left
        ·show Act.put _ (some 3) _ = _
         simp only [Act.put, Z0, Z1, Z2, i64_w, i32_w]
         rfl
        exact norm_ Q36 (hCont (v482, v485, v488, v491, gb494) _ ⟨hHeld, (Yr HO483.out), (Yr HO486.out), (Yr HO489.out), (Yr HO492.out), (Yk BK477.out), (Yk BK494.out), GW494.out, GE494.out, NB477_494.out, NB494_477.out, Q0⟩)
       ·skip
        refine Yy 3 YN4 33 ?_
        intro gb494 hg w33 hbox hb
        have BK494 := Ya hbox
        have GW494 := Yg hg
        have GE494 := GW494
        replace HB := Yh hb
        have NB477_494 := Yn BK477 hg
        have NB494_477 := Ym BK477 hg
        replace BK477 := Yb BK477 hb
        clear hb hbox hg
        refine hK.out _ _ (Yz4 BK477.out) (fun hHeld => ?_)
        clear hK K
        refine norm_ (a' := ?_) ?_ ?_
        rotate_left
        ·show Act.put _ (some 3) _ = _
         simp only [Act.put, Z0, Z1, Z2, i64_w, i32_w]
         rfl
        refine one_ (i := 7) (N := some 25) (YA 14 2303) rfl rfl (one_of HT_.out (by kernel_rfl)) (by decide) (fun K hK => ?_)
        refine goes_ Try.func43 (by kernel_rfl) rfl #[.slice A0_0 l0_0.length c0_0, .int .i64 t480] (by rfl) rfl rfl Q5 ?_
        with_reducible refine (spec_foAt.calls kj1 _ _ l0_0 t480 t481 t484 t487 t490 false _ ?side1 ?side2 A11.out).mono ?_
        (case side1 => exact Yc (Z23 HR0_0.out HB.out))
        (case side2 => exact HC0_0.out)
        rintro e w34 ⟨v482, v485, v488, v491, rfl, ho0, ho1, ho2, ho3, hb⟩
        refine ⟨_, rfl, ?_⟩
        have HO483 := Yl ho0
        have HO486 := Yl ho1
        have HO489 := Yl ho2
        have HO492 := Yl ho3
        replace BK477 := Yb BK477 hb
        replace BK494 := Yb BK494 hb
        replace HB := Yh hb
        (try clear hb ho0 ho1 ho2 ho3)
        refine hK.out _ _ (Yz4 BK477.out) (fun hHeld => ?_)
        clear hK K
        refine norm_ (a' := ?_) ?_ ?_
        rotate_left
        ·show Act.put _ (some 25) _ = _
         simp only [Act.put, Z0, Z1, Z2, i64_w, i32_w]
         rfl
        refine Yp 8 (some 17) (YA 14 2559) rfl HT_.out ?_
        refine Yp 9 (some 26) (YA 14 3071) rfl HT_.out ?_
        refine Yp 10 (some 27) (YA 14 4095) rfl HT_.out ?_
        exact norm_ Q36 (hCont (v482, v485, v488, v491, gb494) _ ⟨hHeld, (Yr HO483.out), (Yr HO486.out), (Yr HO489.out), (Yr HO492.out), (Yk BK477.out), (Yk BK494.out), GW494.out, GE494.out, NB477_494.out, NB494_477.out, Q0⟩)
      ·skip
       refine Yy 3 YN4 33 ?_
       intro gb494 hg w32 hbox hb
       have BK494 := Ya hbox
       have GW494 := Yg hg
       have GE494 := GW494
       replace HB := Yh hb
       have NB477_494 := Yn BK477 hg
       have NB494_477 := Ym BK477 hg
       replace BK477 := Yb BK477 hb
       clear hb hbox hg
       refine hK.out _ _ (Yz4 BK477.out) (fun hHeld => ?_)
       clear hK K
       refine norm_ (a' := ?_) ?_ ?_
       rotate_left
       ·show Act.put _ (some 3) _ = _
        simp only [Act.put, Z0, Z1, Z2, i64_w, i32_w]
        rfl
       refine one_ (i := 6) (N := some 24) (YA 14 2175) rfl rfl (one_of HT_.out (by kernel_rfl)) (by decide) (fun K hK => ?_)
       refine goes_ Try.func64 (by kernel_rfl) rfl #[.slice A0_0 l0_0.length c0_0, .slice A0_1 l0_1.length c0_1] (by rfl) rfl rfl Q5 ?_
       with_reducible refine (spec_gcMixedRank.calls kj1 _ _ l0_0 _ _ l0_1 t480 _ ?side1 ?side2 ?side3 ?side4 A10.out).mono ?_
       (case side1 => exact Yc (Z23 HR0_0.out HB.out))
       (case side2 => exact HC0_0.out)
       (case side3 => exact Yc (Z23 HR0_1.out HB.out))
       (case side4 => exact HC0_1.out)
       rintro e w33 ⟨rfl, hb⟩
       refine ⟨_, rfl, ?_⟩
       replace BK477 := Yb BK477 hb
       replace BK494 := Yb BK494 hb
       replace HB := Yh hb
       (try clear hb)
       refine hK.out _ _ (Yz4 BK477.out) (fun hHeld => ?_)
       clear hK K
       refine norm_ (a' := ?_) ?_ ?_
       rotate_left
       ·show Act.put _ (some 24) _ = _
        simp only [Act.put, Z0, Z1, Z2, i64_w, i32_w]
        rfl
       refine one_ (i := 7) (N := some 25) (YA 14 2303) rfl rfl (one_of HT_.out (by kernel_rfl)) (by decide) (fun K hK => ?_)
       refine goes_ Try.func43 (by kernel_rfl) rfl #[.slice A0_0 l0_0.length c0_0, .int .i64 t480] (by rfl) rfl rfl Q5 ?_
       with_reducible refine (spec_foAt.calls kj1 _ _ l0_0 t480 t481 t484 t487 t490 false _ ?side1 ?side2 A11.out).mono ?_
       (case side1 => exact Yc (Z23 HR0_0.out HB.out))
       (case side2 => exact HC0_0.out)
       rintro e w34 ⟨v482, v485, v488, v491, rfl, ho0, ho1, ho2, ho3, hb⟩
       refine ⟨_, rfl, ?_⟩
       have HO483 := Yl ho0
       have HO486 := Yl ho1
       have HO489 := Yl ho2
       have HO492 := Yl ho3
       replace BK477 := Yb BK477 hb
       replace BK494 := Yb BK494 hb
       replace HB := Yh hb
       (try clear hb ho0 ho1 ho2 ho3)
       refine hK.out _ _ (Yz4 BK477.out) (fun hHeld => ?_)
       clear hK K
       refine norm_ (a' := ?_) ?_ ?_
       rotate_left
       ·show Act.put _ (some 25) _ = _
        simp only [Act.put, Z0, Z1, Z2, i64_w, i32_w]
        rfl
       refine Yp 8 (some 17) (YA 14 2559) rfl HT_.out ?_
       refine Yp 9 (some 26) (YA 14 3071) rfl HT_.out ?_
       refine Yp 10 (some 27) (YA 14 4095) rfl HT_.out ?_
       exact norm_ Q36 (hCont (v482, v485, v488, v491, gb494) _ ⟨hHeld, (Yr HO483.out), (Yr HO486.out), (Yr HO489.out), (Yr HO492.out), (Yk BK477.out), (Yk BK494.out), GW494.out, GE494.out, NB477_494.out, NB494_477.out, Q0⟩)
     rintro ⟨v482, v485, v488, v491, gb494⟩ w35 ⟨hS_, h0_, h1_, h2_, h3_, h4_, h5_, h6_, h7_, h8_, h9_, h10_⟩
     have HO483 : Aside0 (Kd.R (Kd.int .i64) 3 w35 w.heap.size (fun k_ => some k_ ≠ (v485 : Value).ownBlock ∧ some k_ ≠ (v491 : Value).ownBlock) v482 t481) := ⟨h0_⟩
     have HO486 : Aside0 (Kd.R (Kd.int .i64) 3 w35 w.heap.size (fun k_ => some k_ ≠ (v482 : Value).ownBlock ∧ some k_ ≠ (v491 : Value).ownBlock) v485 t484) := ⟨h1_⟩
     have HO489 : Aside0 (Kd.R Kd.bool 4 w35 w.heap.size (fun _ => True) v488 t487) := ⟨h2_⟩
     have HO492 : Aside0 (Kd.R (Kd.int .i64) 3 w35 w.heap.size (fun k_ => some k_ ≠ (v482 : Value).ownBlock ∧ some k_ ≠ (v485 : Value).ownBlock) v491 t490) := ⟨h3_⟩
     replace BK477 : Aside0 (w35.heap[gb477]? = some (.cells #[.slice A0_0 l0_0.length c0_0, .slice A0_1 l0_1.length c0_1, .slice A0_2 l0_2.length c0_2, .slice A0_3 l0_3.length c0_3] 33 (0, 0))) := ⟨h4_⟩
     have BK494 : Aside0 (w35.heap[gb494]? = some (.cells YN4 33 (0, 0))) := ⟨h5_⟩
     have GW494 : Aside0 (w.heap.size ≤ gb494) := ⟨h6_⟩
     have GE494 : Aside0 (w.heap.size ≤ gb494) := ⟨h7_⟩
     have NB477_494 : Aside0 (gb477 ≠ gb494) := ⟨h8_⟩
     have NB494_477 : Aside0 (gb494 ≠ gb477) := ⟨h9_⟩
     replace HB : Aside0 (Below w.heap.size w w35) := ⟨h10_⟩
     clear h0_ h1_ h2_ h3_ h4_ h5_ h6_ h7_ h8_ h9_ h10_
     have hHeld : w35.cell? ⟨gb477, 0, none⟩ = some (.slice A0_0 l0_0.length c0_0) ∧ w35.cell? ⟨gb477, 1, none⟩ = some (.slice A0_1 l0_1.length c0_1) ∧ w35.cell? ⟨gb477, 2, none⟩ = some (.slice A0_2 l0_2.length c0_2) ∧ w35.cell? ⟨gb477, 3, none⟩ = some (.slice A0_3 l0_3.length c0_3) := hS_
     obtain ⟨Ao36, co36, eo36⟩ := Z19 HO483.out
     (first | subst eo36 | (injection eo36 with f1_ f2_ f3_; have f4_ := f1_.symm; have f5_ := f3_.symm; clear f1_ f2_ f3_; subst f4_; subst f5_))
     obtain ⟨Ao38, co38, eo38⟩ := Z19 HO486.out
     (first | subst eo38 | (injection eo38 with f1_ f2_ f3_; have f4_ := f1_.symm; have f5_ := f3_.symm; clear f1_ f2_ f3_; subst f4_; subst f5_))
     obtain ⟨Ao40, co40, eo40⟩ := Z19 HO489.out
     (first | subst eo40 | (injection eo40 with f1_ f2_ f3_; have f4_ := f1_.symm; have f5_ := f3_.symm; clear f1_ f2_ f3_; subst f4_; subst f5_))
     obtain ⟨Ao42, co42, eo42⟩ := Z19 HO492.out
     (first | subst eo42 | (injection eo42 with f1_ f2_ f3_; have f4_ := f1_.symm; have f5_ := f3_.symm; clear f1_ f2_ f3_; subst f4_; subst f5_))
     refine norm_ (a' := ?_) ?_ ?_
     rotate_left
     ·simp only [putAll, Act.put, Z0, Z1, Z2]
      rfl
     refine one_ (i := 12) (N := none) (YA 14 8191) rfl rfl (one_of HT_.out (by kernel_rfl)) (by decide) (fun K hK => ?_)
     have hs37 : w35.cell? ⟨gb494, 0, none⟩ = some (.slice none 0 0) := (Z24 BK494.out 0).trans rfl
     have hfs37 := Z25 BK494.out 0
     have hns37_0 := NB477_494.out
     have hms37_0 := NB494_477.out
     have hs39 : w35.cell? ⟨gb494, 1, none⟩ = some (.slice none 0 0) := (Z24 BK494.out 1).trans rfl
     have hfs39 := Z25 BK494.out 1
     have hns39_0 := NB477_494.out
     have hms39_0 := NB494_477.out
     have hs41 : w35.cell? ⟨gb494, 2, none⟩ = some (.slice none 0 0) := (Z24 BK494.out 2).trans rfl
     have hfs41 := Z25 BK494.out 2
     have hns41_0 := NB477_494.out
     have hms41_0 := NB494_477.out
     have hs43 : w35.cell? ⟨gb494, 3, none⟩ = some (.slice none 0 0) := (Z24 BK494.out 3).trans rfl
     have hfs43 := Z25 BK494.out 3
     have hns43_0 := NB477_494.out
     have hms43_0 := NB494_477.out
     refine skip_ (w1 := ?_) (by rfl) rfl ?_ ?_
     rotate_left
     ·go_simp
      rfl
     refine hK.out _ _ ⟨((cell_far (p := ⟨gb494, _, none⟩) NB477_494.out _).trans (((cell_far (p := ⟨gb494, _, none⟩) NB477_494.out _).trans (((cell_far (p := ⟨gb494, _, none⟩) NB477_494.out _).trans (((cell_far (p := ⟨gb494, _, none⟩) NB477_494.out _).trans (hHeld.1)))))))), ((cell_far (p := ⟨gb494, _, none⟩) NB477_494.out _).trans (((cell_far (p := ⟨gb494, _, none⟩) NB477_494.out _).trans (((cell_far (p := ⟨gb494, _, none⟩) NB477_494.out _).trans (((cell_far (p := ⟨gb494, _, none⟩) NB477_494.out _).trans (hHeld.2.1)))))))), ((cell_far (p := ⟨gb494, _, none⟩) NB477_494.out _).trans (((cell_far (p := ⟨gb494, _, none⟩) NB477_494.out _).trans (((cell_far (p := ⟨gb494, _, none⟩) NB477_494.out _).trans (((cell_far (p := ⟨gb494, _, none⟩) NB477_494.out _).trans (hHeld.2.2.1)))))))), ((cell_far (p := ⟨gb494, _, none⟩) NB477_494.out _).trans (((cell_far (p := ⟨gb494, _, none⟩) NB477_494.out _).trans (((cell_far (p := ⟨gb494, _, none⟩) NB477_494.out _).trans (((cell_far (p := ⟨gb494, _, none⟩) NB477_494.out _).trans (hHeld.2.2.2))))))))⟩ (fun hHeld => ?_)
     clear hK K
     refine Yp 13 (some 4) (YA 14 16383) rfl HT_.out ?_
     refine done_ (done_of HT_.out (by kernel_rfl)) ?_
     try go_wp2
     go_ret
     exact ⟨Q1, Q12⟩
end Go.Proofs.Ytapbbmicfkbafaa.MFnFocusSteps
