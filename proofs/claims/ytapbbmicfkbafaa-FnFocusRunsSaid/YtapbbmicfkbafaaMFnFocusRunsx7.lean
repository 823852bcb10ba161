import Derived.Test.YtapbbmicfkbafaaMFnFocusRunsx0
import Derived.Test.YtapbbmicfkbafaaMFnFocusRunsx1
import Derived.Test.YtapbbmicfkbafaaMFnFocusRunsx2
import Derived.Test.YtapbbmicfkbafaaMFnFocusRunsx3
import Derived.Test.YtapbbmicfkbafaaMFnFocusRunsx4
import Derived.Test.YtapbbmicfkbafaaMFnFocusRunsx5
import Derived.Test.YtapbbmicfkbafaaMFnFocusRunsx6
namespace Go.Proofs.Ytapbbmicfkbafaa.MFnFocusRuns
open Go.RowKit Go.Proofs.YtapbbmicfkbafaaW.PrintWords Go.Proofs.YtapbbmicfkbafaaW.PrintLast Go.Proofs.YtapbbmicfkbafaaW.PrintMore
attribute [local go_sem] max2_int min2_int max_two min_two max_three min_three max_four min_four   
set_option linter.unusedVariables false
set_option linter.unusedSimpArgs false
def spec_DrawFocusAt.f (k : Nat) (l0 : List Int) : Option (List Int × Int) := (spec_l1Cur_small.f k l0 0 0).bind fun bt421 => ((spec_raProduct.f k bt421.1).bind fun t426 => ((spec_l1Cur_rank.f l0 bt421.2.1 bt421.2.2 t426).bind fun bt427 => (some (bt421.1, bt427.1))))
theorem spec_DrawFocusAt.mono : ∀ a0 k, LeO (spec_DrawFocusAt.f k a0) (spec_DrawFocusAt.f (k + 1) a0) := by
 intro a0 k
 unfold spec_DrawFocusAt.f
 repeat' first
   | (with_reducible exact spec_l1Cur_small.mono _ _ _ _)
   | (with_reducible exact spec_raProduct.mono _ _)
   | (with_reducible exact LeO.refl _)
   | (with_reducible exact LeO.none _)
   | (with_reducible refine LeO.ite ?_ ?_)
   | (with_reducible refine LeO.bind ?_ (fun _ => ?_))
   | exact spec_l1Cur_small.mono _ _ _ _
   | exact spec_raProduct.mono _ _
   | exact LeO.none _
   | refine LeO.ite ?_ ?_
   | refine LeO.bind ?_ (fun _ => ?_)
set_option maxHeartbeats 8000000 in
set_option maxRecDepth 100000 in
theorem spec_DrawFocusAt.calls (k : Nat) (A0 : Option Addr) (c0 : Nat) (l0 : List Int) (r1 : List Int) (r2 : Int) (w : World) (hr0 : Kd.C (Kd.int .u8) w A0 l0.length l0) (hc0 : l0.length ≤ c0) (h : spec_DrawFocusAt.f k l0 = some (r1, r2)) :
  Calls Try.prog 14 #[.slice A0 l0.length c0] w fun e w' => ∃ v0_ : Value, e = .returned (.tuple #[v0_, .int .i64 r2]) ∧ Kd.R (Kd.int .i64) 3 w' w.heap.size (fun _ => True) v0_ r1 ∧ Below w.heap.size w w' := by
 have hu52 := Try.underlying52
 have HR0 := Ya hr0
 have HC0 := Ya hc0
 clear hr0 hc0
 have HB := Ya (Below.refl w.heap.size w)
 have H : ((spec_l1Cur_small.f k l0 0 0).bind fun bt421 => ((spec_raProduct.f k bt421.1).bind fun t426 => ((spec_l1Cur_rank.f l0 bt421.2.1 bt421.2.2 t426).bind fun bt427 => (some (bt421.1, bt427.1))))) = some (r1, r2) := h
 clear h
 replace H := Z35.mp H
 obtain ⟨⟨t421, t424, t425⟩, A20, H⟩ := H
 replace H : ((spec_raProduct.f k t421).bind fun t426 => ((spec_l1Cur_rank.f l0 t424 t425 t426).bind fun bt427 => (some (t421, bt427.1)))) = some (r1, r2) := H
 have A2 := Ya A20
 clear A20
 replace H := Z35.mp H
 obtain ⟨t426, A30, H⟩ := H
 replace H : ((spec_l1Cur_rank.f l0 t424 t425 t426).bind fun bt427 => (some (t421, bt427.1))) = some (r1, r2) := H
 have A3 := Ya A30
 clear A30
 replace H := Z35.mp H
 obtain ⟨⟨t427, t428, t429⟩, A40, H⟩ := H
 replace H : (some (t421, t427)) = some (r1, r2) := H
 have A4 := Ya A40
 clear A40
 simp only [Option.some.injEq, Prod.mk.injEq] at H
 obtain ⟨rfl, rfl⟩ := H
 go_enter Try.func14, Try.ntmps14
 go_wp2_with (first | ((with_reducible refine gate_dst (N := 8) rfl ?_); refine Yx 8 #[.slice A0 l0.length c0, .int .i64 0, .int .u64 0] 52 ?_; intro gb420 hg w5 hbox hb; have HI420 := Ya ((show IsS52 w w5 gb420 l0 0 0 from ⟨_, _, hbox, (by rw [hg]; exact (Z7 Q0) : w.heap.size ≤ gb420), HR0.out⟩)); replace HB := Yh hb; clear hb hbox hg) | ((with_reducible refine gate_callee (f := 27) rfl ?_); refine Yz 10 Try.func27 #[.pointer (some ⟨gb420, 0, none⟩)] ?_; (with_reducible refine (spec_l1Cur_small.calls k gb420 l0 0 0 t421 t424 t425 w _ ?side1 ?side2 A2.out).mono ?_); (case side1 => repeat (first | (with_reducible first | exact HI420.out | apply IsS52.alloc | apply IsS52.drewN | apply IsS52.drew | apply IsS52.set_1 | apply IsS52.set_2) | exact HI420.out)); (case side2 => repeat (first | (with_reducible first | exact HB.out | apply Z5 | apply Z3 | apply Z4 | refine Z6 ?_ (IsS52.ge HI420.out)) | exact HB.out)); rintro e w6 ⟨v422, rfl, ho0, hi, hb, hk⟩; refine ⟨_, rfl, ?_⟩; have HO423 := Ya (Kd.R_lower ho0 (Z7 (by repeat (first | (with_reducible first | exact HB.out | apply Z5 | apply Z3 | apply Z4 | refine Z6 ?_ (IsS52.ge HI420.out)) | exact HB.out)))); replace HB := Ya hb; replace HI420 := Ya hi; (try clear hb hk hi ho0); obtain ⟨Ao7, co7, rfl⟩ := Z17 HO423.out) | ((with_reducible refine gate_callee (f := 40) rfl ?_); refine Yz 14 Try.func40 #[.slice Ao7 t421.length co7] ?_; (with_reducible refine (spec_raProduct.calls k _ _ t421 t426 _ (Yc (Kd.R_reads' HO423.out).2.2) ((Kd.R_reads' HO423.out).2.1) A3.out).mono ?_); rintro e w' ⟨rfl, ⟨nd, rfl⟩⟩; refine ⟨_, rfl, ?_⟩) | ((with_reducible refine gate_callee (f := 39) rfl ?_); refine Yz 15 Try.func39 #[.pointer (some ⟨gb420, 0, none⟩), .int .i64 t426] ?_; (with_reducible refine (spec_l1Cur_rank.calls gb420 l0 t424 t425 t426 t427 t428 t429 w _ ?side1 ?side2 A4.out).mono ?_); (case side1 => repeat (first | (with_reducible first | exact HI420.out | apply IsS52.alloc | apply IsS52.drewN | apply IsS52.drew | apply IsS52.set_1 | apply IsS52.set_2) | exact HI420.out)); (case side2 => repeat (first | (with_reducible first | exact HB.out | apply Z5 | apply Z3 | apply Z4 | refine Z6 ?_ (IsS52.ge HI420.out)) | exact HB.out)); rintro e w8 ⟨rfl, hi, hb, hk⟩; refine ⟨_, rfl, ?_⟩; replace HO423 := Ya (Z11 (Kd.R_keep (IsS52.apart (show IsS52 w _ gb420 l0 t424 t425 from by repeat (first | (with_reducible first | exact HI420.out | apply IsS52.alloc | apply IsS52.drewN | apply IsS52.drew | apply IsS52.set_1 | apply IsS52.set_2) | exact HI420.out)) (Yr HO423.out) (by decide)) hk (fun _ h => h.2)) (fun _ h => h.1)); replace HB := Ya hb; replace HI420 := Ya hi; (try clear hb hk hi)))
 go_ret2
 exact ⟨_, Q1, by (with_reducible repeat (first | apply Z8 | apply Z9 | apply Z10)); exact HO423.out, by repeat (first | (with_reducible first | exact HB.out | apply Z5 | apply Z3 | apply Z4 | refine Z6 ?_ (IsS52.ge HI420.out)) | exact HB.out)⟩
def impl_FocusAt.f (k : Nat) (l0 : List Int) (a1 : Int) : Option (List Int × List Int × List Bool × List Int × Bool) := (impl_areFocusBases.f k l0).bind fun t431 => (if t431 = true then ((impl_size.f k l0).bind fun t432 => ((impl_within.f a1 0 (wrap64 (t432 - 1))).bind fun t433 => (if t433 = true then ((impl_focusAt.f k l0 a1).bind fun bt434 => (some (bt434.1, bt434.2.1, bt434.2.2.1, bt434.2.2.2, true))) else (some (([] : List Int), ([] : List Int), ([] : List Bool), ([] : List Int), false))))) else (some (([] : List Int), ([] : List Int), ([] : List Bool), ([] : List Int), false)))
theorem impl_FocusAt.mono : ∀ a0 a1 k, LeO (impl_FocusAt.f k a0 a1) (impl_FocusAt.f (k + 1) a0 a1) := by
 intro a0 a1 k
 unfold impl_FocusAt.f
 repeat' first
   | (with_reducible exact impl_areFocusBases.mono _ _)
   | (with_reducible exact impl_focusAt.mono _ _ _)
   | (with_reducible exact impl_size.mono _ _)
   | (with_reducible exact LeO.refl _)
   | (with_reducible exact LeO.none _)
   | (with_reducible refine LeO.ite ?_ ?_)
   | (with_reducible refine LeO.bind ?_ (fun _ => ?_))
   | exact impl_areFocusBases.mono _ _
   | exact impl_focusAt.mono _ _ _
   | exact impl_size.mono _ _
   | exact LeO.none _
   | refine LeO.ite ?_ ?_
   | refine LeO.bind ?_ (fun _ => ?_)
set_option maxHeartbeats 8000000 in
set_option maxRecDepth 100000 in
theorem impl_FocusAt.calls (k : Nat) (A0 : Option Addr) (c0 : Nat) (l0 : List Int) (a1 : Int) (r1 : List Int) (r2 : List Int) (r3 : List Bool) (r4 : List Int) (r5 : Bool) (w : World) (hr0 : Kd.C (Kd.int .i64) w A0 l0.length l0) (hc0 : l0.length ≤ c0) (h : impl_FocusAt.f k l0 a1 = some (r1, r2, r3, r4, r5)) :
  Calls Try.prog 15 #[.slice A0 l0.length c0, .int .i64 a1] w fun e w' => ∃ v0_ v1_ v2_ v3_ : Value, e = .returned (.tuple #[.agg #[v0_, v1_, v2_, v3_], .bool r5]) ∧ Kd.R (Kd.int .i64) 3 w' w.heap.size (fun k_ => some k_ ≠ (v1_ : Value).ownBlock ∧ some k_ ≠ (v3_ : Value).ownBlock) v0_ r1 ∧ Kd.R (Kd.int .i64) 3 w' w.heap.size (fun k_ => some k_ ≠ (v0_ : Value).ownBlock ∧ some k_ ≠ (v3_ : Value).ownBlock) v1_ r2 ∧ Kd.R Kd.bool 4 w' w.heap.size (fun _ => True) v2_ r3 ∧ Kd.R (Kd.int .i64) 3 w' w.heap.size (fun k_ => some k_ ≠ (v0_ : Value).ownBlock ∧ some k_ ≠ (v1_ : Value).ownBlock) v3_ r4 ∧ Below w.heap.size w w' := by
 have hu33 := Try.underlying33
 have HR0 := Ya hr0
 have HC0 := Ya hc0
 clear hr0 hc0
 have HB := Ya (Below.refl w.heap.size w)
 have H : ((impl_areFocusBases.f k l0).bind fun t431 => (if t431 = true then ((impl_size.f k l0).bind fun t432 => ((impl_within.f a1 0 (wrap64 (t432 - 1))).bind fun t433 => (if t433 = true then ((impl_focusAt.f k l0 a1).bind fun bt434 => (some (bt434.1, bt434.2.1, bt434.2.2.1, bt434.2.2.2, true))) else (some (([] : List Int), ([] : List Int), ([] : List Bool), ([] : List Int), false))))) else (some (([] : List Int), ([] : List Int), ([] : List Bool), ([] : List Int), false)))) = some (r1, r2, r3, r4, r5) := h
 clear h
 replace H := Z35.mp H
 obtain ⟨t431, A30, H⟩ := H
 replace H : (if t431 = true then ((impl_size.f k l0).bind fun t432 => ((impl_within.f a1 0 (wrap64 (t432 - 1))).bind fun t433 => (if t433 = true then ((impl_focusAt.f k l0 a1).bind fun bt434 => (some (bt434.1, bt434.2.1, bt434.2.2.1, bt434.2.2.2, true))) else (some (([] : List Int), ([] : List Int), ([] : List Bool), ([] : List Int), false))))) else (some (([] : List Int), ([] : List Int), ([] : List Bool), ([] : List Int), false))) = some (r1, r2, r3, r4, r5) := H
 have A3 := Ya A30
 clear A30
 by_cases c4 : t431 = true
 ·subst c4
  have H1 : ((impl_size.f k l0).bind fun t432 => ((impl_within.f a1 0 (wrap64 (t432 - 1))).bind fun t433 => (if t433 = true then ((impl_focusAt.f k l0 a1).bind fun bt434 => (some (bt434.1, bt434.2.1, bt434.2.2.1, bt434.2.2.2, true))) else (some (([] : List Int), ([] : List Int), ([] : List Bool), ([] : List Int), false))))) = some (r1, r2, r3, r4, r5) := by rw [if_pos rfl] at H; exact H
  clear H
  have H := H1
  clear H1
  replace H := Z35.mp H
  obtain ⟨t432, A50, H⟩ := H
  replace H : ((impl_within.f a1 0 (wrap64 (t432 - 1))).bind fun t433 => (if t433 = true then ((impl_focusAt.f k l0 a1).bind fun bt434 => (some (bt434.1, bt434.2.1, bt434.2.2.1, bt434.2.2.2, true))) else (some (([] : List Int), ([] : List Int), ([] : List Bool), ([] : List Int), false)))) = some (r1, r2, r3, r4, r5) := H
  have A5 := Ya A50
  clear A50
  replace H := Z35.mp H
  obtain ⟨t433, A60, H⟩ := H
  replace H : (if t433 = true then ((impl_focusAt.f k l0 a1).bind fun bt434 => (some (bt434.1, bt434.2.1, bt434.2.2.1, bt434.2.2.2, true))) else (some (([] : List Int), ([] : List Int), ([] : List Bool), ([] : List Int), false))) = some (r1, r2, r3, r4, r5) := H
  have A6 := Ya A60
  clear A60
  by_cases c7 : t433 = true
  ·subst c7
   have H1 : ((impl_focusAt.f k l0 a1).bind fun bt434 => (some (bt434.1, bt434.2.1, bt434.2.2.1, bt434.2.2.2, true))) = some (r1, r2, r3, r4, r5) := by rw [if_pos rfl] at H; exact H
   clear H
   have H := H1
   clear H1
   replace H := Z35.mp H
   obtain ⟨⟨t434, t437, t440, t443⟩, A80, H⟩ := H
   replace H : (some (t434, t437, t440, t443, true)) = some (r1, r2, r3, r4, r5) := H
   have A8 := Ya A80
   clear A80
   simp only [Option.some.injEq, Prod.mk.injEq] at H
   obtain ⟨rfl, rfl, rfl, rfl, rfl⟩ := H
   go_enter Try.func15, Try.ntmps15
   go_wp2_with (first | ((with_reducible refine gate_dst (N := 4) rfl ?_); refine Yx 4 YN4 33 ?_; intro gb430 hg w9 hbox hb; have BK430 := Ya hbox; have GE430 := Yg hg; replace HB := Yh hb; clear hb hbox hg) | ((with_reducible refine gate_callee (f := 29) rfl ?_); refine Yz 7 Try.func29 #[.slice A0 l0.length c0] ?_; (with_reducible refine (impl_areFocusBases.calls k _ _ l0 true _ (Yc (Z21 HR0.out HB.out)) HC0.out A3.out).mono ?_); rintro e w10 ⟨rfl, hb⟩; refine ⟨_, rfl, ?_⟩; replace BK430 := Yb BK430 hb; replace HB := Yh hb; (try clear hb)) | (go_at_call 41; (with_reducible refine (impl_size.calls k _ _ l0 t432 _ (Yc (Z21 HR0.out HB.out)) HC0.out A5.out).mono ?_); rintro e w11 ⟨rfl, hb⟩; replace BK430 := Yb BK430 hb; replace HB := Yh hb; (try clear hb)) | (go_at_call 30; (with_reducible refine (impl_within.calls a1 0 (wrap64 (t432 - 1)) true _ A6.out).mono ?_); rintro e w' ⟨rfl, ⟨nd, rfl⟩⟩; (try (rw [drewN_self w11]; generalize hq_ : World.drewN w11 _ = w11; replace BK430 : Aside0 (w11.heap[gb430]? = some (.cells YN4 33 (0, 0))) := ⟨by rw [← hq_]; exact (Yk BK430.out)⟩; replace HB : Aside0 (Below w.heap.size w w11) := ⟨by rw [← hq_]; exact Q0⟩; clear hq_))) | ((with_reducible refine gate_callee (f := 42) rfl ?_); refine Yz 20 Try.func42 #[.slice A0 l0.length c0, .int .i64 a1] ?_; (with_reducible refine (impl_focusAt.calls k _ _ l0 a1 t434 t437 t440 t443 _ (Yc (Z21 HR0.out HB.out)) HC0.out A8.out).mono ?_); rintro e w12 ⟨v435, v438, v441, v444, rfl, ho0, ho1, ho2, ho3, hb⟩; refine ⟨_, rfl, ?_⟩; have HO436 := Yl ho0; have HO439 := Yl ho1; have HO442 := Yl ho2; have HO445 := Yl ho3; replace BK430 := Yb BK430 hb; replace HB := Yh hb; (try clear hb ho0 ho1 ho2 ho3); obtain ⟨Ao13, co13, rfl⟩ := Z17 HO436.out; obtain ⟨hcz14_0, hcz14_1, hcz14_2, hcz14_3, hfz14_0, hfz14_1, hfz14_2, hfz14_3⟩ := Y4 BK430.out; obtain ⟨Ao15, co15, rfl⟩ := Z17 HO439.out; obtain ⟨Ao16, co16, rfl⟩ := Z17 HO442.out; obtain ⟨Ao17, co17, rfl⟩ := Z17 HO445.out))
   refine bodyPost_ret (results_ct rfl _ _ gb430 33 #[.slice Ao13 t434.length co13, .slice Ao15 t437.length co15, .slice Ao16 t440.length co16, .slice Ao17 t443.length co17] (0, 0) _ rfl (Yk (Yv4 BK430.out)) Try.underlying33 rfl (by kernel_rfl)) rfl ?_
   exact ⟨_, _, _, _, Q1, Yj (Yf4 HO436.out BK430.out) (fun _ hk => ⟨hk.1.1, hk.1.2⟩), Yj (Yf4 HO439.out BK430.out) (fun _ hk => ⟨hk.1.1, hk.1.2⟩), Yj (Yf4 HO442.out BK430.out) (fun _ hk => trivial), Yj (Yf4 HO445.out BK430.out) (fun _ hk => ⟨hk.1.1, hk.1.2⟩), Q12⟩
  ·replace c7 := Bool.eq_false_iff.mpr c7
   subst c7
   have H1 : (some (([] : List Int), ([] : List Int), ([] : List Bool), ([] : List Int), false)) = some (r1, r2, r3, r4, r5) := by rw [if_neg (show ¬ (false = true) by decide)] at H; exact H
   clear H
   have H := H1
   clear H1
   simp only [Option.some.injEq, Prod.mk.injEq] at H
   obtain ⟨rfl, rfl, rfl, rfl, rfl⟩ := H
   go_enter Try.func15, Try.ntmps15
   go_wp2_with (first | ((with_reducible refine gate_dst (N := 4) rfl ?_); refine Yx 4 YN4 33 ?_; intro gb430 hg w18 hbox hb; have BK430 := Ya hbox; have GE430 := Yg hg; replace HB := Yh hb; clear hb hbox hg) | ((with_reducible refine gate_callee (f := 29) rfl ?_); refine Yz 7 Try.func29 #[.slice A0 l0.length c0] ?_; (with_reducible refine (impl_areFocusBases.calls k _ _ l0 true _ (Yc (Z21 HR0.out HB.out)) HC0.out A3.out).mono ?_); rintro e w19 ⟨rfl, hb⟩; refine ⟨_, rfl, ?_⟩; replace BK430 := Yb BK430 hb; replace HB := Yh hb; (try clear hb)) | (go_at_call 41; (with_reducible refine (impl_size.calls k _ _ l0 t432 _ (Yc (Z21 HR0.out HB.out)) HC0.out A5.out).mono ?_); rintro e w20 ⟨rfl, hb⟩; replace BK430 := Yb BK430 hb; replace HB := Yh hb; (try clear hb)) | (go_at_call 30; (with_reducible refine (impl_within.calls a1 0 (wrap64 (t432 - 1)) false _ A6.out).mono ?_); rintro e w' ⟨rfl, ⟨nd, rfl⟩⟩; (try (rw [drewN_self w20]; generalize hq_ : World.drewN w20 _ = w20; replace BK430 : Aside0 (w20.heap[gb430]? = some (.cells YN4 33 (0, 0))) := ⟨by rw [← hq_]; exact (Yk BK430.out)⟩; replace HB : Aside0 (Below w.heap.size w w20) := ⟨by rw [← hq_]; exact Q0⟩; clear hq_)); have hz21 := Y4 BK430.out))
   refine bodyPost_ret (results_ct rfl _ _ gb430 33 YN4 (0, 0) _ rfl (Yk (Yv4 BK430.out)) Try.underlying33 rfl (by kernel_rfl)) rfl ?_
   exact ⟨_, _, _, _, Q1, Q4, Q4, Q4, Q4, Q12⟩
 ·replace c4 := Bool.eq_false_iff.mpr c4
  subst c4
  have H1 : (some (([] : List Int), ([] : List Int), ([] : List Bool), ([] : List Int), false)) = some (r1, r2, r3, r4, r5) := by rw [if_neg (show ¬ (false = true) by decide)] at H; exact H
  clear H
  have H := H1
  clear H1
  simp only [Option.some.injEq, Prod.mk.injEq] at H
  obtain ⟨rfl, rfl, rfl, rfl, rfl⟩ := H
  go_enter Try.func15, Try.ntmps15
  go_wp2_with (first | ((with_reducible refine gate_dst (N := 4) rfl ?_); refine Yx 4 YN4 33 ?_; intro gb430 hg w22 hbox hb; have BK430 := Ya hbox; have GE430 := Yg hg; replace HB := Yh hb; clear hb hbox hg) | ((with_reducible refine gate_callee (f := 29) rfl ?_); refine Yz 7 Try.func29 #[.slice A0 l0.length c0] ?_; (with_reducible refine (impl_areFocusBases.calls k _ _ l0 false _ (Yc (Z21 HR0.out HB.out)) HC0.out A3.out).mono ?_); rintro e w23 ⟨rfl, hb⟩; refine ⟨_, rfl, ?_⟩; replace BK430 := Yb BK430 hb; replace HB := Yh hb; (try clear hb); obtain ⟨hcz24_0, hcz24_1, hcz24_2, hcz24_3, hfz24_0, hfz24_1, hfz24_2, hfz24_3⟩ := Y4 BK430.out))
  refine bodyPost_ret (results_ct rfl _ _ gb430 33 YN4 (0, 0) _ rfl (Yk (Yv4 BK430.out)) Try.underlying33 rfl (by kernel_rfl)) rfl ?_
  exact ⟨_, _, _, _, Q1, Q4, Q4, Q4, Q4, Q12⟩
def spec_foAt.l0 : Nat → Int → List Int → List Int → List Bool → List Int → Option (List Int × List Int × List Bool × List Int × Bool)
 | 0, _, _, _, _, _ => none
 | k + 1, x1, x460000, x460001, x460002, x460003 => if x1 > 0 then ((spec_foStep.f x460000 x460001 x460002 x460003).bind fun bt460 => (if bt460.2.2.2.2 < 0 then (some (([] : List Int), ([] : List Int), ([] : List Bool), ([] : List Int), false)) else (spec_foAt.l0 k (wrap64 (x1 - 1)) bt460.1 bt460.2.1 bt460.2.2.1 bt460.2.2.2.1))) else (some (x460000, x460001, x460002, x460003, true))
def spec_foAt.f (k : Nat) (l0 : List Int) (a1 : Int) : Option (List Int × List Int × List Bool × List Int × Bool) := (spec_foStart.f k l0).bind fun bt447 => (spec_foAt.l0 k a1 bt447.1 bt447.2.1 bt447.2.2.1 bt447.2.2.2)
theorem spec_foAt.mono_l : ∀ k, (∀ y0 y1 y2 y3 y4, LeO (spec_foAt.l0 k y0 y1 y2 y3 y4) (spec_foAt.l0 (k + 1) y0 y1 y2 y3 y4))
 | 0 => fun _ _ _ _ _ r h => by simp [spec_foAt.l0] at h
 | k + 1 => by
  have ih0 := spec_foAt.mono_l k
  ·intro y0 y1 y2 y3 y4
   unfold spec_foAt.l0
   repeat' first
   | (with_reducible exact ih0 _ _ _ _ _)
   | (with_reducible exact spec_foStart.mono _ _)
   | (with_reducible exact LeO.refl _)
   | (with_reducible exact LeO.none _)
   | (with_reducible refine LeO.ite ?_ ?_)
   | (with_reducible refine LeO.bind ?_ (fun _ => ?_))
   | exact ih0 _ _ _ _ _
   | exact spec_foStart.mono _ _
   | exact LeO.none _
   | refine LeO.ite ?_ ?_
   | refine LeO.bind ?_ (fun _ => ?_)
theorem spec_foAt.mono : ∀ a0 a1 k, LeO (spec_foAt.f k a0 a1) (spec_foAt.f (k + 1) a0 a1) := by
 intro a0 a1 k
 have ih0 := spec_foAt.mono_l k
 unfold spec_foAt.f
 repeat' first
   | (with_reducible exact ih0 _ _ _ _ _)
   | (with_reducible exact spec_foStart.mono _ _)
   | (with_reducible exact LeO.refl _)
   | (with_reducible exact LeO.none _)
   | (with_reducible refine LeO.ite ?_ ?_)
   | (with_reducible refine LeO.bind ?_ (fun _ => ?_))
   | exact ih0 _ _ _ _ _
   | exact spec_foStart.mono _ _
   | exact LeO.none _
   | refine LeO.ite ?_ ?_
   | refine LeO.bind ?_ (fun _ => ?_)
set_option maxHeartbeats 8000000 in
set_option maxRecDepth 100000 in
theorem spec_foAt.calls (k : Nat) (A0 : Option Addr) (c0 : Nat) (l0 : List Int) (a1 : Int) (r1 : List Int) (r2 : List Int) (r3 : List Bool) (r4 : List Int) (r5 : Bool) (w : World) (hr0 : Kd.C (Kd.int .i64) w A0 l0.length l0) (hc0 : l0.length ≤ c0) (h : spec_foAt.f k l0 a1 = some (r1, r2, r3, r4, r5)) :
  Calls Try.prog 43 #[.slice A0 l0.length c0, .int .i64 a1] w fun e w' => ∃ v0_ v1_ v2_ v3_ : Value, e = .returned (.tuple #[.agg #[v0_, v1_, v2_, v3_], .bool r5]) ∧ Kd.R (Kd.int .i64) 3 w' w.heap.size (fun k_ => some k_ ≠ (v1_ : Value).ownBlock ∧ some k_ ≠ (v3_ : Value).ownBlock) v0_ r1 ∧ Kd.R (Kd.int .i64) 3 w' w.heap.size (fun k_ => some k_ ≠ (v0_ : Value).ownBlock ∧ some k_ ≠ (v3_ : Value).ownBlock) v1_ r2 ∧ Kd.R Kd.bool 4 w' w.heap.size (fun _ => True) v2_ r3 ∧ Kd.R (Kd.int .i64) 3 w' w.heap.size (fun k_ => some k_ ≠ (v0_ : Value).ownBlock ∧ some k_ ≠ (v1_ : Value).ownBlock) v3_ r4 ∧ Below w.heap.size w w' := by
 have hu33 := Try.underlying33
 have HR0 := Ya hr0
 have HC0 := Ya hc0
 clear hr0 hc0
 have HB := Ya (Below.refl w.heap.size w)
 have H : ((spec_foStart.f k l0).bind fun bt447 => (spec_foAt.l0 k a1 bt447.1 bt447.2.1 bt447.2.2.1 bt447.2.2.2)) = some (r1, r2, r3, r4, r5) := h
 clear h
 replace H := Z35.mp H
 obtain ⟨⟨t447, t450, t453, t456⟩, A30, H⟩ := H
 replace H : (spec_foAt.l0 k a1 t447 t450 t453 t456) = some (r1, r2, r3, r4, r5) := H
 have A3 := Ya A30
 clear A30
 have H' := Ya H
 clear H
 go_enter Try.func43, Try.ntmps43
 go_wp2_with (first | ((with_reducible refine gate_dst (N := 4) rfl ?_); refine Yx 4 YN4 33 ?_; intro gb446 hg w4 hbox hb; have BK446 := Ya hbox; have GE446 := Yg hg; replace HB := Yh hb; clear hb hbox hg) | ((with_reducible refine gate_callee (f := 58) rfl ?_); refine Yz 10 Try.func58 #[.slice A0 l0.length c0] ?_; (with_reducible refine (spec_foStart.calls k _ _ l0 t447 t450 t453 t456 _ (Yc (Z21 HR0.out HB.out)) HC0.out A3.out).mono ?_); rintro e w5 ⟨v448, v451, v454, v457, rfl, ho0, ho1, ho2, ho3, hb⟩; refine ⟨_, rfl, ?_⟩; have HO449 := Yl ho0; have HO452 := Yl ho1; have HO455 := Yl ho2; have HO458 := Yl ho3; replace BK446 := Yb BK446 hb; replace HB := Yh hb; (try clear hb ho0 ho1 ho2 ho3)) | ((with_reducible refine gate_dst (N := 6) rfl ?_); refine Yx 6 YN4 33 ?_; intro gb459 hg w6 hbox hb; replace HO449 := Yw HO449 hb; replace HO452 := Yw HO452 hb; replace HO455 := Yw HO455 hb; replace HO458 := Yw HO458 hb; have BK459 := Ya hbox; have GE459 := Yg hg; replace HB := Yh hb; have NB446_459 := Yn BK446 hg; have NB459_446 := Ym BK446 hg; replace BK446 := Yb BK446 hb; clear hb hbox hg; obtain ⟨Ao7, co7, rfl⟩ := Z17 HO449.out; have hnb8 := NB459_446.out; have hnc8 := NB446_459.out; obtain ⟨hcz9_0, hcz9_1, hcz9_2, hcz9_3, hfz9_0, hfz9_1, hfz9_2, hfz9_3⟩ := Y4 BK459.out; obtain ⟨Ao10, co10, rfl⟩ := Z17 HO452.out; obtain ⟨Ao11, co11, rfl⟩ := Z17 HO455.out; obtain ⟨Ao12, co12, rfl⟩ := Z17 HO458.out))
 go_loopg [1] k (fun kq v1 w' => ∃ (x1_1 : Int) (x460000_1 : List Int) (x460001_1 : List Int) (x460002_1 : List Bool) (x460003_1 : List Int) (u460000 : Value) (u460001 : Value) (u460002 : Value) (u460003 : Value), v1 = .int .i64 x1_1 ∧ Aside0 (spec_foAt.l0 kq x1_1 x460000_1 x460001_1 x460002_1 x460003_1 = some (r1, r2, r3, r4, r5)) ∧ Aside0 (kq ≤ k) ∧ Aside0 (Kd.R (Kd.int .i64) 3 w' w.heap.size (fun k_ => some k_ ≠ (u460001 : Value).ownBlock ∧ some k_ ≠ (u460003 : Value).ownBlock) u460000 x460000_1) ∧ Aside0 (Kd.R (Kd.int .i64) 3 w' w.heap.size (fun k_ => some k_ ≠ (u460000 : Value).ownBlock ∧ some k_ ≠ (u460003 : Value).ownBlock) u460001 x460001_1) ∧ Aside0 (Kd.R Kd.bool 4 w' w.heap.size (fun _ => True) u460002 x460002_1) ∧ Aside0 (Kd.R (Kd.int .i64) 3 w' w.heap.size (fun k_ => some k_ ≠ (u460000 : Value).ownBlock ∧ some k_ ≠ (u460001 : Value).ownBlock) u460003 x460003_1) ∧ Aside0 (w'.heap[gb446]? = some (.cells #[(.slice none 0 0), (.slice none 0 0), (.slice none 0 0), (.slice none 0 0)] 33 (0, 0))) ∧ Aside0 (w'.heap[gb459]? = some (.cells #[u460000, u460001, u460002, u460003] 33 (0, 0))) ∧ Aside0 (Below w.heap.size w w'))
 case atStart => exact ⟨(a1), (t447), (t450), (t453), (t456), (.slice Ao7 t447.length co7), (.slice Ao10 t450.length co10), (.slice Ao11 t453.length co11), (.slice Ao12 t456.length co12), Q8, H', ⟨Nat.le_refl _⟩, ⟨Yj (Yf4 HO449.out BK459.out) (fun _ hk => ⟨hk.1.1, hk.1.2⟩)⟩, ⟨Yj (Yf4 HO452.out BK459.out) (fun _ hk => ⟨hk.1.1, hk.1.2⟩)⟩, ⟨Yj (Yf4 HO455.out BK459.out) (fun _ hk => trivial)⟩, ⟨Yj (Yf4 HO458.out BK459.out) (fun _ hk => ⟨hk.1.1, hk.1.2⟩)⟩, ⟨by (with_reducible repeat (first | refine Z24 ?_ _ | refine Z25 ?_ | refine Z26 ?_ _)); refine blk_far ?_ NB446_459.out _; (with_reducible repeat (first | refine Z24 ?_ _ | refine Z25 ?_ | refine Z26 ?_ _)); refine blk_far ?_ NB446_459.out _; (with_reducible repeat (first | refine Z24 ?_ _ | refine Z25 ?_ | refine Z26 ?_ _)); refine blk_far ?_ NB446_459.out _; (with_reducible repeat (first | refine Z24 ?_ _ | refine Z25 ?_ | refine Z26 ?_ _)); refine blk_far ?_ NB446_459.out _; (with_reducible repeat (first | refine Z24 ?_ _ | refine Z25 ?_ | refine Z26 ?_ _)); exact BK446.out⟩, ⟨by (with_reducible repeat (first | refine Z24 ?_ _ | refine Z25 ?_ | refine Z26 ?_ _)); refine Z28 (cs := #[.slice Ao7 t447.length co7, .slice Ao10 t450.length co10, .slice Ao11 t453.length co11, .slice none 0 0]) ?_ 3 _ rfl; (with_reducible repeat (first | refine Z24 ?_ _ | refine Z25 ?_ | refine Z26 ?_ _)); refine Z28 (cs := #[.slice Ao7 t447.length co7, .slice Ao10 t450.length co10, .slice none 0 0, .slice none 0 0]) ?_ 2 _ rfl; (with_reducible repeat (first | refine Z24 ?_ _ | refine Z25 ?_ | refine Z26 ?_ _)); refine Z28 (cs := #[.slice Ao7 t447.length co7, .slice none 0 0, .slice none 0 0, .slice none 0 0]) ?_ 1 _ rfl; (with_reducible repeat (first | refine Z24 ?_ _ | refine Z25 ?_ | refine Z26 ?_ _)); refine Z28 (cs := YN4) ?_ 0 _ rfl; (with_reducible repeat (first | refine Z24 ?_ _ | refine Z25 ?_ | refine Z26 ?_ _)); exact BK459.out⟩, ⟨Q12⟩⟩
 case round =>
  clear H'
  try clear p2
  try clear c4
  try clear c5
  try clear c8
  try clear hcz9_0
  try clear hcz9_1
  try clear hcz9_2
  try clear hcz9_3
  try clear hfz9_0
  try clear hfz9_1
  try clear hfz9_2
  try clear hfz9_3
  obtain ⟨x1_1, x460000_1, x460001_1, x460002_1, x460003_1, u460000, u460001, u460002, u460003, rfl, HA, HK1, HO_460000, HO_460001, HO_460002, HO_460003, BK446, BK459, HB⟩ := hrel
  cases gk with
  | zero => exact absurd HA.out (by simp [spec_foAt.l0])
  | succ k1 =>
   have H := HA.out
   clear HA
   simp only [spec_foAt.l0] at H
   by_cases c13 : x1_1 > 0
   ·rw [if_pos c13] at H
    have c13b0 : decide (0 < x1_1) = true := Z37 c13
    clear c13
    replace H := Z35.mp H
    obtain ⟨⟨t460, t463, t466, t469, t472⟩, A140, H⟩ := H
    replace H : (if t472 < 0 then (some (([] : List Int), ([] : List Int), ([] : List Bool), ([] : List Int), false)) else (spec_foAt.l0 k1 (wrap64 (x1_1 - 1)) t460 t463 t466 t469)) = some (r1, r2, r3, r4, r5) := H
    have A14 := Ya A140
    clear A140
    by_cases c15 : t472 < 0
    ·rw [if_pos c15] at H
     have c15b0 := Z37 c15
     clear c15
     simp only [Option.some.injEq, Prod.mk.injEq] at H
     obtain ⟨rfl, rfl, rfl, rfl, rfl⟩ := H
     have hnb16 := NB459_446.out
     have hnc16 := NB446_459.out
     obtain ⟨hcz17_0, hcz17_1, hcz17_2, hcz17_3, hfz17_0, hfz17_1, hfz17_2, hfz17_3⟩ := Y4 BK459.out
     obtain ⟨Ao18, co18, rfl⟩ := Z17 HO_460000.out
     obtain ⟨Ao19, co19, rfl⟩ := Z17 HO_460001.out
     obtain ⟨Ao20, co20, rfl⟩ := Z17 HO_460002.out
     obtain ⟨Ao21, co21, rfl⟩ := Z17 HO_460003.out
     go_wp2_with (first | ((with_reducible refine gate_callee (f := 50) rfl ?_); refine Yz 17 Try.func50 #[.agg #[.slice Ao18 x460000_1.length co18, .slice Ao19 x460001_1.length co19, .slice Ao20 x460002_1.length co20, .slice Ao21 x460003_1.length co21]] ?_; (with_reducible refine (spec_foStep.calls _ _ x460000_1 _ _ x460001_1 _ _ x460002_1 _ _ x460003_1 t460 t463 t466 t469 t472 _ (Yc (Kd.R_reads' HO_460000.out).2.2) ((Kd.R_reads' HO_460000.out).2.1) (Yc (Kd.R_reads' HO_460001.out).2.2) ((Kd.R_reads' HO_460001.out).2.1) (Yc (Kd.R_reads' HO_460002.out).2.2) ((Kd.R_reads' HO_460002.out).2.1) (Yc (Kd.R_reads' HO_460003.out).2.2) ((Kd.R_reads' HO_460003.out).2.1) A14.out).mono ?_); rintro e w22 ⟨v461, v464, v467, v470, rfl, ho0, ho1, ho2, ho3, hb⟩; refine ⟨_, rfl, ?_⟩; have HO462 := Yl (Kd.R_new' (Kd.R_new' (Kd.R_new' ho0 (Z16 (Yr HO_460000.out))) (Z16 (Yr HO_460001.out))) (Z16 (Yr HO_460003.out))); have HO465 := Yl (Kd.R_new' (Kd.R_new' (Kd.R_new' ho1 (Z16 (Yr HO_460000.out))) (Z16 (Yr HO_460001.out))) (Z16 (Yr HO_460003.out))); have HO468 := Yl (Kd.R_new' ho2 (Z16 (Yr HO_460002.out))); replace HO_460002 := Ya (Kd.R_elder' (Yr HO_460002.out) (Kd.R_base ho2) hb); have HO471 := Yl (Kd.R_new' (Kd.R_new' (Kd.R_new' ho3 (Z16 (Yr HO_460000.out))) (Z16 (Yr HO_460001.out))) (Z16 (Yr HO_460003.out))); replace HO_460000 := Ya (Z11 (Z14 (Z14 (Z14 (Z15 (Yr HO_460000.out) hb) (Kd.R_base ho0)) (Kd.R_base ho1)) (Kd.R_base ho3)) (fun _ h_ => h_.1)); replace HO_460001 := Ya (Z11 (Z14 (Z14 (Z14 (Z15 (Yr HO_460001.out) hb) (Kd.R_base ho0)) (Kd.R_base ho1)) (Kd.R_base ho3)) (fun _ h_ => h_.1)); replace HO_460003 := Ya (Z11 (Z14 (Z14 (Z14 (Z15 (Yr HO_460003.out) hb) (Kd.R_base ho0)) (Kd.R_base ho1)) (Kd.R_base ho3)) (fun _ h_ => h_.1)); replace BK446 := Yb BK446 hb; replace BK459 := Yb BK459 hb; replace HB := Yh hb; (try clear hb ho0 ho1 ho2 ho3)) | ((with_reducible refine gate_dst (N := 7) rfl ?_); refine Yx 7 YN4 33 ?_; intro gb473 hg w23 hbox hb; replace HO_460000 := Yw HO_460000 hb; replace HO_460001 := Yw HO_460001 hb; replace HO_460002 := Yw HO_460002 hb; replace HO_460003 := Yw HO_460003 hb; replace HO462 := Yw HO462 hb; replace HO465 := Yw HO465 hb; replace HO468 := Yw HO468 hb; replace HO471 := Yw HO471 hb; have BK473 := Ya hbox; have GE473 := Yg hg; replace HB := Yh hb; have NB446_473 := Yn BK446 hg; have NB473_446 := Ym BK446 hg; replace BK446 := Yb BK446 hb; have NB459_473 := Yn BK459 hg; have NB473_459 := Ym BK459 hg; replace BK459 := Yb BK459 hb; clear hb hbox hg; obtain ⟨Ao24, co24, rfl⟩ := Z17 HO462.out; have hnb25 := NB473_446.out; have hnc25 := NB446_473.out; have hnb26 := NB473_459.out; have hnc26 := NB459_473.out; have hz27 := Y4 BK473.out; obtain ⟨Ao28, co28, rfl⟩ := Z17 HO465.out; obtain ⟨Ao29, co29, rfl⟩ := Z17 HO468.out; obtain ⟨Ao30, co30, rfl⟩ := Z17 HO471.out; have hz31 := Y4 BK446.out))
     refine bodyPost_ret (results_ct rfl _ _ gb446 33 YN4 (0, 0) _ rfl (Yk (Yv4 (Yo4 BK446.out NB446_473.out))) Try.underlying33 rfl (by kernel_rfl)) rfl ?_
     exact ⟨_, _, _, _, Q1, Q4, Q4, Q4, Q4, Q12⟩
    ·rw [if_neg c15] at H
     have c15b0 := Z36 c15
     clear c15
     have H' := Ya H
     clear H
     have hnb32 := NB459_446.out
     have hnc32 := NB446_459.out
     have hz33 := Y4 BK459.out
     obtain ⟨Ao34, co34, rfl⟩ := Z17 HO_460000.out
     obtain ⟨Ao35, co35, rfl⟩ := Z17 HO_460001.out
     obtain ⟨Ao36, co36, rfl⟩ := Z17 HO_460002.out
     obtain ⟨Ao37, co37, rfl⟩ := Z17 HO_460003.out
     go_wp2_with (first | ((with_reducible refine gate_callee (f := 50) rfl ?_); refine Yz 17 Try.func50 #[.agg #[.slice Ao34 x460000_1.length co34, .slice Ao35 x460001_1.length co35, .slice Ao36 x460002_1.length co36, .slice Ao37 x460003_1.length co37]] ?_; (with_reducible refine (spec_foStep.calls _ _ x460000_1 _ _ x460001_1 _ _ x460002_1 _ _ x460003_1 t460 t463 t466 t469 t472 _ (Yc (Kd.R_reads' HO_460000.out).2.2) ((Kd.R_reads' HO_460000.out).2.1) (Yc (Kd.R_reads' HO_460001.out).2.2) ((Kd.R_reads' HO_460001.out).2.1) (Yc (Kd.R_reads' HO_460002.out).2.2) ((Kd.R_reads' HO_460002.out).2.1) (Yc (Kd.R_reads' HO_460003.out).2.2) ((Kd.R_reads' HO_460003.out).2.1) A14.out).mono ?_); rintro e w38 ⟨v461, v464, v467, v470, rfl, ho0, ho1, ho2, ho3, hb⟩; refine ⟨_, rfl, ?_⟩; have HO462 := Yl (Kd.R_new' (Kd.R_new' (Kd.R_new' ho0 (Z16 (Yr HO_460000.out))) (Z16 (Yr HO_460001.out))) (Z16 (Yr HO_460003.out))); have HO465 := Yl (Kd.R_new' (Kd.R_new' (Kd.R_new' ho1 (Z16 (Yr HO_460000.out))) (Z16 (Yr HO_460001.out))) (Z16 (Yr HO_460003.out))); have HO468 := Yl (Kd.R_new' ho2 (Z16 (Yr HO_460002.out))); replace HO_460002 := Ya (Kd.R_elder' (Yr HO_460002.out) (Kd.R_base ho2) hb); have HO471 := Yl (Kd.R_new' (Kd.R_new' (Kd.R_new' ho3 (Z16 (Yr HO_460000.out))) (Z16 (Yr HO_460001.out))) (Z16 (Yr HO_460003.out))); replace HO_460000 := Ya (Z11 (Z14 (Z14 (Z14 (Z15 (Yr HO_460000.out) hb) (Kd.R_base ho0)) (Kd.R_base ho1)) (Kd.R_base ho3)) (fun _ h_ => h_.1)); replace HO_460001 := Ya (Z11 (Z14 (Z14 (Z14 (Z15 (Yr HO_460001.out) hb) (Kd.R_base ho0)) (Kd.R_base ho1)) (Kd.R_base ho3)) (fun _ h_ => h_.1)); replace HO_460003 := Ya (Z11 (Z14 (Z14 (Z14 (Z15 (Yr HO_460003.out) hb) (Kd.R_base ho0)) (Kd.R_base ho1)) (Kd.R_base ho3)) (fun _ h_ => h_.1)); replace BK446 := Yb BK446 hb; replace BK459 := Yb BK459 hb; replace HB := Yh hb; (try clear hb ho0 ho1 ho2 ho3)) | ((with_reducible refine gate_dst (N := 7) rfl ?_); refine Yx 7 YN4 33 ?_; intro gb473 hg w39 hbox hb; replace HO_460000 := Yw HO_460000 hb; replace HO_460001 := Yw HO_460001 hb; replace HO_460002 := Yw HO_460002 hb; replace HO_460003 := Yw HO_460003 hb; replace HO462 := Yw HO462 hb; replace HO465 := Yw HO465 hb; replace HO468 := Yw HO468 hb; replace HO471 := Yw HO471 hb; have BK473 := Ya hbox; have GE473 := Yg hg; replace HB := Yh hb; have NB446_473 := Yn BK446 hg; have NB473_446 := Ym BK446 hg; replace BK446 := Yb BK446 hb; have NB459_473 := Yn BK459 hg; have NB473_459 := Ym BK459 hg; replace BK459 := Yb BK459 hb; clear hb hbox hg; obtain ⟨Ao40, co40, rfl⟩ := Z17 HO462.out; have hnb41 := NB473_446.out; have hnc41 := NB446_473.out; have hnb42 := NB473_459.out; have hnc42 := NB459_473.out; have hz43 := Y4 BK473.out; obtain ⟨Ao44, co44, rfl⟩ := Z17 HO465.out; obtain ⟨Ao45, co45, rfl⟩ := Z17 HO468.out; obtain ⟨Ao46, co46, rfl⟩ := Z17 HO471.out; have hz47 := Y4 BK459.out))
     go_roundg k1
     case measure => have := HK1.out; omega
     case rel => exact ⟨(wrap64 (x1_1 - 1)), (t460), (t463), (t466), (t469), (.slice Ao40 t460.length co40), (.slice Ao44 t463.length co44), (.slice Ao45 t466.length co45), (.slice Ao46 t469.length co46), Q8, H', ⟨Q23⟩, ⟨Yj (Yd4 HO462.out BK473.out BK459.out) (fun _ hk => ⟨hk.1.1.1.1.1.1, hk.1.1.1.1.1.2⟩)⟩, ⟨Yj (Yd4 HO465.out BK473.out BK459.out) (fun _ hk => ⟨hk.1.1.1.1.1.1, hk.1.1.1.1.1.2⟩)⟩, ⟨Yj (Yd4 HO468.out BK473.out BK459.out) (fun _ hk => trivial)⟩, ⟨Yj (Yd4 HO471.out BK473.out BK459.out) (fun _ hk => ⟨hk.1.1.1.1.1.1, hk.1.1.1.1.1.2⟩)⟩, ⟨by (with_reducible repeat (first | refine Z24 ?_ _ | refine Z25 ?_ | refine Z26 ?_ _)); refine blk_far ?_ NB446_459.out _; (with_reducible repeat (first | refine Z24 ?_ _ | refine Z25 ?_ | refine Z26 ?_ _)); refine blk_far ?_ NB446_459.out _; (with_reducible repeat (first | refine Z24 ?_ _ | refine Z25 ?_ | refine Z26 ?_ _)); refine blk_far ?_ NB446_459.out _; (with_reducible repeat (first | refine Z24 ?_ _ | refine Z25 ?_ | refine Z26 ?_ _)); refine blk_far ?_ NB446_459.out _; (with_reducible repeat (first | refine Z24 ?_ _ | refine Z25 ?_ | refine Z26 ?_ _)); refine blk_far ?_ NB446_473.out _; (with_reducible repeat (first | refine Z24 ?_ _ | refine Z25 ?_ | refine Z26 ?_ _)); refine blk_far ?_ NB446_473.out _; (with_reducible repeat (first | refine Z24 ?_ _ | refine Z25 ?_ | refine Z26 ?_ _)); refine blk_far ?_ NB446_473.out _; (with_reducible repeat (first | refine Z24 ?_ _ | refine Z25 ?_ | refine Z26 ?_ _)); refine blk_far ?_ NB446_473.out _; (with_reducible repeat (first | refine Z24 ?_ _ | refine Z25 ?_ | refine Z26 ?_ _)); exact BK446.out⟩, ⟨by (with_reducible repeat (first | refine Z24 ?_ _ | refine Z25 ?_ | refine Z26 ?_ _)); refine Z28 (cs := #[.slice Ao40 t460.length co40, .slice Ao44 t463.length co44, .slice Ao45 t466.length co45, .slice Ao37 x460003_1.length co37]) ?_ 3 _ rfl; (with_reducible repeat (first | refine Z24 ?_ _ | refine Z25 ?_ | refine Z26 ?_ _)); refine Z28 (cs := #[.slice Ao40 t460.length co40, .slice Ao44 t463.length co44, .slice Ao36 x460002_1.length co36, .slice Ao37 x460003_1.length co37]) ?_ 2 _ rfl; (with_reducible repeat (first | refine Z24 ?_ _ | refine Z25 ?_ | refine Z26 ?_ _)); refine Z28 (cs := #[.slice Ao40 t460.length co40, .slice Ao35 x460001_1.length co35, .slice Ao36 x460002_1.length co36, .slice Ao37 x460003_1.length co37]) ?_ 1 _ rfl; (with_reducible repeat (first | refine Z24 ?_ _ | refine Z25 ?_ | refine Z26 ?_ _)); refine Z28 (cs := #[.slice Ao34 x460000_1.length co34, .slice Ao35 x460001_1.length co35, .slice Ao36 x460002_1.length co36, .slice Ao37 x460003_1.length co37]) ?_ 0 _ rfl; (with_reducible repeat (first | refine Z24 ?_ _ | refine Z25 ?_ | refine Z26 ?_ _)); refine blk_far ?_ NB459_473.out _; (with_reducible repeat (first | refine Z24 ?_ _ | refine Z25 ?_ | refine Z26 ?_ _)); refine blk_far ?_ NB459_473.out _; (with_reducible repeat (first | refine Z24 ?_ _ | refine Z25 ?_ | refine Z26 ?_ _)); refine blk_far ?_ NB459_473.out _; (with_reducible repeat (first | refine Z24 ?_ _ | refine Z25 ?_ | refine Z26 ?_ _)); refine blk_far ?_ NB459_473.out _; (with_reducible repeat (first | refine Z24 ?_ _ | refine Z25 ?_ | refine Z26 ?_ _)); exact BK459.out⟩, ⟨Q12⟩⟩
   ·rw [if_neg c13] at H
    have c13b0 : decide (0 < x1_1) = false := Z36 c13
    clear c13
    simp only [Option.some.injEq, Prod.mk.injEq] at H
    obtain ⟨rfl, rfl, rfl, rfl, rfl⟩ := H
    have hnb48 := NB459_446.out
    have hnc48 := NB446_459.out
    have hz49 := Y4 BK459.out
    obtain ⟨Ao50, co50, rfl⟩ := Z17 HO_460000.out
    have hz51 := Y4 BK446.out
    obtain ⟨Ao52, co52, rfl⟩ := Z17 HO_460001.out
    obtain ⟨Ao53, co53, rfl⟩ := Z17 HO_460002.out
    obtain ⟨Ao54, co54, rfl⟩ := Z17 HO_460003.out
    go_wp2
    refine bodyPost_ret (results_ct rfl _ _ gb446 33 #[.slice Ao50 x460000_1.length co50, .slice Ao52 x460001_1.length co52, .slice Ao53 x460002_1.length co53, .slice Ao54 x460003_1.length co54] (0, 0) _ rfl (Yk (Yv4 BK446.out)) Try.underlying33 rfl (by kernel_rfl)) rfl ?_
    exact ⟨_, _, _, _, Q1, Yj (Yf4 HO_460000.out BK446.out) (fun _ hk => ⟨hk.1.1, hk.1.2⟩), Yj (Yf4 HO_460001.out BK446.out) (fun _ hk => ⟨hk.1.1, hk.1.2⟩), Yj (Yf4 HO_460002.out BK446.out) (fun _ hk => trivial), Yj (Yf4 HO_460003.out BK446.out) (fun _ hk => ⟨hk.1.1, hk.1.2⟩), Q12⟩
def spec_FocusAt.f (k : Nat) (l0 : List Int) (a1 : Int) : Option (List Int × List Int × List Bool × List Int × Bool) := (spec_foBases.f k l0).bind fun t475 => (if t475 = true then ((spec_raProduct.f k l0).bind fun t476 => ((spec_l1In.f a1 0 (wrap64 (t476 - 1))).bind fun t477 => (if t477 = true then ((spec_foAt.f k l0 a1).bind fun bt478 => (some (bt478.1, bt478.2.1, bt478.2.2.1, bt478.2.2.2.1, bt478.2.2.2.2))) else (some (([] : List Int), ([] : List Int), ([] : List Bool), ([] : List Int), false))))) else (some (([] : List Int), ([] : List Int), ([] : List Bool), ([] : List Int), false)))
theorem spec_FocusAt.mono : ∀ a0 a1 k, LeO (spec_FocusAt.f k a0 a1) (spec_FocusAt.f (k + 1) a0 a1) := by
 intro a0 a1 k
 unfold spec_FocusAt.f
 repeat' first
   | (with_reducible exact spec_foAt.mono _ _ _)
   | (with_reducible exact spec_foBases.mono _ _)
   | (with_reducible exact spec_raProduct.mono _ _)
   | (with_reducible exact LeO.refl _)
   | (with_reducible exact LeO.none _)
   | (with_reducible refine LeO.ite ?_ ?_)
   | (with_reducible refine LeO.bind ?_ (fun _ => ?_))
   | exact spec_foAt.mono _ _ _
   | exact spec_foBases.mono _ _
   | exact spec_raProduct.mono _ _
   | exact LeO.none _
   | refine LeO.ite ?_ ?_
   | refine LeO.bind ?_ (fun _ => ?_)
set_option maxHeartbeats 8000000 in
set_option maxRecDepth 100000 in
theorem spec_FocusAt.calls (k : Nat) (A0 : Option Addr) (c0 : Nat) (l0 : List Int) (a1 : Int) (r1 : List Int) (r2 : List Int) (r3 : List Bool) (r4 : List Int) (r5 : Bool) (w : World) (hr0 : Kd.C (Kd.int .i64) w A0 l0.length l0) (hc0 : l0.length ≤ c0) (h : spec_FocusAt.f k l0 a1 = some (r1, r2, r3, r4, r5)) :
  Calls Try.prog 16 #[.slice A0 l0.length c0, .int .i64 a1] w fun e w' => ∃ v0_ v1_ v2_ v3_ : Value, e = .returned (.tuple #[.agg #[v0_, v1_, v2_, v3_], .bool r5]) ∧ Kd.R (Kd.int .i64) 3 w' w.heap.size (fun k_ => some k_ ≠ (v1_ : Value).ownBlock ∧ some k_ ≠ (v3_ : Value).ownBlock) v0_ r1 ∧ Kd.R (Kd.int .i64) 3 w' w.heap.size (fun k_ => some k_ ≠ (v0_ : Value).ownBlock ∧ some k_ ≠ (v3_ : Value).ownBlock) v1_ r2 ∧ Kd.R Kd.bool 4 w' w.heap.size (fun _ => True) v2_ r3 ∧ Kd.R (Kd.int .i64) 3 w' w.heap.size (fun k_ => some k_ ≠ (v0_ : Value).ownBlock ∧ some k_ ≠ (v1_ : Value).ownBlock) v3_ r4 ∧ Below w.heap.size w w' := by
 have hu33 := Try.underlying33
 have HR0 := Ya hr0
 have HC0 := Ya hc0
 clear hr0 hc0
 have HB := Ya (Below.refl w.heap.size w)
 have H : ((spec_foBases.f k l0).bind fun t475 => (if t475 = true then ((spec_raProduct.f k l0).bind fun t476 => ((spec_l1In.f a1 0 (wrap64 (t476 - 1))).bind fun t477 => (if t477 = true then ((spec_foAt.f k l0 a1).bind fun bt478 => (some (bt478.1, bt478.2.1, bt478.2.2.1, bt478.2.2.2.1, bt478.2.2.2.2))) else (some (([] : List Int), ([] : List Int), ([] : List Bool), ([] : List Int), false))))) else (some (([] : List Int), ([] : List Int), ([] : List Bool), ([] : List Int), false)))) = some (r1, r2, r3, r4, r5) := h
 clear h
 replace H := Z35.mp H
 obtain ⟨t475, A30, H⟩ := H
 replace H : (if t475 = true then ((spec_raProduct.f k l0).bind fun t476 => ((spec_l1In.f a1 0 (wrap64 (t476 - 1))).bind fun t477 => (if t477 = true then ((spec_foAt.f k l0 a1).bind fun bt478 => (some (bt478.1, bt478.2.1, bt478.2.2.1, bt478.2.2.2.1, bt478.2.2.2.2))) else (some (([] : List Int), ([] : List Int), ([] : List Bool), ([] : List Int), false))))) else (some (([] : List Int), ([] : List Int), ([] : List Bool), ([] : List Int), false))) = some (r1, r2, r3, r4, r5) := H
 have A3 := Ya A30
 clear A30
 by_cases c4 : t475 = true
 ·subst c4
  have H1 : ((spec_raProduct.f k l0).bind fun t476 => ((spec_l1In.f a1 0 (wrap64 (t476 - 1))).bind fun t477 => (if t477 = true then ((spec_foAt.f k l0 a1).bind fun bt478 => (some (bt478.1, bt478.2.1, bt478.2.2.1, bt478.2.2.2.1, bt478.2.2.2.2))) else (some (([] : List Int), ([] : List Int), ([] : List Bool), ([] : List Int), false))))) = some (r1, r2, r3, r4, r5) := by rw [if_pos rfl] at H; exact H
  clear H
  have H := H1
  clear H1
  replace H := Z35.mp H
  obtain ⟨t476, A50, H⟩ := H
  replace H : ((spec_l1In.f a1 0 (wrap64 (t476 - 1))).bind fun t477 => (if t477 = true then ((spec_foAt.f k l0 a1).bind fun bt478 => (some (bt478.1, bt478.2.1, bt478.2.2.1, bt478.2.2.2.1, bt478.2.2.2.2))) else (some (([] : List Int), ([] : List Int), ([] : List Bool), ([] : List Int), false)))) = some (r1, r2, r3, r4, r5) := H
  have A5 := Ya A50
  clear A50
  replace H := Z35.mp H
  obtain ⟨t477, A60, H⟩ := H
  replace H : (if t477 = true then ((spec_foAt.f k l0 a1).bind fun bt478 => (some (bt478.1, bt478.2.1, bt478.2.2.1, bt478.2.2.2.1, bt478.2.2.2.2))) else (some (([] : List Int), ([] : List Int), ([] : List Bool), ([] : List Int), false))) = some (r1, r2, r3, r4, r5) := H
  have A6 := Ya A60
  clear A60
  by_cases c7 : t477 = true
  ·subst c7
   have H1 : ((spec_foAt.f k l0 a1).bind fun bt478 => (some (bt478.1, bt478.2.1, bt478.2.2.1, bt478.2.2.2.1, bt478.2.2.2.2))) = some (r1, r2, r3, r4, r5) := by rw [if_pos rfl] at H; exact H
   clear H
   have H := H1
   clear H1
   replace H := Z35.mp H
   obtain ⟨⟨t478, t481, t484, t487, t490⟩, A80, H⟩ := H
   replace H : (some (t478, t481, t484, t487, t490)) = some (r1, r2, r3, r4, r5) := H
   have A8 := Ya A80
   clear A80
   simp only [Option.some.injEq, Prod.mk.injEq] at H
   obtain ⟨rfl, rfl, rfl, rfl, rfl⟩ := H
   go_enter Try.func16, Try.ntmps16
   go_wp2_with (first | ((with_reducible refine gate_dst (N := 4) rfl ?_); refine Yx 4 YN4 33 ?_; intro gb474 hg w9 hbox hb; have BK474 := Ya hbox; have GE474 := Yg hg; replace HB := Yh hb; clear hb hbox hg) | ((with_reducible refine gate_callee (f := 32) rfl ?_); refine Yz 7 Try.func32 #[.slice A0 l0.length c0] ?_; (with_reducible refine (spec_foBases.calls k _ _ l0 true _ (Yc (Z21 HR0.out HB.out)) HC0.out A3.out).mono ?_); rintro e w' ⟨rfl, ⟨nd, rfl⟩⟩; refine ⟨_, rfl, ?_⟩; (try (rw [drewN_self w9]; generalize hq_ : World.drewN w9 _ = w9; replace BK474 : Aside0 (w9.heap[gb474]? = some (.cells YN4 33 (0, 0))) := ⟨Q32⟩; replace HB : Aside0 (Below w.heap.size w w9) := ⟨by rw [← hq_]; exact Q0⟩; clear hq_))) | (go_at_call 40; (with_reducible refine (spec_raProduct.calls k _ _ l0 t476 _ (Yc (Z21 HR0.out HB.out)) HC0.out A5.out).mono ?_); rintro e w' ⟨rfl, ⟨nd, rfl⟩⟩; (try (rw [drewN_self w9]; generalize hq_ : World.drewN w9 _ = w9; replace BK474 : Aside0 (w9.heap[gb474]? = some (.cells YN4 33 (0, 0))) := ⟨Q32⟩; replace HB : Aside0 (Below w.heap.size w w9) := ⟨by rw [← hq_]; exact Q0⟩; clear hq_))) | (go_at_call 33; (with_reducible refine (spec_l1In.calls a1 0 (wrap64 (t476 - 1)) true _ A6.out).mono ?_); rintro e w' ⟨rfl, ⟨nd, rfl⟩⟩; (try (rw [drewN_self w9]; generalize hq_ : World.drewN w9 _ = w9; replace BK474 : Aside0 (w9.heap[gb474]? = some (.cells YN4 33 (0, 0))) := ⟨Q32⟩; replace HB : Aside0 (Below w.heap.size w w9) := ⟨by rw [← hq_]; exact Q0⟩; clear hq_))) | ((with_reducible refine gate_callee (f := 43) rfl ?_); refine Yz 20 Try.func43 #[.slice A0 l0.length c0, .int .i64 a1] ?_; (with_reducible refine (spec_foAt.calls k _ _ l0 a1 t478 t481 t484 t487 t490 _ (Yc (Z21 HR0.out HB.out)) HC0.out A8.out).mono ?_); rintro e w10 ⟨v479, v482, v485, v488, rfl, ho0, ho1, ho2, ho3, hb⟩; refine ⟨_, rfl, ?_⟩; have HO480 := Yl ho0; have HO483 := Yl ho1; have HO486 := Yl ho2; have HO489 := Yl ho3; replace BK474 := Yb BK474 hb; replace HB := Yh hb; (try clear hb ho0 ho1 ho2 ho3); obtain ⟨Ao11, co11, rfl⟩ := Z17 HO480.out; have hz12 := Y4 BK474.out; obtain ⟨Ao13, co13, rfl⟩ := Z17 HO483.out; obtain ⟨Ao14, co14, rfl⟩ := Z17 HO486.out; obtain ⟨Ao15, co15, rfl⟩ := Z17 HO489.out))
   refine bodyPost_ret (results_ct rfl _ _ gb474 33 #[.slice Ao11 t478.length co11, .slice Ao13 t481.length co13, .slice Ao14 t484.length co14, .slice Ao15 t487.length co15] (0, 0) _ rfl (Yk (Yv4 BK474.out)) Try.underlying33 rfl (by kernel_rfl)) rfl ?_
   exact ⟨_, _, _, _, Q1, Yj (Yf4 HO480.out BK474.out) (fun _ hk => ⟨hk.1.1, hk.1.2⟩), Yj (Yf4 HO483.out BK474.out) (fun _ hk => ⟨hk.1.1, hk.1.2⟩), Yj (Yf4 HO486.out BK474.out) (fun _ hk => trivial), Yj (Yf4 HO489.out BK474.out) (fun _ hk => ⟨hk.1.1, hk.1.2⟩), Q12⟩
  ·replace c7 := Bool.eq_false_iff.mpr c7
   subst c7
   have H1 : (some (([] : List Int), ([] : List Int), ([] : List Bool), ([] : List Int), false)) = some (r1, r2, r3, r4, r5) := by rw [if_neg (show ¬ (false = true) by decide)] at H; exact H
   clear H
   have H := H1
   clear H1
   simp only [Option.some.injEq, Prod.mk.injEq] at H
   obtain ⟨rfl, rfl, rfl, rfl, rfl⟩ := H
   go_enter Try.func16, Try.ntmps16
   go_wp2_with (first | ((with_reducible refine gate_dst (N := 4) rfl ?_); refine Yx 4 YN4 33 ?_; intro gb474 hg w16 hbox hb; have BK474 := Ya hbox; have GE474 := Yg hg; replace HB := Yh hb; clear hb hbox hg) | ((with_reducible refine gate_callee (f := 32) rfl ?_); refine Yz 7 Try.func32 #[.slice A0 l0.length c0] ?_; (with_reducible refine (spec_foBases.calls k _ _ l0 true _ (Yc (Z21 HR0.out HB.out)) HC0.out A3.out).mono ?_); rintro e w' ⟨rfl, ⟨nd, rfl⟩⟩; refine ⟨_, rfl, ?_⟩; (try (rw [drewN_self w16]; generalize hq_ : World.drewN w16 _ = w16; replace BK474 : Aside0 (w16.heap[gb474]? = some (.cells YN4 33 (0, 0))) := ⟨Q32⟩; replace HB : Aside0 (Below w.heap.size w w16) := ⟨by rw [← hq_]; exact Q0⟩; clear hq_))) | (go_at_call 40; (with_reducible refine (spec_raProduct.calls k _ _ l0 t476 _ (Yc (Z21 HR0.out HB.out)) HC0.out A5.out).mono ?_); rintro e w' ⟨rfl, ⟨nd, rfl⟩⟩; (try (rw [drewN_self w16]; generalize hq_ : World.drewN w16 _ = w16; replace BK474 : Aside0 (w16.heap[gb474]? = some (.cells YN4 33 (0, 0))) := ⟨Q32⟩; replace HB : Aside0 (Below w.heap.size w w16) := ⟨by rw [← hq_]; exact Q0⟩; clear hq_))) | (go_at_call 33; (with_reducible refine (spec_l1In.calls a1 0 (wrap64 (t476 - 1)) false _ A6.out).mono ?_); rintro e w' ⟨rfl, ⟨nd, rfl⟩⟩; (try (rw [drewN_self w16]; generalize hq_ : World.drewN w16 _ = w16; replace BK474 : Aside0 (w16.heap[gb474]? = some (.cells YN4 33 (0, 0))) := ⟨Q32⟩; replace HB : Aside0 (Below w.heap.size w w16) := ⟨by rw [← hq_]; exact Q0⟩; clear hq_)); obtain ⟨hcz17_0, hcz17_1, hcz17_2, hcz17_3, hfz17_0, hfz17_1, hfz17_2, hfz17_3⟩ := Y4 BK474.out))
   refine bodyPost_ret (results_ct rfl _ _ gb474 33 YN4 (0, 0) _ rfl (Yk (Yv4 BK474.out)) Try.underlying33 rfl (by kernel_rfl)) rfl ?_
   exact ⟨_, _, _, _, Q1, Q4, Q4, Q4, Q4, Q12⟩
 ·replace c4 := Bool.eq_false_iff.mpr c4
  subst c4
  have H1 : (some (([] : List Int), ([] : List Int), ([] : List Bool), ([] : List Int), false)) = some (r1, r2, r3, r4, r5) := by rw [if_neg (show ¬ (false = true) by decide)] at H; exact H
  clear H
  have H := H1
  clear H1
  simp only [Option.some.injEq, Prod.mk.injEq] at H
  obtain ⟨rfl, rfl, rfl, rfl, rfl⟩ := H
  go_enter Try.func16, Try.ntmps16
  go_wp2_with (first | ((with_reducible refine gate_dst (N := 4) rfl ?_); refine Yx 4 YN4 33 ?_; intro gb474 hg w18 hbox hb; have BK474 := Ya hbox; have GE474 := Yg hg; replace HB := Yh hb; clear hb hbox hg) | ((with_reducible refine gate_callee (f := 32) rfl ?_); refine Yz 7 Try.func32 #[.slice A0 l0.length c0] ?_; (with_reducible refine (spec_foBases.calls k _ _ l0 false _ (Yc (Z21 HR0.out HB.out)) HC0.out A3.out).mono ?_); rintro e w' ⟨rfl, ⟨nd, rfl⟩⟩; refine ⟨_, rfl, ?_⟩; (try (rw [drewN_self w18]; generalize hq_ : World.drewN w18 _ = w18; replace BK474 : Aside0 (w18.heap[gb474]? = some (.cells YN4 33 (0, 0))) := ⟨Q32⟩; replace HB : Aside0 (Below w.heap.size w w18) := ⟨by rw [← hq_]; exact Q0⟩; clear hq_)); obtain ⟨hcz19_0, hcz19_1, hcz19_2, hcz19_3, hfz19_0, hfz19_1, hfz19_2, hfz19_3⟩ := Y4 BK474.out))
  refine bodyPost_ret (results_ct rfl _ _ gb474 33 YN4 (0, 0) _ rfl (Yk (Yv4 BK474.out)) Try.underlying33 rfl (by kernel_rfl)) rfl ?_
  exact ⟨_, _, _, _, Q1, Q4, Q4, Q4, Q4, Q12⟩
def laws_uBools.l0 : Nat → List Bool → List Bool → Int → Int → Option (Bool)
 | 0, _, _, _, _ => none
 | k + 1, x0, x1, x12, x13 => if x13 < x12 then (if 0 ≤ x13 then (if x13 < (x0.length : Int) then (if x13 < (x1.length : Int) then (if ((rdOf false x0 x13) != (rdOf false x1 x13)) = true then (some false) else (laws_uBools.l0 k x0 x1 x12 (wrap64 (x13 + 1)))) else (none)) else (none)) else (none)) else (some true)
def laws_uBools.f (k : Nat) (l0 : List Bool) (l1 : List Bool) : Option (Bool) := if (l0.length : Int) = (l1.length : Int) then (laws_uBools.l0 k l0 l1 (l0.length : Int) 0) else (some false)
theorem laws_uBools.mono_l : ∀ k, (∀ y0 y1 y2 y3, LeO (laws_uBools.l0 k y0 y1 y2 y3) (laws_uBools.l0 (k + 1) y0 y1 y2 y3))
 | 0 => fun _ _ _ _ r h => by simp [laws_uBools.l0] at h
 | k + 1 => by
  have ih0 := laws_uBools.mono_l k
  ·intro y0 y1 y2 y3
   unfold laws_uBools.l0
   repeat' first
   | (with_reducible exact ih0 _ _ _ _)
   | (with_reducible exact LeO.refl _)
   | (with_reducible exact LeO.none _)
   | (with_reducible refine LeO.ite ?_ ?_)
   | (with_reducible refine LeO.bind ?_ (fun _ => ?_))
   | exact ih0 _ _ _ _
   | exact LeO.none _
   | refine LeO.ite ?_ ?_
   | refine LeO.bind ?_ (fun _ => ?_)
theorem laws_uBools.mono : ∀ a0 a1 k, LeO (laws_uBools.f k a0 a1) (laws_uBools.f (k + 1) a0 a1) := by
 intro a0 a1 k
 have ih0 := laws_uBools.mono_l k
 unfold laws_uBools.f
 repeat' first
   | (with_reducible exact ih0 _ _ _ _)
   | (with_reducible exact LeO.refl _)
   | (with_reducible exact LeO.none _)
   | (with_reducible refine LeO.ite ?_ ?_)
   | (with_reducible refine LeO.bind ?_ (fun _ => ?_))
   | exact ih0 _ _ _ _
   | exact LeO.none _
   | refine LeO.ite ?_ ?_
   | refine LeO.bind ?_ (fun _ => ?_)
set_option maxHeartbeats 8000000 in
set_option maxRecDepth 100000 in
theorem laws_uBools.calls (k : Nat) (A0 : Option Addr) (c0 : Nat) (l0 : List Bool) (A1 : Option Addr) (c1 : Nat) (l1 : List Bool) (r : Bool) (w : World) (hr0 : Kd.C Kd.bool w A0 l0.length l0) (hc0 : l0.length ≤ c0) (hr1 : Kd.C Kd.bool w A1 l1.length l1) (hc1 : l1.length ≤ c1) (h : laws_uBools.f k l0 l1 = some r) :
  Calls Try.prog 44 #[.slice A0 l0.length c0, .slice A1 l1.length c1] w fun e w' => e = .returned (.bool r) ∧ Drawn0 w w' := by
 have HR0 := Ya hr0
 have HC0 := Ya hc0
 clear hr0 hc0
 have HR1 := Ya hr1
 have HC1 := Ya hc1
 clear hr1 hc1
 have H : (if (l0.length : Int) = (l1.length : Int) then (laws_uBools.l0 k l0 l1 (l0.length : Int) 0) else (some false)) = some r := h
 clear h
 by_cases c3 : (l0.length : Int) = (l1.length : Int)
 ·rw [if_pos c3] at H
  have c3b0 : ((l0.length : Int) == (l1.length : Int)) = true := beq_iff_eq.mpr c3
  have c3b1 : ((l0.length : Int) != (l1.length : Int)) = false := bne_eq_false_iff_eq.mpr c3
  have c3b2 : (l0.length == l1.length) = true := by first | simpa using c3 | (simp at c3 ⊢; omega)
  clear c3
  have H' := Ya H
  clear H
  go_enter Try.func44, Try.ntmps44
  go_wp2
  repeat (go_quiet (fail); try go_wp2)
  go_loopg [13] k (fun kq v13 w' => ∃ (x13_1 : Int), v13 = .int .i64 x13_1 ∧ Aside0 (laws_uBools.l0 kq l0 l1 (l0.length : Int) x13_1 = some r) ∧ Aside0 (kq ≤ k) ∧ Drawn0 w w')
  case atStart => exact ⟨(0), Q8, H', ⟨Nat.le_refl _⟩, Q11⟩
  case round =>
   clear H'
   try clear c1
   try clear p2
   try clear c3
   try clear c3b0
   try clear c3b1
   try clear c3b2
   obtain ⟨x13_1, rfl, HA, HK1, ⟨m1, rfl⟩⟩ := hrel
   cases gk with
   | zero => exact absurd HA.out (by simp [laws_uBools.l0])
   | succ k1 =>
    have H := HA.out
    clear HA
    simp only [laws_uBools.l0] at H
    by_cases c4 : x13_1 < (l0.length : Int)
    ·rw [if_pos c4] at H
     have c4b0 := Z37 c4
     clear c4
     by_cases c5 : 0 ≤ x13_1
     ·rw [if_pos c5] at H
      have c5b0 := Z37 c5
      clear c5
      by_cases c6 : x13_1 < (l0.length : Int)
      ·rw [if_pos c6] at H
       have c6b0 := Z37 c6
       clear c6
       by_cases c7 : x13_1 < (l1.length : Int)
       ·rw [if_pos c7] at H
        have c7b0 := Z37 c7
        clear c7
        by_cases c8 : ((rdOf false l0 x13_1) != (rdOf false l1 x13_1)) = true
        ·rw [if_pos c8] at H
         have c8b0 : ((rdOf false l0 x13_1) != (rdOf false l1 x13_1)) = true := c8
         (try (have c8b1 : decide ((rdOf false l0 x13_1) = (rdOf false l1 x13_1)) = false := by simpa using c8))
         (try (have c8b2 : ((rdOf false l0 x13_1) == (rdOf false l1 x13_1)) = false := by simpa using c8))
         (try (have c8b3 : ¬ ((rdOf false l0 x13_1) = (rdOf false l1 x13_1)) := by simpa using c8))
         clear c8
         obtain rfl := Option.some.inj H
         have p491 : 0 ≤ (x13_1 : Int) := Z29 Q3
         have q491 : x13_1 < (l0.length : Int) := Z29 Q3
         obtain ⟨ad491, e491, hx491_0⟩ := Kd.at_bool HR0.out x13_1 p491 q491
         cases e491
         replace p491 := eq_true p491
         replace q491 := eq_true q491
         have p492 : 0 ≤ (x13_1 : Int) := Z29 Q3
         have q492 : x13_1 < (l1.length : Int) := Z29 Q3
         obtain ⟨ad492, e492, hx492_0⟩ := Kd.at_bool HR1.out x13_1 p492 q492
         cases e492
         replace p492 := eq_true p492
         replace q492 := eq_true q492
         go_wp2
         repeat (go_quiet (fail); try go_wp2)
         go_ret
         exact ⟨Q15, Q11⟩
        ·rw [if_neg c8] at H
         have c8b0 : ((rdOf false l0 x13_1) != (rdOf false l1 x13_1)) = false := by simpa using c8
         (try (have c8b1 : decide ((rdOf false l0 x13_1) = (rdOf false l1 x13_1)) = true := by simpa using c8))
         (try (have c8b2 : ((rdOf false l0 x13_1) == (rdOf false l1 x13_1)) = true := by simpa using c8))
         clear c8
         have H' := Ya H
         clear H
         have p491 : 0 ≤ (x13_1 : Int) := Z29 Q3
         have q491 : x13_1 < (l0.length : Int) := Z29 Q3
         obtain ⟨ad491, e491, hx491_0⟩ := Kd.at_bool HR0.out x13_1 p491 q491
         cases e491
         replace p491 := eq_true p491
         replace q491 := eq_true q491
         have p492 : 0 ≤ (x13_1 : Int) := Z29 Q3
         have q492 : x13_1 < (l1.length : Int) := Z29 Q3
         obtain ⟨ad492, e492, hx492_0⟩ := Kd.at_bool HR1.out x13_1 p492 q492
         cases e492
         replace p492 := eq_true p492
         replace q492 := eq_true q492
         go_wp2
         repeat (go_quiet (fail); try go_wp2)
         go_roundg k1
         case measure => have := HK1.out; omega
         case rel => exact ⟨(wrap64 (x13_1 + 1)), Q8, H', ⟨Q23⟩, Q11⟩
       ·rw [if_neg c7] at H
        exact absurd H (by simp)
      ·rw [if_neg c6] at H
       exact absurd H (by simp)
     ·rw [if_neg c5] at H
      exact absurd H (by simp)
    ·rw [if_neg c4] at H
     have c4b0 := Z36 c4
     clear c4
     obtain rfl := Option.some.inj H
     go_wp2
     repeat (go_quiet (fail); try go_wp2)
     go_ret
     exact ⟨Q15, Q11⟩
 ·rw [if_neg c3] at H
  have c3b0 : ((l0.length : Int) == (l1.length : Int)) = false := beq_eq_false_iff_ne.mpr c3
  have c3b1 : ((l0.length : Int) != (l1.length : Int)) = true := bne_iff_ne.mpr c3
  have c3b2 : (l0.length == l1.length) = false := by first | simpa using c3 | (simp at c3 ⊢; omega)
  obtain rfl := Option.some.inj H
  go_enter Try.func44, Try.ntmps44
  go_wp2
  repeat (go_quiet (fail); try go_wp2)
  go_ret
  exact ⟨Q15, Q11⟩
def laws_uFocus.f (k : Nat) (l0_0 : List Int) (l0_1 : List Int) (l0_2 : List Bool) (l0_3 : List Int) (l1_0 : List Int) (l1_1 : List Int) (l1_2 : List Bool) (l1_3 : List Int) : Option (Bool) := (laws_uSame.f k l0_0 l1_0).bind fun t495 => (if t495 = true then ((laws_uSame.f k l0_1 l1_1).bind fun t496 => (if t496 = true then ((laws_uBools.f k l0_2 l1_2).bind fun t497 => (if t497 = true then ((laws_uSame.f k l0_3 l1_3).bind fun t498 => (some t498)) else (some false))) else (some false))) else (some false))
theorem laws_uFocus.mono : ∀ a0 a1 a2 a3 a4 a5 a6 a7 k, LeO (laws_uFocus.f k a0 a1 a2 a3 a4 a5 a6 a7) (laws_uFocus.f (k + 1) a0 a1 a2 a3 a4 a5 a6 a7) := by
 intro a0 a1 a2 a3 a4 a5 a6 a7 k
 unfold laws_uFocus.f
 repeat' first
   | (with_reducible exact laws_uBools.mono _ _ _)
   | (with_reducible exact laws_uSame.mono _ _ _)
   | (with_reducible exact LeO.refl _)
   | (with_reducible exact LeO.none _)
   | (with_reducible refine LeO.ite ?_ ?_)
   | (with_reducible refine LeO.bind ?_ (fun _ => ?_))
   | exact laws_uBools.mono _ _ _
   | exact laws_uSame.mono _ _ _
   | exact LeO.none _
   | refine LeO.ite ?_ ?_
   | refine LeO.bind ?_ (fun _ => ?_)
set_option maxHeartbeats 8000000 in
set_option maxRecDepth 100000 in
theorem laws_uFocus.calls (k : Nat) (A0_0 : Option Addr) (c0_0 : Nat) (l0_0 : List Int) (A0_1 : Option Addr) (c0_1 : Nat) (l0_1 : List Int) (A0_2 : Option Addr) (c0_2 : Nat) (l0_2 : List Bool) (A0_3 : Option Addr) (c0_3 : Nat) (l0_3 : List Int) (A1_0 : Option Addr) (c1_0 : Nat) (l1_0 : List Int) (A1_1 : Option Addr) (c1_1 : Nat) (l1_1 : List Int) (A1_2 : Option Addr) (c1_2 : Nat) (l1_2 : List Bool) (A1_3 : Option Addr) (c1_3 : Nat) (l1_3 : List Int) (r : Bool) (w : World) (hr0_0 : Kd.C (Kd.int .i64) w A0_0 l0_0.length l0_0) (hc0_0 : l0_0.length ≤ c0_0) (hr0_1 : Kd.C (Kd.int .i64) w A0_1 l0_1.length l0_1) (hc0_1 : l0_1.length ≤ c0_1) (hr0_2 : Kd.C Kd.bool w A0_2 l0_2.length l0_2) (hc0_2 : l0_2.length ≤ c0_2) (hr0_3 : Kd.C (Kd.int .i64) w A0_3 l0_3.length l0_3) (hc0_3 : l0_3.length ≤ c0_3) (hr1_0 : Kd.C (Kd.int .i64) w A1_0 l1_0.length l1_0) (hc1_0 : l1_0.length ≤ c1_0) (hr1_1 : Kd.C (Kd.int .i64) w A1_1 l1_1.length l1_1) (hc1_1 : l1_1.length ≤ c1_1) (hr1_2 : Kd.C Kd.bool w A1_2 l1_2.length l1_2) (hc1_2 : l1_2.length ≤ c1_2) (hr1_3 : Kd.C (Kd.int .i64) w A1_3 l1_3.length l1_3) (hc1_3 : l1_3.length ≤ c1_3) (h : laws_uFocus.f k l0_0 l0_1 l0_2 l0_3 l1_0 l1_1 l1_2 l1_3 = some r) :
  Calls Try.prog 17 #[.agg #[.slice A0_0 l0_0.length c0_0, .slice A0_1 l0_1.length c0_1, .slice A0_2 l0_2.length c0_2, .slice A0_3 l0_3.length c0_3], .agg #[.slice A1_0 l1_0.length c1_0, .slice A1_1 l1_1.length c1_1, .slice A1_2 l1_2.length c1_2, .slice A1_3 l1_3.length c1_3]] w fun e w' => e = .returned (.bool r) ∧ Below w.heap.size w w' := by
 have hu33 := Try.underlying33
 have HR0_0 := Ya hr0_0
 have HC0_0 := Ya hc0_0
 clear hr0_0 hc0_0
 have HR0_1 := Ya hr0_1
 have HC0_1 := Ya hc0_1
 clear hr0_1 hc0_1
 have HR0_2 := Ya hr0_2
 have HC0_2 := Ya hc0_2
 clear hr0_2 hc0_2
 have HR0_3 := Ya hr0_3
 have HC0_3 := Ya hc0_3
 clear hr0_3 hc0_3
 have HR1_0 := Ya hr1_0
 have HC1_0 := Ya hc1_0
 clear hr1_0 hc1_0
 have HR1_1 := Ya hr1_1
 have HC1_1 := Ya hc1_1
 clear hr1_1 hc1_1
 have HR1_2 := Ya hr1_2
 have HC1_2 := Ya hc1_2
 clear hr1_2 hc1_2
 have HR1_3 := Ya hr1_3
 have HC1_3 := Ya hc1_3
 clear hr1_3 hc1_3
 have HB := Ya (Below.refl w.heap.size w)
 have H : ((laws_uSame.f k l0_0 l1_0).bind fun t495 => (if t495 = true then ((laws_uSame.f k l0_1 l1_1).bind fun t496 => (if t496 = true then ((laws_uBools.f k l0_2 l1_2).bind fun t497 => (if t497 = true then ((laws_uSame.f k l0_3 l1_3).bind fun t498 => (some t498)) else (some false))) else (some false))) else (some false))) = some r := h
 clear h
 replace H := Z35.mp H
 obtain ⟨t495, A30, H⟩ := H
 replace H : (if t495 = true then ((laws_uSame.f k l0_1 l1_1).bind fun t496 => (if t496 = true then ((laws_uBools.f k l0_2 l1_2).bind fun t497 => (if t497 = true then ((laws_uSame.f k l0_3 l1_3).bind fun t498 => (some t498)) else (some false))) else (some false))) else (some false)) = some r := H
 have A3 := Ya A30
 clear A30
 by_cases c4 : t495 = true
 ·subst c4
  have H1 : ((laws_uSame.f k l0_1 l1_1).bind fun t496 => (if t496 = true then ((laws_uBools.f k l0_2 l1_2).bind fun t497 => (if t497 = true then ((laws_uSame.f k l0_3 l1_3).bind fun t498 => (some t498)) else (some false))) else (some false))) = some r := by rw [if_pos rfl] at H; exact H
  clear H
  have H := H1
  clear H1
  replace H := Z35.mp H
  obtain ⟨t496, A50, H⟩ := H
  replace H : (if t496 = true then ((laws_uBools.f k l0_2 l1_2).bind fun t497 => (if t497 = true then ((laws_uSame.f k l0_3 l1_3).bind fun t498 => (some t498)) else (some false))) else (some false)) = some r := H
  have A5 := Ya A50
  clear A50
  by_cases c6 : t496 = true
  ·subst c6
   have H1 : ((laws_uBools.f k l0_2 l1_2).bind fun t497 => (if t497 = true then ((laws_uSame.f k l0_3 l1_3).bind fun t498 => (some t498)) else (some false))) = some r := by rw [if_pos rfl] at H; exact H
   clear H
   have H := H1
   clear H1
   replace H := Z35.mp H
   obtain ⟨t497, A70, H⟩ := H
   replace H : (if t497 = true then ((laws_uSame.f k l0_3 l1_3).bind fun t498 => (some t498)) else (some false)) = some r := H
   have A7 := Ya A70
   clear A70
   by_cases c8 : t497 = true
   ·subst c8
    have H1 : ((laws_uSame.f k l0_3 l1_3).bind fun t498 => (some t498)) = some r := by rw [if_pos rfl] at H; exact H
    clear H
    have H := H1
    clear H1
    replace H := Z35.mp H
    obtain ⟨t498, A90, H⟩ := H
    replace H : (some t498) = some r := H
    have A9 := Ya A90
    clear A90
    obtain rfl := Option.some.inj H
    go_enter Try.func17, Try.ntmps17
    go_wp2_with (first | ((with_reducible refine gate_dst (N := 2) rfl ?_); refine Yx 2 #[.slice A0_0 l0_0.length c0_0, .slice A0_1 l0_1.length c0_1, .slice A0_2 l0_2.length c0_2, .slice A0_3 l0_3.length c0_3] 33 ?_; intro gb493 hg w10 hbox hb; have BK493 := Ya hbox; have GE493 := Yg hg; replace HB := Yh hb; clear hb hbox hg) | ((with_reducible refine gate_dst (N := 3) rfl ?_); refine Yx 3 #[.slice A1_0 l1_0.length c1_0, .slice A1_1 l1_1.length c1_1, .slice A1_2 l1_2.length c1_2, .slice A1_3 l1_3.length c1_3] 33 ?_; intro gb494 hg w11 hbox hb; have BK494 := Ya hbox; have GE494 := Yg hg; replace HB := Yh hb; have NB493_494 := Yn BK493 hg; have NB494_493 := Ym BK493 hg; replace BK493 := Yb BK493 hb; clear hb hbox hg; have hnb12 := NB493_494.out; have hnc12 := NB494_493.out; have hz13 := Y4 BK493.out; obtain ⟨hcz14_0, hcz14_1, hcz14_2, hcz14_3, hfz14_0, hfz14_1, hfz14_2, hfz14_3⟩ := Y4 BK494.out) | ((with_reducible refine gate_callee (f := 9) rfl ?_); refine Yz 9 Try.func9 #[.slice A0_0 l0_0.length c0_0, .slice A1_0 l1_0.length c1_0] ?_; (with_reducible refine (laws_uSame.calls k _ _ l0_0 _ _ l1_0 true _ (Yc (Z21 HR0_0.out HB.out)) HC0_0.out (Yc (Z21 HR1_0.out HB.out)) HC1_0.out A3.out).mono ?_); rintro e w' ⟨rfl, ⟨nd, rfl⟩⟩; refine ⟨_, rfl, ?_⟩) | (go_at_call 9; (with_reducible refine (laws_uSame.calls k _ _ l0_1 _ _ l1_1 true _ ?side1 HC0_1.out ?side3 HC1_1.out A5.out).mono ?_); (case side1 => exact Yc (Z21 HR0_1.out Q0)); (case side3 => exact Yc (Z21 HR1_1.out Q0)); rintro e w' ⟨rfl, ⟨nd, rfl⟩⟩) | (go_at_call 44; (with_reducible refine (laws_uBools.calls k _ _ l0_2 _ _ l1_2 true _ ?side1 HC0_2.out ?side3 HC1_2.out A7.out).mono ?_); (case side1 => exact Yc (Z21 HR0_2.out Q0)); (case side3 => exact Yc (Z21 HR1_2.out Q0)); rintro e w' ⟨rfl, ⟨nd, rfl⟩⟩) | (go_at_call 9; (with_reducible refine (laws_uSame.calls k _ _ l0_3 _ _ l1_3 t498 _ ?side1 HC0_3.out ?side3 HC1_3.out A9.out).mono ?_); (case side1 => exact Yc (Z21 HR0_3.out Q0)); (case side3 => exact Yc (Z21 HR1_3.out Q0)); rintro e w' ⟨rfl, ⟨nd, rfl⟩⟩))
    go_ret
    exact ⟨Q1, Q12⟩
   ·replace c8 := Bool.eq_false_iff.mpr c8
    subst c8
    have H1 : (some false) = some r := by rw [if_neg (show ¬ (false = true) by decide)] at H; exact H
    clear H
    have H := H1
    clear H1
    obtain rfl := Option.some.inj H
    go_enter Try.func17, Try.ntmps17
    go_wp2_with (first | ((with_reducible refine gate_dst (N := 2) rfl ?_); refine Yx 2 #[.slice A0_0 l0_0.length c0_0, .slice A0_1 l0_1.length c0_1, .slice A0_2 l0_2.length c0_2, .slice A0_3 l0_3.length c0_3] 33 ?_; intro gb493 hg w15 hbox hb; have BK493 := Ya hbox; have GE493 := Yg hg; replace HB := Yh hb; clear hb hbox hg) | ((with_reducible refine gate_dst (N := 3) rfl ?_); refine Yx 3 #[.slice A1_0 l1_0.length c1_0, .slice A1_1 l1_1.length c1_1, .slice A1_2 l1_2.length c1_2, .slice A1_3 l1_3.length c1_3] 33 ?_; intro gb494 hg w16 hbox hb; have BK494 := Ya hbox; have GE494 := Yg hg; replace HB := Yh hb; have NB493_494 := Yn BK493 hg; have NB494_493 := Ym BK493 hg; replace BK493 := Yb BK493 hb; clear hb hbox hg; have hnb17 := NB493_494.out; have hnc17 := NB494_493.out; have hz18 := Y4 BK493.out; obtain ⟨hcz19_0, hcz19_1, hcz19_2, hcz19_3, hfz19_0, hfz19_1, hfz19_2, hfz19_3⟩ := Y4 BK494.out) | ((with_reducible refine gate_callee (f := 9) rfl ?_); refine Yz 9 Try.func9 #[.slice A0_0 l0_0.length c0_0, .slice A1_0 l1_0.length c1_0] ?_; (with_reducible refine (laws_uSame.calls k _ _ l0_0 _ _ l1_0 true _ (Yc (Z21 HR0_0.out HB.out)) HC0_0.out (Yc (Z21 HR1_0.out HB.out)) HC1_0.out A3.out).mono ?_); rintro e w' ⟨rfl, ⟨nd, rfl⟩⟩; refine ⟨_, rfl, ?_⟩) | (go_at_call 9; (with_reducible refine (laws_uSame.calls k _ _ l0_1 _ _ l1_1 true _ ?side1 HC0_1.out ?side3 HC1_1.out A5.out).mono ?_); (case side1 => exact Yc (Z21 HR0_1.out Q0)); (case side3 => exact Yc (Z21 HR1_1.out Q0)); rintro e w' ⟨rfl, ⟨nd, rfl⟩⟩) | (go_at_call 44; (with_reducible refine (laws_uBools.calls k _ _ l0_2 _ _ l1_2 false _ ?side1 HC0_2.out ?side3 HC1_2.out A7.out).mono ?_); (case side1 => exact Yc (Z21 HR0_2.out Q0)); (case side3 => exact Yc (Z21 HR1_2.out Q0)); rintro e w' ⟨rfl, ⟨nd, rfl⟩⟩))
    go_ret
    exact ⟨Q1, Q12⟩
  ·replace c6 := Bool.eq_false_iff.mpr c6
   subst c6
   have H1 : (some false) = some r := by rw [if_neg (show ¬ (false = true) by decide)] at H; exact H
   clear H
   have H := H1
   clear H1
   obtain rfl := Option.some.inj H
   go_enter Try.func17, Try.ntmps17
   go_wp2_with (first | ((with_reducible refine gate_dst (N := 2) rfl ?_); refine Yx 2 #[.slice A0_0 l0_0.length c0_0, .slice A0_1 l0_1.length c0_1, .slice A0_2 l0_2.length c0_2, .slice A0_3 l0_3.length c0_3] 33 ?_; intro gb493 hg w20 hbox hb; have BK493 := Ya hbox; have GE493 := Yg hg; replace HB := Yh hb; clear hb hbox hg) | ((with_reducible refine gate_dst (N := 3) rfl ?_); refine Yx 3 #[.slice A1_0 l1_0.length c1_0, .slice A1_1 l1_1.length c1_1, .slice A1_2 l1_2.length c1_2, .slice A1_3 l1_3.length c1_3] 33 ?_; intro gb494 hg w21 hbox hb; have BK494 := Ya hbox; have GE494 := Yg hg; replace HB := Yh hb; have NB493_494 := Yn BK493 hg; have NB494_493 := Ym BK493 hg; replace BK493 := Yb BK493 hb; clear hb hbox hg; have hnb22 := NB493_494.out; have hnc22 := NB494_493.out; have hz23 := Y4 BK493.out; obtain ⟨hcz24_0, hcz24_1, hcz24_2, hcz24_3, hfz24_0, hfz24_1, hfz24_2, hfz24_3⟩ := Y4 BK494.out) | ((with_reducible refine gate_callee (f := 9) rfl ?_); refine Yz 9 Try.func9 #[.slice A0_0 l0_0.length c0_0, .slice A1_0 l1_0.length c1_0] ?_; (with_reducible refine (laws_uSame.calls k _ _ l0_0 _ _ l1_0 true _ (Yc (Z21 HR0_0.out HB.out)) HC0_0.out (Yc (Z21 HR1_0.out HB.out)) HC1_0.out A3.out).mono ?_); rintro e w' ⟨rfl, ⟨nd, rfl⟩⟩; refine ⟨_, rfl, ?_⟩) | (go_at_call 9; (with_reducible refine (laws_uSame.calls k _ _ l0_1 _ _ l1_1 false _ ?side1 HC0_1.out ?side3 HC1_1.out A5.out).mono ?_); (case side1 => exact Yc (Z21 HR0_1.out Q0)); (case side3 => exact Yc (Z21 HR1_1.out Q0)); rintro e w' ⟨rfl, ⟨nd, rfl⟩⟩))
   go_ret
   exact ⟨Q1, Q12⟩
 ·replace c4 := Bool.eq_false_iff.mpr c4
  subst c4
  have H1 : (some false) = some r := by rw [if_neg (show ¬ (false = true) by decide)] at H; exact H
  clear H
  have H := H1
  clear H1
  obtain rfl := Option.some.inj H
  go_enter Try.func17, Try.ntmps17
  go_wp2_with (first | ((with_reducible refine gate_dst (N := 2) rfl ?_); refine Yx 2 #[.slice A0_0 l0_0.length c0_0, .slice A0_1 l0_1.length c0_1, .slice A0_2 l0_2.length c0_2, .slice A0_3 l0_3.length c0_3] 33 ?_; intro gb493 hg w25 hbox hb; have BK493 := Ya hbox; have GE493 := Yg hg; replace HB := Yh hb; clear hb hbox hg) | ((with_reducible refine gate_dst (N := 3) rfl ?_); refine Yx 3 #[.slice A1_0 l1_0.length c1_0, .slice A1_1 l1_1.length c1_1, .slice A1_2 l1_2.length c1_2, .slice A1_3 l1_3.length c1_3] 33 ?_; intro gb494 hg w26 hbox hb; have BK494 := Ya hbox; have GE494 := Yg hg; replace HB := Yh hb; have NB493_494 := Yn BK493 hg; have NB494_493 := Ym BK493 hg; replace BK493 := Yb BK493 hb; clear hb hbox hg; have hnb27 := NB493_494.out; have hnc27 := NB494_493.out; have hz28 := Y4 BK493.out; have hz29 := Y4 BK494.out) | ((with_reducible refine gate_callee (f := 9) rfl ?_); refine Yz 9 Try.func9 #[.slice A0_0 l0_0.length c0_0, .slice A1_0 l1_0.length c1_0] ?_; (with_reducible refine (laws_uSame.calls k _ _ l0_0 _ _ l1_0 false _ (Yc (Z21 HR0_0.out HB.out)) HC0_0.out (Yc (Z21 HR1_0.out HB.out)) HC1_0.out A3.out).mono ?_); rintro e w' ⟨rfl, ⟨nd, rfl⟩⟩; refine ⟨_, rfl, ?_⟩))
  go_ret
  exact ⟨Q1, Q12⟩
def impl_mixedAt.l0 : Nat → List Int → Int → List Int → List Int → Int → Int → Option (List Int)
 | 0, _, _, _, _, _, _ => none
 | k + 1, x0, x1, x5, x11, x12, x13 => if x13 < x12 then (if 0 ≤ x13 then (if x13 < (x11.length : Int) then (if 0 ≤ (wrap64 (x13 + 1)) then (if (wrap64 (x13 + 1)) ≤ (x0.length : Int) then ((impl_size.f k (x0.drop ((wrap64 (x13 + 1)) : Int).toNat)).bind fun t504 => (if t504 = 0 then (none) else (if (Int.tmod (wrap64 (Int.tdiv x1 t504)) 2) = 1 then (if x5.length < 17592186044416 then (impl_mixedAt.l0 k x0 (wrap64 ((wrap64 (t504 - 1)) - (Int.tmod x1 t504))) (x5 ++ [mn (wrap64 (Int.tdiv x1 t504)) (wrap64 ((rd x11 x13) - 1))]) x11 x12 (wrap64 (x13 + 1))) else (none)) else (if x5.length < 17592186044416 then (impl_mixedAt.l0 k x0 (Int.tmod x1 t504) (x5 ++ [mn (wrap64 (Int.tdiv x1 t504)) (wrap64 ((rd x11 x13) - 1))]) x11 x12 (wrap64 (x13 + 1))) else (none))))) else (none)) else (none)) else (none)) else (none)) else (some x5)
def impl_mixedAt.f (k : Nat) (l0 : List Int) (a1 : Int) : Option (List Int) := impl_mixedAt.l0 k l0 a1 (([] : List Int)) l0 (l0.length : Int) 0
theorem impl_mixedAt.mono_l : ∀ k, (∀ y0 y1 y2 y3 y4 y5, LeO (impl_mixedAt.l0 k y0 y1 y2 y3 y4 y5) (impl_mixedAt.l0 (k + 1) y0 y1 y2 y3 y4 y5))
 | 0 => fun _ _ _ _ _ _ r h => by simp [impl_mixedAt.l0] at h
 | k + 1 => by
  have ih0 := impl_mixedAt.mono_l k
  ·intro y0 y1 y2 y3 y4 y5
   unfold impl_mixedAt.l0
   repeat' first
   | (with_reducible exact ih0 _ _ _ _ _ _)
   | (with_reducible exact impl_size.mono _ _)
   | (with_reducible exact LeO.refl _)
   | (with_reducible exact LeO.none _)
   | (with_reducible refine LeO.ite ?_ ?_)
   | (with_reducible refine LeO.bind ?_ (fun _ => ?_))
   | exact ih0 _ _ _ _ _ _
   | exact impl_size.mono _ _
   | exact LeO.none _
   | refine LeO.ite ?_ ?_
   | refine LeO.bind ?_ (fun _ => ?_)
theorem impl_mixedAt.mono : ∀ a0 a1 k, LeO (impl_mixedAt.f k a0 a1) (impl_mixedAt.f (k + 1) a0 a1) := by
 intro a0 a1 k
 have ih0 := impl_mixedAt.mono_l k
 unfold impl_mixedAt.f
 repeat' first
   | (with_reducible exact ih0 _ _ _ _ _ _)
   | (with_reducible exact impl_size.mono _ _)
   | (with_reducible exact LeO.refl _)
   | (with_reducible exact LeO.none _)
   | (with_reducible refine LeO.ite ?_ ?_)
   | (with_reducible refine LeO.bind ?_ (fun _ => ?_))
   | exact ih0 _ _ _ _ _ _
   | exact impl_size.mono _ _
   | exact LeO.none _
   | refine LeO.ite ?_ ?_
   | refine LeO.bind ?_ (fun _ => ?_)
set_option maxHeartbeats 8000000 in
set_option maxRecDepth 100000 in
theorem impl_mixedAt.calls (k : Nat) (A0 : Option Addr) (c0 : Nat) (l0 : List Int) (a1 : Int) (r : List Int) (w : World) (hr0 : Kd.C (Kd.int .i64) w A0 l0.length l0) (hc0 : l0.length ≤ c0) (h : impl_mixedAt.f k l0 a1 = some r) :
  Calls Try.prog 46 #[.slice A0 l0.length c0, .int .i64 a1] w fun e w' => ∃ v0_ : Value, e = .returned (v0_) ∧ Kd.R (Kd.int .i64) 3 w' w.heap.size (fun _ => True) v0_ r ∧ Below w.heap.size w w' := by
 have HR0 := Ya hr0
 have HC0 := Ya hc0
 clear hr0 hc0
 have HB := Ya (Below.refl w.heap.size w)
 have H : (impl_mixedAt.l0 k l0 a1 (([] : List Int)) l0 (l0.length : Int) 0) = some r := h
 clear h
 obtain ⟨y499, hy499⟩ : ∃ y_ : List Int, y_ = (([] : List Int)) := ⟨_, rfl⟩
 replace H : (impl_mixedAt.l0 k l0 a1 y499 l0 (l0.length : Int) 0) = some r := by first | (rw [hy499]; with_reducible exact H) | (have H2_ := (Option.bind_some _ _).symm.trans H; rw [hy499]; with_reducible exact H2_) | (have H2_ := (Option.bind_some _ _).symm.trans H; with_reducible exact H2_) | with_reducible exact H | (rw [hy499]; exact H) | exact H
 have Ny499 := Ya hy499
 clear hy499
 have H' := Ya H
 clear H
 go_enter Try.func46, Try.ntmps46
 go_wp2_with (first | ((with_reducible refine gate_dst (N := 10) rfl ?_); refine Kd.R_lit (Kd.int .i64) _ 3 ?hg (N := 10) ?hd (xs := ([] : List Int)) (inner := []) (ok := fun _ => True) (okp := fun _ => True) ?hr ?hp (fun _ hk => hk) trivial (Below.refl _ _) (Nat.le_refl _) (by simp) ?_; (case hd => rfl); (case hg => rfl); (case hr => first | (go_simp; done) | (go_simp; rfl)); (case hp => exact (Reps.none _ _)); intro v500 w3 ho4 hb hg_ hnew_; clear hg_ hnew_; (first | rw [← Ny499.out] at ho4 | (simp only [Int.reduceToNat] at ho4; rw [← Ny499.out] at ho4)); have HO501 := Yl ho4; replace HB := Yh hb; clear hb ho4))
 go_loopg [1, 5, 13] k (fun kq v1 v5 v13 w' => ∃ (x1_1 : Int) (x5_1 : List Int) (x13_1 : Int), v1 = .int .i64 x1_1 ∧ v13 = .int .i64 x13_1 ∧ Aside0 (impl_mixedAt.l0 kq l0 x1_1 x5_1 l0 (l0.length : Int) x13_1 = some r) ∧ Aside0 (kq ≤ k) ∧ Aside0 (Kd.R (Kd.int .i64) 3 w' w.heap.size (fun _ => True) v5 x5_1) ∧ Aside0 (Below w.heap.size w w'))
 case atStart => exact ⟨(a1), (y499), (0), Q8, Q8, H', ⟨Nat.le_refl _⟩, ⟨by (with_reducible repeat (first | apply Z8 | apply Z9 | apply Z10)); exact HO501.out⟩, ⟨Q12⟩⟩
 case round =>
  clear H'
  try clear p2
  try clear c4
  obtain ⟨x1_1, x5_1, x13_1, rfl, rfl, HA, HK1, HO_5, HB⟩ := hrel
  cases gk with
  | zero => exact absurd HA.out (by simp [impl_mixedAt.l0])
  | succ k1 =>
   have H := HA.out
   clear HA
   simp only [impl_mixedAt.l0] at H
   by_cases c5 : x13_1 < (l0.length : Int)
   ·rw [if_pos c5] at H
    have c5b0 := Z37 c5
    clear c5
    by_cases c6 : 0 ≤ x13_1
    ·rw [if_pos c6] at H
     have c6b0 := Z37 c6
     clear c6
     by_cases c7 : x13_1 < (l0.length : Int)
     ·rw [if_pos c7] at H
      have c7b0 := Z37 c7
      clear c7
      obtain ⟨ji8, hji8⟩ : ∃ j_ : Int, (wrap64 (x13_1 + 1)) = j_ := ⟨_, rfl⟩
      replace H : (if 0 ≤ (ji8) then (if (ji8) ≤ (l0.length : Int) then ((impl_size.f k1 (l0.drop ((ji8) : Int).toNat)).bind fun t504 => (if t504 = 0 then (none) else (if (Int.tmod (wrap64 (Int.tdiv x1_1 t504)) 2) = 1 then (if x5_1.length < 17592186044416 then (impl_mixedAt.l0 k1 l0 (wrap64 ((wrap64 (t504 - 1)) - (Int.tmod x1_1 t504))) (x5_1 ++ [mn (wrap64 (Int.tdiv x1_1 t504)) (wrap64 ((rd l0 x13_1) - 1))]) l0 (l0.length : Int) ji8) else (none)) else (if x5_1.length < 17592186044416 then (impl_mixedAt.l0 k1 l0 (Int.tmod x1_1 t504) (x5_1 ++ [mn (wrap64 (Int.tdiv x1_1 t504)) (wrap64 ((rd l0 x13_1) - 1))]) l0 (l0.length : Int) ji8) else (none))))) else (none)) else (none)) = some r := by first | (rw [hji8] at H; exact H) | (simp only [hji8] at H ⊢; exact H)
      have hji8w : (IntKind.i64.wrap (x13_1 + 1)) = ji8 := (i64_w _).trans hji8
      by_cases c9 : 0 ≤ (ji8)
      ·rw [if_pos c9] at H
       have c9b0 := eq_true c9
       have c9b1 := Z37 c9
       clear c9
       by_cases c10 : (ji8) ≤ (l0.length : Int)
       ·rw [if_pos c10] at H
        have c10b0 := eq_true c10
        have c10b1 := Z37 c10
        clear c10
        replace H := Z35.mp H
        obtain ⟨t504, A110, H⟩ := H
        replace H : (if t504 = 0 then (none) else (if (Int.tmod (wrap64 (Int.tdiv x1_1 t504)) 2) = 1 then (if x5_1.length < 17592186044416 then (impl_mixedAt.l0 k1 l0 (wrap64 ((wrap64 (t504 - 1)) - (Int.tmod x1_1 t504))) (x5_1 ++ [mn (wrap64 (Int.tdiv x1_1 t504)) (wrap64 ((rd l0 x13_1) - 1))]) l0 (l0.length : Int) ji8) else (none)) else (if x5_1.length < 17592186044416 then (impl_mixedAt.l0 k1 l0 (Int.tmod x1_1 t504) (x5_1 ++ [mn (wrap64 (Int.tdiv x1_1 t504)) (wrap64 ((rd l0 x13_1) - 1))]) l0 (l0.length : Int) ji8) else (none)))) = some r := H
        have A11 := Ya A110
        clear A110
        by_cases c12 : t504 = 0
        ·rw [if_pos c12] at H
         exact absurd H (by simp)
        ·rw [if_neg c12] at H
         have c12b0 : (t504 == 0) = false := beq_eq_false_iff_ne.mpr c12
         have c12b1 : (t504 != 0) = true := bne_iff_ne.mpr c12
         by_cases c13 : (Int.tmod (wrap64 (Int.tdiv x1_1 t504)) 2) = 1
         ·rw [if_pos c13] at H
          have c13b0 : ((Int.tmod (wrap64 (Int.tdiv x1_1 t504)) 2) == 1) = true := beq_iff_eq.mpr c13
          have c13b1 : ((Int.tmod (wrap64 (Int.tdiv x1_1 t504)) 2) != 1) = false := bne_eq_false_iff_eq.mpr c13
          clear c13
          obtain ⟨ji14, hji14⟩ : ∃ j_ : Int, (mn (wrap64 (Int.tdiv x1_1 t504)) (wrap64 ((rd l0 x13_1) - 1))) = j_ := ⟨_, rfl⟩
          replace H : (if x5_1.length < 17592186044416 then (impl_mixedAt.l0 k1 l0 (wrap64 ((wrap64 (t504 - 1)) - (Int.tmod x1_1 t504))) (x5_1 ++ [ji14]) l0 (l0.length : Int) ji8) else (none)) = some r := by first | (rw [hji14] at H; exact H) | (simp only [hji14] at H ⊢; exact H)
          (try rw [hji14] at A11)
          have hji14_ : (if (wrap64 ((rd l0 x13_1) - 1)) < (wrap64 (Int.tdiv x1_1 t504)) then (wrap64 ((rd l0 x13_1) - 1)) else (wrap64 (Int.tdiv x1_1 t504))) = ji14 := hji14
          by_cases c15 : x5_1.length < 17592186044416
          ·rw [if_pos c15] at H
           have LMc15 := Ya c15
           clear c15
           obtain ⟨y505, hy505⟩ : ∃ y_ : List Int, y_ = (x5_1 ++ [ji14]) := ⟨_, rfl⟩
           replace H : (impl_mixedAt.l0 k1 l0 (wrap64 ((wrap64 (t504 - 1)) - (Int.tmod x1_1 t504))) y505 l0 (l0.length : Int) ji8) = some r := by first | (rw [hy505]; with_reducible exact H) | (have H2_ := (Option.bind_some _ _).symm.trans H; rw [hy505]; with_reducible exact H2_) | (have H2_ := (Option.bind_some _ _).symm.trans H; with_reducible exact H2_) | with_reducible exact H | (rw [hy505]; exact H) | exact H
           have Ny505 := Ya hy505
           clear hy505
           have H' := Ya H
           clear H
           have p502 : 0 ≤ (x13_1 : Int) := Z29 Q3
           have q502 : x13_1 < (l0.length : Int) := Z29 Q3
           obtain ⟨ad502, e502, hx502_0⟩ := Kd.at_int HR0.out x13_1 p502 q502
           cases e502
           try replace hx502_0 := (HB.out.cell (World.block_lt_of_cell? w _ hx502_0)).trans hx502_0
           replace p502 := eq_true p502
           replace q502 := eq_true q502
           obtain ⟨i016, hi016, _, hsz16, _⟩ := info_parts info3
           obtain ⟨A16, hcut16, hA16, hC16⟩ := print_drop_of (P := Try.prog) (Value.int .i64) 0 24 3 .i64 Try.underlying24 hi016 hsz16 (some ad502) c0 l0 (ji8) (Z29 Q3) (Z29 Q3) HC0.out
           have HR503 := Ya (Kd.C_of_reads (h1 := fun _ => rfl) (hA16 _ (Kd.reads_of_C HR0.out)))
           have HC503 := Ya hC16
           clear hA16 hC16 hi016 hsz16
           go_wp2_with (first | ((with_reducible refine gate_callee (f := 41) rfl ?_); refine Yz 22 Try.func41 #[.slice A16 (l0.drop ((ji8) : Int).toNat).length (c0 - (ji8).toNat)] ?_ (hargs := Q30); (with_reducible refine (impl_size.calls k1 _ _ (l0.drop ((ji8) : Int).toNat) t504 _ ?side1 ?side2 A11.out).mono ?_); (case side1 => exact Yc (Z21 HR503.out HB.out)); (case side2 => exact HC503.out); rintro e w17 ⟨rfl, hb⟩; refine ⟨_, rfl, ?_⟩; replace HO_5 := Yw HO_5 hb; replace HB := Yh hb; (try clear hb)) | ((with_reducible refine gate_builtin (b := .append) (xs := #[.tmp 36, .tmp 41]) rfl ?_); at_builtin; refine Kd.R_append (Kd.int .i64) (w0 := w) w.heap.size rfl (.tmp 36) (.tmp 41) 24 3 (.int .i64 0) 8 rfl Try.underlying24 info3 rfl (by decide) (by omega) u5 x5_1 ji14 [.int .i64 ji14] (fun _ => True) (fun _ => False) rfl rfl ?aP (fun _ hk => hk.elim) ?aF ?aO ?aB ?aS ?aL ?_; (case aP => exact rfl); (case aB => exact Q0); (case aF => exact (fun _ _ => trivial)); (case aO => exact (Yr HO_5.out)); (case aS => exact (Z7 Q0)); (case aL => have := LMc15.out; omega); intro v506 w18 ho hb hg hat; rw [← Ny505.out] at ho; replace HB := Ya hb; have HO507 := Ya ho; clear HO_5; clear ho hb hg hat))
           go_roundg k1
           case measure => have := HK1.out; omega
           case rel => exact ⟨(wrap64 ((wrap64 (t504 - 1)) - (Int.tmod x1_1 t504))), (y505), (ji8), Q8, (by first | rfl | (simp; done) | (simp only [← hji8] <;> (first | rfl | simp)) | (simp [*]; done)), H', ⟨Q23⟩, ⟨by (with_reducible repeat (first | apply Z8 | apply Z9 | apply Z10)); exact HO507.out⟩, ⟨Q12⟩⟩
          ·rw [if_neg c15] at H
           exact absurd H (by simp)
         ·rw [if_neg c13] at H
          have c13b0 : ((Int.tmod (wrap64 (Int.tdiv x1_1 t504)) 2) == 1) = false := beq_eq_false_iff_ne.mpr c13
          have c13b1 : ((Int.tmod (wrap64 (Int.tdiv x1_1 t504)) 2) != 1) = true := bne_iff_ne.mpr c13
          obtain ⟨ji19, hji19⟩ : ∃ j_ : Int, (mn (wrap64 (Int.tdiv x1_1 t504)) (wrap64 ((rd l0 x13_1) - 1))) = j_ := ⟨_, rfl⟩
          replace H : (if x5_1.length < 17592186044416 then (impl_mixedAt.l0 k1 l0 (Int.tmod x1_1 t504) (x5_1 ++ [ji19]) l0 (l0.length : Int) ji8) else (none)) = some r := by first | (rw [hji19] at H; exact H) | (simp only [hji19] at H ⊢; exact H)
          (try rw [hji19] at A11)
          have hji19_ : (if (wrap64 ((rd l0 x13_1) - 1)) < (wrap64 (Int.tdiv x1_1 t504)) then (wrap64 ((rd l0 x13_1) - 1)) else (wrap64 (Int.tdiv x1_1 t504))) = ji19 := hji19
          by_cases c20 : x5_1.length < 17592186044416
          ·rw [if_pos c20] at H
           have LMc20 := Ya c20
           clear c20
           obtain ⟨y508, hy508⟩ : ∃ y_ : List Int, y_ = (x5_1 ++ [ji19]) := ⟨_, rfl⟩
           replace H : (impl_mixedAt.l0 k1 l0 (Int.tmod x1_1 t504) y508 l0 (l0.length : Int) ji8) = some r := by first | (rw [hy508]; with_reducible exact H) | (have H2_ := (Option.bind_some _ _).symm.trans H; rw [hy508]; with_reducible exact H2_) | (have H2_ := (Option.bind_some _ _).symm.trans H; with_reducible exact H2_) | with_reducible exact H | (rw [hy508]; exact H) | exact H
           have Ny508 := Ya hy508
           clear hy508
           have H' := Ya H
           clear H
           have p502 : 0 ≤ (x13_1 : Int) := Z29 Q3
           have q502 : x13_1 < (l0.length : Int) := Z29 Q3
           obtain ⟨ad502, e502, hx502_0⟩ := Kd.at_int HR0.out x13_1 p502 q502
           cases e502
           try replace hx502_0 := (HB.out.cell (World.block_lt_of_cell? w _ hx502_0)).trans hx502_0
           replace p502 := eq_true p502
           replace q502 := eq_true q502
           obtain ⟨i021, hi021, _, hsz21, _⟩ := info_parts info3
           obtain ⟨A21, hcut21, hA21, hC21⟩ := print_drop_of (P := Try.prog) (Value.int .i64) 0 24 3 .i64 Try.underlying24 hi021 hsz21 (some ad502) c0 l0 (ji8) (Z29 Q3) (Z29 Q3) HC0.out
           have HR503 := Ya (Kd.C_of_reads (h1 := fun _ => rfl) (hA21 _ (Kd.reads_of_C HR0.out)))
           have HC503 := Ya hC21
           clear hA21 hC21 hi021 hsz21
           go_wp2_with (first | ((with_reducible refine gate_callee (f := 41) rfl ?_); refine Yz 22 Try.func41 #[.slice A21 (l0.drop ((ji8) : Int).toNat).length (c0 - (ji8).toNat)] ?_ (hargs := Q30); (with_reducible refine (impl_size.calls k1 _ _ (l0.drop ((ji8) : Int).toNat) t504 _ ?side1 ?side2 A11.out).mono ?_); (case side1 => exact Yc (Z21 HR503.out HB.out)); (case side2 => exact HC503.out); rintro e w22 ⟨rfl, hb⟩; refine ⟨_, rfl, ?_⟩; replace HO_5 := Yw HO_5 hb; replace HB := Yh hb; (try clear hb)) | ((with_reducible refine gate_builtin (b := .append) (xs := #[.tmp 36, .tmp 41]) rfl ?_); at_builtin; refine Kd.R_append (Kd.int .i64) (w0 := w) w.heap.size rfl (.tmp 36) (.tmp 41) 24 3 (.int .i64 0) 8 rfl Try.underlying24 info3 rfl (by decide) (by omega) u5 x5_1 ji19 [.int .i64 ji19] (fun _ => True) (fun _ => False) rfl rfl ?aP (fun _ hk => hk.elim) ?aF ?aO ?aB ?aS ?aL ?_; (case aP => exact rfl); (case aB => exact Q0); (case aF => exact (fun _ _ => trivial)); (case aO => exact (Yr HO_5.out)); (case aS => exact (Z7 Q0)); (case aL => have := LMc20.out; omega); intro v509 w23 ho hb hg hat; rw [← Ny508.out] at ho; replace HB := Ya hb; have HO510 := Ya ho; clear HO_5; clear ho hb hg hat))
           go_roundg k1
           case measure => have := HK1.out; omega
           case rel => exact ⟨(Int.tmod x1_1 t504), (y508), (ji8), Q8, (by first | rfl | (simp; done) | (simp only [← hji8] <;> (first | rfl | simp)) | (simp [*]; done)), H', ⟨Q23⟩, ⟨by (with_reducible repeat (first | apply Z8 | apply Z9 | apply Z10)); exact HO510.out⟩, ⟨Q12⟩⟩
          ·rw [if_neg c20] at H
           exact absurd H (by simp)
       ·rw [if_neg c10] at H
        exact absurd H (by simp)
      ·rw [if_neg c9] at H
       exact absurd H (by simp)
     ·rw [if_neg c7] at H
      exact absurd H (by simp)
    ·rw [if_neg c6] at H
     exact absurd H (by simp)
   ·rw [if_neg c5] at H
    have c5b0 := Z36 c5
    clear c5
    obtain rfl := Option.some.inj H
    go_wp2
    go_ret
    exact ⟨_, Q1, Q16, Q12⟩
def impl_MixedAt.f (k : Nat) (l0 : List Int) (a1 : Int) : Option (List Int × Bool) := (impl_areBases.f k l0).bind fun t511 => (if t511 = true then ((impl_size.f k l0).bind fun t512 => ((impl_within.f a1 0 (wrap64 (t512 - 1))).bind fun t513 => (if t513 = true then ((impl_mixedAt.f k l0 a1).bind fun t514 => (some (t514, true))) else (some (([] : List Int), false))))) else (some (([] : List Int), false)))
theorem impl_MixedAt.mono : ∀ a0 a1 k, LeO (impl_MixedAt.f k a0 a1) (impl_MixedAt.f (k + 1) a0 a1) := by
 intro a0 a1 k
 unfold impl_MixedAt.f
 repeat' first
   | (with_reducible exact impl_areBases.mono _ _)
   | (with_reducible exact impl_mixedAt.mono _ _ _)
   | (with_reducible exact impl_size.mono _ _)
   | (with_reducible exact LeO.refl _)
   | (with_reducible exact LeO.none _)
   | (with_reducible refine LeO.ite ?_ ?_)
   | (with_reducible refine LeO.bind ?_ (fun _ => ?_))
   | exact impl_areBases.mono _ _
   | exact impl_mixedAt.mono _ _ _
   | exact impl_size.mono _ _
   | exact LeO.none _
   | refine LeO.ite ?_ ?_
   | refine LeO.bind ?_ (fun _ => ?_)
set_option maxHeartbeats 8000000 in
set_option maxRecDepth 100000 in
theorem impl_MixedAt.calls (k : Nat) (A0 : Option Addr) (c0 : Nat) (l0 : List Int) (a1 : Int) (r1 : List Int) (r2 : Bool) (w : World) (hr0 : Kd.C (Kd.int .i64) w A0 l0.length l0) (hc0 : l0.length ≤ c0) (h : impl_MixedAt.f k l0 a1 = some (r1, r2)) :
  Calls Try.prog 18 #[.slice A0 l0.length c0, .int .i64 a1] w fun e w' => ∃ v0_ : Value, e = .returned (.tuple #[v0_, .bool r2]) ∧ Kd.R (Kd.int .i64) 3 w' w.heap.size (fun _ => True) v0_ r1 ∧ Below w.heap.size w w' := by
 have HR0 := Ya hr0
 have HC0 := Ya hc0
 clear hr0 hc0
 have HB := Ya (Below.refl w.heap.size w)
 have H : ((impl_areBases.f k l0).bind fun t511 => (if t511 = true then ((impl_size.f k l0).bind fun t512 => ((impl_within.f a1 0 (wrap64 (t512 - 1))).bind fun t513 => (if t513 = true then ((impl_mixedAt.f k l0 a1).bind fun t514 => (some (t514, true))) else (some (([] : List Int), false))))) else (some (([] : List Int), false)))) = some (r1, r2) := h
 clear h
 replace H := Z35.mp H
 obtain ⟨t511, A30, H⟩ := H
 replace H : (if t511 = true then ((impl_size.f k l0).bind fun t512 => ((impl_within.f a1 0 (wrap64 (t512 - 1))).bind fun t513 => (if t513 = true then ((impl_mixedAt.f k l0 a1).bind fun t514 => (some (t514, true))) else (some (([] : List Int), false))))) else (some (([] : List Int), false))) = some (r1, r2) := H
 have A3 := Ya A30
 clear A30
 by_cases c4 : t511 = true
 ·subst c4
  have H1 : ((impl_size.f k l0).bind fun t512 => ((impl_within.f a1 0 (wrap64 (t512 - 1))).bind fun t513 => (if t513 = true then ((impl_mixedAt.f k l0 a1).bind fun t514 => (some (t514, true))) else (some (([] : List Int), false))))) = some (r1, r2) := by rw [if_pos rfl] at H; exact H
  clear H
  have H := H1
  clear H1
  replace H := Z35.mp H
  obtain ⟨t512, A50, H⟩ := H
  replace H : ((impl_within.f a1 0 (wrap64 (t512 - 1))).bind fun t513 => (if t513 = true then ((impl_mixedAt.f k l0 a1).bind fun t514 => (some (t514, true))) else (some (([] : List Int), false)))) = some (r1, r2) := H
  have A5 := Ya A50
  clear A50
  replace H := Z35.mp H
  obtain ⟨t513, A60, H⟩ := H
  replace H : (if t513 = true then ((impl_mixedAt.f k l0 a1).bind fun t514 => (some (t514, true))) else (some (([] : List Int), false))) = some (r1, r2) := H
  have A6 := Ya A60
  clear A60
  by_cases c7 : t513 = true
  ·subst c7
   have H1 : ((impl_mixedAt.f k l0 a1).bind fun t514 => (some (t514, true))) = some (r1, r2) := by rw [if_pos rfl] at H; exact H
   clear H
   have H := H1
   clear H1
   replace H := Z35.mp H
   obtain ⟨t514, A80, H⟩ := H
   replace H : (some (t514, true)) = some (r1, r2) := H
   have A8 := Ya A80
   clear A80
   simp only [Option.some.injEq, Prod.mk.injEq] at H
   obtain ⟨rfl, rfl⟩ := H
   go_enter Try.func18, Try.ntmps18
   go_wp2_with (first | ((with_reducible refine gate_callee (f := 45) rfl ?_); refine Yz 7 Try.func45 #[.slice A0 l0.length c0] ?_; (with_reducible refine (impl_areBases.calls k _ _ l0 true _ (Yc HR0.out) HC0.out A3.out).mono ?_); rintro e w9 ⟨rfl, hb⟩; refine ⟨_, rfl, ?_⟩; replace HB := Yh hb; (try clear hb)) | (go_at_call 41; (with_reducible refine (impl_size.calls k _ _ l0 t512 _ (Yc (Z21 HR0.out HB.out)) HC0.out A5.out).mono ?_); rintro e w10 ⟨rfl, hb⟩; replace HB := Yh hb; (try clear hb)) | (go_at_call 30; (with_reducible refine (impl_within.calls a1 0 (wrap64 (t512 - 1)) true _ A6.out).mono ?_); rintro e w' ⟨rfl, ⟨nd, rfl⟩⟩) | ((with_reducible refine gate_callee (f := 46) rfl ?_); refine Yz 19 Try.func46 #[.slice A0 l0.length c0, .int .i64 a1] ?_; (with_reducible refine (impl_mixedAt.calls k _ _ l0 a1 t514 _ ?side1 HC0.out A8.out).mono ?_); (case side1 => exact Yc (Z21 HR0.out Q0)); rintro e w11 ⟨v515, rfl, ho0, hb⟩; refine ⟨_, rfl, ?_⟩; have HO516 := Yl ho0; replace HB := Yh hb; (try clear hb ho0)))
   go_ret2
   exact ⟨_, Q1, by (with_reducible repeat (first | apply Z8 | apply Z9 | apply Z10)); exact HO516.out, Q12⟩
  ·replace c7 := Bool.eq_false_iff.mpr c7
   subst c7
   have H1 : (some (([] : List Int), false)) = some (r1, r2) := by rw [if_neg (show ¬ (false = true) by decide)] at H; exact H
   clear H
   have H := H1
   clear H1
   simp only [Option.some.injEq, Prod.mk.injEq] at H
   obtain ⟨rfl, rfl⟩ := H
   go_enter Try.func18, Try.ntmps18
   go_wp2_with (first | ((with_reducible refine gate_callee (f := 45) rfl ?_); refine Yz 7 Try.func45 #[.slice A0 l0.length c0] ?_; (with_reducible refine (impl_areBases.calls k _ _ l0 true _ (Yc HR0.out) HC0.out A3.out).mono ?_); rintro e w12 ⟨rfl, hb⟩; refine ⟨_, rfl, ?_⟩; replace HB := Yh hb; (try clear hb)) | (go_at_call 41; (with_reducible refine (impl_size.calls k _ _ l0 t512 _ (Yc (Z21 HR0.out HB.out)) HC0.out A5.out).mono ?_); rintro e w13 ⟨rfl, hb⟩; replace HB := Yh hb; (try clear hb)) | (go_at_call 30; (with_reducible refine (impl_within.calls a1 0 (wrap64 (t512 - 1)) false _ A6.out).mono ?_); rintro e w' ⟨rfl, ⟨nd, rfl⟩⟩))
   go_ret2
   exact ⟨_, Q1, Q4, Q12⟩
 ·replace c4 := Bool.eq_false_iff.mpr c4
  subst c4
  have H1 : (some (([] : List Int), false)) = some (r1, r2) := by rw [if_neg (show ¬ (false = true) by decide)] at H; exact H
  clear H
  have H := H1
  clear H1
  simp only [Option.some.injEq, Prod.mk.injEq] at H
  obtain ⟨rfl, rfl⟩ := H
  go_enter Try.func18, Try.ntmps18
  go_wp2_with (first | ((with_reducible refine gate_callee (f := 45) rfl ?_); refine Yz 7 Try.func45 #[.slice A0 l0.length c0] ?_; (with_reducible refine (impl_areBases.calls k _ _ l0 false _ (Yc HR0.out) HC0.out A3.out).mono ?_); rintro e w14 ⟨rfl, hb⟩; refine ⟨_, rfl, ?_⟩; replace HB := Yh hb; (try clear hb)))
  go_ret2
  exact ⟨_, Q1, Q4, Q12⟩
def impl_FocusRank.f (k : Nat) (l0_0 : List Int) (l0_1 : List Int) (l0_2 : List Bool) (l0_3 : List Int) : Option (Int × Bool) := (impl_IsFocus.f k l0_0 l0_1 l0_2 l0_3).bind fun t518 => (if t518 = true then ((impl_mixedRank.f k l0_0 l0_1).bind fun t519 => (some (t519, true))) else (some (0, false)))
theorem impl_FocusRank.mono : ∀ a0 a1 a2 a3 k, LeO (impl_FocusRank.f k a0 a1 a2 a3) (impl_FocusRank.f (k + 1) a0 a1 a2 a3) := by
 intro a0 a1 a2 a3 k
 unfold impl_FocusRank.f
 repeat' first
   | (with_reducible exact impl_IsFocus.mono _ _ _ _ _)
   | (with_reducible exact impl_mixedRank.mono _ _ _)
   | (with_reducible exact LeO.refl _)
   | (with_reducible exact LeO.none _)
   | (with_reducible refine LeO.ite ?_ ?_)
   | (with_reducible refine LeO.bind ?_ (fun _ => ?_))
   | exact impl_IsFocus.mono _ _ _ _ _
   | exact impl_mixedRank.mono _ _ _
   | exact LeO.none _
   | refine LeO.ite ?_ ?_
   | refine LeO.bind ?_ (fun _ => ?_)
set_option maxHeartbeats 8000000 in
set_option maxRecDepth 100000 in
theorem impl_FocusRank.calls (k : Nat) (A0_0 : Option Addr) (c0_0 : Nat) (l0_0 : List Int) (A0_1 : Option Addr) (c0_1 : Nat) (l0_1 : List Int) (A0_2 : Option Addr) (c0_2 : Nat) (l0_2 : List Bool) (A0_3 : Option Addr) (c0_3 : Nat) (l0_3 : List Int) (r1 : Int) (r2 : Bool) (w : World) (hr0_0 : Kd.C (Kd.int .i64) w A0_0 l0_0.length l0_0) (hc0_0 : l0_0.length ≤ c0_0) (hr0_1 : Kd.C (Kd.int .i64) w A0_1 l0_1.length l0_1) (hc0_1 : l0_1.length ≤ c0_1) (hr0_2 : Kd.C Kd.bool w A0_2 l0_2.length l0_2) (hc0_2 : l0_2.length ≤ c0_2) (hr0_3 : Kd.C (Kd.int .i64) w A0_3 l0_3.length l0_3) (hc0_3 : l0_3.length ≤ c0_3) (h : impl_FocusRank.f k l0_0 l0_1 l0_2 l0_3 = some (r1, r2)) :
  Calls Try.prog 19 #[.agg #[.slice A0_0 l0_0.length c0_0, .slice A0_1 l0_1.length c0_1, .slice A0_2 l0_2.length c0_2, .slice A0_3 l0_3.length c0_3]] w fun e w' => e = .returned (.tuple #[.int .i64 r1, .bool r2]) ∧ Below w.heap.size w w' := by
 have hu33 := Try.underlying33
 have HR0_0 := Ya hr0_0
 have HC0_0 := Ya hc0_0
 clear hr0_0 hc0_0
 have HR0_1 := Ya hr0_1
 have HC0_1 := Ya hc0_1
 clear hr0_1 hc0_1
 have HR0_2 := Ya hr0_2
 have HC0_2 := Ya hc0_2
 clear hr0_2 hc0_2
 have HR0_3 := Ya hr0_3
 have HC0_3 := Ya hc0_3
 clear hr0_3 hc0_3
 have HB := Ya (Below.refl w.heap.size w)
 have H : ((impl_IsFocus.f k l0_0 l0_1 l0_2 l0_3).bind fun t518 => (if t518 = true then ((impl_mixedRank.f k l0_0 l0_1).bind fun t519 => (some (t519, true))) else (some (0, false)))) = some (r1, r2) := h
 clear h
 replace H := Z35.mp H
 obtain ⟨t518, A20, H⟩ := H
 replace H : (if t518 = true then ((impl_mixedRank.f k l0_0 l0_1).bind fun t519 => (some (t519, true))) else (some (0, false))) = some (r1, r2) := H
 have A2 := Ya A20
 clear A20
 by_cases c3 : t518 = true
 ·subst c3
  have H1 : ((impl_mixedRank.f k l0_0 l0_1).bind fun t519 => (some (t519, true))) = some (r1, r2) := by rw [if_pos rfl] at H; exact H
  clear H
  have H := H1
  clear H1
  replace H := Z35.mp H
  obtain ⟨t519, A40, H⟩ := H
  replace H : (some (t519, true)) = some (r1, r2) := H
  have A4 := Ya A40
  clear A40
  simp only [Option.some.injEq, Prod.mk.injEq] at H
  obtain ⟨rfl, rfl⟩ := H
  go_enter Try.func19, Try.ntmps19
  go_wp2_with (first | ((with_reducible refine gate_dst (N := 1) rfl ?_); refine Yx 1 #[.slice A0_0 l0_0.length c0_0, .slice A0_1 l0_1.length c0_1, .slice A0_2 l0_2.length c0_2, .slice A0_3 l0_3.length c0_3] 33 ?_; intro gb517 hg w5 hbox hb; have BK517 := Ya hbox; have GE517 := Yg hg; replace HB := Yh hb; clear hb hbox hg; have hz6 := Y4 BK517.out) | ((with_reducible refine gate_callee (f := 24) rfl ?_); refine Yz 5 Try.func24 #[.agg #[.slice A0_0 l0_0.length c0_0, .slice A0_1 l0_1.length c0_1, .slice A0_2 l0_2.length c0_2, .slice A0_3 l0_3.length c0_3]] ?_; (with_reducible refine (impl_IsFocus.calls k _ _ l0_0 _ _ l0_1 _ _ l0_2 _ _ l0_3 true _ (Yc (Z21 HR0_0.out HB.out)) HC0_0.out (Yc (Z21 HR0_1.out HB.out)) HC0_1.out (Yc (Z21 HR0_2.out HB.out)) HC0_2.out (Yc (Z21 HR0_3.out HB.out)) HC0_3.out A2.out).mono ?_); rintro e w7 ⟨rfl, hb⟩; refine ⟨_, rfl, ?_⟩; replace BK517 := Yb BK517 hb; replace HB := Yh hb; (try clear hb); have hz8 := Y4 BK517.out) | ((with_reducible refine gate_callee (f := 47) rfl ?_); refine Yz 11 Try.func47 #[.slice A0_0 l0_0.length c0_0, .slice A0_1 l0_1.length c0_1] ?_; (with_reducible refine (impl_mixedRank.calls k _ _ l0_0 _ _ l0_1 t519 _ (Yc (Z21 HR0_0.out HB.out)) HC0_0.out (Yc (Z21 HR0_1.out HB.out)) HC0_1.out A4.out).mono ?_); rintro e w9 ⟨rfl, hb⟩; refine ⟨_, rfl, ?_⟩; replace BK517 := Yb BK517 hb; replace HB := Yh hb; (try clear hb)))
  go_ret2
  exact ⟨Q1, Q12⟩
 ·replace c3 := Bool.eq_false_iff.mpr c3
  subst c3
  have H1 : (some (0, false)) = some (r1, r2) := by rw [if_neg (show ¬ (false = true) by decide)] at H; exact H
  clear H
  have H := H1
  clear H1
  simp only [Option.some.injEq, Prod.mk.injEq] at H
  obtain ⟨rfl, rfl⟩ := H
  go_enter Try.func19, Try.ntmps19
  go_wp2_with (first | ((with_reducible refine gate_dst (N := 1) rfl ?_); refine Yx 1 #[.slice A0_0 l0_0.length c0_0, .slice A0_1 l0_1.length c0_1, .slice A0_2 l0_2.length c0_2, .slice A0_3 l0_3.length c0_3] 33 ?_; intro gb517 hg w10 hbox hb; have BK517 := Ya hbox; have GE517 := Yg hg; replace HB := Yh hb; clear hb hbox hg; have hz11 := Y4 BK517.out) | ((with_reducible refine gate_callee (f := 24) rfl ?_); refine Yz 5 Try.func24 #[.agg #[.slice A0_0 l0_0.length c0_0, .slice A0_1 l0_1.length c0_1, .slice A0_2 l0_2.length c0_2, .slice A0_3 l0_3.length c0_3]] ?_; (with_reducible refine (impl_IsFocus.calls k _ _ l0_0 _ _ l0_1 _ _ l0_2 _ _ l0_3 false _ (Yc (Z21 HR0_0.out HB.out)) HC0_0.out (Yc (Z21 HR0_1.out HB.out)) HC0_1.out (Yc (Z21 HR0_2.out HB.out)) HC0_2.out (Yc (Z21 HR0_3.out HB.out)) HC0_3.out A2.out).mono ?_); rintro e w12 ⟨rfl, hb⟩; refine ⟨_, rfl, ?_⟩; replace BK517 := Yb BK517 hb; replace HB := Yh hb; (try clear hb)))
  go_ret2
  exact ⟨Q1, Q12⟩
end Go.Proofs.Ytapbbmicfkbafaa.MFnFocusRuns
