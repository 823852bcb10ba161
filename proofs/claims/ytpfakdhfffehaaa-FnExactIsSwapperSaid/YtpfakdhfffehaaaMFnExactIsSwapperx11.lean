import Derived.Test.YtpfakdhfffehaaaMFnExactIsSwapperx0
import Derived.Test.YtpfakdhfffehaaaMFnExactIsSwapperx1
import Derived.Test.YtpfakdhfffehaaaMFnExactIsSwapperx7
import Derived.Test.YtpfakdhfffehaaaMFnExactIsSwapperx10
namespace Go.Proofs.Ytpfakdhfffehaaa.MFnExactIsSwapper
open Go.RowKit Go.Proofs.YtpfakdhfffehaaaW.PrintWords Go.Proofs.YtpfakdhfffehaaaW.PrintLast Go.Proofs.YtpfakdhfffehaaaW.PrintMore
attribute [local go_sem] max2_int min2_int max_two min_two max_three min_three max_four min_four   
set_option linter.unusedVariables false
set_option linter.unusedSimpArgs false
def laws_FnExactIsSwapper.f (k : Nat) (l0_0 : List Int) (l0_1 : List Int) (l0_2 : List Bool) (l0_3 : List Int) (l0_4 : List Int) (l0_5 : List Int) : Option (Bool) := (laws_szSwapper.f l0_0 l0_1 l0_2 l0_3 l0_4 l0_5 1048576).bind fun t574 => (if t574 < 0 then (some true) else ((laws_toSwapper.f k l0_0 l0_1 l0_2 l0_3 l0_4 l0_5).bind fun bt575 => ((spec_IsSwapper.f k bt575.1 bt575.2.1 bt575.2.2.1 bt575.2.2.2.1 bt575.2.2.2.2.1 bt575.2.2.2.2.2).bind fun t593 => ((laws_toSwapper.f k l0_0 l0_1 l0_2 l0_3 l0_4 l0_5).bind fun bt594 => ((impl_IsSwapper.f k bt594.1 bt594.2.1 bt594.2.2.1 bt594.2.2.2.1 bt594.2.2.2.2.1 bt594.2.2.2.2.2).bind fun t613 => (if (t613 != t593) = true then (some false) else ((laws_toSwapper.f k l0_0 l0_1 l0_2 l0_3 l0_4 l0_5).bind fun bt614 => ((laws_eqSwapper.f k bt594.1 bt594.2.1 bt594.2.2.1 bt594.2.2.2.1 bt594.2.2.2.2.1 bt594.2.2.2.2.2 bt614.1 bt614.2.1 bt614.2.2.1 bt614.2.2.2.1 bt614.2.2.2.2.1 bt614.2.2.2.2.2).bind fun t632 => (if t632 = true then (some true) else (some false))))))))))
theorem laws_FnExactIsSwapper.mono : ∀ a0 a1 a2 a3 a4 a5 k, LeO (laws_FnExactIsSwapper.f k a0 a1 a2 a3 a4 a5) (laws_FnExactIsSwapper.f (k + 1) a0 a1 a2 a3 a4 a5) := by
 intro a0 a1 a2 a3 a4 a5 k
 unfold laws_FnExactIsSwapper.f
 repeat' first
   | (with_reducible exact impl_IsSwapper.mono _ _ _ _ _ _ _)
   | (with_reducible exact laws_eqSwapper.mono _ _ _ _ _ _ _ _ _ _ _ _ _)
   | (with_reducible exact laws_toSwapper.mono _ _ _ _ _ _ _)
   | (with_reducible exact spec_IsSwapper.mono _ _ _ _ _ _ _)
   | (with_reducible exact LeO.refl _)
   | (with_reducible exact LeO.none _)
   | (with_reducible refine LeO.ite ?_ ?_)
   | (with_reducible refine LeO.bind ?_ (fun _ => ?_))
   | exact impl_IsSwapper.mono _ _ _ _ _ _ _
   | exact laws_eqSwapper.mono _ _ _ _ _ _ _ _ _ _ _ _ _
   | exact laws_toSwapper.mono _ _ _ _ _ _ _
   | exact spec_IsSwapper.mono _ _ _ _ _ _ _
   | exact LeO.none _
   | refine LeO.ite ?_ ?_
   | refine LeO.bind ?_ (fun _ => ?_)
set_option maxHeartbeats 8000000 in
set_option maxRecDepth 100000 in
theorem laws_FnExactIsSwapper.calls (k : Nat) (A0_0 : Option Addr) (c0_0 : Nat) (l0_0 : List Int) (A0_1 : Option Addr) (c0_1 : Nat) (l0_1 : List Int) (A0_2 : Option Addr) (c0_2 : Nat) (l0_2 : List Bool) (A0_3 : Option Addr) (c0_3 : Nat) (l0_3 : List Int) (A0_4 : Option Addr) (c0_4 : Nat) (l0_4 : List Int) (A0_5 : Option Addr) (c0_5 : Nat) (l0_5 : List Int) (r : Bool) (w : World) (hr0_0 : Kd.C (Kd.int .i64) w A0_0 l0_0.length l0_0) (hc0_0 : l0_0.length ≤ c0_0) (hr0_1 : Kd.C (Kd.int .i64) w A0_1 l0_1.length l0_1) (hc0_1 : l0_1.length ≤ c0_1) (hr0_2 : Kd.C Kd.bool w A0_2 l0_2.length l0_2) (hc0_2 : l0_2.length ≤ c0_2) (hr0_3 : Kd.C (Kd.int .i64) w A0_3 l0_3.length l0_3) (hc0_3 : l0_3.length ≤ c0_3) (hr0_4 : Kd.C (Kd.int .i64) w A0_4 l0_4.length l0_4) (hc0_4 : l0_4.length ≤ c0_4) (hr0_5 : Kd.C (Kd.int .i64) w A0_5 l0_5.length l0_5) (hc0_5 : l0_5.length ≤ c0_5) (h : laws_FnExactIsSwapper.f k l0_0 l0_1 l0_2 l0_3 l0_4 l0_5 = some r) :
  Calls Try.prog 5 #[.agg #[.slice A0_0 l0_0.length c0_0, .slice A0_1 l0_1.length c0_1, .slice A0_2 l0_2.length c0_2, .slice A0_3 l0_3.length c0_3, .slice A0_4 l0_4.length c0_4, .slice A0_5 l0_5.length c0_5]] w fun e w' => e = .returned (.bool r) ∧ Below w.heap.size w w' := by
 have hu42 := Try.underlying42
 have hu35 := Try.underlying35
 have HR0_0 := Ya hr0_0
 have HC0_0 := Ya hc0_0
 clear hr0_0 hc0_0
 have HR0_1 := Ya hr0_1
 have HC0_1 := Ya hc0_1
 clear hr0_1 hc0_1
 have HR0_2 := Ya hr0_2
 have HC0_2 := Ya hc0_2
 clear hr0_2 hc0_2
 have HR0_3 := Ya hr0_3
 have HC0_3 := Ya hc0_3
 clear hr0_3 hc0_3
 have HR0_4 := Ya hr0_4
 have HC0_4 := Ya hc0_4
 clear hr0_4 hc0_4
 have HR0_5 := Ya hr0_5
 have HC0_5 := Ya hc0_5
 clear hr0_5 hc0_5
 have HB := Ya (Below.refl w.heap.size w)
 have H : ((laws_szSwapper.f l0_0 l0_1 l0_2 l0_3 l0_4 l0_5 1048576).bind fun t574 => (if t574 < 0 then (some true) else ((laws_toSwapper.f k l0_0 l0_1 l0_2 l0_3 l0_4 l0_5).bind fun bt575 => ((spec_IsSwapper.f k bt575.1 bt575.2.1 bt575.2.2.1 bt575.2.2.2.1 bt575.2.2.2.2.1 bt575.2.2.2.2.2).bind fun t593 => ((laws_toSwapper.f k l0_0 l0_1 l0_2 l0_3 l0_4 l0_5).bind fun bt594 => ((impl_IsSwapper.f k bt594.1 bt594.2.1 bt594.2.2.1 bt594.2.2.2.1 bt594.2.2.2.2.1 bt594.2.2.2.2.2).bind fun t613 => (if (t613 != t593) = true then (some false) else ((laws_toSwapper.f k l0_0 l0_1 l0_2 l0_3 l0_4 l0_5).bind fun bt614 => ((laws_eqSwapper.f k bt594.1 bt594.2.1 bt594.2.2.1 bt594.2.2.2.1 bt594.2.2.2.2.1 bt594.2.2.2.2.2 bt614.1 bt614.2.1 bt614.2.2.1 bt614.2.2.2.1 bt614.2.2.2.2.1 bt614.2.2.2.2.2).bind fun t632 => (if t632 = true then (some true) else (some false))))))))))) = some r := h
 clear h
 replace H := Z33.mp H
 obtain ⟨t574, A20, H⟩ := H
 replace H : (if t574 < 0 then (some true) else ((laws_toSwapper.f k l0_0 l0_1 l0_2 l0_3 l0_4 l0_5).bind fun bt575 => ((spec_IsSwapper.f k bt575.1 bt575.2.1 bt575.2.2.1 bt575.2.2.2.1 bt575.2.2.2.2.1 bt575.2.2.2.2.2).bind fun t593 => ((laws_toSwapper.f k l0_0 l0_1 l0_2 l0_3 l0_4 l0_5).bind fun bt594 => ((impl_IsSwapper.f k bt594.1 bt594.2.1 bt594.2.2.1 bt594.2.2.2.1 bt594.2.2.2.2.1 bt594.2.2.2.2.2).bind fun t613 => (if (t613 != t593) = true then (some false) else ((laws_toSwapper.f k l0_0 l0_1 l0_2 l0_3 l0_4 l0_5).bind fun bt614 => ((laws_eqSwapper.f k bt594.1 bt594.2.1 bt594.2.2.1 bt594.2.2.2.1 bt594.2.2.2.2.1 bt594.2.2.2.2.2 bt614.1 bt614.2.1 bt614.2.2.1 bt614.2.2.2.1 bt614.2.2.2.2.1 bt614.2.2.2.2.2).bind fun t632 => (if t632 = true then (some true) else (some false)))))))))) = some r := H
 have A2 := Ya A20
 clear A20
 by_cases c3 : t574 < 0
 ·rw [if_pos c3] at H
  have c3b0 : decide (t574 < 0) = true := Z35 c3
  clear c3
  obtain rfl := Option.some.inj H
  go_enter Try.func5, Try.ntmps5
  go_wp2_with (first | ((with_reducible refine gate_dst (N := 1) rfl ?_); refine Yx 1 #[.slice A0_0 l0_0.length c0_0, .slice A0_1 l0_1.length c0_1, .slice A0_2 l0_2.length c0_2, .slice A0_3 l0_3.length c0_3, .slice A0_4 l0_4.length c0_4, .slice A0_5 l0_5.length c0_5] 42 ?_; intro gb573 hg w4 hbox hb; have BK573 := Ya hbox; have GE573 := Yg hg; replace HB := Yh hb; clear hb hbox hg; have hz5 := Y6 BK573.out) | ((with_reducible refine gate_callee (f := 20) rfl ?_); refine Yz 9 Try.func20 #[.agg #[.slice A0_0 l0_0.length c0_0, .slice A0_1 l0_1.length c0_1, .slice A0_2 l0_2.length c0_2, .slice A0_3 l0_3.length c0_3, .slice A0_4 l0_4.length c0_4, .slice A0_5 l0_5.length c0_5], .int .i64 1048576] ?_; (with_reducible refine (laws_szSwapper.calls _ _ l0_0 _ _ l0_1 _ _ l0_2 _ _ l0_3 _ _ l0_4 _ _ l0_5 1048576 t574 _ (Yc (Z19 HR0_0.out HB.out)) HC0_0.out (Yc (Z19 HR0_1.out HB.out)) HC0_1.out (Yc (Z19 HR0_2.out HB.out)) HC0_2.out (Yc (Z19 HR0_3.out HB.out)) HC0_3.out (Yc (Z19 HR0_4.out HB.out)) HC0_4.out (Yc (Z19 HR0_5.out HB.out)) HC0_5.out A2.out).mono ?_); rintro e w6 ⟨rfl, hb⟩; refine ⟨_, rfl, ?_⟩; replace BK573 := Yb BK573 hb; replace HB := Yh hb; (try clear hb)))
  go_ret
  exact ⟨Q2, Q12⟩
 ·rw [if_neg c3] at H
  have c3b0 : decide (t574 < 0) = false := Z34 c3
  clear c3
  replace H := Z33.mp H
  obtain ⟨⟨t575, t578, t581, t584, t587, t590⟩, A70, H⟩ := H
  replace H : ((spec_IsSwapper.f k t575 t578 t581 t584 t587 t590).bind fun t593 => ((laws_toSwapper.f k l0_0 l0_1 l0_2 l0_3 l0_4 l0_5).bind fun bt594 => ((impl_IsSwapper.f k bt594.1 bt594.2.1 bt594.2.2.1 bt594.2.2.2.1 bt594.2.2.2.2.1 bt594.2.2.2.2.2).bind fun t613 => (if (t613 != t593) = true then (some false) else ((laws_toSwapper.f k l0_0 l0_1 l0_2 l0_3 l0_4 l0_5).bind fun bt614 => ((laws_eqSwapper.f k bt594.1 bt594.2.1 bt594.2.2.1 bt594.2.2.2.1 bt594.2.2.2.2.1 bt594.2.2.2.2.2 bt614.1 bt614.2.1 bt614.2.2.1 bt614.2.2.2.1 bt614.2.2.2.2.1 bt614.2.2.2.2.2).bind fun t632 => (if t632 = true then (some true) else (some false)))))))) = some r := H
  have A7 := Ya A70
  clear A70
  replace H := Z33.mp H
  obtain ⟨t593, A80, H⟩ := H
  replace H : ((laws_toSwapper.f k l0_0 l0_1 l0_2 l0_3 l0_4 l0_5).bind fun bt594 => ((impl_IsSwapper.f k bt594.1 bt594.2.1 bt594.2.2.1 bt594.2.2.2.1 bt594.2.2.2.2.1 bt594.2.2.2.2.2).bind fun t613 => (if (t613 != t593) = true then (some false) else ((laws_toSwapper.f k l0_0 l0_1 l0_2 l0_3 l0_4 l0_5).bind fun bt614 => ((laws_eqSwapper.f k bt594.1 bt594.2.1 bt594.2.2.1 bt594.2.2.2.1 bt594.2.2.2.2.1 bt594.2.2.2.2.2 bt614.1 bt614.2.1 bt614.2.2.1 bt614.2.2.2.1 bt614.2.2.2.2.1 bt614.2.2.2.2.2).bind fun t632 => (if t632 = true then (some true) else (some false))))))) = some r := H
  have A8 := Ya A80
  clear A80
  replace H := Z33.mp H
  obtain ⟨⟨t594, t597, t600, t603, t606, t609⟩, A90, H⟩ := H
  replace H : ((impl_IsSwapper.f k t594 t597 t600 t603 t606 t609).bind fun t613 => (if (t613 != t593) = true then (some false) else ((laws_toSwapper.f k l0_0 l0_1 l0_2 l0_3 l0_4 l0_5).bind fun bt614 => ((laws_eqSwapper.f k t594 t597 t600 t603 t606 t609 bt614.1 bt614.2.1 bt614.2.2.1 bt614.2.2.2.1 bt614.2.2.2.2.1 bt614.2.2.2.2.2).bind fun t632 => (if t632 = true then (some true) else (some false)))))) = some r := H
  have A9 := Ya A90
  clear A90
  replace H := Z33.mp H
  obtain ⟨t613, A100, H⟩ := H
  replace H : (if (t613 != t593) = true then (some false) else ((laws_toSwapper.f k l0_0 l0_1 l0_2 l0_3 l0_4 l0_5).bind fun bt614 => ((laws_eqSwapper.f k t594 t597 t600 t603 t606 t609 bt614.1 bt614.2.1 bt614.2.2.1 bt614.2.2.2.1 bt614.2.2.2.2.1 bt614.2.2.2.2.2).bind fun t632 => (if t632 = true then (some true) else (some false))))) = some r := H
  have A10 := Ya A100
  clear A100
  by_cases c11 : (t613 != t593) = true
  ·rw [if_pos c11] at H
   have c11b0 : (t613 != t593) = true := c11
   (try (have c11b1 : decide (t613 = t593) = false := by simpa using c11))
   (try (have c11b2 : (t613 == t593) = false := by simpa using c11))
   (try (have c11b3 : ¬ (t613 = t593) := by simpa using c11))
   clear c11
   obtain rfl := Option.some.inj H
   go_enter Try.func5, Try.ntmps5
   go_wp2_with (first | ((with_reducible refine gate_dst (N := 1) rfl ?_); refine Yx 1 #[.slice A0_0 l0_0.length c0_0, .slice A0_1 l0_1.length c0_1, .slice A0_2 l0_2.length c0_2, .slice A0_3 l0_3.length c0_3, .slice A0_4 l0_4.length c0_4, .slice A0_5 l0_5.length c0_5] 42 ?_; intro gb573 hg w12 hbox hb; have BK573 := Ya hbox; have GE573 := Yg hg; replace HB := Yh hb; clear hb hbox hg; have hz13 := Y6 BK573.out) | ((with_reducible refine gate_callee (f := 20) rfl ?_); refine Yz 9 Try.func20 #[.agg #[.slice A0_0 l0_0.length c0_0, .slice A0_1 l0_1.length c0_1, .slice A0_2 l0_2.length c0_2, .slice A0_3 l0_3.length c0_3, .slice A0_4 l0_4.length c0_4, .slice A0_5 l0_5.length c0_5], .int .i64 1048576] ?_; (with_reducible refine (laws_szSwapper.calls _ _ l0_0 _ _ l0_1 _ _ l0_2 _ _ l0_3 _ _ l0_4 _ _ l0_5 1048576 t574 _ (Yc (Z19 HR0_0.out HB.out)) HC0_0.out (Yc (Z19 HR0_1.out HB.out)) HC0_1.out (Yc (Z19 HR0_2.out HB.out)) HC0_2.out (Yc (Z19 HR0_3.out HB.out)) HC0_3.out (Yc (Z19 HR0_4.out HB.out)) HC0_4.out (Yc (Z19 HR0_5.out HB.out)) HC0_5.out A2.out).mono ?_); rintro e w14 ⟨rfl, hb⟩; refine ⟨_, rfl, ?_⟩; replace BK573 := Yb BK573 hb; replace HB := Yh hb; (try clear hb); have hz15 := Y6 BK573.out) | ((with_reducible refine gate_callee (f := 22) rfl ?_); refine Yz 13 Try.func22 #[.agg #[.slice A0_0 l0_0.length c0_0, .slice A0_1 l0_1.length c0_1, .slice A0_2 l0_2.length c0_2, .slice A0_3 l0_3.length c0_3, .slice A0_4 l0_4.length c0_4, .slice A0_5 l0_5.length c0_5]] ?_; (with_reducible refine (laws_toSwapper.calls k _ _ l0_0 _ _ l0_1 _ _ l0_2 _ _ l0_3 _ _ l0_4 _ _ l0_5 t575 t578 t581 t584 t587 t590 _ (Yc (Z19 HR0_0.out HB.out)) HC0_0.out (Yc (Z19 HR0_1.out HB.out)) HC0_1.out (Yc (Z19 HR0_2.out HB.out)) HC0_2.out (Yc (Z19 HR0_3.out HB.out)) HC0_3.out (Yc (Z19 HR0_4.out HB.out)) HC0_4.out (Yc (Z19 HR0_5.out HB.out)) HC0_5.out A7.out).mono ?_); rintro e w16 ⟨v576, v579, v582, v585, v588, v591, rfl, ho0, ho1, ho2, ho3, ho4, ho5, hb⟩; refine ⟨_, rfl, ?_⟩; have HO577 := Yl ho0; have HO580 := Yl ho1; have HO583 := Yl ho2; have HO586 := Yl ho3; have HO589 := Yl ho4; have HO592 := Yl ho5; replace BK573 := Yb BK573 hb; replace HB := Yh hb; (try clear hb ho0 ho1 ho2 ho3 ho4 ho5); obtain ⟨Ao17, co17, rfl⟩ := Z18 HO577.out; obtain ⟨Ao18, co18, rfl⟩ := Z18 HO580.out; obtain ⟨Ao19, co19, rfl⟩ := Z18 HO583.out; obtain ⟨Ao20, co20, rfl⟩ := Z18 HO586.out; obtain ⟨Ao21, co21, rfl⟩ := Z18 HO589.out; obtain ⟨Ao22, co22, rfl⟩ := Z18 HO592.out) | ((with_reducible refine gate_callee (f := 21) rfl ?_); refine Yz 14 Try.func21 #[.agg #[.slice Ao17 t575.length co17, .slice Ao18 t578.length co18, .slice Ao19 t581.length co19, .slice Ao20 t584.length co20, .slice Ao21 t587.length co21, .slice Ao22 t590.length co22]] ?_; (with_reducible refine (spec_IsSwapper.calls k _ _ t575 _ _ t578 _ _ t581 _ _ t584 _ _ t587 _ _ t590 t593 _ (Yc (Kd.R_reads' HO577.out).2.2) ((Kd.R_reads' HO577.out).2.1) (Yc (Kd.R_reads' HO580.out).2.2) ((Kd.R_reads' HO580.out).2.1) (Yc (Kd.R_reads' HO583.out).2.2) ((Kd.R_reads' HO583.out).2.1) (Yc (Kd.R_reads' HO586.out).2.2) ((Kd.R_reads' HO586.out).2.1) (Yc (Kd.R_reads' HO589.out).2.2) ((Kd.R_reads' HO589.out).2.1) (Yc (Kd.R_reads' HO592.out).2.2) ((Kd.R_reads' HO592.out).2.1) A8.out).mono ?_); rintro e w23 ⟨rfl, hb⟩; refine ⟨_, rfl, ?_⟩; replace HO577 := Yw HO577 hb; replace HO580 := Yw HO580 hb; replace HO583 := Yw HO583 hb; replace HO586 := Yw HO586 hb; replace HO589 := Yw HO589 hb; replace HO592 := Yw HO592 hb; replace BK573 := Yb BK573 hb; replace HB := Yh hb; (try clear hb); have hz24 := Y6 BK573.out) | ((with_reducible refine gate_callee (f := 22) rfl ?_); refine Yz 16 Try.func22 #[.agg #[.slice A0_0 l0_0.length c0_0, .slice A0_1 l0_1.length c0_1, .slice A0_2 l0_2.length c0_2, .slice A0_3 l0_3.length c0_3, .slice A0_4 l0_4.length c0_4, .slice A0_5 l0_5.length c0_5]] ?_; (with_reducible refine (laws_toSwapper.calls k _ _ l0_0 _ _ l0_1 _ _ l0_2 _ _ l0_3 _ _ l0_4 _ _ l0_5 t594 t597 t600 t603 t606 t609 _ (Yc (Z19 HR0_0.out HB.out)) HC0_0.out (Yc (Z19 HR0_1.out HB.out)) HC0_1.out (Yc (Z19 HR0_2.out HB.out)) HC0_2.out (Yc (Z19 HR0_3.out HB.out)) HC0_3.out (Yc (Z19 HR0_4.out HB.out)) HC0_4.out (Yc (Z19 HR0_5.out HB.out)) HC0_5.out A9.out).mono ?_); rintro e w25 ⟨v595, v598, v601, v604, v607, v610, rfl, ho0, ho1, ho2, ho3, ho4, ho5, hb⟩; refine ⟨_, rfl, ?_⟩; have HO596 := Yl (Kd.R_new' (Kd.R_new' (Kd.R_new' (Kd.R_new' (Kd.R_new' ho0 (Z17 (Yr HO577.out))) (Z17 (Yr HO580.out))) (Z17 (Yr HO586.out))) (Z17 (Yr HO589.out))) (Z17 (Yr HO592.out))); have HO599 := Yl (Kd.R_new' (Kd.R_new' (Kd.R_new' (Kd.R_new' (Kd.R_new' ho1 (Z17 (Yr HO577.out))) (Z17 (Yr HO580.out))) (Z17 (Yr HO586.out))) (Z17 (Yr HO589.out))) (Z17 (Yr HO592.out))); have HO602 := Yl (Kd.R_new' ho2 (Z17 (Yr HO583.out))); replace HO583 := Ya (Kd.R_elder' (Yr HO583.out) (Kd.R_base ho2) hb); have HO605 := Yl (Kd.R_new' (Kd.R_new' (Kd.R_new' (Kd.R_new' (Kd.R_new' ho3 (Z17 (Yr HO577.out))) (Z17 (Yr HO580.out))) (Z17 (Yr HO586.out))) (Z17 (Yr HO589.out))) (Z17 (Yr HO592.out))); have HO608 := Yl (Kd.R_new' (Kd.R_new' (Kd.R_new' (Kd.R_new' (Kd.R_new' ho4 (Z17 (Yr HO577.out))) (Z17 (Yr HO580.out))) (Z17 (Yr HO586.out))) (Z17 (Yr HO589.out))) (Z17 (Yr HO592.out))); have HO611 := Yl (Kd.R_new' (Kd.R_new' (Kd.R_new' (Kd.R_new' (Kd.R_new' ho5 (Z17 (Yr HO577.out))) (Z17 (Yr HO580.out))) (Z17 (Yr HO586.out))) (Z17 (Yr HO589.out))) (Z17 (Yr HO592.out))); replace HO577 := Ya (Z11 (Z15 (Z15 (Z15 (Z15 (Z15 (Z16 (Yr HO577.out) hb) (Kd.R_base ho0)) (Kd.R_base ho1)) (Kd.R_base ho3)) (Kd.R_base ho4)) (Kd.R_base ho5)) (fun _ h_ => h_.1)); replace HO580 := Ya (Z11 (Z15 (Z15 (Z15 (Z15 (Z15 (Z16 (Yr HO580.out) hb) (Kd.R_base ho0)) (Kd.R_base ho1)) (Kd.R_base ho3)) (Kd.R_base ho4)) (Kd.R_base ho5)) (fun _ h_ => h_.1)); replace HO586 := Ya (Z11 (Z15 (Z15 (Z15 (Z15 (Z15 (Z16 (Yr HO586.out) hb) (Kd.R_base ho0)) (Kd.R_base ho1)) (Kd.R_base ho3)) (Kd.R_base ho4)) (Kd.R_base ho5)) (fun _ h_ => h_.1)); replace HO589 := Ya (Z11 (Z15 (Z15 (Z15 (Z15 (Z15 (Z16 (Yr HO589.out) hb) (Kd.R_base ho0)) (Kd.R_base ho1)) (Kd.R_base ho3)) (Kd.R_base ho4)) (Kd.R_base ho5)) (fun _ h_ => h_.1)); replace HO592 := Ya (Z11 (Z15 (Z15 (Z15 (Z15 (Z15 (Z16 (Yr HO592.out) hb) (Kd.R_base ho0)) (Kd.R_base ho1)) (Kd.R_base ho3)) (Kd.R_base ho4)) (Kd.R_base ho5)) (fun _ h_ => h_.1)); replace BK573 := Yb BK573 hb; replace HB := Yh hb; (try clear hb ho0 ho1 ho2 ho3 ho4 ho5)) | ((with_reducible refine gate_dst (N := 5) rfl ?_); refine Yx 5 #[.slice none 0 0, .slice none 0 0, .slice none 0 0, .slice none 0 0, .slice none 0 0, .slice none 0 0] 35 ?_; intro gb612 hg w26 hbox hb; replace HO577 := Yw HO577 hb; replace HO580 := Yw HO580 hb; replace HO583 := Yw HO583 hb; replace HO586 := Yw HO586 hb; replace HO589 := Yw HO589 hb; replace HO592 := Yw HO592 hb; replace HO596 := Yw HO596 hb; replace HO599 := Yw HO599 hb; replace HO602 := Yw HO602 hb; replace HO605 := Yw HO605 hb; replace HO608 := Yw HO608 hb; replace HO611 := Yw HO611 hb; have BK612 := Ya hbox; have GE612 := Yg hg; replace HB := Yh hb; have NB573_612 := Yn BK573 hg; have NB612_573 := Ym BK573 hg; replace BK573 := Yb BK573 hb; clear hb hbox hg; obtain ⟨Ao27, co27, rfl⟩ := Z18 HO596.out; have hnb28 := NB612_573.out; have hnc28 := NB573_612.out; have hz29 := Y6 BK612.out; obtain ⟨Ao30, co30, rfl⟩ := Z18 HO599.out; obtain ⟨Ao31, co31, rfl⟩ := Z18 HO602.out; obtain ⟨Ao32, co32, rfl⟩ := Z18 HO605.out; obtain ⟨Ao33, co33, rfl⟩ := Z18 HO608.out; obtain ⟨Ao34, co34, rfl⟩ := Z18 HO611.out) | ((with_reducible refine gate_callee (f := 23) rfl ?_); refine Yz 18 Try.func23 #[.agg #[.slice Ao27 t594.length co27, .slice Ao30 t597.length co30, .slice Ao31 t600.length co31, .slice Ao32 t603.length co32, .slice Ao33 t606.length co33, .slice Ao34 t609.length co34]] ?_; (with_reducible refine (impl_IsSwapper.calls k _ _ t594 _ _ t597 _ _ t600 _ _ t603 _ _ t606 _ _ t609 t613 _ ?side1 ((Kd.R_reads' HO596.out).2.1) ?side3 ((Kd.R_reads' HO599.out).2.1) ?side5 ((Kd.R_reads' HO602.out).2.1) ?side7 ((Kd.R_reads' HO605.out).2.1) ?side9 ((Kd.R_reads' HO608.out).2.1) ?side11 ((Kd.R_reads' HO611.out).2.1) A10.out).mono ?_); (case side1 => refine (Kd.R_reads' (e := 3) (base := w.heap.size) (ok := fun k_ => ((((((some k_ ≠ (.slice Ao30 t597.length co30 : Value).ownBlock ∧ (some k_ ≠ (.slice Ao32 t603.length co32 : Value).ownBlock ∧ (some k_ ≠ (.slice Ao33 t606.length co33 : Value).ownBlock ∧ some k_ ≠ (.slice Ao34 t609.length co34 : Value).ownBlock))) ∧ some k_ ≠ (.slice Ao17 t575.length co17 : Value).ownBlock) ∧ some k_ ≠ (.slice Ao18 t578.length co18 : Value).ownBlock) ∧ some k_ ≠ (.slice Ao20 t584.length co20 : Value).ownBlock) ∧ some k_ ≠ (.slice Ao21 t587.length co21 : Value).ownBlock) ∧ some k_ ≠ (.slice Ao22 t590.length co22 : Value).ownBlock)) (n := t594.length) (c := co27) ?_).2.2; exact Q27); (case side3 => refine (Kd.R_reads' (e := 3) (base := w.heap.size) (ok := fun k_ => ((((((some k_ ≠ (.slice Ao27 t594.length co27 : Value).ownBlock ∧ (some k_ ≠ (.slice Ao32 t603.length co32 : Value).ownBlock ∧ (some k_ ≠ (.slice Ao33 t606.length co33 : Value).ownBlock ∧ some k_ ≠ (.slice Ao34 t609.length co34 : Value).ownBlock))) ∧ some k_ ≠ (.slice Ao17 t575.length co17 : Value).ownBlock) ∧ some k_ ≠ (.slice Ao18 t578.length co18 : Value).ownBlock) ∧ some k_ ≠ (.slice Ao20 t584.length co20 : Value).ownBlock) ∧ some k_ ≠ (.slice Ao21 t587.length co21 : Value).ownBlock) ∧ some k_ ≠ (.slice Ao22 t590.length co22 : Value).ownBlock)) (n := t597.length) (c := co30) ?_).2.2; exact Q26); (case side5 => refine (Kd.R_reads' (e := 4) (base := w.heap.size) (ok := fun k_ => (True ∧ some k_ ≠ (.slice Ao19 t581.length co19 : Value).ownBlock)) (n := t600.length) (c := co31) ?_).2.2; exact Q25); (case side7 => refine (Kd.R_reads' (e := 3) (base := w.heap.size) (ok := fun k_ => ((((((some k_ ≠ (.slice Ao27 t594.length co27 : Value).ownBlock ∧ (some k_ ≠ (.slice Ao30 t597.length co30 : Value).ownBlock ∧ (some k_ ≠ (.slice Ao33 t606.length co33 : Value).ownBlock ∧ some k_ ≠ (.slice Ao34 t609.length co34 : Value).ownBlock))) ∧ some k_ ≠ (.slice Ao17 t575.length co17 : Value).ownBlock) ∧ some k_ ≠ (.slice Ao18 t578.length co18 : Value).ownBlock) ∧ some k_ ≠ (.slice Ao20 t584.length co20 : Value).ownBlock) ∧ some k_ ≠ (.slice Ao21 t587.length co21 : Value).ownBlock) ∧ some k_ ≠ (.slice Ao22 t590.length co22 : Value).ownBlock)) (n := t603.length) (c := co32) ?_).2.2; exact Q24); (case side9 => refine (Kd.R_reads' (e := 3) (base := w.heap.size) (ok := fun k_ => ((((((some k_ ≠ (.slice Ao27 t594.length co27 : Value).ownBlock ∧ (some k_ ≠ (.slice Ao30 t597.length co30 : Value).ownBlock ∧ (some k_ ≠ (.slice Ao32 t603.length co32 : Value).ownBlock ∧ some k_ ≠ (.slice Ao34 t609.length co34 : Value).ownBlock))) ∧ some k_ ≠ (.slice Ao17 t575.length co17 : Value).ownBlock) ∧ some k_ ≠ (.slice Ao18 t578.length co18 : Value).ownBlock) ∧ some k_ ≠ (.slice Ao20 t584.length co20 : Value).ownBlock) ∧ some k_ ≠ (.slice Ao21 t587.length co21 : Value).ownBlock) ∧ some k_ ≠ (.slice Ao22 t590.length co22 : Value).ownBlock)) (n := t606.length) (c := co33) ?_).2.2; exact Q23); (case side11 => refine (Kd.R_reads' (e := 3) (base := w.heap.size) (ok := fun k_ => ((((((some k_ ≠ (.slice Ao27 t594.length co27 : Value).ownBlock ∧ (some k_ ≠ (.slice Ao30 t597.length co30 : Value).ownBlock ∧ (some k_ ≠ (.slice Ao32 t603.length co32 : Value).ownBlock ∧ some k_ ≠ (.slice Ao33 t606.length co33 : Value).ownBlock))) ∧ some k_ ≠ (.slice Ao17 t575.length co17 : Value).ownBlock) ∧ some k_ ≠ (.slice Ao18 t578.length co18 : Value).ownBlock) ∧ some k_ ≠ (.slice Ao20 t584.length co20 : Value).ownBlock) ∧ some k_ ≠ (.slice Ao21 t587.length co21 : Value).ownBlock) ∧ some k_ ≠ (.slice Ao22 t590.length co22 : Value).ownBlock)) (n := t609.length) (c := co34) ?_).2.2; exact Q22); rintro e w35 ⟨rfl, hb⟩; refine ⟨_, rfl, ?_⟩; replace HO577 := Ya (Z13 Q53 hb); replace HO580 := Ya (Z13 Q52 hb); replace HO583 := Ya (Z13 Q51 hb); replace HO586 := Ya (Z13 Q50 hb); replace HO589 := Ya (Z13 Q49 hb); replace HO592 := Ya (Z13 Q48 hb); replace HO596 := Ya (Z13 Q27 hb); replace HO599 := Ya (Z13 Q26 hb); replace HO602 := Ya (Z13 Q25 hb); replace HO605 := Ya (Z13 Q24 hb); replace HO608 := Ya (Z13 Q23 hb); replace HO611 := Ya (Z13 Q22 hb); replace BK573 := Yb ⟨Yo6 BK573.out NB573_612.out⟩ hb; replace BK612 := Yb ⟨Yv6 BK612.out⟩ hb; replace HB := Yh hb; (try clear hb)))
   go_ret
   exact ⟨Q2, Q12⟩
  ·rw [if_neg c11] at H
   have c11b0 : (t613 != t593) = false := by simpa using c11
   (try (have c11b1 : decide (t613 = t593) = true := by simpa using c11))
   (try (have c11b2 : (t613 == t593) = true := by simpa using c11))
   clear c11
   replace H := Z33.mp H
   obtain ⟨⟨t614, t617, t620, t623, t626, t629⟩, A360, H⟩ := H
   replace H : ((laws_eqSwapper.f k t594 t597 t600 t603 t606 t609 t614 t617 t620 t623 t626 t629).bind fun t632 => (if t632 = true then (some true) else (some false))) = some r := H
   have A36 := Ya A360
   clear A360
   replace H := Z33.mp H
   obtain ⟨t632, A370, H⟩ := H
   replace H : (if t632 = true then (some true) else (some false)) = some r := H
   have A37 := Ya A370
   clear A370
   by_cases c38 : t632 = true
   ·subst c38
    have H1 : (some true) = some r := by rw [if_pos rfl] at H; exact H
    clear H
    have H := H1
    clear H1
    obtain rfl := Option.some.inj H
    go_enter Try.func5, Try.ntmps5
    try go_wp2_with (first | ((with_reducible refine gate_dst (N := 1) rfl ?_); refine Yx 1 #[.slice A0_0 l0_0.length c0_0, .slice A0_1 l0_1.length c0_1, .slice A0_2 l0_2.length c0_2, .slice A0_3 l0_3.length c0_3, .slice A0_4 l0_4.length c0_4, .slice A0_5 l0_5.length c0_5] 42 ?_; intro gb573 hg w39 hbox hb; have BK573 := Ya hbox; have GE573 := Yg hg; replace HB := Yh hb; clear hb hbox hg; have hz40 := Y6 BK573.out) | ((with_reducible refine gate_callee (f := 20) rfl ?_); refine Yz 9 Try.func20 #[.agg #[.slice A0_0 l0_0.length c0_0, .slice A0_1 l0_1.length c0_1, .slice A0_2 l0_2.length c0_2, .slice A0_3 l0_3.length c0_3, .slice A0_4 l0_4.length c0_4, .slice A0_5 l0_5.length c0_5], .int .i64 1048576] ?_; (with_reducible refine (laws_szSwapper.calls _ _ l0_0 _ _ l0_1 _ _ l0_2 _ _ l0_3 _ _ l0_4 _ _ l0_5 1048576 t574 _ (Yc (Z19 HR0_0.out HB.out)) HC0_0.out (Yc (Z19 HR0_1.out HB.out)) HC0_1.out (Yc (Z19 HR0_2.out HB.out)) HC0_2.out (Yc (Z19 HR0_3.out HB.out)) HC0_3.out (Yc (Z19 HR0_4.out HB.out)) HC0_4.out (Yc (Z19 HR0_5.out HB.out)) HC0_5.out A2.out).mono ?_); rintro e w41 ⟨rfl, hb⟩; refine ⟨_, rfl, ?_⟩; replace BK573 := Yb BK573 hb; replace HB := Yh hb; (try clear hb); have hz42 := Y6 BK573.out) | ((with_reducible refine gate_callee (f := 22) rfl ?_); refine Yz 13 Try.func22 #[.agg #[.slice A0_0 l0_0.length c0_0, .slice A0_1 l0_1.length c0_1, .slice A0_2 l0_2.length c0_2, .slice A0_3 l0_3.length c0_3, .slice A0_4 l0_4.length c0_4, .slice A0_5 l0_5.length c0_5]] ?_; (with_reducible refine (laws_toSwapper.calls k _ _ l0_0 _ _ l0_1 _ _ l0_2 _ _ l0_3 _ _ l0_4 _ _ l0_5 t575 t578 t581 t584 t587 t590 _ (Yc (Z19 HR0_0.out HB.out)) HC0_0.out (Yc (Z19 HR0_1.out HB.out)) HC0_1.out (Yc (Z19 HR0_2.out HB.out)) HC0_2.out (Yc (Z19 HR0_3.out HB.out)) HC0_3.out (Yc (Z19 HR0_4.out HB.out)) HC0_4.out (Yc (Z19 HR0_5.out HB.out)) HC0_5.out A7.out).mono ?_); rintro e w43 ⟨v576, v579, v582, v585, v588, v591, rfl, ho0, ho1, ho2, ho3, ho4, ho5, hb⟩; refine ⟨_, rfl, ?_⟩; have HO577 := Yl ho0; have HO580 := Yl ho1; have HO583 := Yl ho2; have HO586 := Yl ho3; have HO589 := Yl ho4; have HO592 := Yl ho5; replace BK573 := Yb BK573 hb; replace HB := Yh hb; (try clear hb ho0 ho1 ho2 ho3 ho4 ho5); obtain ⟨Ao44, co44, rfl⟩ := Z18 HO577.out; obtain ⟨Ao45, co45, rfl⟩ := Z18 HO580.out; obtain ⟨Ao46, co46, rfl⟩ := Z18 HO583.out; obtain ⟨Ao47, co47, rfl⟩ := Z18 HO586.out; obtain ⟨Ao48, co48, rfl⟩ := Z18 HO589.out; obtain ⟨Ao49, co49, rfl⟩ := Z18 HO592.out) | ((with_reducible refine gate_callee (f := 21) rfl ?_); refine Yz 14 Try.func21 #[.agg #[.slice Ao44 t575.length co44, .slice Ao45 t578.length co45, .slice Ao46 t581.length co46, .slice Ao47 t584.length co47, .slice Ao48 t587.length co48, .slice Ao49 t590.length co49]] ?_; (with_reducible refine (spec_IsSwapper.calls k _ _ t575 _ _ t578 _ _ t581 _ _ t584 _ _ t587 _ _ t590 t593 _ (Yc (Kd.R_reads' HO577.out).2.2) ((Kd.R_reads' HO577.out).2.1) (Yc (Kd.R_reads' HO580.out).2.2) ((Kd.R_reads' HO580.out).2.1) (Yc (Kd.R_reads' HO583.out).2.2) ((Kd.R_reads' HO583.out).2.1) (Yc (Kd.R_reads' HO586.out).2.2) ((Kd.R_reads' HO586.out).2.1) (Yc (Kd.R_reads' HO589.out).2.2) ((Kd.R_reads' HO589.out).2.1) (Yc (Kd.R_reads' HO592.out).2.2) ((Kd.R_reads' HO592.out).2.1) A8.out).mono ?_); rintro e w50 ⟨rfl, hb⟩; refine ⟨_, rfl, ?_⟩; replace HO577 := Yw HO577 hb; replace HO580 := Yw HO580 hb; replace HO583 := Yw HO583 hb; replace HO586 := Yw HO586 hb; replace HO589 := Yw HO589 hb; replace HO592 := Yw HO592 hb; replace BK573 := Yb BK573 hb; replace HB := Yh hb; (try clear hb); have hz51 := Y6 BK573.out) | ((with_reducible refine gate_callee (f := 22) rfl ?_); refine Yz 16 Try.func22 #[.agg #[.slice A0_0 l0_0.length c0_0, .slice A0_1 l0_1.length c0_1, .slice A0_2 l0_2.length c0_2, .slice A0_3 l0_3.length c0_3, .slice A0_4 l0_4.length c0_4, .slice A0_5 l0_5.length c0_5]] ?_; (with_reducible refine (laws_toSwapper.calls k _ _ l0_0 _ _ l0_1 _ _ l0_2 _ _ l0_3 _ _ l0_4 _ _ l0_5 t594 t597 t600 t603 t606 t609 _ (Yc (Z19 HR0_0.out HB.out)) HC0_0.out (Yc (Z19 HR0_1.out HB.out)) HC0_1.out (Yc (Z19 HR0_2.out HB.out)) HC0_2.out (Yc (Z19 HR0_3.out HB.out)) HC0_3.out (Yc (Z19 HR0_4.out HB.out)) HC0_4.out (Yc (Z19 HR0_5.out HB.out)) HC0_5.out A9.out).mono ?_); rintro e w52 ⟨v595, v598, v601, v604, v607, v610, rfl, ho0, ho1, ho2, ho3, ho4, ho5, hb⟩; refine ⟨_, rfl, ?_⟩; have HO596 := Yl (Kd.R_new' (Kd.R_new' (Kd.R_new' (Kd.R_new' (Kd.R_new' ho0 (Z17 (Yr HO577.out))) (Z17 (Yr HO580.out))) (Z17 (Yr HO586.out))) (Z17 (Yr HO589.out))) (Z17 (Yr HO592.out))); have HO599 := Yl (Kd.R_new' (Kd.R_new' (Kd.R_new' (Kd.R_new' (Kd.R_new' ho1 (Z17 (Yr HO577.out))) (Z17 (Yr HO580.out))) (Z17 (Yr HO586.out))) (Z17 (Yr HO589.out))) (Z17 (Yr HO592.out))); have HO602 := Yl (Kd.R_new' ho2 (Z17 (Yr HO583.out))); replace HO583 := Ya (Kd.R_elder' (Yr HO583.out) (Kd.R_base ho2) hb); have HO605 := Yl (Kd.R_new' (Kd.R_new' (Kd.R_new' (Kd.R_new' (Kd.R_new' ho3 (Z17 (Yr HO577.out))) (Z17 (Yr HO580.out))) (Z17 (Yr HO586.out))) (Z17 (Yr HO589.out))) (Z17 (Yr HO592.out))); have HO608 := Yl (Kd.R_new' (Kd.R_new' (Kd.R_new' (Kd.R_new' (Kd.R_new' ho4 (Z17 (Yr HO577.out))) (Z17 (Yr HO580.out))) (Z17 (Yr HO586.out))) (Z17 (Yr HO589.out))) (Z17 (Yr HO592.out))); have HO611 := Yl (Kd.R_new' (Kd.R_new' (Kd.R_new' (Kd.R_new' (Kd.R_new' ho5 (Z17 (Yr HO577.out))) (Z17 (Yr HO580.out))) (Z17 (Yr HO586.out))) (Z17 (Yr HO589.out))) (Z17 (Yr HO592.out))); replace HO577 := Ya (Z11 (Z15 (Z15 (Z15 (Z15 (Z15 (Z16 (Yr HO577.out) hb) (Kd.R_base ho0)) (Kd.R_base ho1)) (Kd.R_base ho3)) (Kd.R_base ho4)) (Kd.R_base ho5)) (fun _ h_ => h_.1)); replace HO580 := Ya (Z11 (Z15 (Z15 (Z15 (Z15 (Z15 (Z16 (Yr HO580.out) hb) (Kd.R_base ho0)) (Kd.R_base ho1)) (Kd.R_base ho3)) (Kd.R_base ho4)) (Kd.R_base ho5)) (fun _ h_ => h_.1)); replace HO586 := Ya (Z11 (Z15 (Z15 (Z15 (Z15 (Z15 (Z16 (Yr HO586.out) hb) (Kd.R_base ho0)) (Kd.R_base ho1)) (Kd.R_base ho3)) (Kd.R_base ho4)) (Kd.R_base ho5)) (fun _ h_ => h_.1)); replace HO589 := Ya (Z11 (Z15 (Z15 (Z15 (Z15 (Z15 (Z16 (Yr HO589.out) hb) (Kd.R_base ho0)) (Kd.R_base ho1)) (Kd.R_base ho3)) (Kd.R_base ho4)) (Kd.R_base ho5)) (fun _ h_ => h_.1)); replace HO592 := Ya (Z11 (Z15 (Z15 (Z15 (Z15 (Z15 (Z16 (Yr HO592.out) hb) (Kd.R_base ho0)) (Kd.R_base ho1)) (Kd.R_base ho3)) (Kd.R_base ho4)) (Kd.R_base ho5)) (fun _ h_ => h_.1)); replace BK573 := Yb BK573 hb; replace HB := Yh hb; (try clear hb ho0 ho1 ho2 ho3 ho4 ho5)) | ((with_reducible refine gate_dst (N := 5) rfl ?_); refine Yx 5 #[.slice none 0 0, .slice none 0 0, .slice none 0 0, .slice none 0 0, .slice none 0 0, .slice none 0 0] 35 ?_; intro gb612 hg w53 hbox hb; replace HO577 := Yw HO577 hb; replace HO580 := Yw HO580 hb; replace HO583 := Yw HO583 hb; replace HO586 := Yw HO586 hb; replace HO589 := Yw HO589 hb; replace HO592 := Yw HO592 hb; replace HO596 := Yw HO596 hb; replace HO599 := Yw HO599 hb; replace HO602 := Yw HO602 hb; replace HO605 := Yw HO605 hb; replace HO608 := Yw HO608 hb; replace HO611 := Yw HO611 hb; have BK612 := Ya hbox; have GE612 := Yg hg; replace HB := Yh hb; have NB573_612 := Yn BK573 hg; have NB612_573 := Ym BK573 hg; replace BK573 := Yb BK573 hb; clear hb hbox hg; obtain ⟨Ao54, co54, rfl⟩ := Z18 HO596.out; have hnb55 := NB612_573.out; have hnc55 := NB573_612.out; have hz56 := Y6 BK612.out; obtain ⟨Ao57, co57, rfl⟩ := Z18 HO599.out; obtain ⟨Ao58, co58, rfl⟩ := Z18 HO602.out; obtain ⟨Ao59, co59, rfl⟩ := Z18 HO605.out; obtain ⟨Ao60, co60, rfl⟩ := Z18 HO608.out; obtain ⟨Ao61, co61, rfl⟩ := Z18 HO611.out) | ((with_reducible refine gate_callee (f := 23) rfl ?_); refine Yz 18 Try.func23 #[.agg #[.slice Ao54 t594.length co54, .slice Ao57 t597.length co57, .slice Ao58 t600.length co58, .slice Ao59 t603.length co59, .slice Ao60 t606.length co60, .slice Ao61 t609.length co61]] ?_; (with_reducible refine (impl_IsSwapper.calls k _ _ t594 _ _ t597 _ _ t600 _ _ t603 _ _ t606 _ _ t609 t613 _ ?side1 ((Kd.R_reads' HO596.out).2.1) ?side3 ((Kd.R_reads' HO599.out).2.1) ?side5 ((Kd.R_reads' HO602.out).2.1) ?side7 ((Kd.R_reads' HO605.out).2.1) ?side9 ((Kd.R_reads' HO608.out).2.1) ?side11 ((Kd.R_reads' HO611.out).2.1) A10.out).mono ?_); (case side1 => refine (Kd.R_reads' (e := 3) (base := w.heap.size) (ok := fun k_ => ((((((some k_ ≠ (.slice Ao57 t597.length co57 : Value).ownBlock ∧ (some k_ ≠ (.slice Ao59 t603.length co59 : Value).ownBlock ∧ (some k_ ≠ (.slice Ao60 t606.length co60 : Value).ownBlock ∧ some k_ ≠ (.slice Ao61 t609.length co61 : Value).ownBlock))) ∧ some k_ ≠ (.slice Ao44 t575.length co44 : Value).ownBlock) ∧ some k_ ≠ (.slice Ao45 t578.length co45 : Value).ownBlock) ∧ some k_ ≠ (.slice Ao47 t584.length co47 : Value).ownBlock) ∧ some k_ ≠ (.slice Ao48 t587.length co48 : Value).ownBlock) ∧ some k_ ≠ (.slice Ao49 t590.length co49 : Value).ownBlock)) (n := t594.length) (c := co54) ?_).2.2; exact Q27); (case side3 => refine (Kd.R_reads' (e := 3) (base := w.heap.size) (ok := fun k_ => ((((((some k_ ≠ (.slice Ao54 t594.length co54 : Value).ownBlock ∧ (some k_ ≠ (.slice Ao59 t603.length co59 : Value).ownBlock ∧ (some k_ ≠ (.slice Ao60 t606.length co60 : Value).ownBlock ∧ some k_ ≠ (.slice Ao61 t609.length co61 : Value).ownBlock))) ∧ some k_ ≠ (.slice Ao44 t575.length co44 : Value).ownBlock) ∧ some k_ ≠ (.slice Ao45 t578.length co45 : Value).ownBlock) ∧ some k_ ≠ (.slice Ao47 t584.length co47 : Value).ownBlock) ∧ some k_ ≠ (.slice Ao48 t587.length co48 : Value).ownBlock) ∧ some k_ ≠ (.slice Ao49 t590.length co49 : Value).ownBlock)) (n := t597.length) (c := co57) ?_).2.2; exact Q26); (case side5 => refine (Kd.R_reads' (e := 4) (base := w.heap.size) (ok := fun k_ => (True ∧ some k_ ≠ (.slice Ao46 t581.length co46 : Value).ownBlock)) (n := t600.length) (c := co58) ?_).2.2; exact Q25); (case side7 => refine (Kd.R_reads' (e := 3) (base := w.heap.size) (ok := fun k_ => ((((((some k_ ≠ (.slice Ao54 t594.length co54 : Value).ownBlock ∧ (some k_ ≠ (.slice Ao57 t597.length co57 : Value).ownBlock ∧ (some k_ ≠ (.slice Ao60 t606.length co60 : Value).ownBlock ∧ some k_ ≠ (.slice Ao61 t609.length co61 : Value).ownBlock))) ∧ some k_ ≠ (.slice Ao44 t575.length co44 : Value).ownBlock) ∧ some k_ ≠ (.slice Ao45 t578.length co45 : Value).ownBlock) ∧ some k_ ≠ (.slice Ao47 t584.length co47 : Value).ownBlock) ∧ some k_ ≠ (.slice Ao48 t587.length co48 : Value).ownBlock) ∧ some k_ ≠ (.slice Ao49 t590.length co49 : Value).ownBlock)) (n := t603.length) (c := co59) ?_).2.2; exact Q24); (case side9 => refine (Kd.R_reads' (e := 3) (base := w.heap.size) (ok := fun k_ => ((((((some k_ ≠ (.slice Ao54 t594.length co54 : Value).ownBlock ∧ (some k_ ≠ (.slice Ao57 t597.length co57 : Value).ownBlock ∧ (some k_ ≠ (.slice Ao59 t603.length co59 : Value).ownBlock ∧ some k_ ≠ (.slice Ao61 t609.length co61 : Value).ownBlock))) ∧ some k_ ≠ (.slice Ao44 t575.length co44 : Value).ownBlock) ∧ some k_ ≠ (.slice Ao45 t578.length co45 : Value).ownBlock) ∧ some k_ ≠ (.slice Ao47 t584.length co47 : Value).ownBlock) ∧ some k_ ≠ (.slice Ao48 t587.length co48 : Value).ownBlock) ∧ some k_ ≠ (.slice Ao49 t590.length co49 : Value).ownBlock)) (n := t606.length) (c := co60) ?_).2.2; exact Q23); (case side11 => refine (Kd.R_reads' (e := 3) (base := w.heap.size) (ok := fun k_ => ((((((some k_ ≠ (.slice Ao54 t594.length co54 : Value).ownBlock ∧ (some k_ ≠ (.slice Ao57 t597.length co57 : Value).ownBlock ∧ (some k_ ≠ (.slice Ao59 t603.length co59 : Value).ownBlock ∧ some k_ ≠ (.slice Ao60 t606.length co60 : Value).ownBlock))) ∧ some k_ ≠ (.slice Ao44 t575.length co44 : Value).ownBlock) ∧ some k_ ≠ (.slice Ao45 t578.length co45 : Value).ownBlock) ∧ some k_ ≠ (.slice Ao47 t584.length co47 : Value).ownBlock) ∧ some k_ ≠ (.slice Ao48 t587.length co48 : Value).ownBlock) ∧ some k_ ≠ (.slice Ao49 t590.length co49 : Value).ownBlock)) (n := t609.length) (c := co61) ?_).2.2; exact Q22); rintro e w62 ⟨rfl, hb⟩; refine ⟨_, rfl, ?_⟩; replace HO577 := Ya (Z13 Q53 hb); replace HO580 := Ya (Z13 Q52 hb); replace HO583 := Ya (Z13 Q51 hb); replace HO586 := Ya (Z13 Q50 hb); replace HO589 := Ya (Z13 Q49 hb); replace HO592 := Ya (Z13 Q48 hb); replace HO596 := Ya (Z13 Q27 hb); replace HO599 := Ya (Z13 Q26 hb); replace HO602 := Ya (Z13 Q25 hb); replace HO605 := Ya (Z13 Q24 hb); replace HO608 := Ya (Z13 Q23 hb); replace HO611 := Ya (Z13 Q22 hb); replace BK573 := Yb ⟨Yo6 BK573.out NB573_612.out⟩ hb; replace BK612 := Yb ⟨Yv6 BK612.out⟩ hb; replace HB := Yh hb; (try clear hb)))
    replace HO577 := Ya (Z10 HO577.out)
    replace HO580 := Ya (Z10 HO580.out)
    replace HO583 := Ya (Z10 HO583.out)
    replace HO586 := Ya (Z10 HO586.out)
    replace HO589 := Ya (Z10 HO589.out)
    replace HO592 := Ya (Z10 HO592.out)
    replace HO596 := Ya (Z10 HO596.out)
    replace HO599 := Ya (Z10 HO599.out)
    replace HO602 := Ya (Z10 HO602.out)
    replace HO605 := Ya (Z10 HO605.out)
    replace HO608 := Ya (Z10 HO608.out)
    replace HO611 := Ya (Z10 HO611.out)
    replace BK573 := Ya (Z23 BK573.out)
    replace BK612 := Ya (Z23 BK612.out)
    replace HB := Ya (Z4 HB.out)
    refine start_ (n := 5) (S := fun w' => w'.cell? ⟨gb612, 0, none⟩ = some (.slice Ao54 t594.length co54) ∧ w'.cell? ⟨gb612, 1, none⟩ = some (.slice Ao57 t597.length co57) ∧ w'.cell? ⟨gb612, 2, none⟩ = some (.slice Ao58 t600.length co58) ∧ w'.cell? ⟨gb612, 3, none⟩ = some (.slice Ao59 t603.length co59) ∧ w'.cell? ⟨gb612, 4, none⟩ = some (.slice Ao60 t606.length co60) ∧ w'.cell? ⟨gb612, 5, none⟩ = some (.slice Ao61 t609.length co61) ∧ w'.cell? ⟨gb573, 0, none⟩ = some (.slice A0_0 l0_0.length c0_0) ∧ w'.cell? ⟨gb573, 1, none⟩ = some (.slice A0_1 l0_1.length c0_1) ∧ w'.cell? ⟨gb573, 2, none⟩ = some (.slice A0_2 l0_2.length c0_2) ∧ w'.cell? ⟨gb573, 3, none⟩ = some (.slice A0_3 l0_3.length c0_3) ∧ w'.cell? ⟨gb573, 4, none⟩ = some (.slice A0_4 l0_4.length c0_4) ∧ w'.cell? ⟨gb573, 5, none⟩ = some (.slice A0_5 l0_5.length c0_5)) (ds := []) #[false, false, false, false, false] (by kernel_rfl) rfl rfl ⟨(Z20 BK612.out 0).trans rfl, (Z20 BK612.out 1).trans rfl, (Z20 BK612.out 2).trans rfl, (Z20 BK612.out 3).trans rfl, (Z20 BK612.out 4).trans rfl, (Z20 BK612.out 5).trans rfl, (Z20 BK573.out 0).trans rfl, (Z20 BK573.out 1).trans rfl, (Z20 BK573.out 2).trans rfl, (Z20 BK573.out 3).trans rfl, (Z20 BK573.out 4).trans rfl, (Z20 BK573.out 5).trans rfl⟩ (fun hHeld => ?_)
    generalize w62.drew = w63 at HO577 HO580 HO583 HO586 HO589 HO592 HO596 HO599 HO602 HO605 HO608 HO611 BK573 BK612 HB hHeld ⊢
    refine Ys 0 (some 22) #[true, false, false, false, false] rfl hHeld Q11 ?_
    refine Ys 1 (some 23) #[true, true, false, false, false] rfl hHeld Q11 ?_
    refine one_ (i := 2) (N := some 24) #[true, true, true, false, false] rfl rfl (by kernel_rfl) (by decide) (fun K hK => ?_)
    refine goes_ Try.func22 (by kernel_rfl) rfl #[.agg #[.slice A0_0 l0_0.length c0_0, .slice A0_1 l0_1.length c0_1, .slice A0_2 l0_2.length c0_2, .slice A0_3 l0_3.length c0_3, .slice A0_4 l0_4.length c0_4, .slice A0_5 l0_5.length c0_5]] (by rfl) rfl rfl Q6 ?_
    with_reducible refine (laws_toSwapper.calls k _ _ l0_0 _ _ l0_1 _ _ l0_2 _ _ l0_3 _ _ l0_4 _ _ l0_5 t614 t617 t620 t623 t626 t629 _ ?side1 ?side2 ?side3 ?side4 ?side5 ?side6 ?side7 ?side8 ?side9 ?side10 ?side11 ?side12 A36.out).mono ?_
    (case side1 => exact Yc (Z19 HR0_0.out HB.out))
    (case side2 => exact HC0_0.out)
    (case side3 => exact Yc (Z19 HR0_1.out HB.out))
    (case side4 => exact HC0_1.out)
    (case side5 => exact Yc (Z19 HR0_2.out HB.out))
    (case side6 => exact HC0_2.out)
    (case side7 => exact Yc (Z19 HR0_3.out HB.out))
    (case side8 => exact HC0_3.out)
    (case side9 => exact Yc (Z19 HR0_4.out HB.out))
    (case side10 => exact HC0_4.out)
    (case side11 => exact Yc (Z19 HR0_5.out HB.out))
    (case side12 => exact HC0_5.out)
    rintro e w64 ⟨v615, v618, v621, v624, v627, v630, rfl, ho0, ho1, ho2, ho3, ho4, ho5, hb⟩
    refine ⟨_, rfl, ?_⟩
    have HO616 := Yl (Kd.R_new' (Kd.R_new' (Kd.R_new' (Kd.R_new' (Kd.R_new' (Kd.R_new' (Kd.R_new' (Kd.R_new' (Kd.R_new' (Kd.R_new' ho0 (Z17 (Yr HO577.out))) (Z17 (Yr HO580.out))) (Z17 (Yr HO586.out))) (Z17 (Yr HO589.out))) (Z17 (Yr HO592.out))) (Z17 (Yr HO596.out))) (Z17 (Yr HO599.out))) (Z17 (Yr HO605.out))) (Z17 (Yr HO608.out))) (Z17 (Yr HO611.out)))
    have HO619 := Yl (Kd.R_new' (Kd.R_new' (Kd.R_new' (Kd.R_new' (Kd.R_new' (Kd.R_new' (Kd.R_new' (Kd.R_new' (Kd.R_new' (Kd.R_new' ho1 (Z17 (Yr HO577.out))) (Z17 (Yr HO580.out))) (Z17 (Yr HO586.out))) (Z17 (Yr HO589.out))) (Z17 (Yr HO592.out))) (Z17 (Yr HO596.out))) (Z17 (Yr HO599.out))) (Z17 (Yr HO605.out))) (Z17 (Yr HO608.out))) (Z17 (Yr HO611.out)))
    have HO622 := Yl (Kd.R_new' (Kd.R_new' ho2 (Z17 (Yr HO583.out))) (Z17 (Yr HO602.out)))
    replace HO583 := Ya (Kd.R_elder' (Yr HO583.out) (Kd.R_base ho2) hb)
    replace HO602 := Ya (Kd.R_elder' (Yr HO602.out) (Kd.R_base ho2) hb)
    have HO625 := Yl (Kd.R_new' (Kd.R_new' (Kd.R_new' (Kd.R_new' (Kd.R_new' (Kd.R_new' (Kd.R_new' (Kd.R_new' (Kd.R_new' (Kd.R_new' ho3 (Z17 (Yr HO577.out))) (Z17 (Yr HO580.out))) (Z17 (Yr HO586.out))) (Z17 (Yr HO589.out))) (Z17 (Yr HO592.out))) (Z17 (Yr HO596.out))) (Z17 (Yr HO599.out))) (Z17 (Yr HO605.out))) (Z17 (Yr HO608.out))) (Z17 (Yr HO611.out)))
    have HO628 := Yl (Kd.R_new' (Kd.R_new' (Kd.R_new' (Kd.R_new' (Kd.R_new' (Kd.R_new' (Kd.R_new' (Kd.R_new' (Kd.R_new' (Kd.R_new' ho4 (Z17 (Yr HO577.out))) (Z17 (Yr HO580.out))) (Z17 (Yr HO586.out))) (Z17 (Yr HO589.out))) (Z17 (Yr HO592.out))) (Z17 (Yr HO596.out))) (Z17 (Yr HO599.out))) (Z17 (Yr HO605.out))) (Z17 (Yr HO608.out))) (Z17 (Yr HO611.out)))
    have HO631 := Yl (Kd.R_new' (Kd.R_new' (Kd.R_new' (Kd.R_new' (Kd.R_new' (Kd.R_new' (Kd.R_new' (Kd.R_new' (Kd.R_new' (Kd.R_new' ho5 (Z17 (Yr HO577.out))) (Z17 (Yr HO580.out))) (Z17 (Yr HO586.out))) (Z17 (Yr HO589.out))) (Z17 (Yr HO592.out))) (Z17 (Yr HO596.out))) (Z17 (Yr HO599.out))) (Z17 (Yr HO605.out))) (Z17 (Yr HO608.out))) (Z17 (Yr HO611.out)))
    replace HO577 := Ya (Z11 (Z15 (Z15 (Z15 (Z15 (Z15 (Z16 (Yr HO577.out) hb) (Kd.R_base ho0)) (Kd.R_base ho1)) (Kd.R_base ho3)) (Kd.R_base ho4)) (Kd.R_base ho5)) (fun _ h_ => h_.1))
    replace HO580 := Ya (Z11 (Z15 (Z15 (Z15 (Z15 (Z15 (Z16 (Yr HO580.out) hb) (Kd.R_base ho0)) (Kd.R_base ho1)) (Kd.R_base ho3)) (Kd.R_base ho4)) (Kd.R_base ho5)) (fun _ h_ => h_.1))
    replace HO586 := Ya (Z11 (Z15 (Z15 (Z15 (Z15 (Z15 (Z16 (Yr HO586.out) hb) (Kd.R_base ho0)) (Kd.R_base ho1)) (Kd.R_base ho3)) (Kd.R_base ho4)) (Kd.R_base ho5)) (fun _ h_ => h_.1))
    replace HO589 := Ya (Z11 (Z15 (Z15 (Z15 (Z15 (Z15 (Z16 (Yr HO589.out) hb) (Kd.R_base ho0)) (Kd.R_base ho1)) (Kd.R_base ho3)) (Kd.R_base ho4)) (Kd.R_base ho5)) (fun _ h_ => h_.1))
    replace HO592 := Ya (Z11 (Z15 (Z15 (Z15 (Z15 (Z15 (Z16 (Yr HO592.out) hb) (Kd.R_base ho0)) (Kd.R_base ho1)) (Kd.R_base ho3)) (Kd.R_base ho4)) (Kd.R_base ho5)) (fun _ h_ => h_.1))
    replace HO596 := Ya (Z11 (Z15 (Z15 (Z15 (Z15 (Z15 (Z16 (Yr HO596.out) hb) (Kd.R_base ho0)) (Kd.R_base ho1)) (Kd.R_base ho3)) (Kd.R_base ho4)) (Kd.R_base ho5)) (fun _ h_ => h_.1))
    replace HO599 := Ya (Z11 (Z15 (Z15 (Z15 (Z15 (Z15 (Z16 (Yr HO599.out) hb) (Kd.R_base ho0)) (Kd.R_base ho1)) (Kd.R_base ho3)) (Kd.R_base ho4)) (Kd.R_base ho5)) (fun _ h_ => h_.1))
    replace HO605 := Ya (Z11 (Z15 (Z15 (Z15 (Z15 (Z15 (Z16 (Yr HO605.out) hb) (Kd.R_base ho0)) (Kd.R_base ho1)) (Kd.R_base ho3)) (Kd.R_base ho4)) (Kd.R_base ho5)) (fun _ h_ => h_.1))
    replace HO608 := Ya (Z11 (Z15 (Z15 (Z15 (Z15 (Z15 (Z16 (Yr HO608.out) hb) (Kd.R_base ho0)) (Kd.R_base ho1)) (Kd.R_base ho3)) (Kd.R_base ho4)) (Kd.R_base ho5)) (fun _ h_ => h_.1))
    replace HO611 := Ya (Z11 (Z15 (Z15 (Z15 (Z15 (Z15 (Z16 (Yr HO611.out) hb) (Kd.R_base ho0)) (Kd.R_base ho1)) (Kd.R_base ho3)) (Kd.R_base ho4)) (Kd.R_base ho5)) (fun _ h_ => h_.1))
    replace BK573 := Yb BK573 hb
    replace BK612 := Yb BK612 hb
    replace HB := Yh hb
    (try clear hb ho0 ho1 ho2 ho3 ho4 ho5)
    obtain ⟨Ao65, co65, eo65⟩ := Z18 HO616.out
    (first | subst eo65 | (injection eo65 with f1_ f2_ f3_; have f4_ := f1_.symm; have f5_ := f3_.symm; clear f1_ f2_ f3_; subst f4_; subst f5_))
    obtain ⟨Ao66, co66, eo66⟩ := Z18 HO619.out
    (first | subst eo66 | (injection eo66 with f1_ f2_ f3_; have f4_ := f1_.symm; have f5_ := f3_.symm; clear f1_ f2_ f3_; subst f4_; subst f5_))
    obtain ⟨Ao67, co67, eo67⟩ := Z18 HO622.out
    (first | subst eo67 | (injection eo67 with f1_ f2_ f3_; have f4_ := f1_.symm; have f5_ := f3_.symm; clear f1_ f2_ f3_; subst f4_; subst f5_))
    obtain ⟨Ao68, co68, eo68⟩ := Z18 HO625.out
    (first | subst eo68 | (injection eo68 with f1_ f2_ f3_; have f4_ := f1_.symm; have f5_ := f3_.symm; clear f1_ f2_ f3_; subst f4_; subst f5_))
    obtain ⟨Ao69, co69, eo69⟩ := Z18 HO628.out
    (first | subst eo69 | (injection eo69 with f1_ f2_ f3_; have f4_ := f1_.symm; have f5_ := f3_.symm; clear f1_ f2_ f3_; subst f4_; subst f5_))
    obtain ⟨Ao70, co70, eo70⟩ := Z18 HO631.out
    (first | subst eo70 | (injection eo70 with f1_ f2_ f3_; have f4_ := f1_.symm; have f5_ := f3_.symm; clear f1_ f2_ f3_; subst f4_; subst f5_))
    refine hK.out _ _ ⟨(Z20 BK612.out 0).trans rfl, (Z20 BK612.out 1).trans rfl, (Z20 BK612.out 2).trans rfl, (Z20 BK612.out 3).trans rfl, (Z20 BK612.out 4).trans rfl, (Z20 BK612.out 5).trans rfl, (Z20 BK573.out 0).trans rfl, (Z20 BK573.out 1).trans rfl, (Z20 BK573.out 2).trans rfl, (Z20 BK573.out 3).trans rfl, (Z20 BK573.out 4).trans rfl, (Z20 BK573.out 5).trans rfl⟩ (fun hHeld => ?_)
    clear hK K
    refine norm_ (a' := ?_) ?_ ?_
    rotate_left
    ·show Act.put _ (some 24) _ = _
     simp only [Act.put, Z0, Z1, Z2, i64_w, i32_w]
     rfl
    refine one_ (i := 3) (N := some 25) #[true, true, true, true, false] rfl rfl (by kernel_rfl) (by decide) (fun K hK => ?_)
    refine goes_ Try.func17 (by kernel_rfl) rfl #[.agg #[.slice Ao54 t594.length co54, .slice Ao57 t597.length co57, .slice Ao58 t600.length co58, .slice Ao59 t603.length co59, .slice Ao60 t606.length co60, .slice Ao61 t609.length co61], .agg #[.slice Ao65 t614.length co65, .slice Ao66 t617.length co66, .slice Ao67 t620.length co67, .slice Ao68 t623.length co68, .slice Ao69 t626.length co69, .slice Ao70 t629.length co70]] (by rfl) rfl rfl Q6 ?_
    with_reducible refine (laws_eqSwapper.calls k _ _ t594 _ _ t597 _ _ t600 _ _ t603 _ _ t606 _ _ t609 _ _ t614 _ _ t617 _ _ t620 _ _ t623 _ _ t626 _ _ t629 true _ ?side1 ?side2 ?side3 ?side4 ?side5 ?side6 ?side7 ?side8 ?side9 ?side10 ?side11 ?side12 ?side13 ?side14 ?side15 ?side16 ?side17 ?side18 ?side19 ?side20 ?side21 ?side22 ?side23 ?side24 A37.out).mono ?_
    (case side1 => exact Yc (Kd.R_reads' HO596.out).2.2)
    (case side2 => exact (Kd.R_reads' HO596.out).2.1)
    (case side3 => exact Yc (Kd.R_reads' HO599.out).2.2)
    (case side4 => exact (Kd.R_reads' HO599.out).2.1)
    (case side5 => exact Yc (Kd.R_reads' HO602.out).2.2)
    (case side6 => exact (Kd.R_reads' HO602.out).2.1)
    (case side7 => exact Yc (Kd.R_reads' HO605.out).2.2)
    (case side8 => exact (Kd.R_reads' HO605.out).2.1)
    (case side9 => exact Yc (Kd.R_reads' HO608.out).2.2)
    (case side10 => exact (Kd.R_reads' HO608.out).2.1)
    (case side11 => exact Yc (Kd.R_reads' HO611.out).2.2)
    (case side12 => exact (Kd.R_reads' HO611.out).2.1)
    (case side13 => exact Yc (Kd.R_reads' HO616.out).2.2)
    (case side14 => exact (Kd.R_reads' HO616.out).2.1)
    (case side15 => exact Yc (Kd.R_reads' HO619.out).2.2)
    (case side16 => exact (Kd.R_reads' HO619.out).2.1)
    (case side17 => exact Yc (Kd.R_reads' HO622.out).2.2)
    (case side18 => exact (Kd.R_reads' HO622.out).2.1)
    (case side19 => exact Yc (Kd.R_reads' HO625.out).2.2)
    (case side20 => exact (Kd.R_reads' HO625.out).2.1)
    (case side21 => exact Yc (Kd.R_reads' HO628.out).2.2)
    (case side22 => exact (Kd.R_reads' HO628.out).2.1)
    (case side23 => exact Yc (Kd.R_reads' HO631.out).2.2)
    (case side24 => exact (Kd.R_reads' HO631.out).2.1)
    rintro e w71 ⟨rfl, hb⟩
    refine ⟨_, rfl, ?_⟩
    replace HO577 := Yw HO577 hb
    replace HO580 := Yw HO580 hb
    replace HO583 := Yw HO583 hb
    replace HO586 := Yw HO586 hb
    replace HO589 := Yw HO589 hb
    replace HO592 := Yw HO592 hb
    replace HO596 := Yw HO596 hb
    replace HO599 := Yw HO599 hb
    replace HO602 := Yw HO602 hb
    replace HO605 := Yw HO605 hb
    replace HO608 := Yw HO608 hb
    replace HO611 := Yw HO611 hb
    replace HO616 := Yw HO616 hb
    replace HO619 := Yw HO619 hb
    replace HO622 := Yw HO622 hb
    replace HO625 := Yw HO625 hb
    replace HO628 := Yw HO628 hb
    replace HO631 := Yw HO631 hb
    replace BK573 := Yb BK573 hb
    replace BK612 := Yb BK612 hb
    replace HB := Yh hb
    (try clear hb)
    refine hK.out _ _ ⟨(Z20 BK612.out 0).trans rfl, (Z20 BK612.out 1).trans rfl, (Z20 BK612.out 2).trans rfl, (Z20 BK612.out 3).trans rfl, (Z20 BK612.out 4).trans rfl, (Z20 BK612.out 5).trans rfl, (Z20 BK573.out 0).trans rfl, (Z20 BK573.out 1).trans rfl, (Z20 BK573.out 2).trans rfl, (Z20 BK573.out 3).trans rfl, (Z20 BK573.out 4).trans rfl, (Z20 BK573.out 5).trans rfl⟩ (fun hHeld => ?_)
    clear hK K
    refine norm_ (a' := ?_) ?_ ?_
    rotate_left
    ·show Act.put _ (some 25) _ = _
     simp only [Act.put, Z0, Z1, Z2, i64_w, i32_w]
     rfl
    refine Yq 4 (some 26) #[true, true, true, true, true] rfl ?_
    refine done_ (by kernel_rfl) ?_
    try go_wp2
    go_ret
    exact ⟨Q2, Q12⟩
   ·replace c38 := Bool.eq_false_iff.mpr c38
    subst c38
    have H1 : (some false) = some r := by rw [if_neg (show ¬ (false = true) by decide)] at H; exact H
    clear H
    have H := H1
    clear H1
    obtain rfl := Option.some.inj H
    go_enter Try.func5, Try.ntmps5
    try go_wp2_with (first | ((with_reducible refine gate_dst (N := 1) rfl ?_); refine Yx 1 #[.slice A0_0 l0_0.length c0_0, .slice A0_1 l0_1.length c0_1, .slice A0_2 l0_2.length c0_2, .slice A0_3 l0_3.length c0_3, .slice A0_4 l0_4.length c0_4, .slice A0_5 l0_5.length c0_5] 42 ?_; intro gb573 hg w72 hbox hb; have BK573 := Ya hbox; have GE573 := Yg hg; replace HB := Yh hb; clear hb hbox hg; have hz73 := Y6 BK573.out) | ((with_reducible refine gate_callee (f := 20) rfl ?_); refine Yz 9 Try.func20 #[.agg #[.slice A0_0 l0_0.length c0_0, .slice A0_1 l0_1.length c0_1, .slice A0_2 l0_2.length c0_2, .slice A0_3 l0_3.length c0_3, .slice A0_4 l0_4.length c0_4, .slice A0_5 l0_5.length c0_5], .int .i64 1048576] ?_; (with_reducible refine (laws_szSwapper.calls _ _ l0_0 _ _ l0_1 _ _ l0_2 _ _ l0_3 _ _ l0_4 _ _ l0_5 1048576 t574 _ (Yc (Z19 HR0_0.out HB.out)) HC0_0.out (Yc (Z19 HR0_1.out HB.out)) HC0_1.out (Yc (Z19 HR0_2.out HB.out)) HC0_2.out (Yc (Z19 HR0_3.out HB.out)) HC0_3.out (Yc (Z19 HR0_4.out HB.out)) HC0_4.out (Yc (Z19 HR0_5.out HB.out)) HC0_5.out A2.out).mono ?_); rintro e w74 ⟨rfl, hb⟩; refine ⟨_, rfl, ?_⟩; replace BK573 := Yb BK573 hb; replace HB := Yh hb; (try clear hb); have hz75 := Y6 BK573.out) | ((with_reducible refine gate_callee (f := 22) rfl ?_); refine Yz 13 Try.func22 #[.agg #[.slice A0_0 l0_0.length c0_0, .slice A0_1 l0_1.length c0_1, .slice A0_2 l0_2.length c0_2, .slice A0_3 l0_3.length c0_3, .slice A0_4 l0_4.length c0_4, .slice A0_5 l0_5.length c0_5]] ?_; (with_reducible refine (laws_toSwapper.calls k _ _ l0_0 _ _ l0_1 _ _ l0_2 _ _ l0_3 _ _ l0_4 _ _ l0_5 t575 t578 t581 t584 t587 t590 _ (Yc (Z19 HR0_0.out HB.out)) HC0_0.out (Yc (Z19 HR0_1.out HB.out)) HC0_1.out (Yc (Z19 HR0_2.out HB.out)) HC0_2.out (Yc (Z19 HR0_3.out HB.out)) HC0_3.out (Yc (Z19 HR0_4.out HB.out)) HC0_4.out (Yc (Z19 HR0_5.out HB.out)) HC0_5.out A7.out).mono ?_); rintro e w76 ⟨v576, v579, v582, v585, v588, v591, rfl, ho0, ho1, ho2, ho3, ho4, ho5, hb⟩; refine ⟨_, rfl, ?_⟩; have HO577 := Yl ho0; have HO580 := Yl ho1; have HO583 := Yl ho2; have HO586 := Yl ho3; have HO589 := Yl ho4; have HO592 := Yl ho5; replace BK573 := Yb BK573 hb; replace HB := Yh hb; (try clear hb ho0 ho1 ho2 ho3 ho4 ho5); obtain ⟨Ao77, co77, rfl⟩ := Z18 HO577.out; obtain ⟨Ao78, co78, rfl⟩ := Z18 HO580.out; obtain ⟨Ao79, co79, rfl⟩ := Z18 HO583.out; obtain ⟨Ao80, co80, rfl⟩ := Z18 HO586.out; obtain ⟨Ao81, co81, rfl⟩ := Z18 HO589.out; obtain ⟨Ao82, co82, rfl⟩ := Z18 HO592.out) | ((with_reducible refine gate_callee (f := 21) rfl ?_); refine Yz 14 Try.func21 #[.agg #[.slice Ao77 t575.length co77, .slice Ao78 t578.length co78, .slice Ao79 t581.length co79, .slice Ao80 t584.length co80, .slice Ao81 t587.length co81, .slice Ao82 t590.length co82]] ?_; (with_reducible refine (spec_IsSwapper.calls k _ _ t575 _ _ t578 _ _ t581 _ _ t584 _ _ t587 _ _ t590 t593 _ (Yc (Kd.R_reads' HO577.out).2.2) ((Kd.R_reads' HO577.out).2.1) (Yc (Kd.R_reads' HO580.out).2.2) ((Kd.R_reads' HO580.out).2.1) (Yc (Kd.R_reads' HO583.out).2.2) ((Kd.R_reads' HO583.out).2.1) (Yc (Kd.R_reads' HO586.out).2.2) ((Kd.R_reads' HO586.out).2.1) (Yc (Kd.R_reads' HO589.out).2.2) ((Kd.R_reads' HO589.out).2.1) (Yc (Kd.R_reads' HO592.out).2.2) ((Kd.R_reads' HO592.out).2.1) A8.out).mono ?_); rintro e w83 ⟨rfl, hb⟩; refine ⟨_, rfl, ?_⟩; replace HO577 := Yw HO577 hb; replace HO580 := Yw HO580 hb; replace HO583 := Yw HO583 hb; replace HO586 := Yw HO586 hb; replace HO589 := Yw HO589 hb; replace HO592 := Yw HO592 hb; replace BK573 := Yb BK573 hb; replace HB := Yh hb; (try clear hb); have hz84 := Y6 BK573.out) | ((with_reducible refine gate_callee (f := 22) rfl ?_); refine Yz 16 Try.func22 #[.agg #[.slice A0_0 l0_0.length c0_0, .slice A0_1 l0_1.length c0_1, .slice A0_2 l0_2.length c0_2, .slice A0_3 l0_3.length c0_3, .slice A0_4 l0_4.length c0_4, .slice A0_5 l0_5.length c0_5]] ?_; (with_reducible refine (laws_toSwapper.calls k _ _ l0_0 _ _ l0_1 _ _ l0_2 _ _ l0_3 _ _ l0_4 _ _ l0_5 t594 t597 t600 t603 t606 t609 _ (Yc (Z19 HR0_0.out HB.out)) HC0_0.out (Yc (Z19 HR0_1.out HB.out)) HC0_1.out (Yc (Z19 HR0_2.out HB.out)) HC0_2.out (Yc (Z19 HR0_3.out HB.out)) HC0_3.out (Yc (Z19 HR0_4.out HB.out)) HC0_4.out (Yc (Z19 HR0_5.out HB.out)) HC0_5.out A9.out).mono ?_); rintro e w85 ⟨v595, v598, v601, v604, v607, v610, rfl, ho0, ho1, ho2, ho3, ho4, ho5, hb⟩; refine ⟨_, rfl, ?_⟩; have HO596 := Yl (Kd.R_new' (Kd.R_new' (Kd.R_new' (Kd.R_new' (Kd.R_new' ho0 (Z17 (Yr HO577.out))) (Z17 (Yr HO580.out))) (Z17 (Yr HO586.out))) (Z17 (Yr HO589.out))) (Z17 (Yr HO592.out))); have HO599 := Yl (Kd.R_new' (Kd.R_new' (Kd.R_new' (Kd.R_new' (Kd.R_new' ho1 (Z17 (Yr HO577.out))) (Z17 (Yr HO580.out))) (Z17 (Yr HO586.out))) (Z17 (Yr HO589.out))) (Z17 (Yr HO592.out))); have HO602 := Yl (Kd.R_new' ho2 (Z17 (Yr HO583.out))); replace HO583 := Ya (Kd.R_elder' (Yr HO583.out) (Kd.R_base ho2) hb); have HO605 := Yl (Kd.R_new' (Kd.R_new' (Kd.R_new' (Kd.R_new' (Kd.R_new' ho3 (Z17 (Yr HO577.out))) (Z17 (Yr HO580.out))) (Z17 (Yr HO586.out))) (Z17 (Yr HO589.out))) (Z17 (Yr HO592.out))); have HO608 := Yl (Kd.R_new' (Kd.R_new' (Kd.R_new' (Kd.R_new' (Kd.R_new' ho4 (Z17 (Yr HO577.out))) (Z17 (Yr HO580.out))) (Z17 (Yr HO586.out))) (Z17 (Yr HO589.out))) (Z17 (Yr HO592.out))); have HO611 := Yl (Kd.R_new' (Kd.R_new' (Kd.R_new' (Kd.R_new' (Kd.R_new' ho5 (Z17 (Yr HO577.out))) (Z17 (Yr HO580.out))) (Z17 (Yr HO586.out))) (Z17 (Yr HO589.out))) (Z17 (Yr HO592.out))); replace HO577 := Ya (Z11 (Z15 (Z15 (Z15 (Z15 (Z15 (Z16 (Yr HO577.out) hb) (Kd.R_base ho0)) (Kd.R_base ho1)) (Kd.R_base ho3)) (Kd.R_base ho4)) (Kd.R_base ho5)) (fun _ h_ => h_.1)); replace HO580 := Ya (Z11 (Z15 (Z15 (Z15 (Z15 (Z15 (Z16 (Yr HO580.out) hb) (Kd.R_base ho0)) (Kd.R_base ho1)) (Kd.R_base ho3)) (Kd.R_base ho4)) (Kd.R_base ho5)) (fun _ h_ => h_.1)); replace HO586 := Ya (Z11 (Z15 (Z15 (Z15 (Z15 (Z15 (Z16 (Yr HO586.out) hb) (Kd.R_base ho0)) (Kd.R_base ho1)) (Kd.R_base ho3)) (Kd.R_base ho4)) (Kd.R_base ho5)) (fun _ h_ => h_.1)); replace HO589 := Ya (Z11 (Z15 (Z15 (Z15 (Z15 (Z15 (Z16 (Yr HO589.out) hb) (Kd.R_base ho0)) (Kd.R_base ho1)) (Kd.R_base ho3)) (Kd.R_base ho4)) (Kd.R_base ho5)) (fun _ h_ => h_.1)); replace HO592 := Ya (Z11 (Z15 (Z15 (Z15 (Z15 (Z15 (Z16 (Yr HO592.out) hb) (Kd.R_base ho0)) (Kd.R_base ho1)) (Kd.R_base ho3)) (Kd.R_base ho4)) (Kd.R_base ho5)) (fun _ h_ => h_.1)); replace BK573 := Yb BK573 hb; replace HB := Yh hb; (try clear hb ho0 ho1 ho2 ho3 ho4 ho5)) | ((with_reducible refine gate_dst (N := 5) rfl ?_); refine Yx 5 #[.slice none 0 0, .slice none 0 0, .slice none 0 0, .slice none 0 0, .slice none 0 0, .slice none 0 0] 35 ?_; intro gb612 hg w86 hbox hb; replace HO577 := Yw HO577 hb; replace HO580 := Yw HO580 hb; replace HO583 := Yw HO583 hb; replace HO586 := Yw HO586 hb; replace HO589 := Yw HO589 hb; replace HO592 := Yw HO592 hb; replace HO596 := Yw HO596 hb; replace HO599 := Yw HO599 hb; replace HO602 := Yw HO602 hb; replace HO605 := Yw HO605 hb; replace HO608 := Yw HO608 hb; replace HO611 := Yw HO611 hb; have BK612 := Ya hbox; have GE612 := Yg hg; replace HB := Yh hb; have NB573_612 := Yn BK573 hg; have NB612_573 := Ym BK573 hg; replace BK573 := Yb BK573 hb; clear hb hbox hg; obtain ⟨Ao87, co87, rfl⟩ := Z18 HO596.out; have hnb88 := NB612_573.out; have hnc88 := NB573_612.out; have hz89 := Y6 BK612.out; obtain ⟨Ao90, co90, rfl⟩ := Z18 HO599.out; obtain ⟨Ao91, co91, rfl⟩ := Z18 HO602.out; obtain ⟨Ao92, co92, rfl⟩ := Z18 HO605.out; obtain ⟨Ao93, co93, rfl⟩ := Z18 HO608.out; obtain ⟨Ao94, co94, rfl⟩ := Z18 HO611.out) | ((with_reducible refine gate_callee (f := 23) rfl ?_); refine Yz 18 Try.func23 #[.agg #[.slice Ao87 t594.length co87, .slice Ao90 t597.length co90, .slice Ao91 t600.length co91, .slice Ao92 t603.length co92, .slice Ao93 t606.length co93, .slice Ao94 t609.length co94]] ?_; (with_reducible refine (impl_IsSwapper.calls k _ _ t594 _ _ t597 _ _ t600 _ _ t603 _ _ t606 _ _ t609 t613 _ ?side1 ((Kd.R_reads' HO596.out).2.1) ?side3 ((Kd.R_reads' HO599.out).2.1) ?side5 ((Kd.R_reads' HO602.out).2.1) ?side7 ((Kd.R_reads' HO605.out).2.1) ?side9 ((Kd.R_reads' HO608.out).2.1) ?side11 ((Kd.R_reads' HO611.out).2.1) A10.out).mono ?_); (case side1 => refine (Kd.R_reads' (e := 3) (base := w.heap.size) (ok := fun k_ => ((((((some k_ ≠ (.slice Ao90 t597.length co90 : Value).ownBlock ∧ (some k_ ≠ (.slice Ao92 t603.length co92 : Value).ownBlock ∧ (some k_ ≠ (.slice Ao93 t606.length co93 : Value).ownBlock ∧ some k_ ≠ (.slice Ao94 t609.length co94 : Value).ownBlock))) ∧ some k_ ≠ (.slice Ao77 t575.length co77 : Value).ownBlock) ∧ some k_ ≠ (.slice Ao78 t578.length co78 : Value).ownBlock) ∧ some k_ ≠ (.slice Ao80 t584.length co80 : Value).ownBlock) ∧ some k_ ≠ (.slice Ao81 t587.length co81 : Value).ownBlock) ∧ some k_ ≠ (.slice Ao82 t590.length co82 : Value).ownBlock)) (n := t594.length) (c := co87) ?_).2.2; exact Q27); (case side3 => refine (Kd.R_reads' (e := 3) (base := w.heap.size) (ok := fun k_ => ((((((some k_ ≠ (.slice Ao87 t594.length co87 : Value).ownBlock ∧ (some k_ ≠ (.slice Ao92 t603.length co92 : Value).ownBlock ∧ (some k_ ≠ (.slice Ao93 t606.length co93 : Value).ownBlock ∧ some k_ ≠ (.slice Ao94 t609.length co94 : Value).ownBlock))) ∧ some k_ ≠ (.slice Ao77 t575.length co77 : Value).ownBlock) ∧ some k_ ≠ (.slice Ao78 t578.length co78 : Value).ownBlock) ∧ some k_ ≠ (.slice Ao80 t584.length co80 : Value).ownBlock) ∧ some k_ ≠ (.slice Ao81 t587.length co81 : Value).ownBlock) ∧ some k_ ≠ (.slice Ao82 t590.length co82 : Value).ownBlock)) (n := t597.length) (c := co90) ?_).2.2; exact Q26); (case side5 => refine (Kd.R_reads' (e := 4) (base := w.heap.size) (ok := fun k_ => (True ∧ some k_ ≠ (.slice Ao79 t581.length co79 : Value).ownBlock)) (n := t600.length) (c := co91) ?_).2.2; exact Q25); (case side7 => refine (Kd.R_reads' (e := 3) (base := w.heap.size) (ok := fun k_ => ((((((some k_ ≠ (.slice Ao87 t594.length co87 : Value).ownBlock ∧ (some k_ ≠ (.slice Ao90 t597.length co90 : Value).ownBlock ∧ (some k_ ≠ (.slice Ao93 t606.length co93 : Value).ownBlock ∧ some k_ ≠ (.slice Ao94 t609.length co94 : Value).ownBlock))) ∧ some k_ ≠ (.slice Ao77 t575.length co77 : Value).ownBlock) ∧ some k_ ≠ (.slice Ao78 t578.length co78 : Value).ownBlock) ∧ some k_ ≠ (.slice Ao80 t584.length co80 : Value).ownBlock) ∧ some k_ ≠ (.slice Ao81 t587.length co81 : Value).ownBlock) ∧ some k_ ≠ (.slice Ao82 t590.length co82 : Value).ownBlock)) (n := t603.length) (c := co92) ?_).2.2; exact Q24); (case side9 => refine (Kd.R_reads' (e := 3) (base := w.heap.size) (ok := fun k_ => ((((((some k_ ≠ (.slice Ao87 t594.length co87 : Value).ownBlock ∧ (some k_ ≠ (.slice Ao90 t597.length co90 : Value).ownBlock ∧ (some k_ ≠ (.slice Ao92 t603.length co92 : Value).ownBlock ∧ some k_ ≠ (.slice Ao94 t609.length co94 : Value).ownBlock))) ∧ some k_ ≠ (.slice Ao77 t575.length co77 : Value).ownBlock) ∧ some k_ ≠ (.slice Ao78 t578.length co78 : Value).ownBlock) ∧ some k_ ≠ (.slice Ao80 t584.length co80 : Value).ownBlock) ∧ some k_ ≠ (.slice Ao81 t587.length co81 : Value).ownBlock) ∧ some k_ ≠ (.slice Ao82 t590.length co82 : Value).ownBlock)) (n := t606.length) (c := co93) ?_).2.2; exact Q23); (case side11 => refine (Kd.R_reads' (e := 3) (base := w.heap.size) (ok := fun k_ => ((((((some k_ ≠ (.slice Ao87 t594.length co87 : Value).ownBlock ∧ (some k_ ≠ (.slice Ao90 t597.length co90 : Value).ownBlock ∧ (some k_ ≠ (.slice Ao92 t603.length co92 : Value).ownBlock ∧ some k_ ≠ (.slice Ao93 t606.length co93 : Value).ownBlock))) ∧ some k_ ≠ (.slice Ao77 t575.length co77 : Value).ownBlock) ∧ some k_ ≠ (.slice Ao78 t578.length co78 : Value).ownBlock) ∧ some k_ ≠ (.slice Ao80 t584.length co80 : Value).ownBlock) ∧ some k_ ≠ (.slice Ao81 t587.length co81 : Value).ownBlock) ∧ some k_ ≠ (.slice Ao82 t590.length co82 : Value).ownBlock)) (n := t609.length) (c := co94) ?_).2.2; exact Q22); rintro e w95 ⟨rfl, hb⟩; refine ⟨_, rfl, ?_⟩; replace HO577 := Ya (Z13 Q53 hb); replace HO580 := Ya (Z13 Q52 hb); replace HO583 := Ya (Z13 Q51 hb); replace HO586 := Ya (Z13 Q50 hb); replace HO589 := Ya (Z13 Q49 hb); replace HO592 := Ya (Z13 Q48 hb); replace HO596 := Ya (Z13 Q27 hb); replace HO599 := Ya (Z13 Q26 hb); replace HO602 := Ya (Z13 Q25 hb); replace HO605 := Ya (Z13 Q24 hb); replace HO608 := Ya (Z13 Q23 hb); replace HO611 := Ya (Z13 Q22 hb); replace BK573 := Yb ⟨Yo6 BK573.out NB573_612.out⟩ hb; replace BK612 := Yb ⟨Yv6 BK612.out⟩ hb; replace HB := Yh hb; (try clear hb)))
    replace HO577 := Ya (Z10 HO577.out)
    replace HO580 := Ya (Z10 HO580.out)
    replace HO583 := Ya (Z10 HO583.out)
    replace HO586 := Ya (Z10 HO586.out)
    replace HO589 := Ya (Z10 HO589.out)
    replace HO592 := Ya (Z10 HO592.out)
    replace HO596 := Ya (Z10 HO596.out)
    replace HO599 := Ya (Z10 HO599.out)
    replace HO602 := Ya (Z10 HO602.out)
    replace HO605 := Ya (Z10 HO605.out)
    replace HO608 := Ya (Z10 HO608.out)
    replace HO611 := Ya (Z10 HO611.out)
    replace BK573 := Ya (Z23 BK573.out)
    replace BK612 := Ya (Z23 BK612.out)
    replace HB := Ya (Z4 HB.out)
    refine start_ (n := 5) (S := fun w' => w'.cell? ⟨gb612, 0, none⟩ = some (.slice Ao87 t594.length co87) ∧ w'.cell? ⟨gb612, 1, none⟩ = some (.slice Ao90 t597.length co90) ∧ w'.cell? ⟨gb612, 2, none⟩ = some (.slice Ao91 t600.length co91) ∧ w'.cell? ⟨gb612, 3, none⟩ = some (.slice Ao92 t603.length co92) ∧ w'.cell? ⟨gb612, 4, none⟩ = some (.slice Ao93 t606.length co93) ∧ w'.cell? ⟨gb612, 5, none⟩ = some (.slice Ao94 t609.length co94) ∧ w'.cell? ⟨gb573, 0, none⟩ = some (.slice A0_0 l0_0.length c0_0) ∧ w'.cell? ⟨gb573, 1, none⟩ = some (.slice A0_1 l0_1.length c0_1) ∧ w'.cell? ⟨gb573, 2, none⟩ = some (.slice A0_2 l0_2.length c0_2) ∧ w'.cell? ⟨gb573, 3, none⟩ = some (.slice A0_3 l0_3.length c0_3) ∧ w'.cell? ⟨gb573, 4, none⟩ = some (.slice A0_4 l0_4.length c0_4) ∧ w'.cell? ⟨gb573, 5, none⟩ = some (.slice A0_5 l0_5.length c0_5)) (ds := []) #[false, false, false, false, false] (by kernel_rfl) rfl rfl ⟨(Z20 BK612.out 0).trans rfl, (Z20 BK612.out 1).trans rfl, (Z20 BK612.out 2).trans rfl, (Z20 BK612.out 3).trans rfl, (Z20 BK612.out 4).trans rfl, (Z20 BK612.out 5).trans rfl, (Z20 BK573.out 0).trans rfl, (Z20 BK573.out 1).trans rfl, (Z20 BK573.out 2).trans rfl, (Z20 BK573.out 3).trans rfl, (Z20 BK573.out 4).trans rfl, (Z20 BK573.out 5).trans rfl⟩ (fun hHeld => ?_)
    generalize w95.drew = w96 at HO577 HO580 HO583 HO586 HO589 HO592 HO596 HO599 HO602 HO605 HO608 HO611 BK573 BK612 HB hHeld ⊢
    refine Ys 0 (some 22) #[true, false, false, false, false] rfl hHeld Q11 ?_
    refine Ys 1 (some 23) #[true, true, false, false, false] rfl hHeld Q11 ?_
    refine one_ (i := 2) (N := some 24) #[true, true, true, false, false] rfl rfl (by kernel_rfl) (by decide) (fun K hK => ?_)
    refine goes_ Try.func22 (by kernel_rfl) rfl #[.agg #[.slice A0_0 l0_0.length c0_0, .slice A0_1 l0_1.length c0_1, .slice A0_2 l0_2.length c0_2, .slice A0_3 l0_3.length c0_3, .slice A0_4 l0_4.length c0_4, .slice A0_5 l0_5.length c0_5]] (by rfl) rfl rfl Q6 ?_
    with_reducible refine (laws_toSwapper.calls k _ _ l0_0 _ _ l0_1 _ _ l0_2 _ _ l0_3 _ _ l0_4 _ _ l0_5 t614 t617 t620 t623 t626 t629 _ ?side1 ?side2 ?side3 ?side4 ?side5 ?side6 ?side7 ?side8 ?side9 ?side10 ?side11 ?side12 A36.out).mono ?_
    (case side1 => exact Yc (Z19 HR0_0.out HB.out))
    (case side2 => exact HC0_0.out)
    (case side3 => exact Yc (Z19 HR0_1.out HB.out))
    (case side4 => exact HC0_1.out)
    (case side5 => exact Yc (Z19 HR0_2.out HB.out))
    (case side6 => exact HC0_2.out)
    (case side7 => exact Yc (Z19 HR0_3.out HB.out))
    (case side8 => exact HC0_3.out)
    (case side9 => exact Yc (Z19 HR0_4.out HB.out))
    (case side10 => exact HC0_4.out)
    (case side11 => exact Yc (Z19 HR0_5.out HB.out))
    (case side12 => exact HC0_5.out)
    rintro e w97 ⟨v615, v618, v621, v624, v627, v630, rfl, ho0, ho1, ho2, ho3, ho4, ho5, hb⟩
    refine ⟨_, rfl, ?_⟩
    have HO616 := Yl (Kd.R_new' (Kd.R_new' (Kd.R_new' (Kd.R_new' (Kd.R_new' (Kd.R_new' (Kd.R_new' (Kd.R_new' (Kd.R_new' (Kd.R_new' ho0 (Z17 (Yr HO577.out))) (Z17 (Yr HO580.out))) (Z17 (Yr HO586.out))) (Z17 (Yr HO589.out))) (Z17 (Yr HO592.out))) (Z17 (Yr HO596.out))) (Z17 (Yr HO599.out))) (Z17 (Yr HO605.out))) (Z17 (Yr HO608.out))) (Z17 (Yr HO611.out)))
    have HO619 := Yl (Kd.R_new' (Kd.R_new' (Kd.R_new' (Kd.R_new' (Kd.R_new' (Kd.R_new' (Kd.R_new' (Kd.R_new' (Kd.R_new' (Kd.R_new' ho1 (Z17 (Yr HO577.out))) (Z17 (Yr HO580.out))) (Z17 (Yr HO586.out))) (Z17 (Yr HO589.out))) (Z17 (Yr HO592.out))) (Z17 (Yr HO596.out))) (Z17 (Yr HO599.out))) (Z17 (Yr HO605.out))) (Z17 (Yr HO608.out))) (Z17 (Yr HO611.out)))
    have HO622 := Yl (Kd.R_new' (Kd.R_new' ho2 (Z17 (Yr HO583.out))) (Z17 (Yr HO602.out)))
    replace HO583 := Ya (Kd.R_elder' (Yr HO583.out) (Kd.R_base ho2) hb)
    replace HO602 := Ya (Kd.R_elder' (Yr HO602.out) (Kd.R_base ho2) hb)
    have HO625 := Yl (Kd.R_new' (Kd.R_new' (Kd.R_new' (Kd.R_new' (Kd.R_new' (Kd.R_new' (Kd.R_new' (Kd.R_new' (Kd.R_new' (Kd.R_new' ho3 (Z17 (Yr HO577.out))) (Z17 (Yr HO580.out))) (Z17 (Yr HO586.out))) (Z17 (Yr HO589.out))) (Z17 (Yr HO592.out))) (Z17 (Yr HO596.out))) (Z17 (Yr HO599.out))) (Z17 (Yr HO605.out))) (Z17 (Yr HO608.out))) (Z17 (Yr HO611.out)))
    have HO628 := Yl (Kd.R_new' (Kd.R_new' (Kd.R_new' (Kd.R_new' (Kd.R_new' (Kd.R_new' (Kd.R_new' (Kd.R_new' (Kd.R_new' (Kd.R_new' ho4 (Z17 (Yr HO577.out))) (Z17 (Yr HO580.out))) (Z17 (Yr HO586.out))) (Z17 (Yr HO589.out))) (Z17 (Yr HO592.out))) (Z17 (Yr HO596.out))) (Z17 (Yr HO599.out))) (Z17 (Yr HO605.out))) (Z17 (Yr HO608.out))) (Z17 (Yr HO611.out)))
    have HO631 := Yl (Kd.R_new' (Kd.R_new' (Kd.R_new' (Kd.R_new' (Kd.R_new' (Kd.R_new' (Kd.R_new' (Kd.R_new' (Kd.R_new' (Kd.R_new' ho5 (Z17 (Yr HO577.out))) (Z17 (Yr HO580.out))) (Z17 (Yr HO586.out))) (Z17 (Yr HO589.out))) (Z17 (Yr HO592.out))) (Z17 (Yr HO596.out))) (Z17 (Yr HO599.out))) (Z17 (Yr HO605.out))) (Z17 (Yr HO608.out))) (Z17 (Yr HO611.out)))
    replace HO577 := Ya (Z11 (Z15 (Z15 (Z15 (Z15 (Z15 (Z16 (Yr HO577.out) hb) (Kd.R_base ho0)) (Kd.R_base ho1)) (Kd.R_base ho3)) (Kd.R_base ho4)) (Kd.R_base ho5)) (fun _ h_ => h_.1))
    replace HO580 := Ya (Z11 (Z15 (Z15 (Z15 (Z15 (Z15 (Z16 (Yr HO580.out) hb) (Kd.R_base ho0)) (Kd.R_base ho1)) (Kd.R_base ho3)) (Kd.R_base ho4)) (Kd.R_base ho5)) (fun _ h_ => h_.1))
    replace HO586 := Ya (Z11 (Z15 (Z15 (Z15 (Z15 (Z15 (Z16 (Yr HO586.out) hb) (Kd.R_base ho0)) (Kd.R_base ho1)) (Kd.R_base ho3)) (Kd.R_base ho4)) (Kd.R_base ho5)) (fun _ h_ => h_.1))
    replace HO589 := Ya (Z11 (Z15 (Z15 (Z15 (Z15 (Z15 (Z16 (Yr HO589.out) hb) (Kd.R_base ho0)) (Kd.R_base ho1)) (Kd.R_base ho3)) (Kd.R_base ho4)) (Kd.R_base ho5)) (fun _ h_ => h_.1))
    replace HO592 := Ya (Z11 (Z15 (Z15 (Z15 (Z15 (Z15 (Z16 (Yr HO592.out) hb) (Kd.R_base ho0)) (Kd.R_base ho1)) (Kd.R_base ho3)) (Kd.R_base ho4)) (Kd.R_base ho5)) (fun _ h_ => h_.1))
    replace HO596 := Ya (Z11 (Z15 (Z15 (Z15 (Z15 (Z15 (Z16 (Yr HO596.out) hb) (Kd.R_base ho0)) (Kd.R_base ho1)) (Kd.R_base ho3)) (Kd.R_base ho4)) (Kd.R_base ho5)) (fun _ h_ => h_.1))
    replace HO599 := Ya (Z11 (Z15 (Z15 (Z15 (Z15 (Z15 (Z16 (Yr HO599.out) hb) (Kd.R_base ho0)) (Kd.R_base ho1)) (Kd.R_base ho3)) (Kd.R_base ho4)) (Kd.R_base ho5)) (fun _ h_ => h_.1))
    replace HO605 := Ya (Z11 (Z15 (Z15 (Z15 (Z15 (Z15 (Z16 (Yr HO605.out) hb) (Kd.R_base ho0)) (Kd.R_base ho1)) (Kd.R_base ho3)) (Kd.R_base ho4)) (Kd.R_base ho5)) (fun _ h_ => h_.1))
    replace HO608 := Ya (Z11 (Z15 (Z15 (Z15 (Z15 (Z15 (Z16 (Yr HO608.out) hb) (Kd.R_base ho0)) (Kd.R_base ho1)) (Kd.R_base ho3)) (Kd.R_base ho4)) (Kd.R_base ho5)) (fun _ h_ => h_.1))
    replace HO611 := Ya (Z11 (Z15 (Z15 (Z15 (Z15 (Z15 (Z16 (Yr HO611.out) hb) (Kd.R_base ho0)) (Kd.R_base ho1)) (Kd.R_base ho3)) (Kd.R_base ho4)) (Kd.R_base ho5)) (fun _ h_ => h_.1))
    replace BK573 := Yb BK573 hb
    replace BK612 := Yb BK612 hb
    replace HB := Yh hb
    (try clear hb ho0 ho1 ho2 ho3 ho4 ho5)
    obtain ⟨Ao98, co98, eo98⟩ := Z18 HO616.out
    (first | subst eo98 | (injection eo98 with f1_ f2_ f3_; have f4_ := f1_.symm; have f5_ := f3_.symm; clear f1_ f2_ f3_; subst f4_; subst f5_))
    obtain ⟨Ao99, co99, eo99⟩ := Z18 HO619.out
    (first | subst eo99 | (injection eo99 with f1_ f2_ f3_; have f4_ := f1_.symm; have f5_ := f3_.symm; clear f1_ f2_ f3_; subst f4_; subst f5_))
    obtain ⟨Ao100, co100, eo100⟩ := Z18 HO622.out
    (first | subst eo100 | (injection eo100 with f1_ f2_ f3_; have f4_ := f1_.symm; have f5_ := f3_.symm; clear f1_ f2_ f3_; subst f4_; subst f5_))
    obtain ⟨Ao101, co101, eo101⟩ := Z18 HO625.out
    (first | subst eo101 | (injection eo101 with f1_ f2_ f3_; have f4_ := f1_.symm; have f5_ := f3_.symm; clear f1_ f2_ f3_; subst f4_; subst f5_))
    obtain ⟨Ao102, co102, eo102⟩ := Z18 HO628.out
    (first | subst eo102 | (injection eo102 with f1_ f2_ f3_; have f4_ := f1_.symm; have f5_ := f3_.symm; clear f1_ f2_ f3_; subst f4_; subst f5_))
    obtain ⟨Ao103, co103, eo103⟩ := Z18 HO631.out
    (first | subst eo103 | (injection eo103 with f1_ f2_ f3_; have f4_ := f1_.symm; have f5_ := f3_.symm; clear f1_ f2_ f3_; subst f4_; subst f5_))
    refine hK.out _ _ ⟨(Z20 BK612.out 0).trans rfl, (Z20 BK612.out 1).trans rfl, (Z20 BK612.out 2).trans rfl, (Z20 BK612.out 3).trans rfl, (Z20 BK612.out 4).trans rfl, (Z20 BK612.out 5).trans rfl, (Z20 BK573.out 0).trans rfl, (Z20 BK573.out 1).trans rfl, (Z20 BK573.out 2).trans rfl, (Z20 BK573.out 3).trans rfl, (Z20 BK573.out 4).trans rfl, (Z20 BK573.out 5).trans rfl⟩ (fun hHeld => ?_)
    clear hK K
    refine norm_ (a' := ?_) ?_ ?_
    rotate_left
    ·show Act.put _ (some 24) _ = _
     simp only [Act.put, Z0, Z1, Z2, i64_w, i32_w]
     rfl
    refine one_ (i := 3) (N := some 25) #[true, true, true, true, false] rfl rfl (by kernel_rfl) (by decide) (fun K hK => ?_)
    refine goes_ Try.func17 (by kernel_rfl) rfl #[.agg #[.slice Ao87 t594.length co87, .slice Ao90 t597.length co90, .slice Ao91 t600.length co91, .slice Ao92 t603.length co92, .slice Ao93 t606.length co93, .slice Ao94 t609.length co94], .agg #[.slice Ao98 t614.length co98, .slice Ao99 t617.length co99, .slice Ao100 t620.length co100, .slice Ao101 t623.length co101, .slice Ao102 t626.length co102, .slice Ao103 t629.length co103]] (by rfl) rfl rfl Q6 ?_
    with_reducible refine (laws_eqSwapper.calls k _ _ t594 _ _ t597 _ _ t600 _ _ t603 _ _ t606 _ _ t609 _ _ t614 _ _ t617 _ _ t620 _ _ t623 _ _ t626 _ _ t629 false _ ?side1 ?side2 ?side3 ?side4 ?side5 ?side6 ?side7 ?side8 ?side9 ?side10 ?side11 ?side12 ?side13 ?side14 ?side15 ?side16 ?side17 ?side18 ?side19 ?side20 ?side21 ?side22 ?side23 ?side24 A37.out).mono ?_
    (case side1 => exact Yc (Kd.R_reads' HO596.out).2.2)
    (case side2 => exact (Kd.R_reads' HO596.out).2.1)
    (case side3 => exact Yc (Kd.R_reads' HO599.out).2.2)
    (case side4 => exact (Kd.R_reads' HO599.out).2.1)
    (case side5 => exact Yc (Kd.R_reads' HO602.out).2.2)
    (case side6 => exact (Kd.R_reads' HO602.out).2.1)
    (case side7 => exact Yc (Kd.R_reads' HO605.out).2.2)
    (case side8 => exact (Kd.R_reads' HO605.out).2.1)
    (case side9 => exact Yc (Kd.R_reads' HO608.out).2.2)
    (case side10 => exact (Kd.R_reads' HO608.out).2.1)
    (case side11 => exact Yc (Kd.R_reads' HO611.out).2.2)
    (case side12 => exact (Kd.R_reads' HO611.out).2.1)
    (case side13 => exact Yc (Kd.R_reads' HO616.out).2.2)
    (case side14 => exact (Kd.R_reads' HO616.out).2.1)
    (case side15 => exact Yc (Kd.R_reads' HO619.out).2.2)
    (case side16 => exact (Kd.R_reads' HO619.out).2.1)
    (case side17 => exact Yc (Kd.R_reads' HO622.out).2.2)
    (case side18 => exact (Kd.R_reads' HO622.out).2.1)
    (case side19 => exact Yc (Kd.R_reads' HO625.out).2.2)
    (case side20 => exact (Kd.R_reads' HO625.out).2.1)
    (case side21 => exact Yc (Kd.R_reads' HO628.out).2.2)
    (case side22 => exact (Kd.R_reads' HO628.out).2.1)
    (case side23 => exact Yc (Kd.R_reads' HO631.out).2.2)
    (case side24 => exact (Kd.R_reads' HO631.out).2.1)
    rintro e w104 ⟨rfl, hb⟩
    refine ⟨_, rfl, ?_⟩
    replace HO577 := Yw HO577 hb
    replace HO580 := Yw HO580 hb
    replace HO583 := Yw HO583 hb
    replace HO586 := Yw HO586 hb
    replace HO589 := Yw HO589 hb
    replace HO592 := Yw HO592 hb
    replace HO596 := Yw HO596 hb
    replace HO599 := Yw HO599 hb
    replace HO602 := Yw HO602 hb
    replace HO605 := Yw HO605 hb
    replace HO608 := Yw HO608 hb
    replace HO611 := Yw HO611 hb
    replace HO616 := Yw HO616 hb
    replace HO619 := Yw HO619 hb
    replace HO622 := Yw HO622 hb
    replace HO625 := Yw HO625 hb
    replace HO628 := Yw HO628 hb
    replace HO631 := Yw HO631 hb
    replace BK573 := Yb BK573 hb
    replace BK612 := Yb BK612 hb
    replace HB := Yh hb
    (try clear hb)
    refine hK.out _ _ ⟨(Z20 BK612.out 0).trans rfl, (Z20 BK612.out 1).trans rfl, (Z20 BK612.out 2).trans rfl, (Z20 BK612.out 3).trans rfl, (Z20 BK612.out 4).trans rfl, (Z20 BK612.out 5).trans rfl, (Z20 BK573.out 0).trans rfl, (Z20 BK573.out 1).trans rfl, (Z20 BK573.out 2).trans rfl, (Z20 BK573.out 3).trans rfl, (Z20 BK573.out 4).trans rfl, (Z20 BK573.out 5).trans rfl⟩ (fun hHeld => ?_)
    clear hK K
    refine norm_ (a' := ?_) ?_ ?_
    rotate_left
    ·show Act.put _ (some 25) _ = _
     simp only [Act.put, Z0, Z1, Z2, i64_w, i32_w]
     rfl
    refine Yq 4 (some 26) #[true, true, true, true, true] rfl ?_
    refine done_ (by kernel_rfl) ?_
    try go_wp2
    go_ret
    exact ⟨Q2, Q12⟩
end Go.Proofs.Ytpfakdhfffehaaa.MFnExactIsSwapper
