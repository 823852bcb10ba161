import Derived.Test.YtedijkelbdpcdaaMFnExactIsLastFocusx0
import Derived.Test.YtedijkelbdpcdaaMFnExactIsLastFocusx1
import Derived.Test.YtedijkelbdpcdaaMFnExactIsLastFocusx2
import Derived.Test.YtedijkelbdpcdaaMFnExactIsLastFocusx9
import Derived.Test.YtedijkelbdpcdaaMFnExactIsLastFocusx14
namespace Go.Proofs.Ytedijkelbdpcdaa.MFnExactIsLastFocus
open Go.RowKit Go.Proofs.YtedijkelbdpcdaaW.PrintWords Go.Proofs.YtedijkelbdpcdaaW.PrintLast Go.Proofs.YtedijkelbdpcdaaW.PrintMore
attribute [local go_sem] max2_int min2_int max_two min_two max_three min_three max_four min_four   
set_option linter.unusedVariables false
set_option linter.unusedSimpArgs false
def impl_Focus_isLast.f (l0_0 : List Int) (l0_1 : List Int) (l0_2 : List Bool) (l0_3 : List Int) : Option (Bool) := if 0 < (l0_3.length : Int) then (some ((rd l0_3 0) == (l0_0.length : Int))) else (none)
set_option maxHeartbeats 8000000 in
set_option maxRecDepth 100000 in
theorem impl_Focus_isLast.calls (A0_0 : Option Addr) (c0_0 : Nat) (l0_0 : List Int) (A0_1 : Option Addr) (c0_1 : Nat) (l0_1 : List Int) (A0_2 : Option Addr) (c0_2 : Nat) (l0_2 : List Bool) (A0_3 : Option Addr) (c0_3 : Nat) (l0_3 : List Int) (r : Bool) (w : World) (hr0_0 : Kd.C (Kd.int .i64) w A0_0 l0_0.length l0_0) (hc0_0 : l0_0.length ≤ c0_0) (hr0_1 : Kd.C (Kd.int .i64) w A0_1 l0_1.length l0_1) (hc0_1 : l0_1.length ≤ c0_1) (hr0_2 : Kd.C Kd.bool w A0_2 l0_2.length l0_2) (hc0_2 : l0_2.length ≤ c0_2) (hr0_3 : Kd.C (Kd.int .i64) w A0_3 l0_3.length l0_3) (hc0_3 : l0_3.length ≤ c0_3) (h : impl_Focus_isLast.f l0_0 l0_1 l0_2 l0_3 = some r) :
  Calls Try.prog 53 #[.agg #[.slice A0_0 l0_0.length c0_0, .slice A0_1 l0_1.length c0_1, .slice A0_2 l0_2.length c0_2, .slice A0_3 l0_3.length c0_3]] w fun e w' => e = .returned (.bool r) ∧ Below w.heap.size w w' := by
 have hu29 := Try.underlying29
 have HR0_0 := Aside0.mk hr0_0
 have HC0_0 := Aside0.mk hc0_0
 clear hr0_0 hc0_0
 have HR0_1 := Aside0.mk hr0_1
 have HC0_1 := Aside0.mk hc0_1
 clear hr0_1 hc0_1
 have HR0_2 := Aside0.mk hr0_2
 have HC0_2 := Aside0.mk hc0_2
 clear hr0_2 hc0_2
 have HR0_3 := Aside0.mk hr0_3
 have HC0_3 := Aside0.mk hc0_3
 clear hr0_3 hc0_3
 have HB := Aside0.mk (Below.refl w.heap.size w)
 have H : (if 0 < (l0_3.length : Int) then (some ((rd l0_3 0) == (l0_0.length : Int))) else (none)) = some r := h
 clear h
 by_cases c2 : 0 < (l0_3.length : Int)
 ·rw [if_pos c2] at H
  have c2b0 : decide (0 < (l0_3.length : Int)) = true := Z39 c2
  have c2b1 : decide (0 < l0_3.length) = true := Z39 (by omega)
  clear c2
  obtain rfl := Option.some.inj H
  go_enter Try.func53, Try.ntmps53
  go_wp2_with (first | ((with_reducible refine gate_dst (N := 1) rfl ?_); refine box_event ?hg (N := 1) ?hd (cs := #[.slice A0_0 l0_0.length c0_0, .slice A0_1 l0_1.length c0_1, .slice A0_2 l0_2.length c0_2, .slice A0_3 l0_3.length c0_3]) (t := 29) ?hr ?_; (case hd => rfl); (case hg => rfl); (case hr => first | (go_simp; done) | (go_simp; rfl)); intro gb342 hg w3 hbox hb; have n0_ := Aside0.mk (Z8 (by repeat (first | (with_reducible first | exact HB.out | apply Z5 | apply Z3 | apply Z4) | exact HB.out)) hb); have n1_ := Aside0.mk (hbox); have n2_ := Aside0.mk ((by rw [hg]; exact (Z7 (by repeat (first | (with_reducible first | exact HB.out | apply Z5 | apply Z3 | apply Z4) | exact HB.out))) : w.heap.size ≤ gb342)); have n3_ := Aside0.mk ((by rw [hg]; exact (Z7 (by repeat (first | (with_reducible first | exact HB.out | apply Z5 | apply Z3 | apply Z4) | exact HB.out))) : w.heap.size ≤ gb342)); clear HB; have HB := n0_; have BK342 := n1_; have GW342 := n2_; have GE342 := n3_; clear n0_ n1_ n2_ n3_; clear hb hbox hg; have hcz4_0 : w3.cell? ⟨gb342, 0, none⟩ = some (.slice A0_0 l0_0.length c0_0) := (Z24 BK342.out 0).trans rfl; have hcz4_1 : w3.cell? ⟨gb342, 1, none⟩ = some (.slice A0_1 l0_1.length c0_1) := (Z24 BK342.out 1).trans rfl; have hcz4_2 : w3.cell? ⟨gb342, 2, none⟩ = some (.slice A0_2 l0_2.length c0_2) := (Z24 BK342.out 2).trans rfl; have hcz4_3 : w3.cell? ⟨gb342, 3, none⟩ = some (.slice A0_3 l0_3.length c0_3) := (Z24 BK342.out 3).trans rfl; have hfz4_0 := Z25 BK342.out 0; have hfz4_1 := Z25 BK342.out 1; have hfz4_2 := Z25 BK342.out 2; have hfz4_3 := Z25 BK342.out 3; have p343 : 0 ≤ (0 : Int) := (by omega); have q343 : 0 < (l0_3.length : Int) := Z31 (by first | (with_reducible assumption) | assumption); obtain ⟨ad343, e343, hx343_0⟩ := Kd.at_int HR0_3.out 0 p343 q343; cases e343; have qi343 : (0 < l0_3.length) = True := eq_true (by omega); (try rw [show ((0 : Int)).toNat = 0 from rfl] at hx343_0); (try rw [Addr.add_zero'] at hx343_0); try replace hx343_0 := (HB.out.cell (World.block_lt_of_cell? w _ hx343_0)).trans hx343_0; replace p343 := eq_true p343; replace q343 := eq_true q343))
  repeat (go_quiet (first | ((with_reducible refine gate_dst (N := 1) rfl ?_); refine box_event ?hg (N := 1) ?hd (cs := #[.slice A0_0 l0_0.length c0_0, .slice A0_1 l0_1.length c0_1, .slice A0_2 l0_2.length c0_2, .slice A0_3 l0_3.length c0_3]) (t := 29) ?hr ?_; (case hd => rfl); (case hg => rfl); (case hr => first | (go_simp; done) | (go_simp; rfl)); intro gb342 hg w3 hbox hb; have n0_ := Aside0.mk (Z8 (by repeat (first | (with_reducible first | exact HB.out | apply Z5 | apply Z3 | apply Z4) | exact HB.out)) hb); have n1_ := Aside0.mk (hbox); have n2_ := Aside0.mk ((by rw [hg]; exact (Z7 (by repeat (first | (with_reducible first | exact HB.out | apply Z5 | apply Z3 | apply Z4) | exact HB.out))) : w.heap.size ≤ gb342)); have n3_ := Aside0.mk ((by rw [hg]; exact (Z7 (by repeat (first | (with_reducible first | exact HB.out | apply Z5 | apply Z3 | apply Z4) | exact HB.out))) : w.heap.size ≤ gb342)); clear HB; have HB := n0_; have BK342 := n1_; have GW342 := n2_; have GE342 := n3_; clear n0_ n1_ n2_ n3_; clear hb hbox hg; have hcz4_0 : w3.cell? ⟨gb342, 0, none⟩ = some (.slice A0_0 l0_0.length c0_0) := (Z24 BK342.out 0).trans rfl; have hcz4_1 : w3.cell? ⟨gb342, 1, none⟩ = some (.slice A0_1 l0_1.length c0_1) := (Z24 BK342.out 1).trans rfl; have hcz4_2 : w3.cell? ⟨gb342, 2, none⟩ = some (.slice A0_2 l0_2.length c0_2) := (Z24 BK342.out 2).trans rfl; have hcz4_3 : w3.cell? ⟨gb342, 3, none⟩ = some (.slice A0_3 l0_3.length c0_3) := (Z24 BK342.out 3).trans rfl; have hfz4_0 := Z25 BK342.out 0; have hfz4_1 := Z25 BK342.out 1; have hfz4_2 := Z25 BK342.out 2; have hfz4_3 := Z25 BK342.out 3; have p343 : 0 ≤ (0 : Int) := (by omega); have q343 : 0 < (l0_3.length : Int) := Z31 (by first | (with_reducible assumption) | assumption); obtain ⟨ad343, e343, hx343_0⟩ := Kd.at_int HR0_3.out 0 p343 q343; cases e343; have qi343 : (0 < l0_3.length) = True := eq_true (by omega); (try rw [show ((0 : Int)).toNat = 0 from rfl] at hx343_0); (try rw [Addr.add_zero'] at hx343_0); try replace hx343_0 := (HB.out.cell (World.block_lt_of_cell? w _ hx343_0)).trans hx343_0; replace p343 := eq_true p343; replace q343 := eq_true q343)); try go_wp2_with (first | ((with_reducible refine gate_dst (N := 1) rfl ?_); refine box_event ?hg (N := 1) ?hd (cs := #[.slice A0_0 l0_0.length c0_0, .slice A0_1 l0_1.length c0_1, .slice A0_2 l0_2.length c0_2, .slice A0_3 l0_3.length c0_3]) (t := 29) ?hr ?_; (case hd => rfl); (case hg => rfl); (case hr => first | (go_simp; done) | (go_simp; rfl)); intro gb342 hg w3 hbox hb; have n0_ := Aside0.mk (Z8 (by repeat (first | (with_reducible first | exact HB.out | apply Z5 | apply Z3 | apply Z4) | exact HB.out)) hb); have n1_ := Aside0.mk (hbox); have n2_ := Aside0.mk ((by rw [hg]; exact (Z7 (by repeat (first | (with_reducible first | exact HB.out | apply Z5 | apply Z3 | apply Z4) | exact HB.out))) : w.heap.size ≤ gb342)); have n3_ := Aside0.mk ((by rw [hg]; exact (Z7 (by repeat (first | (with_reducible first | exact HB.out | apply Z5 | apply Z3 | apply Z4) | exact HB.out))) : w.heap.size ≤ gb342)); clear HB; have HB := n0_; have BK342 := n1_; have GW342 := n2_; have GE342 := n3_; clear n0_ n1_ n2_ n3_; clear hb hbox hg; have hcz4_0 : w3.cell? ⟨gb342, 0, none⟩ = some (.slice A0_0 l0_0.length c0_0) := (Z24 BK342.out 0).trans rfl; have hcz4_1 : w3.cell? ⟨gb342, 1, none⟩ = some (.slice A0_1 l0_1.length c0_1) := (Z24 BK342.out 1).trans rfl; have hcz4_2 : w3.cell? ⟨gb342, 2, none⟩ = some (.slice A0_2 l0_2.length c0_2) := (Z24 BK342.out 2).trans rfl; have hcz4_3 : w3.cell? ⟨gb342, 3, none⟩ = some (.slice A0_3 l0_3.length c0_3) := (Z24 BK342.out 3).trans rfl; have hfz4_0 := Z25 BK342.out 0; have hfz4_1 := Z25 BK342.out 1; have hfz4_2 := Z25 BK342.out 2; have hfz4_3 := Z25 BK342.out 3; have p343 : 0 ≤ (0 : Int) := (by omega); have q343 : 0 < (l0_3.length : Int) := Z31 (by first | (with_reducible assumption) | assumption); obtain ⟨ad343, e343, hx343_0⟩ := Kd.at_int HR0_3.out 0 p343 q343; cases e343; have qi343 : (0 < l0_3.length) = True := eq_true (by omega); (try rw [show ((0 : Int)).toNat = 0 from rfl] at hx343_0); (try rw [Addr.add_zero'] at hx343_0); try replace hx343_0 := (HB.out.cell (World.block_lt_of_cell? w _ hx343_0)).trans hx343_0; replace p343 := eq_true p343; replace q343 := eq_true q343)))
  go_ret
  exact ⟨by first | rfl | (simp [errW_none, errW_some] <;> rfl) | (simp [*, errW_none, errW_some] <;> rfl), by repeat (first | (with_reducible first | exact HB.out | apply Z5 | apply Z3 | apply Z4 | refine Z6 ?_ GE342.out) | exact HB.out)⟩
 ·rw [if_neg c2] at H
  exact absurd H (by simp)
def impl_IsLastFocus.f (k : Nat) (l0_0 : List Int) (l0_1 : List Int) (l0_2 : List Bool) (l0_3 : List Int) : Option (Bool × Bool) := (impl_IsFocus.f k l0_0 l0_1 l0_2 l0_3).bind fun t345 => (if t345 = true then ((impl_Focus_isLast.f l0_0 l0_1 l0_2 l0_3).bind fun t346 => (some (t346, true))) else (some (false, false)))
theorem impl_IsLastFocus.mono : ∀ a0 a1 a2 a3 k, LeO (impl_IsLastFocus.f k a0 a1 a2 a3) (impl_IsLastFocus.f (k + 1) a0 a1 a2 a3) := by
 intro a0 a1 a2 a3 k
 unfold impl_IsLastFocus.f
 repeat' first
   | (with_reducible exact impl_IsFocus.mono _ _ _ _ _)
   | (with_reducible exact LeO.refl _)
   | (with_reducible exact LeO.none _)
   | (with_reducible refine LeO.ite ?_ ?_)
   | (with_reducible refine LeO.bind ?_ (fun _ => ?_))
   | exact impl_IsFocus.mono _ _ _ _ _
   | exact LeO.none _
   | refine LeO.ite ?_ ?_
   | refine LeO.bind ?_ (fun _ => ?_)
set_option maxHeartbeats 8000000 in
set_option maxRecDepth 100000 in
theorem impl_IsLastFocus.calls (k : Nat) (A0_0 : Option Addr) (c0_0 : Nat) (l0_0 : List Int) (A0_1 : Option Addr) (c0_1 : Nat) (l0_1 : List Int) (A0_2 : Option Addr) (c0_2 : Nat) (l0_2 : List Bool) (A0_3 : Option Addr) (c0_3 : Nat) (l0_3 : List Int) (r1 : Bool) (r2 : Bool) (w : World) (hr0_0 : Kd.C (Kd.int .i64) w A0_0 l0_0.length l0_0) (hc0_0 : l0_0.length ≤ c0_0) (hr0_1 : Kd.C (Kd.int .i64) w A0_1 l0_1.length l0_1) (hc0_1 : l0_1.length ≤ c0_1) (hr0_2 : Kd.C Kd.bool w A0_2 l0_2.length l0_2) (hc0_2 : l0_2.length ≤ c0_2) (hr0_3 : Kd.C (Kd.int .i64) w A0_3 l0_3.length l0_3) (hc0_3 : l0_3.length ≤ c0_3) (h : impl_IsLastFocus.f k l0_0 l0_1 l0_2 l0_3 = some (r1, r2)) :
  Calls Try.prog 18 #[.agg #[.slice A0_0 l0_0.length c0_0, .slice A0_1 l0_1.length c0_1, .slice A0_2 l0_2.length c0_2, .slice A0_3 l0_3.length c0_3]] w fun e w' => e = .returned (.tuple #[.bool r1, .bool r2]) ∧ Below w.heap.size w w' := by
 have hu29 := Try.underlying29
 have HR0_0 := Aside0.mk hr0_0
 have HC0_0 := Aside0.mk hc0_0
 clear hr0_0 hc0_0
 have HR0_1 := Aside0.mk hr0_1
 have HC0_1 := Aside0.mk hc0_1
 clear hr0_1 hc0_1
 have HR0_2 := Aside0.mk hr0_2
 have HC0_2 := Aside0.mk hc0_2
 clear hr0_2 hc0_2
 have HR0_3 := Aside0.mk hr0_3
 have HC0_3 := Aside0.mk hc0_3
 clear hr0_3 hc0_3
 have HB := Aside0.mk (Below.refl w.heap.size w)
 have H : ((impl_IsFocus.f k l0_0 l0_1 l0_2 l0_3).bind fun t345 => (if t345 = true then ((impl_Focus_isLast.f l0_0 l0_1 l0_2 l0_3).bind fun t346 => (some (t346, true))) else (some (false, false)))) = some (r1, r2) := h
 clear h
 replace H := Z37.mp H
 obtain ⟨t345, A20, H⟩ := H
 replace H : (if t345 = true then ((impl_Focus_isLast.f l0_0 l0_1 l0_2 l0_3).bind fun t346 => (some (t346, true))) else (some (false, false))) = some (r1, r2) := H
 have A2 := Aside0.mk A20
 clear A20
 by_cases c3 : t345 = true
 ·subst c3
  have H1 : ((impl_Focus_isLast.f l0_0 l0_1 l0_2 l0_3).bind fun t346 => (some (t346, true))) = some (r1, r2) := by rw [if_pos rfl] at H; exact H
  clear H
  have H := H1
  clear H1
  replace H := Z37.mp H
  obtain ⟨t346, A40, H⟩ := H
  replace H : (some (t346, true)) = some (r1, r2) := H
  have A4 := Aside0.mk A40
  clear A40
  simp only [Option.some.injEq, Prod.mk.injEq] at H
  obtain ⟨rfl, rfl⟩ := H
  go_enter Try.func18, Try.ntmps18
  go_wp2_with (first | ((with_reducible refine gate_dst (N := 1) rfl ?_); refine box_event ?hg (N := 1) ?hd (cs := #[.slice A0_0 l0_0.length c0_0, .slice A0_1 l0_1.length c0_1, .slice A0_2 l0_2.length c0_2, .slice A0_3 l0_3.length c0_3]) (t := 29) ?hr ?_; (case hd => rfl); (case hg => rfl); (case hr => first | (go_simp; done) | (go_simp; rfl)); intro gb344 hg w5 hbox hb; have n0_ := Aside0.mk (Z8 (by repeat (first | (with_reducible first | exact HB.out | apply Z5 | apply Z3 | apply Z4) | exact HB.out)) hb); have n1_ := Aside0.mk (hbox); have n2_ := Aside0.mk ((by rw [hg]; exact (Z7 (by repeat (first | (with_reducible first | exact HB.out | apply Z5 | apply Z3 | apply Z4) | exact HB.out))) : w.heap.size ≤ gb344)); have n3_ := Aside0.mk ((by rw [hg]; exact (Z7 (by repeat (first | (with_reducible first | exact HB.out | apply Z5 | apply Z3 | apply Z4) | exact HB.out))) : w.heap.size ≤ gb344)); clear HB; have HB := n0_; have BK344 := n1_; have GW344 := n2_; have GE344 := n3_; clear n0_ n1_ n2_ n3_; clear hb hbox hg; have hcz6_0 : w5.cell? ⟨gb344, 0, none⟩ = some (.slice A0_0 l0_0.length c0_0) := (Z24 BK344.out 0).trans rfl; have hcz6_1 : w5.cell? ⟨gb344, 1, none⟩ = some (.slice A0_1 l0_1.length c0_1) := (Z24 BK344.out 1).trans rfl; have hcz6_2 : w5.cell? ⟨gb344, 2, none⟩ = some (.slice A0_2 l0_2.length c0_2) := (Z24 BK344.out 2).trans rfl; have hcz6_3 : w5.cell? ⟨gb344, 3, none⟩ = some (.slice A0_3 l0_3.length c0_3) := (Z24 BK344.out 3).trans rfl; have hfz6_0 := Z25 BK344.out 0; have hfz6_1 := Z25 BK344.out 1; have hfz6_2 := Z25 BK344.out 2; have hfz6_3 := Z25 BK344.out 3) | ((with_reducible refine gate_callee (f := 49) rfl ?_); refine goesL_ (some 5) rfl rfl Try.func49 (by kernel_rfl) rfl #[.agg #[.slice A0_0 l0_0.length c0_0, .slice A0_1 l0_1.length c0_1, .slice A0_2 l0_2.length c0_2, .slice A0_3 l0_3.length c0_3]] rfl (by (try simp only [Z34, Z35, Z36]); first | done | rfl | (simp only [Z32, Z33]; rfl)) ?_; (with_reducible refine (impl_IsFocus.calls k _ _ l0_0 _ _ l0_1 _ _ l0_2 _ _ l0_3 true _ ?side1 ?side2 ?side3 ?side4 ?side5 ?side6 ?side7 ?side8 A2.out).mono ?_); (case side1 => repeat (first | exact (Z23 HR0_0.out HB.out) | (with_reducible refine Z20 ?_ _) | (with_reducible refine Z21 ?_ _) | (with_reducible refine Z22 ?_))); (case side2 => exact HC0_0.out); (case side3 => repeat (first | exact (Z23 HR0_1.out HB.out) | (with_reducible refine Z20 ?_ _) | (with_reducible refine Z21 ?_ _) | (with_reducible refine Z22 ?_))); (case side4 => exact HC0_1.out); (case side5 => repeat (first | exact (Z23 HR0_2.out HB.out) | (with_reducible refine Z20 ?_ _) | (with_reducible refine Z21 ?_ _) | (with_reducible refine Z22 ?_))); (case side6 => exact HC0_2.out); (case side7 => repeat (first | exact (Z23 HR0_3.out HB.out) | (with_reducible refine Z20 ?_ _) | (with_reducible refine Z21 ?_ _) | (with_reducible refine Z22 ?_))); (case side8 => exact HC0_3.out); rintro e w7 ⟨rfl, hb⟩; refine ⟨_, rfl, ?_⟩; have n0_ := Aside0.mk (Z29 (g := gb344) (o := .cells #[.slice A0_0 l0_0.length c0_0, .slice A0_1 l0_1.length c0_1, .slice A0_2 l0_2.length c0_2, .slice A0_3 l0_3.length c0_3] 29 (0, 0)) (by (with_reducible repeat (first | refine Z26 ?_ _ | refine Z27 ?_ | refine Z28 ?_ _)); exact BK344.out) hb); have n1_ := Aside0.mk (Z8 (by repeat (first | (with_reducible first | exact HB.out | apply Z5 | apply Z3 | apply Z4 | refine Z6 ?_ GE344.out) | exact HB.out)) hb); clear BK344; clear HB; have BK344 := n0_; have HB := n1_; clear n0_ n1_; (try clear hb); (try clear hb2); (try clear hk); (try clear hi); have hcz8_0 : w7.cell? ⟨gb344, 0, none⟩ = some (.slice A0_0 l0_0.length c0_0) := (Z24 BK344.out 0).trans rfl; have hcz8_1 : w7.cell? ⟨gb344, 1, none⟩ = some (.slice A0_1 l0_1.length c0_1) := (Z24 BK344.out 1).trans rfl; have hcz8_2 : w7.cell? ⟨gb344, 2, none⟩ = some (.slice A0_2 l0_2.length c0_2) := (Z24 BK344.out 2).trans rfl; have hcz8_3 : w7.cell? ⟨gb344, 3, none⟩ = some (.slice A0_3 l0_3.length c0_3) := (Z24 BK344.out 3).trans rfl; have hfz8_0 := Z25 BK344.out 0; have hfz8_1 := Z25 BK344.out 1; have hfz8_2 := Z25 BK344.out 2; have hfz8_3 := Z25 BK344.out 3) | ((with_reducible refine gate_callee (f := 53) rfl ?_); refine goesL_ (some 8) rfl rfl Try.func53 (by kernel_rfl) rfl #[.agg #[.slice A0_0 l0_0.length c0_0, .slice A0_1 l0_1.length c0_1, .slice A0_2 l0_2.length c0_2, .slice A0_3 l0_3.length c0_3]] rfl (by (try simp only [Z34, Z35, Z36]); first | done | rfl | (simp only [Z32, Z33]; rfl)) ?_; (with_reducible refine (impl_Focus_isLast.calls _ _ l0_0 _ _ l0_1 _ _ l0_2 _ _ l0_3 t346 _ ?side1 ?side2 ?side3 ?side4 ?side5 ?side6 ?side7 ?side8 A4.out).mono ?_); (case side1 => repeat (first | exact (Z23 HR0_0.out HB.out) | (with_reducible refine Z20 ?_ _) | (with_reducible refine Z21 ?_ _) | (with_reducible refine Z22 ?_))); (case side2 => exact HC0_0.out); (case side3 => repeat (first | exact (Z23 HR0_1.out HB.out) | (with_reducible refine Z20 ?_ _) | (with_reducible refine Z21 ?_ _) | (with_reducible refine Z22 ?_))); (case side4 => exact HC0_1.out); (case side5 => repeat (first | exact (Z23 HR0_2.out HB.out) | (with_reducible refine Z20 ?_ _) | (with_reducible refine Z21 ?_ _) | (with_reducible refine Z22 ?_))); (case side6 => exact HC0_2.out); (case side7 => repeat (first | exact (Z23 HR0_3.out HB.out) | (with_reducible refine Z20 ?_ _) | (with_reducible refine Z21 ?_ _) | (with_reducible refine Z22 ?_))); (case side8 => exact HC0_3.out); rintro e w9 ⟨rfl, hb⟩; refine ⟨_, rfl, ?_⟩; have n0_ := Aside0.mk (Z29 (g := gb344) (o := .cells #[.slice A0_0 l0_0.length c0_0, .slice A0_1 l0_1.length c0_1, .slice A0_2 l0_2.length c0_2, .slice A0_3 l0_3.length c0_3] 29 (0, 0)) (by (with_reducible repeat (first | refine Z26 ?_ _ | refine Z27 ?_ | refine Z28 ?_ _)); exact BK344.out) hb); have n1_ := Aside0.mk (Z8 (by repeat (first | (with_reducible first | exact HB.out | apply Z5 | apply Z3 | apply Z4 | refine Z6 ?_ GE344.out) | exact HB.out)) hb); clear BK344; clear HB; have BK344 := n0_; have HB := n1_; clear n0_ n1_; (try clear hb); (try clear hb2); (try clear hk); (try clear hi)))
  go_ret2
  exact ⟨by first | rfl | (simp [errW_none, errW_some] <;> rfl) | (simp [*, errW_none, errW_some] <;> rfl), by repeat (first | (with_reducible first | exact HB.out | apply Z5 | apply Z3 | apply Z4 | refine Z6 ?_ GE344.out) | exact HB.out)⟩
 ·replace c3 := Bool.eq_false_iff.mpr c3
  subst c3
  have H1 : (some (false, false)) = some (r1, r2) := by rw [if_neg (show ¬ (false = true) by decide)] at H; exact H
  clear H
  have H := H1
  clear H1
  simp only [Option.some.injEq, Prod.mk.injEq] at H
  obtain ⟨rfl, rfl⟩ := H
  go_enter Try.func18, Try.ntmps18
  go_wp2_with (first | ((with_reducible refine gate_dst (N := 1) rfl ?_); refine box_event ?hg (N := 1) ?hd (cs := #[.slice A0_0 l0_0.length c0_0, .slice A0_1 l0_1.length c0_1, .slice A0_2 l0_2.length c0_2, .slice A0_3 l0_3.length c0_3]) (t := 29) ?hr ?_; (case hd => rfl); (case hg => rfl); (case hr => first | (go_simp; done) | (go_simp; rfl)); intro gb344 hg w10 hbox hb; have n0_ := Aside0.mk (Z8 (by repeat (first | (with_reducible first | exact HB.out | apply Z5 | apply Z3 | apply Z4) | exact HB.out)) hb); have n1_ := Aside0.mk (hbox); have n2_ := Aside0.mk ((by rw [hg]; exact (Z7 (by repeat (first | (with_reducible first | exact HB.out | apply Z5 | apply Z3 | apply Z4) | exact HB.out))) : w.heap.size ≤ gb344)); have n3_ := Aside0.mk ((by rw [hg]; exact (Z7 (by repeat (first | (with_reducible first | exact HB.out | apply Z5 | apply Z3 | apply Z4) | exact HB.out))) : w.heap.size ≤ gb344)); clear HB; have HB := n0_; have BK344 := n1_; have GW344 := n2_; have GE344 := n3_; clear n0_ n1_ n2_ n3_; clear hb hbox hg; have hcz11_0 : w10.cell? ⟨gb344, 0, none⟩ = some (.slice A0_0 l0_0.length c0_0) := (Z24 BK344.out 0).trans rfl; have hcz11_1 : w10.cell? ⟨gb344, 1, none⟩ = some (.slice A0_1 l0_1.length c0_1) := (Z24 BK344.out 1).trans rfl; have hcz11_2 : w10.cell? ⟨gb344, 2, none⟩ = some (.slice A0_2 l0_2.length c0_2) := (Z24 BK344.out 2).trans rfl; have hcz11_3 : w10.cell? ⟨gb344, 3, none⟩ = some (.slice A0_3 l0_3.length c0_3) := (Z24 BK344.out 3).trans rfl; have hfz11_0 := Z25 BK344.out 0; have hfz11_1 := Z25 BK344.out 1; have hfz11_2 := Z25 BK344.out 2; have hfz11_3 := Z25 BK344.out 3) | ((with_reducible refine gate_callee (f := 49) rfl ?_); refine goesL_ (some 5) rfl rfl Try.func49 (by kernel_rfl) rfl #[.agg #[.slice A0_0 l0_0.length c0_0, .slice A0_1 l0_1.length c0_1, .slice A0_2 l0_2.length c0_2, .slice A0_3 l0_3.length c0_3]] rfl (by (try simp only [Z34, Z35, Z36]); first | done | rfl | (simp only [Z32, Z33]; rfl)) ?_; (with_reducible refine (impl_IsFocus.calls k _ _ l0_0 _ _ l0_1 _ _ l0_2 _ _ l0_3 false _ ?side1 ?side2 ?side3 ?side4 ?side5 ?side6 ?side7 ?side8 A2.out).mono ?_); (case side1 => repeat (first | exact (Z23 HR0_0.out HB.out) | (with_reducible refine Z20 ?_ _) | (with_reducible refine Z21 ?_ _) | (with_reducible refine Z22 ?_))); (case side2 => exact HC0_0.out); (case side3 => repeat (first | exact (Z23 HR0_1.out HB.out) | (with_reducible refine Z20 ?_ _) | (with_reducible refine Z21 ?_ _) | (with_reducible refine Z22 ?_))); (case side4 => exact HC0_1.out); (case side5 => repeat (first | exact (Z23 HR0_2.out HB.out) | (with_reducible refine Z20 ?_ _) | (with_reducible refine Z21 ?_ _) | (with_reducible refine Z22 ?_))); (case side6 => exact HC0_2.out); (case side7 => repeat (first | exact (Z23 HR0_3.out HB.out) | (with_reducible refine Z20 ?_ _) | (with_reducible refine Z21 ?_ _) | (with_reducible refine Z22 ?_))); (case side8 => exact HC0_3.out); rintro e w12 ⟨rfl, hb⟩; refine ⟨_, rfl, ?_⟩; have n0_ := Aside0.mk (Z29 (g := gb344) (o := .cells #[.slice A0_0 l0_0.length c0_0, .slice A0_1 l0_1.length c0_1, .slice A0_2 l0_2.length c0_2, .slice A0_3 l0_3.length c0_3] 29 (0, 0)) (by (with_reducible repeat (first | refine Z26 ?_ _ | refine Z27 ?_ | refine Z28 ?_ _)); exact BK344.out) hb); have n1_ := Aside0.mk (Z8 (by repeat (first | (with_reducible first | exact HB.out | apply Z5 | apply Z3 | apply Z4 | refine Z6 ?_ GE344.out) | exact HB.out)) hb); clear BK344; clear HB; have BK344 := n0_; have HB := n1_; clear n0_ n1_; (try clear hb); (try clear hb2); (try clear hk); (try clear hi)))
  go_ret2
  exact ⟨by first | rfl | (simp [errW_none, errW_some] <;> rfl) | (simp [*, errW_none, errW_some] <;> rfl), by repeat (first | (with_reducible first | exact HB.out | apply Z5 | apply Z3 | apply Z4 | refine Z6 ?_ GE344.out) | exact HB.out)⟩
def laws_FnExactIsLastFocus.j0 : Nat → Bool → List Int → List Int → List Bool → List Int → List Int → List Int → List Bool → List Int → Option (Bool)
 | 0, _, _, _, _, _, _, _, _, _ => none
 | k + 1, x34, x348000, x348001, x348002, x348003, x376000, x376001, x376002, x376003 => if x34 = true then (some false) else ((laws_toFocus.f k x348000 x348001 x348002 x348003).bind fun bt378 => ((laws_eqFocus.f k x376000 x376001 x376002 x376003 bt378.1 bt378.2.1 bt378.2.2.1 bt378.2.2.2).bind fun t390 => (if t390 = true then (some true) else (some false))))
def laws_FnExactIsLastFocus.f (k : Nat) (l0_0 : List Int) (l0_1 : List Int) (l0_2 : List Bool) (l0_3 : List Int) : Option (Bool) := (laws_szFocus.f l0_0 l0_1 l0_2 l0_3 1048576).bind fun t348 => (if t348 < 0 then (some true) else ((laws_toFocus.f k l0_0 l0_1 l0_2 l0_3).bind fun bt349 => ((spec_IsLastFocus.f k bt349.1 bt349.2.1 bt349.2.2.1 bt349.2.2.2).bind fun bt361 => ((laws_toFocus.f k l0_0 l0_1 l0_2 l0_3).bind fun bt363 => ((impl_IsLastFocus.f k bt363.1 bt363.2.1 bt363.2.2.1 bt363.2.2.2).bind fun bt376 => (if (bt376.1 != bt361.1) = true then (laws_FnExactIsLastFocus.j0 k true l0_0 l0_1 l0_2 l0_3 bt363.1 bt363.2.1 bt363.2.2.1 bt363.2.2.2) else (laws_FnExactIsLastFocus.j0 k (bt376.2 != bt361.2) l0_0 l0_1 l0_2 l0_3 bt363.1 bt363.2.1 bt363.2.2.1 bt363.2.2.2)))))))
theorem laws_FnExactIsLastFocus.mono_l : ∀ k, (∀ y0 y1 y2 y3 y4 y5 y6 y7 y8, LeO (laws_FnExactIsLastFocus.j0 k y0 y1 y2 y3 y4 y5 y6 y7 y8) (laws_FnExactIsLastFocus.j0 (k + 1) y0 y1 y2 y3 y4 y5 y6 y7 y8))
 | 0 => fun _ _ _ _ _ _ _ _ _ r h => by simp [laws_FnExactIsLastFocus.j0] at h
 | k + 1 => by
  have ih0 := laws_FnExactIsLastFocus.mono_l k
  ·intro y0 y1 y2 y3 y4 y5 y6 y7 y8
   unfold laws_FnExactIsLastFocus.j0
   repeat' first
   | (with_reducible exact ih0 _ _ _ _ _ _ _ _ _)
   | (with_reducible exact impl_IsLastFocus.mono _ _ _ _ _)
   | (with_reducible exact laws_eqFocus.mono _ _ _ _ _ _ _ _ _)
   | (with_reducible exact laws_toFocus.mono _ _ _ _ _)
   | (with_reducible exact spec_IsLastFocus.mono _ _ _ _ _)
   | (with_reducible exact LeO.refl _)
   | (with_reducible exact LeO.none _)
   | (with_reducible refine LeO.ite ?_ ?_)
   | (with_reducible refine LeO.bind ?_ (fun _ => ?_))
   | exact ih0 _ _ _ _ _ _ _ _ _
   | exact impl_IsLastFocus.mono _ _ _ _ _
   | exact laws_eqFocus.mono _ _ _ _ _ _ _ _ _
   | exact laws_toFocus.mono _ _ _ _ _
   | exact spec_IsLastFocus.mono _ _ _ _ _
   | exact LeO.none _
   | refine LeO.ite ?_ ?_
   | refine LeO.bind ?_ (fun _ => ?_)
theorem laws_FnExactIsLastFocus.mono : ∀ a0 a1 a2 a3 k, LeO (laws_FnExactIsLastFocus.f k a0 a1 a2 a3) (laws_FnExactIsLastFocus.f (k + 1) a0 a1 a2 a3) := by
 intro a0 a1 a2 a3 k
 have ih0 := laws_FnExactIsLastFocus.mono_l k
 unfold laws_FnExactIsLastFocus.f
 repeat' first
   | (with_reducible exact ih0 _ _ _ _ _ _ _ _ _)
   | (with_reducible exact impl_IsLastFocus.mono _ _ _ _ _)
   | (with_reducible exact laws_eqFocus.mono _ _ _ _ _ _ _ _ _)
   | (with_reducible exact laws_toFocus.mono _ _ _ _ _)
   | (with_reducible exact spec_IsLastFocus.mono _ _ _ _ _)
   | (with_reducible exact LeO.refl _)
   | (with_reducible exact LeO.none _)
   | (with_reducible refine LeO.ite ?_ ?_)
   | (with_reducible refine LeO.bind ?_ (fun _ => ?_))
   | exact ih0 _ _ _ _ _ _ _ _ _
   | exact impl_IsLastFocus.mono _ _ _ _ _
   | exact laws_eqFocus.mono _ _ _ _ _ _ _ _ _
   | exact laws_toFocus.mono _ _ _ _ _
   | exact spec_IsLastFocus.mono _ _ _ _ _
   | exact LeO.none _
   | refine LeO.ite ?_ ?_
   | refine LeO.bind ?_ (fun _ => ?_)
set_option maxHeartbeats 8000000 in
set_option maxRecDepth 100000 in
theorem laws_FnExactIsLastFocus.calls (k : Nat) (A0_0 : Option Addr) (c0_0 : Nat) (l0_0 : List Int) (A0_1 : Option Addr) (c0_1 : Nat) (l0_1 : List Int) (A0_2 : Option Addr) (c0_2 : Nat) (l0_2 : List Bool) (A0_3 : Option Addr) (c0_3 : Nat) (l0_3 : List Int) (r : Bool) (w : World) (hr0_0 : Kd.C (Kd.int .i64) w A0_0 l0_0.length l0_0) (hc0_0 : l0_0.length ≤ c0_0) (hr0_1 : Kd.C (Kd.int .i64) w A0_1 l0_1.length l0_1) (hc0_1 : l0_1.length ≤ c0_1) (hr0_2 : Kd.C Kd.bool w A0_2 l0_2.length l0_2) (hc0_2 : l0_2.length ≤ c0_2) (hr0_3 : Kd.C (Kd.int .i64) w A0_3 l0_3.length l0_3) (hc0_3 : l0_3.length ≤ c0_3) (h : laws_FnExactIsLastFocus.f k l0_0 l0_1 l0_2 l0_3 = some r) :
  Calls Try.prog 4 #[.agg #[.slice A0_0 l0_0.length c0_0, .slice A0_1 l0_1.length c0_1, .slice A0_2 l0_2.length c0_2, .slice A0_3 l0_3.length c0_3]] w fun e w' => e = .returned (.bool r) ∧ Below w.heap.size w w' := by
 have hu25 := Try.underlying25
 have hu29 := Try.underlying29
 have HR0_0 := Aside0.mk hr0_0
 have HC0_0 := Aside0.mk hc0_0
 clear hr0_0 hc0_0
 have HR0_1 := Aside0.mk hr0_1
 have HC0_1 := Aside0.mk hc0_1
 clear hr0_1 hc0_1
 have HR0_2 := Aside0.mk hr0_2
 have HC0_2 := Aside0.mk hc0_2
 clear hr0_2 hc0_2
 have HR0_3 := Aside0.mk hr0_3
 have HC0_3 := Aside0.mk hc0_3
 clear hr0_3 hc0_3
 have HB := Aside0.mk (Below.refl w.heap.size w)
 have H : ((laws_szFocus.f l0_0 l0_1 l0_2 l0_3 1048576).bind fun t348 => (if t348 < 0 then (some true) else ((laws_toFocus.f k l0_0 l0_1 l0_2 l0_3).bind fun bt349 => ((spec_IsLastFocus.f k bt349.1 bt349.2.1 bt349.2.2.1 bt349.2.2.2).bind fun bt361 => ((laws_toFocus.f k l0_0 l0_1 l0_2 l0_3).bind fun bt363 => ((impl_IsLastFocus.f k bt363.1 bt363.2.1 bt363.2.2.1 bt363.2.2.2).bind fun bt376 => (if (bt376.1 != bt361.1) = true then (laws_FnExactIsLastFocus.j0 k true l0_0 l0_1 l0_2 l0_3 bt363.1 bt363.2.1 bt363.2.2.1 bt363.2.2.2) else (laws_FnExactIsLastFocus.j0 k (bt376.2 != bt361.2) l0_0 l0_1 l0_2 l0_3 bt363.1 bt363.2.1 bt363.2.2.1 bt363.2.2.2)))))))) = some r := h
 clear h
 replace H := Z37.mp H
 obtain ⟨t348, A20, H⟩ := H
 replace H : (if t348 < 0 then (some true) else ((laws_toFocus.f k l0_0 l0_1 l0_2 l0_3).bind fun bt349 => ((spec_IsLastFocus.f k bt349.1 bt349.2.1 bt349.2.2.1 bt349.2.2.2).bind fun bt361 => ((laws_toFocus.f k l0_0 l0_1 l0_2 l0_3).bind fun bt363 => ((impl_IsLastFocus.f k bt363.1 bt363.2.1 bt363.2.2.1 bt363.2.2.2).bind fun bt376 => (if (bt376.1 != bt361.1) = true then (laws_FnExactIsLastFocus.j0 k true l0_0 l0_1 l0_2 l0_3 bt363.1 bt363.2.1 bt363.2.2.1 bt363.2.2.2) else (laws_FnExactIsLastFocus.j0 k (bt376.2 != bt361.2) l0_0 l0_1 l0_2 l0_3 bt363.1 bt363.2.1 bt363.2.2.1 bt363.2.2.2))))))) = some r := H
 have A2 := Aside0.mk A20
 clear A20
 by_cases c3 : t348 < 0
 ·rw [if_pos c3] at H
  have c3b0 : decide (t348 < 0) = true := Z39 c3
  clear c3
  obtain rfl := Option.some.inj H
  go_enter Try.func4, Try.ntmps4
  go_wp2_with (first | ((with_reducible refine gate_dst (N := 1) rfl ?_); refine box_event ?hg (N := 1) ?hd (cs := #[.slice A0_0 l0_0.length c0_0, .slice A0_1 l0_1.length c0_1, .slice A0_2 l0_2.length c0_2, .slice A0_3 l0_3.length c0_3]) (t := 25) ?hr ?_; (case hd => rfl); (case hg => rfl); (case hr => first | (go_simp; done) | (go_simp; rfl)); intro gb347 hg w4 hbox hb; have n0_ := Aside0.mk (Z8 (by repeat (first | (with_reducible first | exact HB.out | apply Z5 | apply Z3 | apply Z4) | exact HB.out)) hb); have n1_ := Aside0.mk (hbox); have n2_ := Aside0.mk ((by rw [hg]; exact (Z7 (by repeat (first | (with_reducible first | exact HB.out | apply Z5 | apply Z3 | apply Z4) | exact HB.out))) : w.heap.size ≤ gb347)); have n3_ := Aside0.mk ((by rw [hg]; exact (Z7 (by repeat (first | (with_reducible first | exact HB.out | apply Z5 | apply Z3 | apply Z4) | exact HB.out))) : w.heap.size ≤ gb347)); clear HB; have HB := n0_; have BK347 := n1_; have GW347 := n2_; have GE347 := n3_; clear n0_ n1_ n2_ n3_; clear hb hbox hg; have hcz5_0 : w4.cell? ⟨gb347, 0, none⟩ = some (.slice A0_0 l0_0.length c0_0) := (Z24 BK347.out 0).trans rfl; have hcz5_1 : w4.cell? ⟨gb347, 1, none⟩ = some (.slice A0_1 l0_1.length c0_1) := (Z24 BK347.out 1).trans rfl; have hcz5_2 : w4.cell? ⟨gb347, 2, none⟩ = some (.slice A0_2 l0_2.length c0_2) := (Z24 BK347.out 2).trans rfl; have hcz5_3 : w4.cell? ⟨gb347, 3, none⟩ = some (.slice A0_3 l0_3.length c0_3) := (Z24 BK347.out 3).trans rfl; have hfz5_0 := Z25 BK347.out 0; have hfz5_1 := Z25 BK347.out 1; have hfz5_2 := Z25 BK347.out 2; have hfz5_3 := Z25 BK347.out 3) | ((with_reducible refine gate_callee (f := 12) rfl ?_); refine goesL_ (some 11) rfl rfl Try.func12 (by kernel_rfl) rfl #[.agg #[.slice A0_0 l0_0.length c0_0, .slice A0_1 l0_1.length c0_1, .slice A0_2 l0_2.length c0_2, .slice A0_3 l0_3.length c0_3], .int .i64 1048576] rfl (by (try simp only [Z34, Z35, Z36]); first | done | rfl | (simp only [Z32, Z33]; rfl)) ?_; (with_reducible refine (laws_szFocus.calls _ _ l0_0 _ _ l0_1 _ _ l0_2 _ _ l0_3 1048576 t348 _ ?side1 ?side2 ?side3 ?side4 ?side5 ?side6 ?side7 ?side8 A2.out).mono ?_); (case side1 => repeat (first | exact (Z23 HR0_0.out HB.out) | (with_reducible refine Z20 ?_ _) | (with_reducible refine Z21 ?_ _) | (with_reducible refine Z22 ?_))); (case side2 => exact HC0_0.out); (case side3 => repeat (first | exact (Z23 HR0_1.out HB.out) | (with_reducible refine Z20 ?_ _) | (with_reducible refine Z21 ?_ _) | (with_reducible refine Z22 ?_))); (case side4 => exact HC0_1.out); (case side5 => repeat (first | exact (Z23 HR0_2.out HB.out) | (with_reducible refine Z20 ?_ _) | (with_reducible refine Z21 ?_ _) | (with_reducible refine Z22 ?_))); (case side6 => exact HC0_2.out); (case side7 => repeat (first | exact (Z23 HR0_3.out HB.out) | (with_reducible refine Z20 ?_ _) | (with_reducible refine Z21 ?_ _) | (with_reducible refine Z22 ?_))); (case side8 => exact HC0_3.out); rintro e w6 ⟨rfl, hb⟩; refine ⟨_, rfl, ?_⟩; have n0_ := Aside0.mk (Z29 (g := gb347) (o := .cells #[.slice A0_0 l0_0.length c0_0, .slice A0_1 l0_1.length c0_1, .slice A0_2 l0_2.length c0_2, .slice A0_3 l0_3.length c0_3] 25 (0, 0)) (by (with_reducible repeat (first | refine Z26 ?_ _ | refine Z27 ?_ | refine Z28 ?_ _)); exact BK347.out) hb); have n1_ := Aside0.mk (Z8 (by repeat (first | (with_reducible first | exact HB.out | apply Z5 | apply Z3 | apply Z4 | refine Z6 ?_ GE347.out) | exact HB.out)) hb); clear BK347; clear HB; have BK347 := n0_; have HB := n1_; clear n0_ n1_; (try clear hb); (try clear hb2); (try clear hk); (try clear hi)))
  go_ret
  exact ⟨by first | rfl | (simp [errW_none, errW_some] <;> rfl) | (simp [*, errW_none, errW_some] <;> rfl), by repeat (first | (with_reducible first | exact HB.out | apply Z5 | apply Z3 | apply Z4 | refine Z6 ?_ GE347.out) | exact HB.out)⟩
 ·rw [if_neg c3] at H
  have c3b0 : decide (t348 < 0) = false := Z38 c3
  clear c3
  replace H := Z37.mp H
  obtain ⟨⟨t349, t352, t355, t358⟩, A70, H⟩ := H
  replace H : ((spec_IsLastFocus.f k t349 t352 t355 t358).bind fun bt361 => ((laws_toFocus.f k l0_0 l0_1 l0_2 l0_3).bind fun bt363 => ((impl_IsLastFocus.f k bt363.1 bt363.2.1 bt363.2.2.1 bt363.2.2.2).bind fun bt376 => (if (bt376.1 != bt361.1) = true then (laws_FnExactIsLastFocus.j0 k true l0_0 l0_1 l0_2 l0_3 bt363.1 bt363.2.1 bt363.2.2.1 bt363.2.2.2) else (laws_FnExactIsLastFocus.j0 k (bt376.2 != bt361.2) l0_0 l0_1 l0_2 l0_3 bt363.1 bt363.2.1 bt363.2.2.1 bt363.2.2.2))))) = some r := H
  have A7 := Aside0.mk A70
  clear A70
  replace H := Z37.mp H
  obtain ⟨⟨t361, t362⟩, A80, H⟩ := H
  replace H : ((laws_toFocus.f k l0_0 l0_1 l0_2 l0_3).bind fun bt363 => ((impl_IsLastFocus.f k bt363.1 bt363.2.1 bt363.2.2.1 bt363.2.2.2).bind fun bt376 => (if (bt376.1 != t361) = true then (laws_FnExactIsLastFocus.j0 k true l0_0 l0_1 l0_2 l0_3 bt363.1 bt363.2.1 bt363.2.2.1 bt363.2.2.2) else (laws_FnExactIsLastFocus.j0 k (bt376.2 != t362) l0_0 l0_1 l0_2 l0_3 bt363.1 bt363.2.1 bt363.2.2.1 bt363.2.2.2)))) = some r := H
  have A8 := Aside0.mk A80
  clear A80
  replace H := Z37.mp H
  obtain ⟨⟨t363, t366, t369, t372⟩, A90, H⟩ := H
  replace H : ((impl_IsLastFocus.f k t363 t366 t369 t372).bind fun bt376 => (if (bt376.1 != t361) = true then (laws_FnExactIsLastFocus.j0 k true l0_0 l0_1 l0_2 l0_3 t363 t366 t369 t372) else (laws_FnExactIsLastFocus.j0 k (bt376.2 != t362) l0_0 l0_1 l0_2 l0_3 t363 t366 t369 t372))) = some r := H
  have A9 := Aside0.mk A90
  clear A90
  replace H := Z37.mp H
  obtain ⟨⟨t376, t377⟩, A100, H⟩ := H
  replace H : (if (t376 != t361) = true then (laws_FnExactIsLastFocus.j0 k true l0_0 l0_1 l0_2 l0_3 t363 t366 t369 t372) else (laws_FnExactIsLastFocus.j0 k (t377 != t362) l0_0 l0_1 l0_2 l0_3 t363 t366 t369 t372)) = some r := H
  have A10 := Aside0.mk A100
  clear A100
  have HC11 := Aside0.mk H
  clear H
  go_enter Try.func4, Try.ntmps4
  go_upto_region 8 with (first | ((with_reducible refine gate_dst (N := 1) rfl ?_); refine box_event ?hg (N := 1) ?hd (cs := #[.slice A0_0 l0_0.length c0_0, .slice A0_1 l0_1.length c0_1, .slice A0_2 l0_2.length c0_2, .slice A0_3 l0_3.length c0_3]) (t := 25) ?hr ?_; (case hd => rfl); (case hg => rfl); (case hr => first | (go_simp; done) | (go_simp; rfl)); intro gb347 hg w12 hbox hb; have n0_ := Aside0.mk (Z8 (by repeat (first | (with_reducible first | exact HB.out | apply Z5 | apply Z3 | apply Z4) | exact HB.out)) hb); have n1_ := Aside0.mk (hbox); have n2_ := Aside0.mk ((by rw [hg]; exact (Z7 (by repeat (first | (with_reducible first | exact HB.out | apply Z5 | apply Z3 | apply Z4) | exact HB.out))) : w.heap.size ≤ gb347)); have n3_ := Aside0.mk ((by rw [hg]; exact (Z7 (by repeat (first | (with_reducible first | exact HB.out | apply Z5 | apply Z3 | apply Z4) | exact HB.out))) : w.heap.size ≤ gb347)); clear HB; have HB := n0_; have BK347 := n1_; have GW347 := n2_; have GE347 := n3_; clear n0_ n1_ n2_ n3_; clear hb hbox hg; have hcz13_0 : w12.cell? ⟨gb347, 0, none⟩ = some (.slice A0_0 l0_0.length c0_0) := (Z24 BK347.out 0).trans rfl; have hcz13_1 : w12.cell? ⟨gb347, 1, none⟩ = some (.slice A0_1 l0_1.length c0_1) := (Z24 BK347.out 1).trans rfl; have hcz13_2 : w12.cell? ⟨gb347, 2, none⟩ = some (.slice A0_2 l0_2.length c0_2) := (Z24 BK347.out 2).trans rfl; have hcz13_3 : w12.cell? ⟨gb347, 3, none⟩ = some (.slice A0_3 l0_3.length c0_3) := (Z24 BK347.out 3).trans rfl; have hfz13_0 := Z25 BK347.out 0; have hfz13_1 := Z25 BK347.out 1; have hfz13_2 := Z25 BK347.out 2; have hfz13_3 := Z25 BK347.out 3) | ((with_reducible refine gate_callee (f := 12) rfl ?_); refine goesL_ (some 11) rfl rfl Try.func12 (by kernel_rfl) rfl #[.agg #[.slice A0_0 l0_0.length c0_0, .slice A0_1 l0_1.length c0_1, .slice A0_2 l0_2.length c0_2, .slice A0_3 l0_3.length c0_3], .int .i64 1048576] rfl (by (try simp only [Z34, Z35, Z36]); first | done | rfl | (simp only [Z32, Z33]; rfl)) ?_; (with_reducible refine (laws_szFocus.calls _ _ l0_0 _ _ l0_1 _ _ l0_2 _ _ l0_3 1048576 t348 _ ?side1 ?side2 ?side3 ?side4 ?side5 ?side6 ?side7 ?side8 A2.out).mono ?_); (case side1 => repeat (first | exact (Z23 HR0_0.out HB.out) | (with_reducible refine Z20 ?_ _) | (with_reducible refine Z21 ?_ _) | (with_reducible refine Z22 ?_))); (case side2 => exact HC0_0.out); (case side3 => repeat (first | exact (Z23 HR0_1.out HB.out) | (with_reducible refine Z20 ?_ _) | (with_reducible refine Z21 ?_ _) | (with_reducible refine Z22 ?_))); (case side4 => exact HC0_1.out); (case side5 => repeat (first | exact (Z23 HR0_2.out HB.out) | (with_reducible refine Z20 ?_ _) | (with_reducible refine Z21 ?_ _) | (with_reducible refine Z22 ?_))); (case side6 => exact HC0_2.out); (case side7 => repeat (first | exact (Z23 HR0_3.out HB.out) | (with_reducible refine Z20 ?_ _) | (with_reducible refine Z21 ?_ _) | (with_reducible refine Z22 ?_))); (case side8 => exact HC0_3.out); rintro e w14 ⟨rfl, hb⟩; refine ⟨_, rfl, ?_⟩; have n0_ := Aside0.mk (Z29 (g := gb347) (o := .cells #[.slice A0_0 l0_0.length c0_0, .slice A0_1 l0_1.length c0_1, .slice A0_2 l0_2.length c0_2, .slice A0_3 l0_3.length c0_3] 25 (0, 0)) (by (with_reducible repeat (first | refine Z26 ?_ _ | refine Z27 ?_ | refine Z28 ?_ _)); exact BK347.out) hb); have n1_ := Aside0.mk (Z8 (by repeat (first | (with_reducible first | exact HB.out | apply Z5 | apply Z3 | apply Z4 | refine Z6 ?_ GE347.out) | exact HB.out)) hb); clear BK347; clear HB; have BK347 := n0_; have HB := n1_; clear n0_ n1_; (try clear hb); (try clear hb2); (try clear hk); (try clear hi); have hcz15_0 : w14.cell? ⟨gb347, 0, none⟩ = some (.slice A0_0 l0_0.length c0_0) := (Z24 BK347.out 0).trans rfl; have hcz15_1 : w14.cell? ⟨gb347, 1, none⟩ = some (.slice A0_1 l0_1.length c0_1) := (Z24 BK347.out 1).trans rfl; have hcz15_2 : w14.cell? ⟨gb347, 2, none⟩ = some (.slice A0_2 l0_2.length c0_2) := (Z24 BK347.out 2).trans rfl; have hcz15_3 : w14.cell? ⟨gb347, 3, none⟩ = some (.slice A0_3 l0_3.length c0_3) := (Z24 BK347.out 3).trans rfl; have hfz15_0 := Z25 BK347.out 0; have hfz15_1 := Z25 BK347.out 1; have hfz15_2 := Z25 BK347.out 2; have hfz15_3 := Z25 BK347.out 3) | ((with_reducible refine gate_callee (f := 14) rfl ?_); refine goesL_ (some 16) rfl rfl Try.func14 (by kernel_rfl) rfl #[.agg #[.slice A0_0 l0_0.length c0_0, .slice A0_1 l0_1.length c0_1, .slice A0_2 l0_2.length c0_2, .slice A0_3 l0_3.length c0_3]] rfl (by (try simp only [Z34, Z35, Z36]); first | done | rfl | (simp only [Z32, Z33]; rfl)) ?_; (with_reducible refine (laws_toFocus.calls k _ _ l0_0 _ _ l0_1 _ _ l0_2 _ _ l0_3 t349 t352 t355 t358 _ ?side1 ?side2 ?side3 ?side4 ?side5 ?side6 ?side7 ?side8 A7.out).mono ?_); (case side1 => repeat (first | exact (Z23 HR0_0.out HB.out) | (with_reducible refine Z20 ?_ _) | (with_reducible refine Z21 ?_ _) | (with_reducible refine Z22 ?_))); (case side2 => exact HC0_0.out); (case side3 => repeat (first | exact (Z23 HR0_1.out HB.out) | (with_reducible refine Z20 ?_ _) | (with_reducible refine Z21 ?_ _) | (with_reducible refine Z22 ?_))); (case side4 => exact HC0_1.out); (case side5 => repeat (first | exact (Z23 HR0_2.out HB.out) | (with_reducible refine Z20 ?_ _) | (with_reducible refine Z21 ?_ _) | (with_reducible refine Z22 ?_))); (case side6 => exact HC0_2.out); (case side7 => repeat (first | exact (Z23 HR0_3.out HB.out) | (with_reducible refine Z20 ?_ _) | (with_reducible refine Z21 ?_ _) | (with_reducible refine Z22 ?_))); (case side8 => exact HC0_3.out); rintro e w16 ⟨v350, v353, v356, v359, rfl, ho0, ho1, ho2, ho3, hb⟩; refine ⟨_, rfl, ?_⟩; have n0_ := Aside0.mk (Kd.R_lower ho0 (Z7 (by repeat (first | (with_reducible first | exact HB.out | apply Z5 | apply Z3 | apply Z4 | refine Z6 ?_ GE347.out) | exact HB.out)))); have n1_ := Aside0.mk (Kd.R_lower ho1 (Z7 (by repeat (first | (with_reducible first | exact HB.out | apply Z5 | apply Z3 | apply Z4 | refine Z6 ?_ GE347.out) | exact HB.out)))); have n2_ := Aside0.mk (Kd.R_lower ho2 (Z7 (by repeat (first | (with_reducible first | exact HB.out | apply Z5 | apply Z3 | apply Z4 | refine Z6 ?_ GE347.out) | exact HB.out)))); have n3_ := Aside0.mk (Kd.R_lower ho3 (Z7 (by repeat (first | (with_reducible first | exact HB.out | apply Z5 | apply Z3 | apply Z4 | refine Z6 ?_ GE347.out) | exact HB.out)))); have n4_ := Aside0.mk (Z29 (g := gb347) (o := .cells #[.slice A0_0 l0_0.length c0_0, .slice A0_1 l0_1.length c0_1, .slice A0_2 l0_2.length c0_2, .slice A0_3 l0_3.length c0_3] 25 (0, 0)) (by (with_reducible repeat (first | refine Z26 ?_ _ | refine Z27 ?_ | refine Z28 ?_ _)); exact BK347.out) hb); have n5_ := Aside0.mk (Z8 (by repeat (first | (with_reducible first | exact HB.out | apply Z5 | apply Z3 | apply Z4 | refine Z6 ?_ GE347.out) | exact HB.out)) hb); clear BK347; clear HB; have HO351 := n0_; have HO354 := n1_; have HO357 := n2_; have HO360 := n3_; have BK347 := n4_; have HB := n5_; clear n0_ n1_ n2_ n3_ n4_ n5_; (try clear hb); (try clear hb2); (try clear hk); (try clear hi); (try clear ho0); (try clear ho1); (try clear ho2); (try clear ho3); obtain ⟨Ao17, co17, eo17⟩ := Z19 HO351.out; subst eo17; obtain ⟨Ao18, co18, eo18⟩ := Z19 HO354.out; subst eo18; obtain ⟨Ao19, co19, eo19⟩ := Z19 HO357.out; subst eo19; obtain ⟨Ao20, co20, eo20⟩ := Z19 HO360.out; subst eo20) | ((with_reducible refine gate_callee (f := 17) rfl ?_); refine goesL_ (some 17) rfl rfl Try.func17 (by kernel_rfl) rfl #[.agg #[.slice Ao17 t349.length co17, .slice Ao18 t352.length co18, .slice Ao19 t355.length co19, .slice Ao20 t358.length co20]] rfl (by (try simp only [Z34, Z35, Z36]); first | done | rfl | (simp only [Z32, Z33]; rfl)) ?_; (with_reducible refine (spec_IsLastFocus.calls k _ _ t349 _ _ t352 _ _ t355 _ _ t358 t361 t362 _ ?side1 ?side2 ?side3 ?side4 ?side5 ?side6 ?side7 ?side8 A8.out).mono ?_); (case side1 => repeat (first | exact (Kd.R_reads' HO351.out).2.2 | (with_reducible refine Z20 ?_ _) | (with_reducible refine Z21 ?_ _) | (with_reducible refine Z22 ?_))); (case side2 => exact (Kd.R_reads' HO351.out).2.1); (case side3 => repeat (first | exact (Kd.R_reads' HO354.out).2.2 | (with_reducible refine Z20 ?_ _) | (with_reducible refine Z21 ?_ _) | (with_reducible refine Z22 ?_))); (case side4 => exact (Kd.R_reads' HO354.out).2.1); (case side5 => repeat (first | exact (Kd.R_reads' HO357.out).2.2 | (with_reducible refine Z20 ?_ _) | (with_reducible refine Z21 ?_ _) | (with_reducible refine Z22 ?_))); (case side6 => exact (Kd.R_reads' HO357.out).2.1); (case side7 => repeat (first | exact (Kd.R_reads' HO360.out).2.2 | (with_reducible refine Z20 ?_ _) | (with_reducible refine Z21 ?_ _) | (with_reducible refine Z22 ?_))); (case side8 => exact (Kd.R_reads' HO360.out).2.1); rintro e w21 ⟨rfl, hb⟩; refine ⟨_, rfl, ?_⟩; have n0_ := Aside0.mk (Z14 (by (with_reducible repeat (first | apply Z9 | apply Z10 | apply Z11)); exact HO351.out) hb); have n1_ := Aside0.mk (Z14 (by (with_reducible repeat (first | apply Z9 | apply Z10 | apply Z11)); exact HO354.out) hb); have n2_ := Aside0.mk (Z14 (by (with_reducible repeat (first | apply Z9 | apply Z10 | apply Z11)); exact HO357.out) hb); have n3_ := Aside0.mk (Z14 (by (with_reducible repeat (first | apply Z9 | apply Z10 | apply Z11)); exact HO360.out) hb); have n4_ := Aside0.mk (Z29 (g := gb347) (o := .cells #[.slice A0_0 l0_0.length c0_0, .slice A0_1 l0_1.length c0_1, .slice A0_2 l0_2.length c0_2, .slice A0_3 l0_3.length c0_3] 25 (0, 0)) (by (with_reducible repeat (first | refine Z26 ?_ _ | refine Z27 ?_ | refine Z28 ?_ _)); exact BK347.out) hb); have n5_ := Aside0.mk (Z8 (by repeat (first | (with_reducible first | exact HB.out | apply Z5 | apply Z3 | apply Z4 | refine Z6 ?_ GE347.out) | exact HB.out)) hb); clear HO351; clear HO354; clear HO357; clear HO360; clear BK347; clear HB; have HO351 := n0_; have HO354 := n1_; have HO357 := n2_; have HO360 := n3_; have BK347 := n4_; have HB := n5_; clear n0_ n1_ n2_ n3_ n4_ n5_; (try clear hb); (try clear hb2); (try clear hk); (try clear hi); have hcz22_0 : w21.cell? ⟨gb347, 0, none⟩ = some (.slice A0_0 l0_0.length c0_0) := (Z24 BK347.out 0).trans rfl; have hcz22_1 : w21.cell? ⟨gb347, 1, none⟩ = some (.slice A0_1 l0_1.length c0_1) := (Z24 BK347.out 1).trans rfl; have hcz22_2 : w21.cell? ⟨gb347, 2, none⟩ = some (.slice A0_2 l0_2.length c0_2) := (Z24 BK347.out 2).trans rfl; have hcz22_3 : w21.cell? ⟨gb347, 3, none⟩ = some (.slice A0_3 l0_3.length c0_3) := (Z24 BK347.out 3).trans rfl; have hfz22_0 := Z25 BK347.out 0; have hfz22_1 := Z25 BK347.out 1; have hfz22_2 := Z25 BK347.out 2; have hfz22_3 := Z25 BK347.out 3) | ((with_reducible refine gate_callee (f := 14) rfl ?_); refine goesL_ (some 21) rfl rfl Try.func14 (by kernel_rfl) rfl #[.agg #[.slice A0_0 l0_0.length c0_0, .slice A0_1 l0_1.length c0_1, .slice A0_2 l0_2.length c0_2, .slice A0_3 l0_3.length c0_3]] rfl (by (try simp only [Z34, Z35, Z36]); first | done | rfl | (simp only [Z32, Z33]; rfl)) ?_; (with_reducible refine (laws_toFocus.calls k _ _ l0_0 _ _ l0_1 _ _ l0_2 _ _ l0_3 t363 t366 t369 t372 _ ?side1 ?side2 ?side3 ?side4 ?side5 ?side6 ?side7 ?side8 A9.out).mono ?_); (case side1 => repeat (first | exact (Z23 HR0_0.out HB.out) | (with_reducible refine Z20 ?_ _) | (with_reducible refine Z21 ?_ _) | (with_reducible refine Z22 ?_))); (case side2 => exact HC0_0.out); (case side3 => repeat (first | exact (Z23 HR0_1.out HB.out) | (with_reducible refine Z20 ?_ _) | (with_reducible refine Z21 ?_ _) | (with_reducible refine Z22 ?_))); (case side4 => exact HC0_1.out); (case side5 => repeat (first | exact (Z23 HR0_2.out HB.out) | (with_reducible refine Z20 ?_ _) | (with_reducible refine Z21 ?_ _) | (with_reducible refine Z22 ?_))); (case side6 => exact HC0_2.out); (case side7 => repeat (first | exact (Z23 HR0_3.out HB.out) | (with_reducible refine Z20 ?_ _) | (with_reducible refine Z21 ?_ _) | (with_reducible refine Z22 ?_))); (case side8 => exact HC0_3.out); rintro e w23 ⟨v364, v367, v370, v373, rfl, ho0, ho1, ho2, ho3, hb⟩; refine ⟨_, rfl, ?_⟩; have n0_ := Aside0.mk (Z12 (Z16 (Z16 (Z16 (Z17 (by (with_reducible repeat (first | apply Z9 | apply Z10 | apply Z11)); exact HO351.out) hb) (Kd.R_base ho0)) (Kd.R_base ho1)) (Kd.R_base ho3)) (fun _ h_ => h_.1)); have n1_ := Aside0.mk (Z12 (Z16 (Z16 (Z16 (Z17 (by (with_reducible repeat (first | apply Z9 | apply Z10 | apply Z11)); exact HO354.out) hb) (Kd.R_base ho0)) (Kd.R_base ho1)) (Kd.R_base ho3)) (fun _ h_ => h_.1)); have n2_ := Aside0.mk (Kd.R_elder' (by (with_reducible repeat (first | apply Z9 | apply Z10 | apply Z11)); exact HO357.out) (Kd.R_base ho2) hb); have n3_ := Aside0.mk (Z12 (Z16 (Z16 (Z16 (Z17 (by (with_reducible repeat (first | apply Z9 | apply Z10 | apply Z11)); exact HO360.out) hb) (Kd.R_base ho0)) (Kd.R_base ho1)) (Kd.R_base ho3)) (fun _ h_ => h_.1)); have n4_ := Aside0.mk (Kd.R_lower (Kd.R_new' (Kd.R_new' (Kd.R_new' ho0 (Z18 (by (with_reducible repeat (first | apply Z9 | apply Z10 | apply Z11)); exact HO351.out))) (Z18 (by (with_reducible repeat (first | apply Z9 | apply Z10 | apply Z11)); exact HO354.out))) (Z18 (by (with_reducible repeat (first | apply Z9 | apply Z10 | apply Z11)); exact HO360.out))) (Z7 (by repeat (first | (with_reducible first | exact HB.out | apply Z5 | apply Z3 | apply Z4 | refine Z6 ?_ GE347.out) | exact HB.out)))); have n5_ := Aside0.mk (Kd.R_lower (Kd.R_new' (Kd.R_new' (Kd.R_new' ho1 (Z18 (by (with_reducible repeat (first | apply Z9 | apply Z10 | apply Z11)); exact HO351.out))) (Z18 (by (with_reducible repeat (first | apply Z9 | apply Z10 | apply Z11)); exact HO354.out))) (Z18 (by (with_reducible repeat (first | apply Z9 | apply Z10 | apply Z11)); exact HO360.out))) (Z7 (by repeat (first | (with_reducible first | exact HB.out | apply Z5 | apply Z3 | apply Z4 | refine Z6 ?_ GE347.out) | exact HB.out)))); have n6_ := Aside0.mk (Kd.R_lower (Kd.R_new' ho2 (Z18 (by (with_reducible repeat (first | apply Z9 | apply Z10 | apply Z11)); exact HO357.out))) (Z7 (by repeat (first | (with_reducible first | exact HB.out | apply Z5 | apply Z3 | apply Z4 | refine Z6 ?_ GE347.out) | exact HB.out)))); have n7_ := Aside0.mk (Kd.R_lower (Kd.R_new' (Kd.R_new' (Kd.R_new' ho3 (Z18 (by (with_reducible repeat (first | apply Z9 | apply Z10 | apply Z11)); exact HO351.out))) (Z18 (by (with_reducible repeat (first | apply Z9 | apply Z10 | apply Z11)); exact HO354.out))) (Z18 (by (with_reducible repeat (first | apply Z9 | apply Z10 | apply Z11)); exact HO360.out))) (Z7 (by repeat (first | (with_reducible first | exact HB.out | apply Z5 | apply Z3 | apply Z4 | refine Z6 ?_ GE347.out) | exact HB.out)))); have n8_ := Aside0.mk (Z29 (g := gb347) (o := .cells #[.slice A0_0 l0_0.length c0_0, .slice A0_1 l0_1.length c0_1, .slice A0_2 l0_2.length c0_2, .slice A0_3 l0_3.length c0_3] 25 (0, 0)) (by (with_reducible repeat (first | refine Z26 ?_ _ | refine Z27 ?_ | refine Z28 ?_ _)); exact BK347.out) hb); have n9_ := Aside0.mk (Z8 (by repeat (first | (with_reducible first | exact HB.out | apply Z5 | apply Z3 | apply Z4 | refine Z6 ?_ GE347.out) | exact HB.out)) hb); clear HO351; clear HO354; clear HO357; clear HO360; clear BK347; clear HB; have HO351 := n0_; have HO354 := n1_; have HO357 := n2_; have HO360 := n3_; have HO365 := n4_; have HO368 := n5_; have HO371 := n6_; have HO374 := n7_; have BK347 := n8_; have HB := n9_; clear n0_ n1_ n2_ n3_ n4_ n5_ n6_ n7_ n8_ n9_; (try clear hb); (try clear hb2); (try clear hk); (try clear hi); (try clear ho0); (try clear ho1); (try clear ho2); (try clear ho3)) | ((with_reducible refine gate_dst (N := 6) rfl ?_); refine box_event ?hg (N := 6) ?hd (cs := #[.slice none 0 0, .slice none 0 0, .slice none 0 0, .slice none 0 0]) (t := 29) ?hr ?_; (case hd => rfl); (case hg => rfl); (case hr => first | (go_simp; done) | (go_simp; rfl)); intro gb375 hg w24 hbox hb; have n0_ := Aside0.mk (Z14 (by (with_reducible repeat (first | apply Z9 | apply Z10 | apply Z11)); exact HO351.out) hb); have n1_ := Aside0.mk (Z14 (by (with_reducible repeat (first | apply Z9 | apply Z10 | apply Z11)); exact HO354.out) hb); have n2_ := Aside0.mk (Z14 (by (with_reducible repeat (first | apply Z9 | apply Z10 | apply Z11)); exact HO357.out) hb); have n3_ := Aside0.mk (Z14 (by (with_reducible repeat (first | apply Z9 | apply Z10 | apply Z11)); exact HO360.out) hb); have n4_ := Aside0.mk (Z14 (by (with_reducible repeat (first | apply Z9 | apply Z10 | apply Z11)); exact HO365.out) hb); have n5_ := Aside0.mk (Z14 (by (with_reducible repeat (first | apply Z9 | apply Z10 | apply Z11)); exact HO368.out) hb); have n6_ := Aside0.mk (Z14 (by (with_reducible repeat (first | apply Z9 | apply Z10 | apply Z11)); exact HO371.out) hb); have n7_ := Aside0.mk (Z14 (by (with_reducible repeat (first | apply Z9 | apply Z10 | apply Z11)); exact HO374.out) hb); have n8_ := Aside0.mk (Z29 (g := gb347) (o := .cells #[.slice A0_0 l0_0.length c0_0, .slice A0_1 l0_1.length c0_1, .slice A0_2 l0_2.length c0_2, .slice A0_3 l0_3.length c0_3] 25 (0, 0)) (by (with_reducible repeat (first | refine Z26 ?_ _ | refine Z27 ?_ | refine Z28 ?_ _)); exact BK347.out) hb); have n9_ := Aside0.mk (Z8 (by repeat (first | (with_reducible first | exact HB.out | apply Z5 | apply Z3 | apply Z4 | refine Z6 ?_ GE347.out) | exact HB.out)) hb); have n10_ := Aside0.mk (hbox); have n11_ := Aside0.mk ((by rw [hg]; exact (Z7 (by repeat (first | (with_reducible first | exact HB.out | apply Z5 | apply Z3 | apply Z4 | refine Z6 ?_ GE347.out) | exact HB.out))) : w.heap.size ≤ gb375)); have n12_ := Aside0.mk ((by rw [hg]; exact (Z7 (by repeat (first | (with_reducible first | exact HB.out | apply Z5 | apply Z3 | apply Z4 | refine Z6 ?_ GE347.out) | exact HB.out))) : w.heap.size ≤ gb375)); have n13_ := Aside0.mk ((by rw [hg]; exact Nat.ne_of_lt (blk_lt (g := gb347) (o := .cells #[.slice A0_0 l0_0.length c0_0, .slice A0_1 l0_1.length c0_1, .slice A0_2 l0_2.length c0_2, .slice A0_3 l0_3.length c0_3] 25 (0, 0)) (by (with_reducible repeat (first | refine Z26 ?_ _ | refine Z27 ?_ | refine Z28 ?_ _)); exact BK347.out)) : gb347 ≠ gb375)); have n14_ := Aside0.mk ((by rw [hg]; exact Nat.ne_of_gt (blk_lt (g := gb347) (o := .cells #[.slice A0_0 l0_0.length c0_0, .slice A0_1 l0_1.length c0_1, .slice A0_2 l0_2.length c0_2, .slice A0_3 l0_3.length c0_3] 25 (0, 0)) (by (with_reducible repeat (first | refine Z26 ?_ _ | refine Z27 ?_ | refine Z28 ?_ _)); exact BK347.out)) : gb375 ≠ gb347)); clear HO351; clear HO354; clear HO357; clear HO360; clear HO365; clear HO368; clear HO371; clear HO374; clear BK347; clear HB; have HO351 := n0_; have HO354 := n1_; have HO357 := n2_; have HO360 := n3_; have HO365 := n4_; have HO368 := n5_; have HO371 := n6_; have HO374 := n7_; have BK347 := n8_; have HB := n9_; have BK375 := n10_; have GW375 := n11_; have GE375 := n12_; have NB347_375 := n13_; have NB375_347 := n14_; clear n0_ n1_ n2_ n3_ n4_ n5_ n6_ n7_ n8_ n9_ n10_ n11_ n12_ n13_ n14_; clear hb hbox hg; obtain ⟨Ao25, co25, eo25⟩ := Z19 HO365.out; subst eo25; have hnb26 := NB375_347.out; have hnc26 := NB347_375.out; have hcz27_0 : w24.cell? ⟨gb375, 0, none⟩ = some (.slice none 0 0) := (Z24 BK375.out 0).trans rfl; have hcz27_1 : w24.cell? ⟨gb375, 1, none⟩ = some (.slice none 0 0) := (Z24 BK375.out 1).trans rfl; have hcz27_2 : w24.cell? ⟨gb375, 2, none⟩ = some (.slice none 0 0) := (Z24 BK375.out 2).trans rfl; have hcz27_3 : w24.cell? ⟨gb375, 3, none⟩ = some (.slice none 0 0) := (Z24 BK375.out 3).trans rfl; have hfz27_0 := Z25 BK375.out 0; have hfz27_1 := Z25 BK375.out 1; have hfz27_2 := Z25 BK375.out 2; have hfz27_3 := Z25 BK375.out 3; obtain ⟨Ao28, co28, eo28⟩ := Z19 HO368.out; subst eo28; obtain ⟨Ao29, co29, eo29⟩ := Z19 HO371.out; subst eo29; obtain ⟨Ao30, co30, eo30⟩ := Z19 HO374.out; subst eo30) | ((with_reducible refine gate_callee (f := 18) rfl ?_); refine goesL_ (some 24) rfl rfl Try.func18 (by kernel_rfl) rfl #[.agg #[.slice Ao25 t363.length co25, .slice Ao28 t366.length co28, .slice Ao29 t369.length co29, .slice Ao30 t372.length co30]] rfl (by (try simp only [Z34, Z35, Z36]); first | done | rfl | (simp only [Z32, Z33]; rfl)) ?_; (with_reducible refine (impl_IsLastFocus.calls k _ _ t363 _ _ t366 _ _ t369 _ _ t372 t376 t377 _ ?side1 ?side2 ?side3 ?side4 ?side5 ?side6 ?side7 ?side8 A10.out).mono ?_); (case side1 => refine (Kd.R_reads' (e := 3) (base := w.heap.size) (ok := fun k_ => ((((some k_ ≠ (.slice Ao28 t366.length co28 : Value).ownBlock ∧ some k_ ≠ (.slice Ao30 t372.length co30 : Value).ownBlock) ∧ some k_ ≠ (.slice Ao17 t349.length co17 : Value).ownBlock) ∧ some k_ ≠ (.slice Ao18 t352.length co18 : Value).ownBlock) ∧ some k_ ≠ (.slice Ao20 t358.length co20 : Value).ownBlock)) (n := t363.length) (c := co25) ?_).2.2; exact (by (with_reducible repeat (first | apply Z9 | apply Z10 | apply Z11)); exact (Z12 (Z13 (p := ⟨gb375, 3, none⟩) (Z13 (p := ⟨gb375, 2, none⟩) (Z13 (p := ⟨gb375, 1, none⟩) (Z13 (p := ⟨gb375, 0, none⟩) (Z15 HO365.out BK375.out (by decide)) (fun _ hk => hk.2) (.slice Ao25 t363.length co25)) (fun _ hk => hk.2) (.slice Ao28 t366.length co28)) (fun _ hk => hk.2) (.slice Ao29 t369.length co29)) (fun _ hk => hk.2) (.slice Ao30 t372.length co30)) (fun _ h_ => h_.1)))); (case side2 => exact (Kd.R_reads' HO365.out).2.1); (case side3 => refine (Kd.R_reads' (e := 3) (base := w.heap.size) (ok := fun k_ => ((((some k_ ≠ (.slice Ao25 t363.length co25 : Value).ownBlock ∧ some k_ ≠ (.slice Ao30 t372.length co30 : Value).ownBlock) ∧ some k_ ≠ (.slice Ao17 t349.length co17 : Value).ownBlock) ∧ some k_ ≠ (.slice Ao18 t352.length co18 : Value).ownBlock) ∧ some k_ ≠ (.slice Ao20 t358.length co20 : Value).ownBlock)) (n := t366.length) (c := co28) ?_).2.2; exact (by (with_reducible repeat (first | apply Z9 | apply Z10 | apply Z11)); exact (Z12 (Z13 (p := ⟨gb375, 3, none⟩) (Z13 (p := ⟨gb375, 2, none⟩) (Z13 (p := ⟨gb375, 1, none⟩) (Z13 (p := ⟨gb375, 0, none⟩) (Z15 HO368.out BK375.out (by decide)) (fun _ hk => hk.2) (.slice Ao25 t363.length co25)) (fun _ hk => hk.2) (.slice Ao28 t366.length co28)) (fun _ hk => hk.2) (.slice Ao29 t369.length co29)) (fun _ hk => hk.2) (.slice Ao30 t372.length co30)) (fun _ h_ => h_.1)))); (case side4 => exact (Kd.R_reads' HO368.out).2.1); (case side5 => refine (Kd.R_reads' (e := 4) (base := w.heap.size) (ok := fun k_ => (True ∧ some k_ ≠ (.slice Ao19 t355.length co19 : Value).ownBlock)) (n := t369.length) (c := co29) ?_).2.2; exact (by (with_reducible repeat (first | apply Z9 | apply Z10 | apply Z11)); exact (Z12 (Z13 (p := ⟨gb375, 3, none⟩) (Z13 (p := ⟨gb375, 2, none⟩) (Z13 (p := ⟨gb375, 1, none⟩) (Z13 (p := ⟨gb375, 0, none⟩) (Z15 HO371.out BK375.out (by decide)) (fun _ hk => hk.2) (.slice Ao25 t363.length co25)) (fun _ hk => hk.2) (.slice Ao28 t366.length co28)) (fun _ hk => hk.2) (.slice Ao29 t369.length co29)) (fun _ hk => hk.2) (.slice Ao30 t372.length co30)) (fun _ h_ => h_.1)))); (case side6 => exact (Kd.R_reads' HO371.out).2.1); (case side7 => refine (Kd.R_reads' (e := 3) (base := w.heap.size) (ok := fun k_ => ((((some k_ ≠ (.slice Ao25 t363.length co25 : Value).ownBlock ∧ some k_ ≠ (.slice Ao28 t366.length co28 : Value).ownBlock) ∧ some k_ ≠ (.slice Ao17 t349.length co17 : Value).ownBlock) ∧ some k_ ≠ (.slice Ao18 t352.length co18 : Value).ownBlock) ∧ some k_ ≠ (.slice Ao20 t358.length co20 : Value).ownBlock)) (n := t372.length) (c := co30) ?_).2.2; exact (by (with_reducible repeat (first | apply Z9 | apply Z10 | apply Z11)); exact (Z12 (Z13 (p := ⟨gb375, 3, none⟩) (Z13 (p := ⟨gb375, 2, none⟩) (Z13 (p := ⟨gb375, 1, none⟩) (Z13 (p := ⟨gb375, 0, none⟩) (Z15 HO374.out BK375.out (by decide)) (fun _ hk => hk.2) (.slice Ao25 t363.length co25)) (fun _ hk => hk.2) (.slice Ao28 t366.length co28)) (fun _ hk => hk.2) (.slice Ao29 t369.length co29)) (fun _ hk => hk.2) (.slice Ao30 t372.length co30)) (fun _ h_ => h_.1)))); (case side8 => exact (Kd.R_reads' HO374.out).2.1); rintro e w31 ⟨rfl, hb⟩; refine ⟨_, rfl, ?_⟩; have n0_ := Aside0.mk (Z14 (by (with_reducible repeat (first | apply Z9 | apply Z10 | apply Z11)); exact (Z12 (Z13 (p := ⟨gb375, 3, none⟩) (Z13 (p := ⟨gb375, 2, none⟩) (Z13 (p := ⟨gb375, 1, none⟩) (Z13 (p := ⟨gb375, 0, none⟩) (Z15 HO351.out BK375.out (by decide)) (fun _ hk => hk.2) (.slice Ao25 t363.length co25)) (fun _ hk => hk.2) (.slice Ao28 t366.length co28)) (fun _ hk => hk.2) (.slice Ao29 t369.length co29)) (fun _ hk => hk.2) (.slice Ao30 t372.length co30)) (fun _ h_ => h_.1))) hb); have n1_ := Aside0.mk (Z14 (by (with_reducible repeat (first | apply Z9 | apply Z10 | apply Z11)); exact (Z12 (Z13 (p := ⟨gb375, 3, none⟩) (Z13 (p := ⟨gb375, 2, none⟩) (Z13 (p := ⟨gb375, 1, none⟩) (Z13 (p := ⟨gb375, 0, none⟩) (Z15 HO354.out BK375.out (by decide)) (fun _ hk => hk.2) (.slice Ao25 t363.length co25)) (fun _ hk => hk.2) (.slice Ao28 t366.length co28)) (fun _ hk => hk.2) (.slice Ao29 t369.length co29)) (fun _ hk => hk.2) (.slice Ao30 t372.length co30)) (fun _ h_ => h_.1))) hb); have n2_ := Aside0.mk (Z14 (by (with_reducible repeat (first | apply Z9 | apply Z10 | apply Z11)); exact (Z12 (Z13 (p := ⟨gb375, 3, none⟩) (Z13 (p := ⟨gb375, 2, none⟩) (Z13 (p := ⟨gb375, 1, none⟩) (Z13 (p := ⟨gb375, 0, none⟩) (Z15 HO357.out BK375.out (by decide)) (fun _ hk => hk.2) (.slice Ao25 t363.length co25)) (fun _ hk => hk.2) (.slice Ao28 t366.length co28)) (fun _ hk => hk.2) (.slice Ao29 t369.length co29)) (fun _ hk => hk.2) (.slice Ao30 t372.length co30)) (fun _ h_ => h_.1))) hb); have n3_ := Aside0.mk (Z14 (by (with_reducible repeat (first | apply Z9 | apply Z10 | apply Z11)); exact (Z12 (Z13 (p := ⟨gb375, 3, none⟩) (Z13 (p := ⟨gb375, 2, none⟩) (Z13 (p := ⟨gb375, 1, none⟩) (Z13 (p := ⟨gb375, 0, none⟩) (Z15 HO360.out BK375.out (by decide)) (fun _ hk => hk.2) (.slice Ao25 t363.length co25)) (fun _ hk => hk.2) (.slice Ao28 t366.length co28)) (fun _ hk => hk.2) (.slice Ao29 t369.length co29)) (fun _ hk => hk.2) (.slice Ao30 t372.length co30)) (fun _ h_ => h_.1))) hb); have n4_ := Aside0.mk (Z14 (by (with_reducible repeat (first | apply Z9 | apply Z10 | apply Z11)); exact (Z12 (Z13 (p := ⟨gb375, 3, none⟩) (Z13 (p := ⟨gb375, 2, none⟩) (Z13 (p := ⟨gb375, 1, none⟩) (Z13 (p := ⟨gb375, 0, none⟩) (Z15 HO365.out BK375.out (by decide)) (fun _ hk => hk.2) (.slice Ao25 t363.length co25)) (fun _ hk => hk.2) (.slice Ao28 t366.length co28)) (fun _ hk => hk.2) (.slice Ao29 t369.length co29)) (fun _ hk => hk.2) (.slice Ao30 t372.length co30)) (fun _ h_ => h_.1))) hb); have n5_ := Aside0.mk (Z14 (by (with_reducible repeat (first | apply Z9 | apply Z10 | apply Z11)); exact (Z12 (Z13 (p := ⟨gb375, 3, none⟩) (Z13 (p := ⟨gb375, 2, none⟩) (Z13 (p := ⟨gb375, 1, none⟩) (Z13 (p := ⟨gb375, 0, none⟩) (Z15 HO368.out BK375.out (by decide)) (fun _ hk => hk.2) (.slice Ao25 t363.length co25)) (fun _ hk => hk.2) (.slice Ao28 t366.length co28)) (fun _ hk => hk.2) (.slice Ao29 t369.length co29)) (fun _ hk => hk.2) (.slice Ao30 t372.length co30)) (fun _ h_ => h_.1))) hb); have n6_ := Aside0.mk (Z14 (by (with_reducible repeat (first | apply Z9 | apply Z10 | apply Z11)); exact (Z12 (Z13 (p := ⟨gb375, 3, none⟩) (Z13 (p := ⟨gb375, 2, none⟩) (Z13 (p := ⟨gb375, 1, none⟩) (Z13 (p := ⟨gb375, 0, none⟩) (Z15 HO371.out BK375.out (by decide)) (fun _ hk => hk.2) (.slice Ao25 t363.length co25)) (fun _ hk => hk.2) (.slice Ao28 t366.length co28)) (fun _ hk => hk.2) (.slice Ao29 t369.length co29)) (fun _ hk => hk.2) (.slice Ao30 t372.length co30)) (fun _ h_ => h_.1))) hb); have n7_ := Aside0.mk (Z14 (by (with_reducible repeat (first | apply Z9 | apply Z10 | apply Z11)); exact (Z12 (Z13 (p := ⟨gb375, 3, none⟩) (Z13 (p := ⟨gb375, 2, none⟩) (Z13 (p := ⟨gb375, 1, none⟩) (Z13 (p := ⟨gb375, 0, none⟩) (Z15 HO374.out BK375.out (by decide)) (fun _ hk => hk.2) (.slice Ao25 t363.length co25)) (fun _ hk => hk.2) (.slice Ao28 t366.length co28)) (fun _ hk => hk.2) (.slice Ao29 t369.length co29)) (fun _ hk => hk.2) (.slice Ao30 t372.length co30)) (fun _ h_ => h_.1))) hb); have n8_ := Aside0.mk (Z29 (g := gb347) (o := .cells #[.slice A0_0 l0_0.length c0_0, .slice A0_1 l0_1.length c0_1, .slice A0_2 l0_2.length c0_2, .slice A0_3 l0_3.length c0_3] 25 (0, 0)) (by (with_reducible repeat (first | refine Z26 ?_ _ | refine Z27 ?_ | refine Z28 ?_ _)); refine blk_far ?_ NB347_375.out _; (with_reducible repeat (first | refine Z26 ?_ _ | refine Z27 ?_ | refine Z28 ?_ _)); refine blk_far ?_ NB347_375.out _; (with_reducible repeat (first | refine Z26 ?_ _ | refine Z27 ?_ | refine Z28 ?_ _)); refine blk_far ?_ NB347_375.out _; (with_reducible repeat (first | refine Z26 ?_ _ | refine Z27 ?_ | refine Z28 ?_ _)); refine blk_far ?_ NB347_375.out _; (with_reducible repeat (first | refine Z26 ?_ _ | refine Z27 ?_ | refine Z28 ?_ _)); exact BK347.out) hb); have n9_ := Aside0.mk (Z29 (g := gb375) (o := .cells #[.slice Ao25 t363.length co25, .slice Ao28 t366.length co28, .slice Ao29 t369.length co29, .slice Ao30 t372.length co30] 29 (0, 0)) (by (with_reducible repeat (first | refine Z26 ?_ _ | refine Z27 ?_ | refine Z28 ?_ _)); refine Z30 (cs := #[.slice Ao25 t363.length co25, .slice Ao28 t366.length co28, .slice Ao29 t369.length co29, .slice none 0 0]) ?_ 3 _ rfl; (with_reducible repeat (first | refine Z26 ?_ _ | refine Z27 ?_ | refine Z28 ?_ _)); refine Z30 (cs := #[.slice Ao25 t363.length co25, .slice Ao28 t366.length co28, .slice none 0 0, .slice none 0 0]) ?_ 2 _ rfl; (with_reducible repeat (first | refine Z26 ?_ _ | refine Z27 ?_ | refine Z28 ?_ _)); refine Z30 (cs := #[.slice Ao25 t363.length co25, .slice none 0 0, .slice none 0 0, .slice none 0 0]) ?_ 1 _ rfl; (with_reducible repeat (first | refine Z26 ?_ _ | refine Z27 ?_ | refine Z28 ?_ _)); refine Z30 (cs := #[.slice none 0 0, .slice none 0 0, .slice none 0 0, .slice none 0 0]) ?_ 0 _ rfl; (with_reducible repeat (first | refine Z26 ?_ _ | refine Z27 ?_ | refine Z28 ?_ _)); exact BK375.out) hb); have n10_ := Aside0.mk (Z8 (by repeat (first | (with_reducible first | exact HB.out | apply Z5 | apply Z3 | apply Z4 | refine Z6 ?_ GE347.out | refine Z6 ?_ GE375.out) | exact HB.out)) hb); clear HO351; clear HO354; clear HO357; clear HO360; clear HO365; clear HO368; clear HO371; clear HO374; clear BK347; clear BK375; clear HB; have HO351 := n0_; have HO354 := n1_; have HO357 := n2_; have HO360 := n3_; have HO365 := n4_; have HO368 := n5_; have HO371 := n6_; have HO374 := n7_; have BK347 := n8_; have BK375 := n9_; have HB := n10_; clear n0_ n1_ n2_ n3_ n4_ n5_ n6_ n7_ n8_ n9_ n10_; (try clear hb); (try clear hb2); (try clear hk); (try clear hi)))
  (try simp only [Act.put, Z0, Z1, Z2])
  go_cut [34] (fun v34 wc => ∃ (kq : Nat) (x34_10 : Bool), v34 = .bool x34_10 ∧ Aside0 (laws_FnExactIsLastFocus.j0 kq x34_10 l0_0 l0_1 l0_2 l0_3 t363 t366 t369 t372 = some r) ∧ Aside0 (kq ≤ k) ∧ Aside0 (Kd.R (Kd.int .i64) 3 wc w.heap.size (fun k_ => some k_ ≠ ((.slice Ao28 t366.length co28) : Value).ownBlock ∧ some k_ ≠ ((.slice Ao30 t372.length co30) : Value).ownBlock) (.slice Ao25 t363.length co25) t363) ∧ Aside0 (Kd.R (Kd.int .i64) 3 wc w.heap.size (fun k_ => some k_ ≠ ((.slice Ao25 t363.length co25) : Value).ownBlock ∧ some k_ ≠ ((.slice Ao30 t372.length co30) : Value).ownBlock) (.slice Ao28 t366.length co28) t366) ∧ Aside0 (Kd.R Kd.bool 4 wc w.heap.size (fun _ => True) (.slice Ao29 t369.length co29) t369) ∧ Aside0 (Kd.R (Kd.int .i64) 3 wc w.heap.size (fun k_ => some k_ ≠ ((.slice Ao25 t363.length co25) : Value).ownBlock ∧ some k_ ≠ ((.slice Ao28 t366.length co28) : Value).ownBlock) (.slice Ao30 t372.length co30) t372) ∧ Aside0 (wc.heap[gb347]? = some (.cells #[(.slice A0_0 l0_0.length c0_0), (.slice A0_1 l0_1.length c0_1), (.slice A0_2 l0_2.length c0_2), (.slice A0_3 l0_3.length c0_3)] 25 (0, 0))) ∧ Aside0 (wc.heap[gb375]? = some (.cells #[(.slice Ao25 t363.length co25), (.slice Ao28 t366.length co28), (.slice Ao29 t369.length co29), (.slice Ao30 t372.length co30)] 29 (0, 0))) ∧ Aside0 (Below w.heap.size w wc))
  case first =>
   have H := HC11.out
   clear HC11
   by_cases c32 : (t376 != t361) = true
   ·rw [if_pos c32] at H
    have c32b0 : (t376 != t361) = true := c32
    (try (have c32b1 : decide (t376 = t361) = false := by simpa using c32))
    (try (have c32b2 : (t376 == t361) = false := by simpa using c32))
    (try (have c32b3 : ¬ (t376 = t361) := by simpa using c32))
    clear c32
    (first | rw [c32b0] | (simp only [i64_w, i32_w]; rw [c32b0]) | skip)
    have H' := Aside0.mk H
    clear H
    go_wp2
    go_meet
    case rel => exact ⟨_, (true), (by first | rfl | (simp; done) | (simp [*]; done)), H', ⟨by first | omega | exact Nat.le_refl _⟩, ⟨by (with_reducible repeat (first | apply Z9 | apply Z10 | apply Z11)); exact Z12 HO365.out (fun _ hk => ⟨hk.1.1.1.1, hk.1.1.1.2⟩)⟩, ⟨by (with_reducible repeat (first | apply Z9 | apply Z10 | apply Z11)); exact Z12 HO368.out (fun _ hk => ⟨hk.1.1.1.1, hk.1.1.1.2⟩)⟩, ⟨by (with_reducible repeat (first | apply Z9 | apply Z10 | apply Z11)); exact Z12 HO371.out (fun _ hk => trivial)⟩, ⟨by (with_reducible repeat (first | apply Z9 | apply Z10 | apply Z11)); exact Z12 HO374.out (fun _ hk => ⟨hk.1.1.1.1, hk.1.1.1.2⟩)⟩, ⟨by (with_reducible repeat (first | refine Z26 ?_ _ | refine Z27 ?_ | refine Z28 ?_ _)); exact BK347.out⟩, ⟨by (with_reducible repeat (first | refine Z26 ?_ _ | refine Z27 ?_ | refine Z28 ?_ _)); exact BK375.out⟩, ⟨by repeat (first | (with_reducible first | exact HB.out | apply Z5 | apply Z3 | apply Z4 | refine Z6 ?_ GE347.out | refine Z6 ?_ GE375.out) | exact HB.out)⟩⟩
   ·rw [if_neg c32] at H
    have c32b0 : (t376 != t361) = false := by simpa using c32
    (try (have c32b1 : decide (t376 = t361) = true := by simpa using c32))
    (try (have c32b2 : (t376 == t361) = true := by simpa using c32))
    clear c32
    (first | rw [c32b0] | (simp only [i64_w, i32_w]; rw [c32b0]) | skip)
    have H' := Aside0.mk H
    clear H
    go_wp2
    go_meet
    case rel => exact ⟨_, ((t377 != t362)), (by first | rfl | (simp; done) | (simp [*]; done)), H', ⟨by first | omega | exact Nat.le_refl _⟩, ⟨by (with_reducible repeat (first | apply Z9 | apply Z10 | apply Z11)); exact Z12 HO365.out (fun _ hk => ⟨hk.1.1.1.1, hk.1.1.1.2⟩)⟩, ⟨by (with_reducible repeat (first | apply Z9 | apply Z10 | apply Z11)); exact Z12 HO368.out (fun _ hk => ⟨hk.1.1.1.1, hk.1.1.1.2⟩)⟩, ⟨by (with_reducible repeat (first | apply Z9 | apply Z10 | apply Z11)); exact Z12 HO371.out (fun _ hk => trivial)⟩, ⟨by (with_reducible repeat (first | apply Z9 | apply Z10 | apply Z11)); exact Z12 HO374.out (fun _ hk => ⟨hk.1.1.1.1, hk.1.1.1.2⟩)⟩, ⟨by (with_reducible repeat (first | refine Z26 ?_ _ | refine Z27 ?_ | refine Z28 ?_ _)); exact BK347.out⟩, ⟨by (with_reducible repeat (first | refine Z26 ?_ _ | refine Z27 ?_ | refine Z28 ?_ _)); exact BK375.out⟩, ⟨by repeat (first | (with_reducible first | exact HB.out | apply Z5 | apply Z3 | apply Z4 | refine Z6 ?_ GE347.out | refine Z6 ?_ GE375.out) | exact HB.out)⟩⟩
  case rest =>
   clear HC11
   try clear c1
   try clear c2
   try clear p2
   try clear c3
   try clear c3b0
   try clear c4
   try clear c12
   try clear c14
   try clear c17
   try clear c18
   try clear c26
   try clear c32
   try clear c32b0
   try clear c32b1
   try clear c32b2
   try clear hcz13_0
   try clear hcz13_1
   try clear hcz13_2
   try clear hcz13_3
   try clear hcz15_0
   try clear hcz15_1
   try clear hcz15_2
   try clear hcz15_3
   try clear hcz22_0
   try clear hcz22_1
   try clear hcz22_2
   try clear hcz22_3
   try clear hcz27_0
   try clear hcz27_1
   try clear hcz27_2
   try clear hcz27_3
   try clear hcz5_0
   try clear hcz5_1
   try clear hcz5_2
   try clear hcz5_3
   try clear hfz13_0
   try clear hfz13_1
   try clear hfz13_2
   try clear hfz13_3
   try clear hfz15_0
   try clear hfz15_1
   try clear hfz15_2
   try clear hfz15_3
   try clear hfz22_0
   try clear hfz22_1
   try clear hfz22_2
   try clear hfz22_3
   try clear hfz27_0
   try clear hfz27_1
   try clear hfz27_2
   try clear hfz27_3
   try clear hfz5_0
   try clear hfz5_1
   try clear hfz5_2
   try clear hfz5_3
   obtain ⟨kq, x34_10, rfl, HA, HJ10, HO_376000, HO_376001, HO_376002, HO_376003, BK347, BK375, HB⟩ := hcut
   cases kq with
   | zero => exact absurd HA.out (by simp [laws_FnExactIsLastFocus.j0])
   | succ kj10 =>
    have H := HA.out
    clear HA
    simp only [laws_FnExactIsLastFocus.j0] at H
    by_cases c33 : x34_10 = true
    ·subst c33
     have H1 : (some false) = some r := by rw [if_pos rfl] at H; exact H
     clear H
     have H := H1
     clear H1
     obtain rfl := Option.some.inj H
     go_wp2
     go_ret
     exact ⟨by first | rfl | (simp [errW_none, errW_some] <;> rfl) | (simp [*, errW_none, errW_some] <;> rfl), by repeat (first | (with_reducible first | exact HB.out | apply Z5 | apply Z3 | apply Z4 | refine Z6 ?_ GE347.out | refine Z6 ?_ GE375.out) | exact HB.out)⟩
    ·replace c33 := Bool.eq_false_iff.mpr c33
     subst c33
     have H1 : ((laws_toFocus.f kj10 l0_0 l0_1 l0_2 l0_3).bind fun bt378 => ((laws_eqFocus.f kj10 t363 t366 t369 t372 bt378.1 bt378.2.1 bt378.2.2.1 bt378.2.2.2).bind fun t390 => (if t390 = true then (some true) else (some false)))) = some r := by rw [if_neg (show ¬ (false = true) by decide)] at H; exact H
     clear H
     have H := H1
     clear H1
     replace H := Z37.mp H
     obtain ⟨⟨t378, t381, t384, t387⟩, A340, H⟩ := H
     replace H : ((laws_eqFocus.f kj10 t363 t366 t369 t372 t378 t381 t384 t387).bind fun t390 => (if t390 = true then (some true) else (some false))) = some r := H
     have A34 := Aside0.mk A340
     clear A340
     replace H := Z37.mp H
     obtain ⟨t390, A350, H⟩ := H
     replace H : (if t390 = true then (some true) else (some false)) = some r := H
     have A35 := Aside0.mk A350
     clear A350
     by_cases c36 : t390 = true
     ·subst c36
      have H1 : (some true) = some r := by rw [if_pos rfl] at H; exact H
      clear H
      have H := H1
      clear H1
      obtain rfl := Option.some.inj H
      try go_wp2
      have n0_ := Aside0.mk (Z11 HO_376000.out)
      have n1_ := Aside0.mk (Z11 HO_376001.out)
      have n2_ := Aside0.mk (Z11 HO_376002.out)
      have n3_ := Aside0.mk (Z11 HO_376003.out)
      have n4_ := Aside0.mk (Z27 BK347.out)
      have n5_ := Aside0.mk (Z27 BK375.out)
      have n6_ := Aside0.mk (Z4 HB.out)
      clear HO_376000
      clear HO_376001
      clear HO_376002
      clear HO_376003
      clear BK347
      clear BK375
      clear HB
      have HO_376000 := n0_
      have HO_376001 := n1_
      have HO_376002 := n2_
      have HO_376003 := n3_
      have BK347 := n4_
      have BK375 := n5_
      have HB := n6_
      clear n0_ n1_ n2_ n3_ n4_ n5_ n6_
      refine start_ (n := 5) (S := fun w' => w'.cell? ⟨gb375, 0, none⟩ = some (.slice Ao25 t363.length co25) ∧ w'.cell? ⟨gb375, 1, none⟩ = some (.slice Ao28 t366.length co28) ∧ w'.cell? ⟨gb375, 2, none⟩ = some (.slice Ao29 t369.length co29) ∧ w'.cell? ⟨gb375, 3, none⟩ = some (.slice Ao30 t372.length co30) ∧ w'.cell? ⟨gb347, 0, none⟩ = some (.slice A0_0 l0_0.length c0_0) ∧ w'.cell? ⟨gb347, 1, none⟩ = some (.slice A0_1 l0_1.length c0_1) ∧ w'.cell? ⟨gb347, 2, none⟩ = some (.slice A0_2 l0_2.length c0_2) ∧ w'.cell? ⟨gb347, 3, none⟩ = some (.slice A0_3 l0_3.length c0_3)) (ds := []) #[false, false, false, false, false] (by kernel_rfl) rfl rfl ⟨(Z24 BK375.out 0).trans rfl, (Z24 BK375.out 1).trans rfl, (Z24 BK375.out 2).trans rfl, (Z24 BK375.out 3).trans rfl, (Z24 BK347.out 0).trans rfl, (Z24 BK347.out 1).trans rfl, (Z24 BK347.out 2).trans rfl, (Z24 BK347.out 3).trans rfl⟩ (fun hHeld => ?_)
      generalize wc.drew = w37 at HO_376000 HO_376001 HO_376002 HO_376003 BK347 BK375 HB hHeld ⊢
      refine take_ (i := 0) (N := some 35) (v := ?_) (a' := ?_) #[true, false, false, false, false] rfl rfl (by kernel_rfl) (fun _ _ _ h => h) (Or.inl ⟨by rfl, ?_⟩) hHeld ?_ ?_
      rotate_left
      ·rintro w' ⟨s0, s1, s2, s3, s4, s5, s6, s7⟩
       go_simp
       with_reducible rfl
      rotate_left
      ·simp only [Act.put, Z0, Z1, Z2, i64_w, i32_w]
       rfl
      refine take_ (i := 1) (N := some 36) (v := ?_) (a' := ?_) #[true, true, false, false, false] rfl rfl (by kernel_rfl) (fun _ _ _ h => h) (Or.inl ⟨by rfl, ?_⟩) hHeld ?_ ?_
      rotate_left
      ·rintro w' ⟨s0, s1, s2, s3, s4, s5, s6, s7⟩
       go_simp
       with_reducible rfl
      rotate_left
      ·simp only [Act.put, Z0, Z1, Z2, i64_w, i32_w]
       rfl
      refine one_ (i := 2) (N := some 37) #[true, true, true, false, false] rfl rfl (by kernel_rfl) (by decide) (fun K hK => ?_)
      refine goes_ Try.func14 (by kernel_rfl) rfl #[.agg #[.slice A0_0 l0_0.length c0_0, .slice A0_1 l0_1.length c0_1, .slice A0_2 l0_2.length c0_2, .slice A0_3 l0_3.length c0_3]] (by rfl) rfl rfl (by (try simp only [Z34, Z35, Z36]); first | done | rfl | (simp only [Z32, Z33]; rfl)) ?_
      with_reducible refine (laws_toFocus.calls kj10 _ _ l0_0 _ _ l0_1 _ _ l0_2 _ _ l0_3 t378 t381 t384 t387 _ ?side1 ?side2 ?side3 ?side4 ?side5 ?side6 ?side7 ?side8 A34.out).mono ?_
      (case side1 => repeat (first | exact (Z23 HR0_0.out HB.out) | (with_reducible refine Z20 ?_ _) | (with_reducible refine Z21 ?_ _) | (with_reducible refine Z22 ?_)))
      (case side2 => exact HC0_0.out)
      (case side3 => repeat (first | exact (Z23 HR0_1.out HB.out) | (with_reducible refine Z20 ?_ _) | (with_reducible refine Z21 ?_ _) | (with_reducible refine Z22 ?_)))
      (case side4 => exact HC0_1.out)
      (case side5 => repeat (first | exact (Z23 HR0_2.out HB.out) | (with_reducible refine Z20 ?_ _) | (with_reducible refine Z21 ?_ _) | (with_reducible refine Z22 ?_)))
      (case side6 => exact HC0_2.out)
      (case side7 => repeat (first | exact (Z23 HR0_3.out HB.out) | (with_reducible refine Z20 ?_ _) | (with_reducible refine Z21 ?_ _) | (with_reducible refine Z22 ?_)))
      (case side8 => exact HC0_3.out)
      rintro e w38 ⟨v379, v382, v385, v388, rfl, ho0, ho1, ho2, ho3, hb⟩
      refine ⟨_, rfl, ?_⟩
      have n0_ := Aside0.mk (Z12 (Z16 (Z16 (Z16 (Z17 (by (with_reducible repeat (first | apply Z9 | apply Z10 | apply Z11)); exact HO_376000.out) hb) (Kd.R_base ho0)) (Kd.R_base ho1)) (Kd.R_base ho3)) (fun _ h_ => h_.1))
      have n1_ := Aside0.mk (Z12 (Z16 (Z16 (Z16 (Z17 (by (with_reducible repeat (first | apply Z9 | apply Z10 | apply Z11)); exact HO_376001.out) hb) (Kd.R_base ho0)) (Kd.R_base ho1)) (Kd.R_base ho3)) (fun _ h_ => h_.1))
      have n2_ := Aside0.mk (Kd.R_elder' (by (with_reducible repeat (first | apply Z9 | apply Z10 | apply Z11)); exact HO_376002.out) (Kd.R_base ho2) hb)
      have n3_ := Aside0.mk (Z12 (Z16 (Z16 (Z16 (Z17 (by (with_reducible repeat (first | apply Z9 | apply Z10 | apply Z11)); exact HO_376003.out) hb) (Kd.R_base ho0)) (Kd.R_base ho1)) (Kd.R_base ho3)) (fun _ h_ => h_.1))
      have n4_ := Aside0.mk (Kd.R_lower (Kd.R_new' (Kd.R_new' (Kd.R_new' ho0 (Z18 (by (with_reducible repeat (first | apply Z9 | apply Z10 | apply Z11)); exact HO_376000.out))) (Z18 (by (with_reducible repeat (first | apply Z9 | apply Z10 | apply Z11)); exact HO_376001.out))) (Z18 (by (with_reducible repeat (first | apply Z9 | apply Z10 | apply Z11)); exact HO_376003.out))) (Z7 (by repeat (first | (with_reducible first | exact HB.out | apply Z5 | apply Z3 | apply Z4 | refine Z6 ?_ GE347.out | refine Z6 ?_ GE375.out) | exact HB.out))))
      have n5_ := Aside0.mk (Kd.R_lower (Kd.R_new' (Kd.R_new' (Kd.R_new' ho1 (Z18 (by (with_reducible repeat (first | apply Z9 | apply Z10 | apply Z11)); exact HO_376000.out))) (Z18 (by (with_reducible repeat (first | apply Z9 | apply Z10 | apply Z11)); exact HO_376001.out))) (Z18 (by (with_reducible repeat (first | apply Z9 | apply Z10 | apply Z11)); exact HO_376003.out))) (Z7 (by repeat (first | (with_reducible first | exact HB.out | apply Z5 | apply Z3 | apply Z4 | refine Z6 ?_ GE347.out | refine Z6 ?_ GE375.out) | exact HB.out))))
      have n6_ := Aside0.mk (Kd.R_lower (Kd.R_new' ho2 (Z18 (by (with_reducible repeat (first | apply Z9 | apply Z10 | apply Z11)); exact HO_376002.out))) (Z7 (by repeat (first | (with_reducible first | exact HB.out | apply Z5 | apply Z3 | apply Z4 | refine Z6 ?_ GE347.out | refine Z6 ?_ GE375.out) | exact HB.out))))
      have n7_ := Aside0.mk (Kd.R_lower (Kd.R_new' (Kd.R_new' (Kd.R_new' ho3 (Z18 (by (with_reducible repeat (first | apply Z9 | apply Z10 | apply Z11)); exact HO_376000.out))) (Z18 (by (with_reducible repeat (first | apply Z9 | apply Z10 | apply Z11)); exact HO_376001.out))) (Z18 (by (with_reducible repeat (first | apply Z9 | apply Z10 | apply Z11)); exact HO_376003.out))) (Z7 (by repeat (first | (with_reducible first | exact HB.out | apply Z5 | apply Z3 | apply Z4 | refine Z6 ?_ GE347.out | refine Z6 ?_ GE375.out) | exact HB.out))))
      have n8_ := Aside0.mk (Z29 (g := gb347) (o := .cells #[.slice A0_0 l0_0.length c0_0, .slice A0_1 l0_1.length c0_1, .slice A0_2 l0_2.length c0_2, .slice A0_3 l0_3.length c0_3] 25 (0, 0)) (by (with_reducible repeat (first | refine Z26 ?_ _ | refine Z27 ?_ | refine Z28 ?_ _)); exact BK347.out) hb)
      have n9_ := Aside0.mk (Z29 (g := gb375) (o := .cells #[.slice Ao25 t363.length co25, .slice Ao28 t366.length co28, .slice Ao29 t369.length co29, .slice Ao30 t372.length co30] 29 (0, 0)) (by (with_reducible repeat (first | refine Z26 ?_ _ | refine Z27 ?_ | refine Z28 ?_ _)); exact BK375.out) hb)
      have n10_ := Aside0.mk (Z8 (by repeat (first | (with_reducible first | exact HB.out | apply Z5 | apply Z3 | apply Z4 | refine Z6 ?_ GE347.out | refine Z6 ?_ GE375.out) | exact HB.out)) hb)
      clear HO_376000
      clear HO_376001
      clear HO_376002
      clear HO_376003
      clear BK347
      clear BK375
      clear HB
      have HO_376000 := n0_
      have HO_376001 := n1_
      have HO_376002 := n2_
      have HO_376003 := n3_
      have HO380 := n4_
      have HO383 := n5_
      have HO386 := n6_
      have HO389 := n7_
      have BK347 := n8_
      have BK375 := n9_
      have HB := n10_
      clear n0_ n1_ n2_ n3_ n4_ n5_ n6_ n7_ n8_ n9_ n10_
      (try clear hb)
      (try clear hb2)
      (try clear hk)
      (try clear hi)
      (try clear ho0)
      (try clear ho1)
      (try clear ho2)
      (try clear ho3)
      obtain ⟨Ao39, co39, eo39⟩ := Z19 HO380.out
      (first | subst eo39 | (injection eo39 with f1_ f2_ f3_; have f4_ := f1_.symm; have f5_ := f3_.symm; clear f1_ f2_ f3_; subst f4_; subst f5_))
      obtain ⟨Ao40, co40, eo40⟩ := Z19 HO383.out
      (first | subst eo40 | (injection eo40 with f1_ f2_ f3_; have f4_ := f1_.symm; have f5_ := f3_.symm; clear f1_ f2_ f3_; subst f4_; subst f5_))
      obtain ⟨Ao41, co41, eo41⟩ := Z19 HO386.out
      (first | subst eo41 | (injection eo41 with f1_ f2_ f3_; have f4_ := f1_.symm; have f5_ := f3_.symm; clear f1_ f2_ f3_; subst f4_; subst f5_))
      obtain ⟨Ao42, co42, eo42⟩ := Z19 HO389.out
      (first | subst eo42 | (injection eo42 with f1_ f2_ f3_; have f4_ := f1_.symm; have f5_ := f3_.symm; clear f1_ f2_ f3_; subst f4_; subst f5_))
      refine hK.out _ _ ⟨(Z24 BK375.out 0).trans rfl, (Z24 BK375.out 1).trans rfl, (Z24 BK375.out 2).trans rfl, (Z24 BK375.out 3).trans rfl, (Z24 BK347.out 0).trans rfl, (Z24 BK347.out 1).trans rfl, (Z24 BK347.out 2).trans rfl, (Z24 BK347.out 3).trans rfl⟩ (fun hHeld => ?_)
      clear hK K
      refine norm_ (a' := ?_) ?_ ?_
      rotate_left
      ·show Act.put _ (some 37) _ = _
       simp only [Act.put, Z0, Z1, Z2, i64_w, i32_w]
       rfl
      refine one_ (i := 3) (N := some 38) #[true, true, true, true, false] rfl rfl (by kernel_rfl) (by decide) (fun K hK => ?_)
      refine goes_ Try.func16 (by kernel_rfl) rfl #[.agg #[.slice Ao25 t363.length co25, .slice Ao28 t366.length co28, .slice Ao29 t369.length co29, .slice Ao30 t372.length co30], .agg #[.slice Ao39 t378.length co39, .slice Ao40 t381.length co40, .slice Ao41 t384.length co41, .slice Ao42 t387.length co42]] (by rfl) rfl rfl (by (try simp only [Z34, Z35, Z36]); first | done | rfl | (simp only [Z32, Z33]; rfl)) ?_
      with_reducible refine (laws_eqFocus.calls kj10 _ _ t363 _ _ t366 _ _ t369 _ _ t372 _ _ t378 _ _ t381 _ _ t384 _ _ t387 true _ ?side1 ?side2 ?side3 ?side4 ?side5 ?side6 ?side7 ?side8 ?side9 ?side10 ?side11 ?side12 ?side13 ?side14 ?side15 ?side16 A35.out).mono ?_
      (case side1 => repeat (first | exact (Kd.R_reads' HO_376000.out).2.2 | (with_reducible refine Z20 ?_ _) | (with_reducible refine Z21 ?_ _) | (with_reducible refine Z22 ?_)))
      (case side2 => exact (Kd.R_reads' HO_376000.out).2.1)
      (case side3 => repeat (first | exact (Kd.R_reads' HO_376001.out).2.2 | (with_reducible refine Z20 ?_ _) | (with_reducible refine Z21 ?_ _) | (with_reducible refine Z22 ?_)))
      (case side4 => exact (Kd.R_reads' HO_376001.out).2.1)
      (case side5 => repeat (first | exact (Kd.R_reads' HO_376002.out).2.2 | (with_reducible refine Z20 ?_ _) | (with_reducible refine Z21 ?_ _) | (with_reducible refine Z22 ?_)))
      (case side6 => exact (Kd.R_reads' HO_376002.out).2.1)
      (case side7 => repeat (first | exact (Kd.R_reads' HO_376003.out).2.2 | (with_reducible refine Z20 ?_ _) | (with_reducible refine Z21 ?_ _) | (with_reducible refine Z22 ?_)))
      (case side8 => exact (Kd.R_reads' HO_376003.out).2.1)
      (case side9 => repeat (first | exact (Kd.R_reads' HO380.out).2.2 | (with_reducible refine Z20 ?_ _) | (with_reducible refine Z21 ?_ _) | (with_reducible refine Z22 ?_)))
      (case side10 => exact (Kd.R_reads' HO380.out).2.1)
      (case side11 => repeat (first | exact (Kd.R_reads' HO383.out).2.2 | (with_reducible refine Z20 ?_ _) | (with_reducible refine Z21 ?_ _) | (with_reducible refine Z22 ?_)))
      (case side12 => exact (Kd.R_reads' HO383.out).2.1)
      (case side13 => repeat (first | exact (Kd.R_reads' HO386.out).2.2 | (with_reducible refine Z20 ?_ _) | (with_reducible refine Z21 ?_ _) | (with_reducible refine Z22 ?_)))
      (case side14 => exact (Kd.R_reads' HO386.out).2.1)
      (case side15 => repeat (first | exact (Kd.R_reads' HO389.out).2.2 | (with_reducible refine Z20 ?_ _) | (with_reducible refine Z21 ?_ _) | (with_reducible refine Z22 ?_)))
      (case side16 => exact (Kd.R_reads' HO389.out).2.1)
      rintro e w43 ⟨rfl, hb⟩
      refine ⟨_, rfl, ?_⟩
      have n0_ := Aside0.mk (Z14 (by (with_reducible repeat (first | apply Z9 | apply Z10 | apply Z11)); exact HO_376000.out) hb)
      have n1_ := Aside0.mk (Z14 (by (with_reducible repeat (first | apply Z9 | apply Z10 | apply Z11)); exact HO_376001.out) hb)
      have n2_ := Aside0.mk (Z14 (by (with_reducible repeat (first | apply Z9 | apply Z10 | apply Z11)); exact HO_376002.out) hb)
      have n3_ := Aside0.mk (Z14 (by (with_reducible repeat (first | apply Z9 | apply Z10 | apply Z11)); exact HO_376003.out) hb)
      have n4_ := Aside0.mk (Z14 (by (with_reducible repeat (first | apply Z9 | apply Z10 | apply Z11)); exact HO380.out) hb)
      have n5_ := Aside0.mk (Z14 (by (with_reducible repeat (first | apply Z9 | apply Z10 | apply Z11)); exact HO383.out) hb)
      have n6_ := Aside0.mk (Z14 (by (with_reducible repeat (first | apply Z9 | apply Z10 | apply Z11)); exact HO386.out) hb)
      have n7_ := Aside0.mk (Z14 (by (with_reducible repeat (first | apply Z9 | apply Z10 | apply Z11)); exact HO389.out) hb)
      have n8_ := Aside0.mk (Z29 (g := gb347) (o := .cells #[.slice A0_0 l0_0.length c0_0, .slice A0_1 l0_1.length c0_1, .slice A0_2 l0_2.length c0_2, .slice A0_3 l0_3.length c0_3] 25 (0, 0)) (by (with_reducible repeat (first | refine Z26 ?_ _ | refine Z27 ?_ | refine Z28 ?_ _)); exact BK347.out) hb)
      have n9_ := Aside0.mk (Z29 (g := gb375) (o := .cells #[.slice Ao25 t363.length co25, .slice Ao28 t366.length co28, .slice Ao29 t369.length co29, .slice Ao30 t372.length co30] 29 (0, 0)) (by (with_reducible repeat (first | refine Z26 ?_ _ | refine Z27 ?_ | refine Z28 ?_ _)); exact BK375.out) hb)
      have n10_ := Aside0.mk (Z8 (by repeat (first | (with_reducible first | exact HB.out | apply Z5 | apply Z3 | apply Z4 | refine Z6 ?_ GE347.out | refine Z6 ?_ GE375.out) | exact HB.out)) hb)
      clear HO_376000
      clear HO_376001
      clear HO_376002
      clear HO_376003
      clear HO380
      clear HO383
      clear HO386
      clear HO389
      clear BK347
      clear BK375
      clear HB
      have HO_376000 := n0_
      have HO_376001 := n1_
      have HO_376002 := n2_
      have HO_376003 := n3_
      have HO380 := n4_
      have HO383 := n5_
      have HO386 := n6_
      have HO389 := n7_
      have BK347 := n8_
      have BK375 := n9_
      have HB := n10_
      clear n0_ n1_ n2_ n3_ n4_ n5_ n6_ n7_ n8_ n9_ n10_
      (try clear hb)
      (try clear hb2)
      (try clear hk)
      (try clear hi)
      refine hK.out _ _ ⟨(Z24 BK375.out 0).trans rfl, (Z24 BK375.out 1).trans rfl, (Z24 BK375.out 2).trans rfl, (Z24 BK375.out 3).trans rfl, (Z24 BK347.out 0).trans rfl, (Z24 BK347.out 1).trans rfl, (Z24 BK347.out 2).trans rfl, (Z24 BK347.out 3).trans rfl⟩ (fun hHeld => ?_)
      clear hK K
      refine norm_ (a' := ?_) ?_ ?_
      rotate_left
      ·show Act.put _ (some 38) _ = _
       simp only [Act.put, Z0, Z1, Z2, i64_w, i32_w]
       rfl
      refine pure_ (i := 4) (N := some 39) (v := ?_) (a' := ?_) #[true, true, true, true, true] rfl rfl (by kernel_rfl) (fun _ _ _ h => h) (Or.inl ⟨by rfl, ?_⟩) ?_ ?_
      rotate_left
      ·intro w'
       go_simp
       with_reducible rfl
      rotate_left
      ·simp only [Act.put, Z0, Z1, Z2, i64_w, i32_w]
       rfl
      refine done_ (by kernel_rfl) ?_
      try go_wp2
      go_ret
      exact ⟨by first | rfl | (simp [errW_none, errW_some] <;> rfl) | (simp [*, errW_none, errW_some] <;> rfl), by repeat (first | (with_reducible first | exact HB.out | apply Z5 | apply Z3 | apply Z4 | refine Z6 ?_ GE347.out | refine Z6 ?_ GE375.out) | exact HB.out)⟩
     ·replace c36 := Bool.eq_false_iff.mpr c36
      subst c36
      have H1 : (some false) = some r := by rw [if_neg (show ¬ (false = true) by decide)] at H; exact H
      clear H
      have H := H1
      clear H1
      obtain rfl := Option.some.inj H
      try go_wp2
      have n0_ := Aside0.mk (Z11 HO_376000.out)
      have n1_ := Aside0.mk (Z11 HO_376001.out)
      have n2_ := Aside0.mk (Z11 HO_376002.out)
      have n3_ := Aside0.mk (Z11 HO_376003.out)
      have n4_ := Aside0.mk (Z27 BK347.out)
      have n5_ := Aside0.mk (Z27 BK375.out)
      have n6_ := Aside0.mk (Z4 HB.out)
      clear HO_376000
      clear HO_376001
      clear HO_376002
      clear HO_376003
      clear BK347
      clear BK375
      clear HB
      have HO_376000 := n0_
      have HO_376001 := n1_
      have HO_376002 := n2_
      have HO_376003 := n3_
      have BK347 := n4_
      have BK375 := n5_
      have HB := n6_
      clear n0_ n1_ n2_ n3_ n4_ n5_ n6_
      refine start_ (n := 5) (S := fun w' => w'.cell? ⟨gb375, 0, none⟩ = some (.slice Ao25 t363.length co25) ∧ w'.cell? ⟨gb375, 1, none⟩ = some (.slice Ao28 t366.length co28) ∧ w'.cell? ⟨gb375, 2, none⟩ = some (.slice Ao29 t369.length co29) ∧ w'.cell? ⟨gb375, 3, none⟩ = some (.slice Ao30 t372.length co30) ∧ w'.cell? ⟨gb347, 0, none⟩ = some (.slice A0_0 l0_0.length c0_0) ∧ w'.cell? ⟨gb347, 1, none⟩ = some (.slice A0_1 l0_1.length c0_1) ∧ w'.cell? ⟨gb347, 2, none⟩ = some (.slice A0_2 l0_2.length c0_2) ∧ w'.cell? ⟨gb347, 3, none⟩ = some (.slice A0_3 l0_3.length c0_3)) (ds := []) #[false, false, false, false, false] (by kernel_rfl) rfl rfl ⟨(Z24 BK375.out 0).trans rfl, (Z24 BK375.out 1).trans rfl, (Z24 BK375.out 2).trans rfl, (Z24 BK375.out 3).trans rfl, (Z24 BK347.out 0).trans rfl, (Z24 BK347.out 1).trans rfl, (Z24 BK347.out 2).trans rfl, (Z24 BK347.out 3).trans rfl⟩ (fun hHeld => ?_)
      generalize wc.drew = w44 at HO_376000 HO_376001 HO_376002 HO_376003 BK347 BK375 HB hHeld ⊢
      refine take_ (i := 0) (N := some 35) (v := ?_) (a' := ?_) #[true, false, false, false, false] rfl rfl (by kernel_rfl) (fun _ _ _ h => h) (Or.inl ⟨by rfl, ?_⟩) hHeld ?_ ?_
      rotate_left
      ·rintro w' ⟨s0, s1, s2, s3, s4, s5, s6, s7⟩
       go_simp
       with_reducible rfl
      rotate_left
      ·simp only [Act.put, Z0, Z1, Z2, i64_w, i32_w]
       rfl
      refine take_ (i := 1) (N := some 36) (v := ?_) (a' := ?_) #[true, true, false, false, false] rfl rfl (by kernel_rfl) (fun _ _ _ h => h) (Or.inl ⟨by rfl, ?_⟩) hHeld ?_ ?_
      rotate_left
      ·rintro w' ⟨s0, s1, s2, s3, s4, s5, s6, s7⟩
       go_simp
       with_reducible rfl
      rotate_left
      ·simp only [Act.put, Z0, Z1, Z2, i64_w, i32_w]
       rfl
      refine one_ (i := 2) (N := some 37) #[true, true, true, false, false] rfl rfl (by kernel_rfl) (by decide) (fun K hK => ?_)
      refine goes_ Try.func14 (by kernel_rfl) rfl #[.agg #[.slice A0_0 l0_0.length c0_0, .slice A0_1 l0_1.length c0_1, .slice A0_2 l0_2.length c0_2, .slice A0_3 l0_3.length c0_3]] (by rfl) rfl rfl (by (try simp only [Z34, Z35, Z36]); first | done | rfl | (simp only [Z32, Z33]; rfl)) ?_
      with_reducible refine (laws_toFocus.calls kj10 _ _ l0_0 _ _ l0_1 _ _ l0_2 _ _ l0_3 t378 t381 t384 t387 _ ?side1 ?side2 ?side3 ?side4 ?side5 ?side6 ?side7 ?side8 A34.out).mono ?_
      (case side1 => repeat (first | exact (Z23 HR0_0.out HB.out) | (with_reducible refine Z20 ?_ _) | (with_reducible refine Z21 ?_ _) | (with_reducible refine Z22 ?_)))
      (case side2 => exact HC0_0.out)
      (case side3 => repeat (first | exact (Z23 HR0_1.out HB.out) | (with_reducible refine Z20 ?_ _) | (with_reducible refine Z21 ?_ _) | (with_reducible refine Z22 ?_)))
      (case side4 => exact HC0_1.out)
      (case side5 => repeat (first | exact (Z23 HR0_2.out HB.out) | (with_reducible refine Z20 ?_ _) | (with_reducible refine Z21 ?_ _) | (with_reducible refine Z22 ?_)))
      (case side6 => exact HC0_2.out)
      (case side7 => repeat (first | exact (Z23 HR0_3.out HB.out) | (with_reducible refine Z20 ?_ _) | (with_reducible refine Z21 ?_ _) | (with_reducible refine Z22 ?_)))
      (case side8 => exact HC0_3.out)
      rintro e w45 ⟨v379, v382, v385, v388, rfl, ho0, ho1, ho2, ho3, hb⟩
      refine ⟨_, rfl, ?_⟩
      have n0_ := Aside0.mk (Z12 (Z16 (Z16 (Z16 (Z17 (by (with_reducible repeat (first | apply Z9 | apply Z10 | apply Z11)); exact HO_376000.out) hb) (Kd.R_base ho0)) (Kd.R_base ho1)) (Kd.R_base ho3)) (fun _ h_ => h_.1))
      have n1_ := Aside0.mk (Z12 (Z16 (Z16 (Z16 (Z17 (by (with_reducible repeat (first | apply Z9 | apply Z10 | apply Z11)); exact HO_376001.out) hb) (Kd.R_base ho0)) (Kd.R_base ho1)) (Kd.R_base ho3)) (fun _ h_ => h_.1))
      have n2_ := Aside0.mk (Kd.R_elder' (by (with_reducible repeat (first | apply Z9 | apply Z10 | apply Z11)); exact HO_376002.out) (Kd.R_base ho2) hb)
      have n3_ := Aside0.mk (Z12 (Z16 (Z16 (Z16 (Z17 (by (with_reducible repeat (first | apply Z9 | apply Z10 | apply Z11)); exact HO_376003.out) hb) (Kd.R_base ho0)) (Kd.R_base ho1)) (Kd.R_base ho3)) (fun _ h_ => h_.1))
      have n4_ := Aside0.mk (Kd.R_lower (Kd.R_new' (Kd.R_new' (Kd.R_new' ho0 (Z18 (by (with_reducible repeat (first | apply Z9 | apply Z10 | apply Z11)); exact HO_376000.out))) (Z18 (by (with_reducible repeat (first | apply Z9 | apply Z10 | apply Z11)); exact HO_376001.out))) (Z18 (by (with_reducible repeat (first | apply Z9 | apply Z10 | apply Z11)); exact HO_376003.out))) (Z7 (by repeat (first | (with_reducible first | exact HB.out | apply Z5 | apply Z3 | apply Z4 | refine Z6 ?_ GE347.out | refine Z6 ?_ GE375.out) | exact HB.out))))
      have n5_ := Aside0.mk (Kd.R_lower (Kd.R_new' (Kd.R_new' (Kd.R_new' ho1 (Z18 (by (with_reducible repeat (first | apply Z9 | apply Z10 | apply Z11)); exact HO_376000.out))) (Z18 (by (with_reducible repeat (first | apply Z9 | apply Z10 | apply Z11)); exact HO_376001.out))) (Z18 (by (with_reducible repeat (first | apply Z9 | apply Z10 | apply Z11)); exact HO_376003.out))) (Z7 (by repeat (first | (with_reducible first | exact HB.out | apply Z5 | apply Z3 | apply Z4 | refine Z6 ?_ GE347.out | refine Z6 ?_ GE375.out) | exact HB.out))))
      have n6_ := Aside0.mk (Kd.R_lower (Kd.R_new' ho2 (Z18 (by (with_reducible repeat (first | apply Z9 | apply Z10 | apply Z11)); exact HO_376002.out))) (Z7 (by repeat (first | (with_reducible first | exact HB.out | apply Z5 | apply Z3 | apply Z4 | refine Z6 ?_ GE347.out | refine Z6 ?_ GE375.out) | exact HB.out))))
      have n7_ := Aside0.mk (Kd.R_lower (Kd.R_new' (Kd.R_new' (Kd.R_new' ho3 (Z18 (by (with_reducible repeat (first | apply Z9 | apply Z10 | apply Z11)); exact HO_376000.out))) (Z18 (by (with_reducible repeat (first | apply Z9 | apply Z10 | apply Z11)); exact HO_376001.out))) (Z18 (by (with_reducible repeat (first | apply Z9 | apply Z10 | apply Z11)); exact HO_376003.out))) (Z7 (by repeat (first | (with_reducible first | exact HB.out | apply Z5 | apply Z3 | apply Z4 | refine Z6 ?_ GE347.out | refine Z6 ?_ GE375.out) | exact HB.out))))
      have n8_ := Aside0.mk (Z29 (g := gb347) (o := .cells #[.slice A0_0 l0_0.length c0_0, .slice A0_1 l0_1.length c0_1, .slice A0_2 l0_2.length c0_2, .slice A0_3 l0_3.length c0_3] 25 (0, 0)) (by (with_reducible repeat (first | refine Z26 ?_ _ | refine Z27 ?_ | refine Z28 ?_ _)); exact BK347.out) hb)
      have n9_ := Aside0.mk (Z29 (g := gb375) (o := .cells #[.slice Ao25 t363.length co25, .slice Ao28 t366.length co28, .slice Ao29 t369.length co29, .slice Ao30 t372.length co30] 29 (0, 0)) (by (with_reducible repeat (first | refine Z26 ?_ _ | refine Z27 ?_ | refine Z28 ?_ _)); exact BK375.out) hb)
      have n10_ := Aside0.mk (Z8 (by repeat (first | (with_reducible first | exact HB.out | apply Z5 | apply Z3 | apply Z4 | refine Z6 ?_ GE347.out | refine Z6 ?_ GE375.out) | exact HB.out)) hb)
      clear HO_376000
      clear HO_376001
      clear HO_376002
      clear HO_376003
      clear BK347
      clear BK375
      clear HB
      have HO_376000 := n0_
      have HO_376001 := n1_
      have HO_376002 := n2_
      have HO_376003 := n3_
      have HO380 := n4_
      have HO383 := n5_
      have HO386 := n6_
      have HO389 := n7_
      have BK347 := n8_
      have BK375 := n9_
      have HB := n10_
      clear n0_ n1_ n2_ n3_ n4_ n5_ n6_ n7_ n8_ n9_ n10_
      (try clear hb)
      (try clear hb2)
      (try clear hk)
      (try clear hi)
      (try clear ho0)
      (try clear ho1)
      (try clear ho2)
      (try clear ho3)
      obtain ⟨Ao46, co46, eo46⟩ := Z19 HO380.out
      (first | subst eo46 | (injection eo46 with f1_ f2_ f3_; have f4_ := f1_.symm; have f5_ := f3_.symm; clear f1_ f2_ f3_; subst f4_; subst f5_))
      obtain ⟨Ao47, co47, eo47⟩ := Z19 HO383.out
      (first | subst eo47 | (injection eo47 with f1_ f2_ f3_; have f4_ := f1_.symm; have f5_ := f3_.symm; clear f1_ f2_ f3_; subst f4_; subst f5_))
      obtain ⟨Ao48, co48, eo48⟩ := Z19 HO386.out
      (first | subst eo48 | (injection eo48 with f1_ f2_ f3_; have f4_ := f1_.symm; have f5_ := f3_.symm; clear f1_ f2_ f3_; subst f4_; subst f5_))
      obtain ⟨Ao49, co49, eo49⟩ := Z19 HO389.out
      (first | subst eo49 | (injection eo49 with f1_ f2_ f3_; have f4_ := f1_.symm; have f5_ := f3_.symm; clear f1_ f2_ f3_; subst f4_; subst f5_))
      refine hK.out _ _ ⟨(Z24 BK375.out 0).trans rfl, (Z24 BK375.out 1).trans rfl, (Z24 BK375.out 2).trans rfl, (Z24 BK375.out 3).trans rfl, (Z24 BK347.out 0).trans rfl, (Z24 BK347.out 1).trans rfl, (Z24 BK347.out 2).trans rfl, (Z24 BK347.out 3).trans rfl⟩ (fun hHeld => ?_)
      clear hK K
      refine norm_ (a' := ?_) ?_ ?_
      rotate_left
      ·show Act.put _ (some 37) _ = _
       simp only [Act.put, Z0, Z1, Z2, i64_w, i32_w]
       rfl
      refine one_ (i := 3) (N := some 38) #[true, true, true, true, false] rfl rfl (by kernel_rfl) (by decide) (fun K hK => ?_)
      refine goes_ Try.func16 (by kernel_rfl) rfl #[.agg #[.slice Ao25 t363.length co25, .slice Ao28 t366.length co28, .slice Ao29 t369.length co29, .slice Ao30 t372.length co30], .agg #[.slice Ao46 t378.length co46, .slice Ao47 t381.length co47, .slice Ao48 t384.length co48, .slice Ao49 t387.length co49]] (by rfl) rfl rfl (by (try simp only [Z34, Z35, Z36]); first | done | rfl | (simp only [Z32, Z33]; rfl)) ?_
      with_reducible refine (laws_eqFocus.calls kj10 _ _ t363 _ _ t366 _ _ t369 _ _ t372 _ _ t378 _ _ t381 _ _ t384 _ _ t387 false _ ?side1 ?side2 ?side3 ?side4 ?side5 ?side6 ?side7 ?side8 ?side9 ?side10 ?side11 ?side12 ?side13 ?side14 ?side15 ?side16 A35.out).mono ?_
      (case side1 => repeat (first | exact (Kd.R_reads' HO_376000.out).2.2 | (with_reducible refine Z20 ?_ _) | (with_reducible refine Z21 ?_ _) | (with_reducible refine Z22 ?_)))
      (case side2 => exact (Kd.R_reads' HO_376000.out).2.1)
      (case side3 => repeat (first | exact (Kd.R_reads' HO_376001.out).2.2 | (with_reducible refine Z20 ?_ _) | (with_reducible refine Z21 ?_ _) | (with_reducible refine Z22 ?_)))
      (case side4 => exact (Kd.R_reads' HO_376001.out).2.1)
      (case side5 => repeat (first | exact (Kd.R_reads' HO_376002.out).2.2 | (with_reducible refine Z20 ?_ _) | (with_reducible refine Z21 ?_ _) | (with_reducible refine Z22 ?_)))
      (case side6 => exact (Kd.R_reads' HO_376002.out).2.1)
      (case side7 => repeat (first | exact (Kd.R_reads' HO_376003.out).2.2 | (with_reducible refine Z20 ?_ _) | (with_reducible refine Z21 ?_ _) | (with_reducible refine Z22 ?_)))
      (case side8 => exact (Kd.R_reads' HO_376003.out).2.1)
      (case side9 => repeat (first | exact (Kd.R_reads' HO380.out).2.2 | (with_reducible refine Z20 ?_ _) | (with_reducible refine Z21 ?_ _) | (with_reducible refine Z22 ?_)))
      (case side10 => exact (Kd.R_reads' HO380.out).2.1)
      (case side11 => repeat (first | exact (Kd.R_reads' HO383.out).2.2 | (with_reducible refine Z20 ?_ _) | (with_reducible refine Z21 ?_ _) | (with_reducible refine Z22 ?_)))
      (case side12 => exact (Kd.R_reads' HO383.out).2.1)
      (case side13 => repeat (first | exact (Kd.R_reads' HO386.out).2.2 | (with_reducible refine Z20 ?_ _) | (with_reducible refine Z21 ?_ _) | (with_reducible refine Z22 ?_)))
      (case side14 => exact (Kd.R_reads' HO386.out).2.1)
      (case side15 => repeat (first | exact (Kd.R_reads' HO389.out).2.2 | (with_reducible refine Z20 ?_ _) | (with_reducible refine Z21 ?_ _) | (with_reducible refine Z22 ?_)))
      (case side16 => exact (Kd.R_reads' HO389.out).2.1)
      rintro e w50 ⟨rfl, hb⟩
      refine ⟨_, rfl, ?_⟩
      have n0_ := Aside0.mk (Z14 (by (with_reducible repeat (first | apply Z9 | apply Z10 | apply Z11)); exact HO_376000.out) hb)
      have n1_ := Aside0.mk (Z14 (by (with_reducible repeat (first | apply Z9 | apply Z10 | apply Z11)); exact HO_376001.out) hb)
      have n2_ := Aside0.mk (Z14 (by (with_reducible repeat (first | apply Z9 | apply Z10 | apply Z11)); exact HO_376002.out) hb)
      have n3_ := Aside0.mk (Z14 (by (with_reducible repeat (first | apply Z9 | apply Z10 | apply Z11)); exact HO_376003.out) hb)
      have n4_ := Aside0.mk (Z14 (by (with_reducible repeat (first | apply Z9 | apply Z10 | apply Z11)); exact HO380.out) hb)
      have n5_ := Aside0.mk (Z14 (by (with_reducible repeat (first | apply Z9 | apply Z10 | apply Z11)); exact HO383.out) hb)
      have n6_ := Aside0.mk (Z14 (by (with_reducible repeat (first | apply Z9 | apply Z10 | apply Z11)); exact HO386.out) hb)
      have n7_ := Aside0.mk (Z14 (by (with_reducible repeat (first | apply Z9 | apply Z10 | apply Z11)); exact HO389.out) hb)
      have n8_ := Aside0.mk (Z29 (g := gb347) (o := .cells #[.slice A0_0 l0_0.length c0_0, .slice A0_1 l0_1.length c0_1, .slice A0_2 l0_2.length c0_2, .slice A0_3 l0_3.length c0_3] 25 (0, 0)) (by (with_reducible repeat (first | refine Z26 ?_ _ | refine Z27 ?_ | refine Z28 ?_ _)); exact BK347.out) hb)
      have n9_ := Aside0.mk (Z29 (g := gb375) (o := .cells #[.slice Ao25 t363.length co25, .slice Ao28 t366.length co28, .slice Ao29 t369.length co29, .slice Ao30 t372.length co30] 29 (0, 0)) (by (with_reducible repeat (first | refine Z26 ?_ _ | refine Z27 ?_ | refine Z28 ?_ _)); exact BK375.out) hb)
      have n10_ := Aside0.mk (Z8 (by repeat (first | (with_reducible first | exact HB.out | apply Z5 | apply Z3 | apply Z4 | refine Z6 ?_ GE347.out | refine Z6 ?_ GE375.out) | exact HB.out)) hb)
      clear HO_376000
      clear HO_376001
      clear HO_376002
      clear HO_376003
      clear HO380
      clear HO383
      clear HO386
      clear HO389
      clear BK347
      clear BK375
      clear HB
      have HO_376000 := n0_
      have HO_376001 := n1_
      have HO_376002 := n2_
      have HO_376003 := n3_
      have HO380 := n4_
      have HO383 := n5_
      have HO386 := n6_
      have HO389 := n7_
      have BK347 := n8_
      have BK375 := n9_
      have HB := n10_
      clear n0_ n1_ n2_ n3_ n4_ n5_ n6_ n7_ n8_ n9_ n10_
      (try clear hb)
      (try clear hb2)
      (try clear hk)
      (try clear hi)
      refine hK.out _ _ ⟨(Z24 BK375.out 0).trans rfl, (Z24 BK375.out 1).trans rfl, (Z24 BK375.out 2).trans rfl, (Z24 BK375.out 3).trans rfl, (Z24 BK347.out 0).trans rfl, (Z24 BK347.out 1).trans rfl, (Z24 BK347.out 2).trans rfl, (Z24 BK347.out 3).trans rfl⟩ (fun hHeld => ?_)
      clear hK K
      refine norm_ (a' := ?_) ?_ ?_
      rotate_left
      ·show Act.put _ (some 38) _ = _
       simp only [Act.put, Z0, Z1, Z2, i64_w, i32_w]
       rfl
      refine pure_ (i := 4) (N := some 39) (v := ?_) (a' := ?_) #[true, true, true, true, true] rfl rfl (by kernel_rfl) (fun _ _ _ h => h) (Or.inl ⟨by rfl, ?_⟩) ?_ ?_
      rotate_left
      ·intro w'
       go_simp
       with_reducible rfl
      rotate_left
      ·simp only [Act.put, Z0, Z1, Z2, i64_w, i32_w]
       rfl
      refine done_ (by kernel_rfl) ?_
      try go_wp2
      go_ret
      exact ⟨by first | rfl | (simp [errW_none, errW_some] <;> rfl) | (simp [*, errW_none, errW_some] <;> rfl), by repeat (first | (with_reducible first | exact HB.out | apply Z5 | apply Z3 | apply Z4 | refine Z6 ?_ GE347.out | refine Z6 ?_ GE375.out) | exact HB.out)⟩
end Go.Proofs.Ytedijkelbdpcdaa.MFnExactIsLastFocus
