import Derived.Test.YtedijkelbdpcdaaMFnExactFocusRankx0
import Derived.Test.YtedijkelbdpcdaaMFnExactFocusRankx1
import Derived.Test.YtedijkelbdpcdaaMFnExactFocusRankx7
namespace Go.Proofs.Ytedijkelbdpcdaa.MFnExactFocusRank
open Go.RowKit Go.Proofs.YtedijkelbdpcdaaW.PrintWords Go.Proofs.YtedijkelbdpcdaaW.PrintLast Go.Proofs.YtedijkelbdpcdaaW.PrintMore
attribute [local go_sem] max2_int min2_int max_two min_two max_three min_three max_four min_four   
set_option linter.unusedVariables false
set_option linter.unusedSimpArgs false
def spec_FocusRank.f (k : Nat) (l0_0 : List Int) (l0_1 : List Int) (l0_2 : List Bool) (l0_3 : List Int) : Option (Int × Bool) := (spec_foGood.f k l0_0 l0_1 l0_2 l0_3).bind fun t221 => (if t221 = true then ((spec_gcMixedRank.f k l0_0 l0_1).bind fun t222 => (some (t222, true))) else (some (0, false)))
theorem spec_FocusRank.mono : ∀ a0 a1 a2 a3 k, LeO (spec_FocusRank.f k a0 a1 a2 a3) (spec_FocusRank.f (k + 1) a0 a1 a2 a3) := by
 intro a0 a1 a2 a3 k
 unfold spec_FocusRank.f
 repeat' first
   | (with_reducible exact spec_foGood.mono _ _ _ _ _)
   | (with_reducible exact spec_gcMixedRank.mono _ _ _)
   | (with_reducible exact LeO.refl _)
   | (with_reducible exact LeO.none _)
   | (with_reducible refine LeO.ite ?_ ?_)
   | (with_reducible refine LeO.bind ?_ (fun _ => ?_))
   | exact spec_foGood.mono _ _ _ _ _
   | exact spec_gcMixedRank.mono _ _ _
   | exact LeO.none _
   | refine LeO.ite ?_ ?_
   | refine LeO.bind ?_ (fun _ => ?_)
set_option maxHeartbeats 8000000 in
set_option maxRecDepth 100000 in
theorem spec_FocusRank.calls (k : Nat) (A0_0 : Option Addr) (c0_0 : Nat) (l0_0 : List Int) (A0_1 : Option Addr) (c0_1 : Nat) (l0_1 : List Int) (A0_2 : Option Addr) (c0_2 : Nat) (l0_2 : List Bool) (A0_3 : Option Addr) (c0_3 : Nat) (l0_3 : List Int) (r1 : Int) (r2 : Bool) (w : World) (hr0_0 : Kd.C (Kd.int .i64) w A0_0 l0_0.length l0_0) (hc0_0 : l0_0.length ≤ c0_0) (hr0_1 : Kd.C (Kd.int .i64) w A0_1 l0_1.length l0_1) (hc0_1 : l0_1.length ≤ c0_1) (hr0_2 : Kd.C Kd.bool w A0_2 l0_2.length l0_2) (hc0_2 : l0_2.length ≤ c0_2) (hr0_3 : Kd.C (Kd.int .i64) w A0_3 l0_3.length l0_3) (hc0_3 : l0_3.length ≤ c0_3) (h : spec_FocusRank.f k l0_0 l0_1 l0_2 l0_3 = some (r1, r2)) :
  Calls Try.prog 13 #[.agg #[.slice A0_0 l0_0.length c0_0, .slice A0_1 l0_1.length c0_1, .slice A0_2 l0_2.length c0_2, .slice A0_3 l0_3.length c0_3]] w fun e w' => e = .returned (.tuple #[.int .i64 r1, .bool r2]) ∧ Below w.heap.size w w' := by
 have hu29 := Try.underlying29
 have HR0_0 := Aside0.mk hr0_0
 have HC0_0 := Aside0.mk hc0_0
 clear hr0_0 hc0_0
 have HR0_1 := Aside0.mk hr0_1
 have HC0_1 := Aside0.mk hc0_1
 clear hr0_1 hc0_1
 have HR0_2 := Aside0.mk hr0_2
 have HC0_2 := Aside0.mk hc0_2
 clear hr0_2 hc0_2
 have HR0_3 := Aside0.mk hr0_3
 have HC0_3 := Aside0.mk hc0_3
 clear hr0_3 hc0_3
 have HB := Aside0.mk (Below.refl w.heap.size w)
 have H : ((spec_foGood.f k l0_0 l0_1 l0_2 l0_3).bind fun t221 => (if t221 = true then ((spec_gcMixedRank.f k l0_0 l0_1).bind fun t222 => (some (t222, true))) else (some (0, false)))) = some (r1, r2) := h
 clear h
 replace H := Z37.mp H
 obtain ⟨t221, A20, H⟩ := H
 replace H : (if t221 = true then ((spec_gcMixedRank.f k l0_0 l0_1).bind fun t222 => (some (t222, true))) else (some (0, false))) = some (r1, r2) := H
 have A2 := Aside0.mk A20
 clear A20
 by_cases c3 : t221 = true
 ·subst c3
  have H1 : ((spec_gcMixedRank.f k l0_0 l0_1).bind fun t222 => (some (t222, true))) = some (r1, r2) := by rw [if_pos rfl] at H; exact H
  clear H
  have H := H1
  clear H1
  replace H := Z37.mp H
  obtain ⟨t222, A40, H⟩ := H
  replace H : (some (t222, true)) = some (r1, r2) := H
  have A4 := Aside0.mk A40
  clear A40
  simp only [Option.some.injEq, Prod.mk.injEq] at H
  obtain ⟨rfl, rfl⟩ := H
  go_enter Try.func13, Try.ntmps13
  go_wp2_with (first | ((with_reducible refine gate_dst (N := 1) rfl ?_); refine box_event ?hg (N := 1) ?hd (cs := #[.slice A0_0 l0_0.length c0_0, .slice A0_1 l0_1.length c0_1, .slice A0_2 l0_2.length c0_2, .slice A0_3 l0_3.length c0_3]) (t := 29) ?hr ?_; (case hd => rfl); (case hg => rfl); (case hr => first | (go_simp; done) | (go_simp; rfl)); intro gb220 hg w5 hbox hb; have n0_ := Aside0.mk (Z8 (by repeat (first | (with_reducible first | exact HB.out | apply Z5 | apply Z3 | apply Z4) | exact HB.out)) hb); have n1_ := Aside0.mk (hbox); have n2_ := Aside0.mk ((by rw [hg]; exact (Z7 (by repeat (first | (with_reducible first | exact HB.out | apply Z5 | apply Z3 | apply Z4) | exact HB.out))) : w.heap.size ≤ gb220)); have n3_ := Aside0.mk ((by rw [hg]; exact (Z7 (by repeat (first | (with_reducible first | exact HB.out | apply Z5 | apply Z3 | apply Z4) | exact HB.out))) : w.heap.size ≤ gb220)); clear HB; have HB := n0_; have BK220 := n1_; have GW220 := n2_; have GE220 := n3_; clear n0_ n1_ n2_ n3_; clear hb hbox hg; have hcz6_0 : w5.cell? ⟨gb220, 0, none⟩ = some (.slice A0_0 l0_0.length c0_0) := (Z24 BK220.out 0).trans rfl; have hcz6_1 : w5.cell? ⟨gb220, 1, none⟩ = some (.slice A0_1 l0_1.length c0_1) := (Z24 BK220.out 1).trans rfl; have hcz6_2 : w5.cell? ⟨gb220, 2, none⟩ = some (.slice A0_2 l0_2.length c0_2) := (Z24 BK220.out 2).trans rfl; have hcz6_3 : w5.cell? ⟨gb220, 3, none⟩ = some (.slice A0_3 l0_3.length c0_3) := (Z24 BK220.out 3).trans rfl; have hfz6_0 := Z25 BK220.out 0; have hfz6_1 := Z25 BK220.out 1; have hfz6_2 := Z25 BK220.out 2; have hfz6_3 := Z25 BK220.out 3) | ((with_reducible refine gate_callee (f := 45) rfl ?_); refine goesL_ (some 5) rfl rfl Try.func45 (by kernel_rfl) rfl #[.agg #[.slice A0_0 l0_0.length c0_0, .slice A0_1 l0_1.length c0_1, .slice A0_2 l0_2.length c0_2, .slice A0_3 l0_3.length c0_3]] rfl (by (try simp only [Z34, Z35, Z36]); first | done | rfl | (simp only [Z32, Z33]; rfl)) ?_; (with_reducible refine (spec_foGood.calls k _ _ l0_0 _ _ l0_1 _ _ l0_2 _ _ l0_3 true _ ?side1 ?side2 ?side3 ?side4 ?side5 ?side6 ?side7 ?side8 A2.out).mono ?_); (case side1 => repeat (first | exact (Z23 HR0_0.out HB.out) | (with_reducible refine Z20 ?_ _) | (with_reducible refine Z21 ?_ _) | (with_reducible refine Z22 ?_))); (case side2 => exact HC0_0.out); (case side3 => repeat (first | exact (Z23 HR0_1.out HB.out) | (with_reducible refine Z20 ?_ _) | (with_reducible refine Z21 ?_ _) | (with_reducible refine Z22 ?_))); (case side4 => exact HC0_1.out); (case side5 => repeat (first | exact (Z23 HR0_2.out HB.out) | (with_reducible refine Z20 ?_ _) | (with_reducible refine Z21 ?_ _) | (with_reducible refine Z22 ?_))); (case side6 => exact HC0_2.out); (case side7 => repeat (first | exact (Z23 HR0_3.out HB.out) | (with_reducible refine Z20 ?_ _) | (with_reducible refine Z21 ?_ _) | (with_reducible refine Z22 ?_))); (case side8 => exact HC0_3.out); rintro e w7 ⟨rfl, hb⟩; refine ⟨_, rfl, ?_⟩; have n0_ := Aside0.mk (Z29 (g := gb220) (o := .cells #[.slice A0_0 l0_0.length c0_0, .slice A0_1 l0_1.length c0_1, .slice A0_2 l0_2.length c0_2, .slice A0_3 l0_3.length c0_3] 29 (0, 0)) (by (with_reducible repeat (first | refine Z26 ?_ _ | refine Z27 ?_ | refine Z28 ?_ _)); exact BK220.out) hb); have n1_ := Aside0.mk (Z8 (by repeat (first | (with_reducible first | exact HB.out | apply Z5 | apply Z3 | apply Z4 | refine Z6 ?_ GE220.out) | exact HB.out)) hb); clear BK220; clear HB; have BK220 := n0_; have HB := n1_; clear n0_ n1_; (try clear hb); (try clear hb2); (try clear hk); (try clear hi); have hcz8_0 : w7.cell? ⟨gb220, 0, none⟩ = some (.slice A0_0 l0_0.length c0_0) := (Z24 BK220.out 0).trans rfl; have hcz8_1 : w7.cell? ⟨gb220, 1, none⟩ = some (.slice A0_1 l0_1.length c0_1) := (Z24 BK220.out 1).trans rfl; have hcz8_2 : w7.cell? ⟨gb220, 2, none⟩ = some (.slice A0_2 l0_2.length c0_2) := (Z24 BK220.out 2).trans rfl; have hcz8_3 : w7.cell? ⟨gb220, 3, none⟩ = some (.slice A0_3 l0_3.length c0_3) := (Z24 BK220.out 3).trans rfl; have hfz8_0 := Z25 BK220.out 0; have hfz8_1 := Z25 BK220.out 1; have hfz8_2 := Z25 BK220.out 2; have hfz8_3 := Z25 BK220.out 3) | ((with_reducible refine gate_callee (f := 46) rfl ?_); refine goesL_ (some 11) rfl rfl Try.func46 (by kernel_rfl) rfl #[.slice A0_0 l0_0.length c0_0, .slice A0_1 l0_1.length c0_1] rfl (by (try simp only [Z34, Z35, Z36]); first | done | rfl | (simp only [Z32, Z33]; rfl)) ?_; (with_reducible refine (spec_gcMixedRank.calls k _ _ l0_0 _ _ l0_1 t222 _ ?side1 ?side2 ?side3 ?side4 A4.out).mono ?_); (case side1 => repeat (first | exact (Z23 HR0_0.out HB.out) | (with_reducible refine Z20 ?_ _) | (with_reducible refine Z21 ?_ _) | (with_reducible refine Z22 ?_))); (case side2 => exact HC0_0.out); (case side3 => repeat (first | exact (Z23 HR0_1.out HB.out) | (with_reducible refine Z20 ?_ _) | (with_reducible refine Z21 ?_ _) | (with_reducible refine Z22 ?_))); (case side4 => exact HC0_1.out); rintro e w9 ⟨rfl, hb⟩; refine ⟨_, rfl, ?_⟩; have n0_ := Aside0.mk (Z29 (g := gb220) (o := .cells #[.slice A0_0 l0_0.length c0_0, .slice A0_1 l0_1.length c0_1, .slice A0_2 l0_2.length c0_2, .slice A0_3 l0_3.length c0_3] 29 (0, 0)) (by (with_reducible repeat (first | refine Z26 ?_ _ | refine Z27 ?_ | refine Z28 ?_ _)); exact BK220.out) hb); have n1_ := Aside0.mk (Z8 (by repeat (first | (with_reducible first | exact HB.out | apply Z5 | apply Z3 | apply Z4 | refine Z6 ?_ GE220.out) | exact HB.out)) hb); clear BK220; clear HB; have BK220 := n0_; have HB := n1_; clear n0_ n1_; (try clear hb); (try clear hb2); (try clear hk); (try clear hi)))
  go_ret2
  exact ⟨by first | rfl | (simp [errW_none, errW_some] <;> rfl) | (simp [*, errW_none, errW_some] <;> rfl), by repeat (first | (with_reducible first | exact HB.out | apply Z5 | apply Z3 | apply Z4 | refine Z6 ?_ GE220.out) | exact HB.out)⟩
 ·replace c3 := Bool.eq_false_iff.mpr c3
  subst c3
  have H1 : (some (0, false)) = some (r1, r2) := by rw [if_neg (show ¬ (false = true) by decide)] at H; exact H
  clear H
  have H := H1
  clear H1
  simp only [Option.some.injEq, Prod.mk.injEq] at H
  obtain ⟨rfl, rfl⟩ := H
  go_enter Try.func13, Try.ntmps13
  go_wp2_with (first | ((with_reducible refine gate_dst (N := 1) rfl ?_); refine box_event ?hg (N := 1) ?hd (cs := #[.slice A0_0 l0_0.length c0_0, .slice A0_1 l0_1.length c0_1, .slice A0_2 l0_2.length c0_2, .slice A0_3 l0_3.length c0_3]) (t := 29) ?hr ?_; (case hd => rfl); (case hg => rfl); (case hr => first | (go_simp; done) | (go_simp; rfl)); intro gb220 hg w10 hbox hb; have n0_ := Aside0.mk (Z8 (by repeat (first | (with_reducible first | exact HB.out | apply Z5 | apply Z3 | apply Z4) | exact HB.out)) hb); have n1_ := Aside0.mk (hbox); have n2_ := Aside0.mk ((by rw [hg]; exact (Z7 (by repeat (first | (with_reducible first | exact HB.out | apply Z5 | apply Z3 | apply Z4) | exact HB.out))) : w.heap.size ≤ gb220)); have n3_ := Aside0.mk ((by rw [hg]; exact (Z7 (by repeat (first | (with_reducible first | exact HB.out | apply Z5 | apply Z3 | apply Z4) | exact HB.out))) : w.heap.size ≤ gb220)); clear HB; have HB := n0_; have BK220 := n1_; have GW220 := n2_; have GE220 := n3_; clear n0_ n1_ n2_ n3_; clear hb hbox hg; have hcz11_0 : w10.cell? ⟨gb220, 0, none⟩ = some (.slice A0_0 l0_0.length c0_0) := (Z24 BK220.out 0).trans rfl; have hcz11_1 : w10.cell? ⟨gb220, 1, none⟩ = some (.slice A0_1 l0_1.length c0_1) := (Z24 BK220.out 1).trans rfl; have hcz11_2 : w10.cell? ⟨gb220, 2, none⟩ = some (.slice A0_2 l0_2.length c0_2) := (Z24 BK220.out 2).trans rfl; have hcz11_3 : w10.cell? ⟨gb220, 3, none⟩ = some (.slice A0_3 l0_3.length c0_3) := (Z24 BK220.out 3).trans rfl; have hfz11_0 := Z25 BK220.out 0; have hfz11_1 := Z25 BK220.out 1; have hfz11_2 := Z25 BK220.out 2; have hfz11_3 := Z25 BK220.out 3) | ((with_reducible refine gate_callee (f := 45) rfl ?_); refine goesL_ (some 5) rfl rfl Try.func45 (by kernel_rfl) rfl #[.agg #[.slice A0_0 l0_0.length c0_0, .slice A0_1 l0_1.length c0_1, .slice A0_2 l0_2.length c0_2, .slice A0_3 l0_3.length c0_3]] rfl (by (try simp only [Z34, Z35, Z36]); first | done | rfl | (simp only [Z32, Z33]; rfl)) ?_; (with_reducible refine (spec_foGood.calls k _ _ l0_0 _ _ l0_1 _ _ l0_2 _ _ l0_3 false _ ?side1 ?side2 ?side3 ?side4 ?side5 ?side6 ?side7 ?side8 A2.out).mono ?_); (case side1 => repeat (first | exact (Z23 HR0_0.out HB.out) | (with_reducible refine Z20 ?_ _) | (with_reducible refine Z21 ?_ _) | (with_reducible refine Z22 ?_))); (case side2 => exact HC0_0.out); (case side3 => repeat (first | exact (Z23 HR0_1.out HB.out) | (with_reducible refine Z20 ?_ _) | (with_reducible refine Z21 ?_ _) | (with_reducible refine Z22 ?_))); (case side4 => exact HC0_1.out); (case side5 => repeat (first | exact (Z23 HR0_2.out HB.out) | (with_reducible refine Z20 ?_ _) | (with_reducible refine Z21 ?_ _) | (with_reducible refine Z22 ?_))); (case side6 => exact HC0_2.out); (case side7 => repeat (first | exact (Z23 HR0_3.out HB.out) | (with_reducible refine Z20 ?_ _) | (with_reducible refine Z21 ?_ _) | (with_reducible refine Z22 ?_))); (case side8 => exact HC0_3.out); rintro e w12 ⟨rfl, hb⟩; refine ⟨_, rfl, ?_⟩; have n0_ := Aside0.mk (Z29 (g := gb220) (o := .cells #[.slice A0_0 l0_0.length c0_0, .slice A0_1 l0_1.length c0_1, .slice A0_2 l0_2.length c0_2, .slice A0_3 l0_3.length c0_3] 29 (0, 0)) (by (with_reducible repeat (first | refine Z26 ?_ _ | refine Z27 ?_ | refine Z28 ?_ _)); exact BK220.out) hb); have n1_ := Aside0.mk (Z8 (by repeat (first | (with_reducible first | exact HB.out | apply Z5 | apply Z3 | apply Z4 | refine Z6 ?_ GE220.out) | exact HB.out)) hb); clear BK220; clear HB; have BK220 := n0_; have HB := n1_; clear n0_ n1_; (try clear hb); (try clear hb2); (try clear hk); (try clear hi)))
  go_ret2
  exact ⟨by first | rfl | (simp [errW_none, errW_some] <;> rfl) | (simp [*, errW_none, errW_some] <;> rfl), by repeat (first | (with_reducible first | exact HB.out | apply Z5 | apply Z3 | apply Z4 | refine Z6 ?_ GE220.out) | exact HB.out)⟩
def laws_toIntS.l0 : Nat → List Int → List Int → Int → Option (List Int)
 | 0, _, _, _ => none
 | k + 1, x0, x3, x4 => if x4 < (x0.length : Int) then (if 0 ≤ x4 then (if x4 < (x3.length : Int) then (laws_toIntS.l0 k x0 (x3.set (x4 : Int).toNat (rd x0 x4)) (wrap64 (x4 + 1))) else (none)) else (none)) else (some x3)
def laws_toIntS.f (k : Nat) (l0 : List Int) : Option (List Int) := if 0 ≤ (l0.length : Int) then (if ((l0.length : Int) : Int).toNat ≤ 35184372088832 then (laws_toIntS.l0 k l0 (List.replicate ((l0.length : Int) : Int).toNat 0) 0) else (none)) else (none)
theorem laws_toIntS.mono_l : ∀ k, (∀ y0 y1 y2, LeO (laws_toIntS.l0 k y0 y1 y2) (laws_toIntS.l0 (k + 1) y0 y1 y2))
 | 0 => fun _ _ _ r h => by simp [laws_toIntS.l0] at h
 | k + 1 => by
  have ih0 := laws_toIntS.mono_l k
  ·intro y0 y1 y2
   unfold laws_toIntS.l0
   repeat' first
   | (with_reducible exact ih0 _ _ _)
   | (with_reducible exact LeO.refl _)
   | (with_reducible exact LeO.none _)
   | (with_reducible refine LeO.ite ?_ ?_)
   | (with_reducible refine LeO.bind ?_ (fun _ => ?_))
   | exact ih0 _ _ _
   | exact LeO.none _
   | refine LeO.ite ?_ ?_
   | refine LeO.bind ?_ (fun _ => ?_)
theorem laws_toIntS.mono : ∀ a0 k, LeO (laws_toIntS.f k a0) (laws_toIntS.f (k + 1) a0) := by
 intro a0 k
 have ih0 := laws_toIntS.mono_l k
 unfold laws_toIntS.f
 repeat' first
   | (with_reducible exact ih0 _ _ _)
   | (with_reducible exact LeO.refl _)
   | (with_reducible exact LeO.none _)
   | (with_reducible refine LeO.ite ?_ ?_)
   | (with_reducible refine LeO.bind ?_ (fun _ => ?_))
   | exact ih0 _ _ _
   | exact LeO.none _
   | refine LeO.ite ?_ ?_
   | refine LeO.bind ?_ (fun _ => ?_)
set_option maxHeartbeats 8000000 in
set_option maxRecDepth 100000 in
theorem laws_toIntS.calls (k : Nat) (A0 : Option Addr) (c0 : Nat) (l0 : List Int) (r : List Int) (w : World) (hr0 : Kd.C (Kd.int .i64) w A0 l0.length l0) (hc0 : l0.length ≤ c0) (h : laws_toIntS.f k l0 = some r) :
  Calls Try.prog 47 #[.slice A0 l0.length c0] w fun e w' => ∃ v0_ : Value, e = .returned (v0_) ∧ Kd.R (Kd.int .i64) 3 w' w.heap.size (fun _ => True) v0_ r ∧ Below w.heap.size w w' := by
 have HR0 := Aside0.mk hr0
 have HC0 := Aside0.mk hc0
 clear hr0 hc0
 have HB := Aside0.mk (Below.refl w.heap.size w)
 have H : (if 0 ≤ (l0.length : Int) then (if ((l0.length : Int) : Int).toNat ≤ 35184372088832 then (laws_toIntS.l0 k l0 (List.replicate ((l0.length : Int) : Int).toNat 0) 0) else (none)) else (none)) = some r := h
 clear h
 by_cases c2 : 0 ≤ (l0.length : Int)
 ·rw [if_pos c2] at H
  have c2b0 := eq_true c2
  have c2b1 : decide (0 ≤ (l0.length : Int)) = true := Z39 c2
  have HLEc2 := Aside0.mk c2
  clear c2
  by_cases c3 : ((l0.length : Int) : Int).toNat ≤ 35184372088832
  ·rw [if_pos c3] at H
   have c3b0 := eq_true c3
   have c3b1 : decide (((l0.length : Int) : Int).toNat ≤ 35184372088832) = true := Z39 c3
   clear c3
   obtain ⟨y223, hy223⟩ : ∃ y_ : List Int, y_ = (List.replicate ((l0.length : Int) : Int).toNat 0) := ⟨_, rfl⟩
   replace H : (laws_toIntS.l0 k l0 y223 0) = some r := by first | (rw [hy223]; with_reducible exact H) | (have H2_ := (Option.bind_some _ _).symm.trans H; rw [hy223]; with_reducible exact H2_) | (have H2_ := (Option.bind_some _ _).symm.trans H; with_reducible exact H2_) | with_reducible exact H | (rw [hy223]; exact H) | exact H
   have Ny223 := Aside0.mk hy223
   clear hy223
   have H' := Aside0.mk H
   clear H
   go_enter Try.func47, Try.ntmps47
   go_wp2_with (first | ((with_reducible refine gate_dst (N := 7) rfl ?_); refine Kd.R_make (Kd.int .i64) _ 3 rfl (N := 7) rfl 22 _ _ rfl (l0.length : Int) rfl rfl Try.underlying22 (.int .i64 0) 8 info3 rfl (by decide) (by omega) 0 (ok := fun _ => True) (okp := fun _ => True) rfl (fun _ hk => hk) trivial (Z31 (by first | (with_reducible assumption) | assumption)) (Nat.le_trans (Nat.mul_le_mul_right _ (Z31 (by first | (with_reducible assumption) | assumption) : (l0.length : Int).toNat ≤ 35184372088832)) (by omega)) (Below.refl _ _) (Nat.le_refl _) ?_; intro v224 w4 ho5 hb hg_ hnew_; clear hg_ hnew_; (first | rw [← Ny223.out] at ho5 | (simp only [Int.reduceToNat] at ho5; rw [← Ny223.out] at ho5)); have n0_ := Aside0.mk (Kd.R_lower ho5 (Z7 (by repeat (first | (with_reducible first | exact HB.out | apply Z5 | apply Z3 | apply Z4) | exact HB.out)))); have n1_ := Aside0.mk (Z8 (by repeat (first | (with_reducible first | exact HB.out | apply Z5 | apply Z3 | apply Z4) | exact HB.out)) hb); clear HB; have HO225 := n0_; have HB := n1_; clear n0_ n1_; clear hb ho5))
   go_loopg [4] k (fun kq v4 w' => ∃ (x3_1 : List Int) (x4_1 : Int), v4 = .int .i64 x4_1 ∧ Aside0 (laws_toIntS.l0 kq l0 x3_1 x4_1 = some r) ∧ Aside0 (kq ≤ k) ∧ Aside0 (Kd.R (Kd.int .i64) 3 w' w.heap.size (fun _ => True) v224 x3_1) ∧ Aside0 (Below w.heap.size w w'))
   case atStart => exact ⟨(y223), (0), (by first | rfl | (simp; done) | (simp [*]; done)), H', ⟨Nat.le_refl _⟩, ⟨by (with_reducible repeat (first | apply Z9 | apply Z10 | apply Z11)); exact HO225.out⟩, ⟨by repeat (first | (with_reducible first | exact HB.out | apply Z5 | apply Z3 | apply Z4) | exact HB.out)⟩⟩
   case round =>
    clear H'
    try clear c2
    try clear c2b0
    try clear c2b1
    try clear p2
    try clear c3
    try clear c3b0
    try clear c3b1
    try clear c4
    obtain ⟨x3_1, x4_1, rfl, HA, HK1, HO_3, HB⟩ := hrel
    cases gk with
    | zero => exact absurd HA.out (by simp [laws_toIntS.l0])
    | succ k1 =>
     have H := HA.out
     clear HA
     simp only [laws_toIntS.l0] at H
     by_cases c6 : x4_1 < (l0.length : Int)
     ·rw [if_pos c6] at H
      have c6b0 : decide (x4_1 < (l0.length : Int)) = true := Z39 c6
      clear c6
      by_cases c7 : 0 ≤ x4_1
      ·rw [if_pos c7] at H
       have c7b0 : decide (0 ≤ x4_1) = true := Z39 c7
       clear c7
       by_cases c8 : x4_1 < (x3_1.length : Int)
       ·rw [if_pos c8] at H
        have c8b0 : decide (x4_1 < (x3_1.length : Int)) = true := Z39 c8
        clear c8
        obtain ⟨y227, hy227⟩ : ∃ y_ : List Int, y_ = (x3_1.set (x4_1 : Int).toNat (rd l0 x4_1)) := ⟨_, rfl⟩
        replace H : (laws_toIntS.l0 k1 l0 y227 (wrap64 (x4_1 + 1))) = some r := by first | (rw [hy227]; with_reducible exact H) | (have H2_ := (Option.bind_some _ _).symm.trans H; rw [hy227]; with_reducible exact H2_) | (have H2_ := (Option.bind_some _ _).symm.trans H; with_reducible exact H2_) | with_reducible exact H | (rw [hy227]; exact H) | exact H
        have Ny227 := Aside0.mk hy227
        clear hy227
        have H' := Aside0.mk H
        clear H
        have p226 : 0 ≤ (x4_1 : Int) := Z31 (by first | (with_reducible assumption) | assumption)
        have q226 : x4_1 < (l0.length : Int) := Z31 (by first | (with_reducible assumption) | assumption)
        obtain ⟨ad226, e226, hx226_0⟩ := Kd.at_int HR0.out x4_1 p226 q226
        cases e226
        try replace hx226_0 := (HB.out.cell (World.block_lt_of_cell? w _ hx226_0)).trans hx226_0
        replace p226 := eq_true p226
        replace q226 := eq_true q226
        have p9 : 0 ≤ (x4_1 : Int) := Z31 (by first | (with_reducible assumption) | assumption)
        have q9 : (x4_1 : Int) < ((x3_1.length : Int) : Int) := Z31 (by first | (with_reducible assumption) | assumption)
        obtain ⟨go9, co9, eo9, gb9, gl9, cl9, HG9⟩ := Kd.R_form HO_3.out (by omega)
        (first | cases eo9 | (injection eo9 with ea_ en_ ec_; (first | subst ea_ | (injection ea_ with ea_; subst ea_)); subst ec_; clear en_))
        have GB9 := Aside0.mk gb9
        have GG9 := Aside0.mk HG9
        clear gb9 gl9 HG9
        obtain ⟨hx9_0, hf9_0⟩ := Kd.R_celln 0 HO_3.out (x4_1 : Int) p9 q9
        replace p9 := eq_true p9
        replace q9 := eq_true q9
        have HP10 := Kd.R_putg HO_3.out (x4_1 : Int) (rd l0 x4_1)
        go_wp2_with (first | ((with_reducible refine gate_store (t := 3) (p := 20) rfl ?_); refine store_event (t := 3) (p := 20) (v := ?vo_w11) (w1 := (wr.setCell ⟨go9, (x4_1 : Int).toNat, none⟩ (.int .i64 (rd l0 x4_1)))) ?hg ?ho ?hn ?hr ?_; (case ho => rfl); (case hg => rfl); (case hn => rfl); (case hr => first | (go_simp; done) | (go_simp; rfl)); intro w11 hw; have hg : wr.grownBy w11 (some go9) := (by rw [hw]; exact HP10.2); have hp_ : Kd.R (Kd.int .i64) 3 w11 w.heap.size (fun _ => True) (.slice (some ⟨go9, 0, none⟩) x3_1.length co9) y227 := (by rw [hw, Ny227.out]; exact HP10.1); clear HP10; have n0_ := Aside0.mk (hp_); have n1_ := Aside0.mk ((by rw [hw]; exact Z6 (HB.out) GB9.out : Below w.heap.size w w11)); clear HO_3; clear HB; have HO_3 := n0_; have HB := n1_; clear n0_ n1_; clear hg hw hp_))
        go_roundg k1
        case measure => have := HK1.out; omega
        case rel => exact ⟨(y227), (wrap64 (x4_1 + 1)), (by first | rfl | (simp; done) | (simp [*]; done)), H', ⟨by have := HK1.out; omega⟩, ⟨by (with_reducible repeat (first | apply Z9 | apply Z10 | apply Z11)); exact HO_3.out⟩, ⟨by repeat (first | (with_reducible first | exact HB.out | apply Z5 | apply Z3 | apply Z4) | exact HB.out)⟩⟩
       ·rw [if_neg c8] at H
        exact absurd H (by simp)
      ·rw [if_neg c7] at H
       exact absurd H (by simp)
     ·rw [if_neg c6] at H
      have c6b0 : decide (x4_1 < (l0.length : Int)) = false := Z38 c6
      clear c6
      obtain rfl := Option.some.inj H
      go_wp2
      go_ret
      exact ⟨_, by first | rfl | (simp [errW_none, errW_some] <;> rfl) | (simp [*, errW_none, errW_some] <;> rfl), by (with_reducible repeat (first | apply Z9 | apply Z10 | apply Z11)); exact HO_3.out, by repeat (first | (with_reducible first | exact HB.out | apply Z5 | apply Z3 | apply Z4) | exact HB.out)⟩
  ·rw [if_neg c3] at H
   exact absurd H (by simp)
 ·rw [if_neg c2] at H
  exact absurd H (by simp)
def laws_toBoolS.l0 : Nat → List Bool → List Bool → Int → Option (List Bool)
 | 0, _, _, _ => none
 | k + 1, x0, x3, x4 => if x4 < (x0.length : Int) then (if 0 ≤ x4 then (if x4 < (x3.length : Int) then (laws_toBoolS.l0 k x0 (x3.set (x4 : Int).toNat (rdOf false x0 x4)) (wrap64 (x4 + 1))) else (none)) else (none)) else (some x3)
def laws_toBoolS.f (k : Nat) (l0 : List Bool) : Option (List Bool) := if 0 ≤ (l0.length : Int) then (if ((l0.length : Int) : Int).toNat ≤ 281474976710656 then (laws_toBoolS.l0 k l0 (List.replicate ((l0.length : Int) : Int).toNat false) 0) else (none)) else (none)
theorem laws_toBoolS.mono_l : ∀ k, (∀ y0 y1 y2, LeO (laws_toBoolS.l0 k y0 y1 y2) (laws_toBoolS.l0 (k + 1) y0 y1 y2))
 | 0 => fun _ _ _ r h => by simp [laws_toBoolS.l0] at h
 | k + 1 => by
  have ih0 := laws_toBoolS.mono_l k
  ·intro y0 y1 y2
   unfold laws_toBoolS.l0
   repeat' first
   | (with_reducible exact ih0 _ _ _)
   | (with_reducible exact LeO.refl _)
   | (with_reducible exact LeO.none _)
   | (with_reducible refine LeO.ite ?_ ?_)
   | (with_reducible refine LeO.bind ?_ (fun _ => ?_))
   | exact ih0 _ _ _
   | exact LeO.none _
   | refine LeO.ite ?_ ?_
   | refine LeO.bind ?_ (fun _ => ?_)
theorem laws_toBoolS.mono : ∀ a0 k, LeO (laws_toBoolS.f k a0) (laws_toBoolS.f (k + 1) a0) := by
 intro a0 k
 have ih0 := laws_toBoolS.mono_l k
 unfold laws_toBoolS.f
 repeat' first
   | (with_reducible exact ih0 _ _ _)
   | (with_reducible exact LeO.refl _)
   | (with_reducible exact LeO.none _)
   | (with_reducible refine LeO.ite ?_ ?_)
   | (with_reducible refine LeO.bind ?_ (fun _ => ?_))
   | exact ih0 _ _ _
   | exact LeO.none _
   | refine LeO.ite ?_ ?_
   | refine LeO.bind ?_ (fun _ => ?_)
set_option maxHeartbeats 8000000 in
set_option maxRecDepth 100000 in
theorem laws_toBoolS.calls (k : Nat) (A0 : Option Addr) (c0 : Nat) (l0 : List Bool) (r : List Bool) (w : World) (hr0 : Kd.C Kd.bool w A0 l0.length l0) (hc0 : l0.length ≤ c0) (h : laws_toBoolS.f k l0 = some r) :
  Calls Try.prog 48 #[.slice A0 l0.length c0] w fun e w' => ∃ v0_ : Value, e = .returned (v0_) ∧ Kd.R Kd.bool 4 w' w.heap.size (fun _ => True) v0_ r ∧ Below w.heap.size w w' := by
 have HR0 := Aside0.mk hr0
 have HC0 := Aside0.mk hc0
 clear hr0 hc0
 have HB := Aside0.mk (Below.refl w.heap.size w)
 have H : (if 0 ≤ (l0.length : Int) then (if ((l0.length : Int) : Int).toNat ≤ 281474976710656 then (laws_toBoolS.l0 k l0 (List.replicate ((l0.length : Int) : Int).toNat false) 0) else (none)) else (none)) = some r := h
 clear h
 by_cases c2 : 0 ≤ (l0.length : Int)
 ·rw [if_pos c2] at H
  have c2b0 := eq_true c2
  have c2b1 : decide (0 ≤ (l0.length : Int)) = true := Z39 c2
  have HLEc2 := Aside0.mk c2
  clear c2
  by_cases c3 : ((l0.length : Int) : Int).toNat ≤ 281474976710656
  ·rw [if_pos c3] at H
   have c3b0 := eq_true c3
   have c3b1 : decide (((l0.length : Int) : Int).toNat ≤ 281474976710656) = true := Z39 c3
   clear c3
   obtain ⟨y228, hy228⟩ : ∃ y_ : List Bool, y_ = (List.replicate ((l0.length : Int) : Int).toNat false) := ⟨_, rfl⟩
   replace H : (laws_toBoolS.l0 k l0 y228 0) = some r := by first | (rw [hy228]; with_reducible exact H) | (have H2_ := (Option.bind_some _ _).symm.trans H; rw [hy228]; with_reducible exact H2_) | (have H2_ := (Option.bind_some _ _).symm.trans H; with_reducible exact H2_) | with_reducible exact H | (rw [hy228]; exact H) | exact H
   have Ny228 := Aside0.mk hy228
   clear hy228
   have H' := Aside0.mk H
   clear H
   go_enter Try.func48, Try.ntmps48
   go_wp2_with (first | ((with_reducible refine gate_dst (N := 7) rfl ?_); refine Kd.R_make Kd.bool _ 4 rfl (N := 7) rfl 23 _ _ rfl (l0.length : Int) rfl rfl Try.underlying23 (.bool false) 1 info4 rfl (by decide) (by omega) false (ok := fun _ => True) (okp := fun _ => True) rfl (fun _ hk => hk) trivial (Z31 (by first | (with_reducible assumption) | assumption)) (Nat.le_trans (Nat.mul_le_mul_right _ (Z31 (by first | (with_reducible assumption) | assumption) : (l0.length : Int).toNat ≤ 281474976710656)) (by omega)) (Below.refl _ _) (Nat.le_refl _) ?_; intro v229 w4 ho5 hb hg_ hnew_; clear hg_ hnew_; (first | rw [← Ny228.out] at ho5 | (simp only [Int.reduceToNat] at ho5; rw [← Ny228.out] at ho5)); have n0_ := Aside0.mk (Kd.R_lower ho5 (Z7 (by repeat (first | (with_reducible first | exact HB.out | apply Z5 | apply Z3 | apply Z4) | exact HB.out)))); have n1_ := Aside0.mk (Z8 (by repeat (first | (with_reducible first | exact HB.out | apply Z5 | apply Z3 | apply Z4) | exact HB.out)) hb); clear HB; have HO230 := n0_; have HB := n1_; clear n0_ n1_; clear hb ho5))
   go_loopg [4] k (fun kq v4 w' => ∃ (x3_1 : List Bool) (x4_1 : Int), v4 = .int .i64 x4_1 ∧ Aside0 (laws_toBoolS.l0 kq l0 x3_1 x4_1 = some r) ∧ Aside0 (kq ≤ k) ∧ Aside0 (Kd.R Kd.bool 4 w' w.heap.size (fun _ => True) v229 x3_1) ∧ Aside0 (Below w.heap.size w w'))
   case atStart => exact ⟨(y228), (0), (by first | rfl | (simp; done) | (simp [*]; done)), H', ⟨Nat.le_refl _⟩, ⟨by (with_reducible repeat (first | apply Z9 | apply Z10 | apply Z11)); exact HO230.out⟩, ⟨by repeat (first | (with_reducible first | exact HB.out | apply Z5 | apply Z3 | apply Z4) | exact HB.out)⟩⟩
   case round =>
    clear H'
    try clear c2
    try clear c2b0
    try clear c2b1
    try clear p2
    try clear c3
    try clear c3b0
    try clear c3b1
    try clear c4
    obtain ⟨x3_1, x4_1, rfl, HA, HK1, HO_3, HB⟩ := hrel
    cases gk with
    | zero => exact absurd HA.out (by simp [laws_toBoolS.l0])
    | succ k1 =>
     have H := HA.out
     clear HA
     simp only [laws_toBoolS.l0] at H
     by_cases c6 : x4_1 < (l0.length : Int)
     ·rw [if_pos c6] at H
      have c6b0 : decide (x4_1 < (l0.length : Int)) = true := Z39 c6
      clear c6
      by_cases c7 : 0 ≤ x4_1
      ·rw [if_pos c7] at H
       have c7b0 : decide (0 ≤ x4_1) = true := Z39 c7
       clear c7
       by_cases c8 : x4_1 < (x3_1.length : Int)
       ·rw [if_pos c8] at H
        have c8b0 : decide (x4_1 < (x3_1.length : Int)) = true := Z39 c8
        clear c8
        obtain ⟨y232, hy232⟩ : ∃ y_ : List Bool, y_ = (x3_1.set (x4_1 : Int).toNat (rdOf false l0 x4_1)) := ⟨_, rfl⟩
        replace H : (laws_toBoolS.l0 k1 l0 y232 (wrap64 (x4_1 + 1))) = some r := by first | (rw [hy232]; with_reducible exact H) | (have H2_ := (Option.bind_some _ _).symm.trans H; rw [hy232]; with_reducible exact H2_) | (have H2_ := (Option.bind_some _ _).symm.trans H; with_reducible exact H2_) | with_reducible exact H | (rw [hy232]; exact H) | exact H
        have Ny232 := Aside0.mk hy232
        clear hy232
        have H' := Aside0.mk H
        clear H
        have p231 : 0 ≤ (x4_1 : Int) := Z31 (by first | (with_reducible assumption) | assumption)
        have q231 : x4_1 < (l0.length : Int) := Z31 (by first | (with_reducible assumption) | assumption)
        obtain ⟨ad231, e231, hx231_0⟩ := Kd.at_bool HR0.out x4_1 p231 q231
        cases e231
        try replace hx231_0 := (HB.out.cell (World.block_lt_of_cell? w _ hx231_0)).trans hx231_0
        replace p231 := eq_true p231
        replace q231 := eq_true q231
        have p9 : 0 ≤ (x4_1 : Int) := Z31 (by first | (with_reducible assumption) | assumption)
        have q9 : (x4_1 : Int) < ((x3_1.length : Int) : Int) := Z31 (by first | (with_reducible assumption) | assumption)
        obtain ⟨go9, co9, eo9, gb9, gl9, cl9, HG9⟩ := Kd.R_form HO_3.out (by omega)
        (first | cases eo9 | (injection eo9 with ea_ en_ ec_; (first | subst ea_ | (injection ea_ with ea_; subst ea_)); subst ec_; clear en_))
        have GB9 := Aside0.mk gb9
        have GG9 := Aside0.mk HG9
        clear gb9 gl9 HG9
        obtain ⟨hx9_0, hf9_0⟩ := Kd.R_celln false HO_3.out (x4_1 : Int) p9 q9
        replace p9 := eq_true p9
        replace q9 := eq_true q9
        have HP10 := Kd.R_putg HO_3.out (x4_1 : Int) (rdOf false l0 x4_1)
        go_wp2_with (first | ((with_reducible refine gate_store (t := 4) (p := 20) rfl ?_); refine store_event (t := 4) (p := 20) (v := ?vo_w11) (w1 := (wr.setCell ⟨go9, (x4_1 : Int).toNat, none⟩ (.bool (rdOf false l0 x4_1)))) ?hg ?ho ?hn ?hr ?_; (case ho => rfl); (case hg => rfl); (case hn => rfl); (case hr => first | (go_simp; done) | (go_simp; rfl)); intro w11 hw; have hg : wr.grownBy w11 (some go9) := (by rw [hw]; exact HP10.2); have hp_ : Kd.R Kd.bool 4 w11 w.heap.size (fun _ => True) (.slice (some ⟨go9, 0, none⟩) x3_1.length co9) y232 := (by rw [hw, Ny232.out]; exact HP10.1); clear HP10; have n0_ := Aside0.mk (hp_); have n1_ := Aside0.mk ((by rw [hw]; exact Z6 (HB.out) GB9.out : Below w.heap.size w w11)); clear HO_3; clear HB; have HO_3 := n0_; have HB := n1_; clear n0_ n1_; clear hg hw hp_))
        go_roundg k1
        case measure => have := HK1.out; omega
        case rel => exact ⟨(y232), (wrap64 (x4_1 + 1)), (by first | rfl | (simp; done) | (simp [*]; done)), H', ⟨by have := HK1.out; omega⟩, ⟨by (with_reducible repeat (first | apply Z9 | apply Z10 | apply Z11)); exact HO_3.out⟩, ⟨by repeat (first | (with_reducible first | exact HB.out | apply Z5 | apply Z3 | apply Z4) | exact HB.out)⟩⟩
       ·rw [if_neg c8] at H
        exact absurd H (by simp)
      ·rw [if_neg c7] at H
       exact absurd H (by simp)
     ·rw [if_neg c6] at H
      have c6b0 : decide (x4_1 < (l0.length : Int)) = false := Z38 c6
      clear c6
      obtain rfl := Option.some.inj H
      go_wp2
      go_ret
      exact ⟨_, by first | rfl | (simp [errW_none, errW_some] <;> rfl) | (simp [*, errW_none, errW_some] <;> rfl), by (with_reducible repeat (first | apply Z9 | apply Z10 | apply Z11)); exact HO_3.out, by repeat (first | (with_reducible first | exact HB.out | apply Z5 | apply Z3 | apply Z4) | exact HB.out)⟩
  ·rw [if_neg c3] at H
   exact absurd H (by simp)
 ·rw [if_neg c2] at H
  exact absurd H (by simp)
def laws_toFocus.f (k : Nat) (l0_0 : List Int) (l0_1 : List Int) (l0_2 : List Bool) (l0_3 : List Int) : Option (List Int × List Int × List Bool × List Int) := (laws_toIntS.f k l0_0).bind fun t236 => ((laws_toIntS.f k l0_1).bind fun t239 => ((laws_toBoolS.f k l0_2).bind fun t242 => ((laws_toIntS.f k l0_3).bind fun t245 => (some (t236, t239, t242, t245)))))
theorem laws_toFocus.mono : ∀ a0 a1 a2 a3 k, LeO (laws_toFocus.f k a0 a1 a2 a3) (laws_toFocus.f (k + 1) a0 a1 a2 a3) := by
 intro a0 a1 a2 a3 k
 unfold laws_toFocus.f
 repeat' first
   | (with_reducible exact laws_toBoolS.mono _ _)
   | (with_reducible exact laws_toIntS.mono _ _)
   | (with_reducible exact LeO.refl _)
   | (with_reducible exact LeO.none _)
   | (with_reducible refine LeO.ite ?_ ?_)
   | (with_reducible refine LeO.bind ?_ (fun _ => ?_))
   | exact laws_toBoolS.mono _ _
   | exact laws_toIntS.mono _ _
   | exact LeO.none _
   | refine LeO.ite ?_ ?_
   | refine LeO.bind ?_ (fun _ => ?_)
set_option maxHeartbeats 8000000 in
set_option maxRecDepth 100000 in
theorem laws_toFocus.calls (k : Nat) (A0_0 : Option Addr) (c0_0 : Nat) (l0_0 : List Int) (A0_1 : Option Addr) (c0_1 : Nat) (l0_1 : List Int) (A0_2 : Option Addr) (c0_2 : Nat) (l0_2 : List Bool) (A0_3 : Option Addr) (c0_3 : Nat) (l0_3 : List Int) (r1 : List Int) (r2 : List Int) (r3 : List Bool) (r4 : List Int) (w : World) (hr0_0 : Kd.C (Kd.int .i64) w A0_0 l0_0.length l0_0) (hc0_0 : l0_0.length ≤ c0_0) (hr0_1 : Kd.C (Kd.int .i64) w A0_1 l0_1.length l0_1) (hc0_1 : l0_1.length ≤ c0_1) (hr0_2 : Kd.C Kd.bool w A0_2 l0_2.length l0_2) (hc0_2 : l0_2.length ≤ c0_2) (hr0_3 : Kd.C (Kd.int .i64) w A0_3 l0_3.length l0_3) (hc0_3 : l0_3.length ≤ c0_3) (h : laws_toFocus.f k l0_0 l0_1 l0_2 l0_3 = some (r1, r2, r3, r4)) :
  Calls Try.prog 14 #[.agg #[.slice A0_0 l0_0.length c0_0, .slice A0_1 l0_1.length c0_1, .slice A0_2 l0_2.length c0_2, .slice A0_3 l0_3.length c0_3]] w fun e w' => ∃ v0_ v1_ v2_ v3_ : Value, e = .returned (.agg #[v0_, v1_, v2_, v3_]) ∧ Kd.R (Kd.int .i64) 3 w' w.heap.size (fun k_ => some k_ ≠ (v1_ : Value).ownBlock ∧ some k_ ≠ (v3_ : Value).ownBlock) v0_ r1 ∧ Kd.R (Kd.int .i64) 3 w' w.heap.size (fun k_ => some k_ ≠ (v0_ : Value).ownBlock ∧ some k_ ≠ (v3_ : Value).ownBlock) v1_ r2 ∧ Kd.R Kd.bool 4 w' w.heap.size (fun _ => True) v2_ r3 ∧ Kd.R (Kd.int .i64) 3 w' w.heap.size (fun k_ => some k_ ≠ (v0_ : Value).ownBlock ∧ some k_ ≠ (v1_ : Value).ownBlock) v3_ r4 ∧ Below w.heap.size w w' := by
 have hu25 := Try.underlying25
 have hu29 := Try.underlying29
 have HR0_0 := Aside0.mk hr0_0
 have HC0_0 := Aside0.mk hc0_0
 clear hr0_0 hc0_0
 have HR0_1 := Aside0.mk hr0_1
 have HC0_1 := Aside0.mk hc0_1
 clear hr0_1 hc0_1
 have HR0_2 := Aside0.mk hr0_2
 have HC0_2 := Aside0.mk hc0_2
 clear hr0_2 hc0_2
 have HR0_3 := Aside0.mk hr0_3
 have HC0_3 := Aside0.mk hc0_3
 clear hr0_3 hc0_3
 have HB := Aside0.mk (Below.refl w.heap.size w)
 have H : ((laws_toIntS.f k l0_0).bind fun t236 => ((laws_toIntS.f k l0_1).bind fun t239 => ((laws_toBoolS.f k l0_2).bind fun t242 => ((laws_toIntS.f k l0_3).bind fun t245 => (some (t236, t239, t242, t245)))))) = some (r1, r2, r3, r4) := h
 clear h
 replace H := Z37.mp H
 obtain ⟨t236, A20, H⟩ := H
 replace H : ((laws_toIntS.f k l0_1).bind fun t239 => ((laws_toBoolS.f k l0_2).bind fun t242 => ((laws_toIntS.f k l0_3).bind fun t245 => (some (t236, t239, t242, t245))))) = some (r1, r2, r3, r4) := H
 have A2 := Aside0.mk A20
 clear A20
 replace H := Z37.mp H
 obtain ⟨t239, A30, H⟩ := H
 replace H : ((laws_toBoolS.f k l0_2).bind fun t242 => ((laws_toIntS.f k l0_3).bind fun t245 => (some (t236, t239, t242, t245)))) = some (r1, r2, r3, r4) := H
 have A3 := Aside0.mk A30
 clear A30
 replace H := Z37.mp H
 obtain ⟨t242, A40, H⟩ := H
 replace H : ((laws_toIntS.f k l0_3).bind fun t245 => (some (t236, t239, t242, t245))) = some (r1, r2, r3, r4) := H
 have A4 := Aside0.mk A40
 clear A40
 replace H := Z37.mp H
 obtain ⟨t245, A50, H⟩ := H
 replace H : (some (t236, t239, t242, t245)) = some (r1, r2, r3, r4) := H
 have A5 := Aside0.mk A50
 clear A50
 simp only [Option.some.injEq, Prod.mk.injEq] at H
 obtain ⟨rfl, rfl, rfl, rfl⟩ := H
 go_enter Try.func14, Try.ntmps14
 go_wp2_with (first | ((with_reducible refine gate_dst (N := 1) rfl ?_); refine box_event ?hg (N := 1) ?hd (cs := #[.slice A0_0 l0_0.length c0_0, .slice A0_1 l0_1.length c0_1, .slice A0_2 l0_2.length c0_2, .slice A0_3 l0_3.length c0_3]) (t := 25) ?hr ?_; (case hd => rfl); (case hg => rfl); (case hr => first | (go_simp; done) | (go_simp; rfl)); intro gb233 hg w6 hbox hb; have n0_ := Aside0.mk (Z8 (by repeat (first | (with_reducible first | exact HB.out | apply Z5 | apply Z3 | apply Z4) | exact HB.out)) hb); have n1_ := Aside0.mk (hbox); have n2_ := Aside0.mk ((by rw [hg]; exact (Z7 (by repeat (first | (with_reducible first | exact HB.out | apply Z5 | apply Z3 | apply Z4) | exact HB.out))) : w.heap.size ≤ gb233)); have n3_ := Aside0.mk ((by rw [hg]; exact (Z7 (by repeat (first | (with_reducible first | exact HB.out | apply Z5 | apply Z3 | apply Z4) | exact HB.out))) : w.heap.size ≤ gb233)); clear HB; have HB := n0_; have BK233 := n1_; have GW233 := n2_; have GE233 := n3_; clear n0_ n1_ n2_ n3_; clear hb hbox hg) | ((with_reducible refine gate_dst (N := 2) rfl ?_); refine box_event ?hg (N := 2) ?hd (cs := #[.slice none 0 0, .slice none 0 0, .slice none 0 0, .slice none 0 0]) (t := 29) ?hr ?_; (case hd => rfl); (case hg => rfl); (case hr => first | (go_simp; done) | (go_simp; rfl)); intro gb234 hg w7 hbox hb; have n0_ := Aside0.mk (Z29 (g := gb233) (o := .cells #[.slice A0_0 l0_0.length c0_0, .slice A0_1 l0_1.length c0_1, .slice A0_2 l0_2.length c0_2, .slice A0_3 l0_3.length c0_3] 25 (0, 0)) (by (with_reducible repeat (first | refine Z26 ?_ _ | refine Z27 ?_ | refine Z28 ?_ _)); exact BK233.out) hb); have n1_ := Aside0.mk (Z8 (by repeat (first | (with_reducible first | exact HB.out | apply Z5 | apply Z3 | apply Z4 | refine Z6 ?_ GE233.out) | exact HB.out)) hb); have n2_ := Aside0.mk (hbox); have n3_ := Aside0.mk ((by rw [hg]; exact (Z7 (by repeat (first | (with_reducible first | exact HB.out | apply Z5 | apply Z3 | apply Z4 | refine Z6 ?_ GE233.out) | exact HB.out))) : w.heap.size ≤ gb234)); have n4_ := Aside0.mk ((by rw [hg]; exact (Z7 (by repeat (first | (with_reducible first | exact HB.out | apply Z5 | apply Z3 | apply Z4 | refine Z6 ?_ GE233.out) | exact HB.out))) : w.heap.size ≤ gb234)); have n5_ := Aside0.mk ((by rw [hg]; exact Nat.ne_of_lt (blk_lt (g := gb233) (o := .cells #[.slice A0_0 l0_0.length c0_0, .slice A0_1 l0_1.length c0_1, .slice A0_2 l0_2.length c0_2, .slice A0_3 l0_3.length c0_3] 25 (0, 0)) (by (with_reducible repeat (first | refine Z26 ?_ _ | refine Z27 ?_ | refine Z28 ?_ _)); exact BK233.out)) : gb233 ≠ gb234)); have n6_ := Aside0.mk ((by rw [hg]; exact Nat.ne_of_gt (blk_lt (g := gb233) (o := .cells #[.slice A0_0 l0_0.length c0_0, .slice A0_1 l0_1.length c0_1, .slice A0_2 l0_2.length c0_2, .slice A0_3 l0_3.length c0_3] 25 (0, 0)) (by (with_reducible repeat (first | refine Z26 ?_ _ | refine Z27 ?_ | refine Z28 ?_ _)); exact BK233.out)) : gb234 ≠ gb233)); clear BK233; clear HB; have BK233 := n0_; have HB := n1_; have BK234 := n2_; have GW234 := n3_; have GE234 := n4_; have NB233_234 := n5_; have NB234_233 := n6_; clear n0_ n1_ n2_ n3_ n4_ n5_ n6_; clear hb hbox hg) | ((with_reducible refine gate_dst (N := 3) rfl ?_); refine box_event ?hg (N := 3) ?hd (cs := #[.slice none 0 0, .slice none 0 0, .slice none 0 0, .slice none 0 0]) (t := 29) ?hr ?_; (case hd => rfl); (case hg => rfl); (case hr => first | (go_simp; done) | (go_simp; rfl)); intro gb235 hg w8 hbox hb; have n0_ := Aside0.mk (Z29 (g := gb233) (o := .cells #[.slice A0_0 l0_0.length c0_0, .slice A0_1 l0_1.length c0_1, .slice A0_2 l0_2.length c0_2, .slice A0_3 l0_3.length c0_3] 25 (0, 0)) (by (with_reducible repeat (first | refine Z26 ?_ _ | refine Z27 ?_ | refine Z28 ?_ _)); exact BK233.out) hb); have n1_ := Aside0.mk (Z29 (g := gb234) (o := .cells #[.slice none 0 0, .slice none 0 0, .slice none 0 0, .slice none 0 0] 29 (0, 0)) (by (with_reducible repeat (first | refine Z26 ?_ _ | refine Z27 ?_ | refine Z28 ?_ _)); exact BK234.out) hb); have n2_ := Aside0.mk (Z8 (by repeat (first | (with_reducible first | exact HB.out | apply Z5 | apply Z3 | apply Z4 | refine Z6 ?_ GE233.out | refine Z6 ?_ GE234.out) | exact HB.out)) hb); have n3_ := Aside0.mk (hbox); have n4_ := Aside0.mk ((by rw [hg]; exact (Z7 (by repeat (first | (with_reducible first | exact HB.out | apply Z5 | apply Z3 | apply Z4 | refine Z6 ?_ GE233.out | refine Z6 ?_ GE234.out) | exact HB.out))) : w.heap.size ≤ gb235)); have n5_ := Aside0.mk ((by rw [hg]; exact (Z7 (by repeat (first | (with_reducible first | exact HB.out | apply Z5 | apply Z3 | apply Z4 | refine Z6 ?_ GE233.out | refine Z6 ?_ GE234.out) | exact HB.out))) : w.heap.size ≤ gb235)); have n6_ := Aside0.mk ((by rw [hg]; exact Nat.ne_of_lt (blk_lt (g := gb233) (o := .cells #[.slice A0_0 l0_0.length c0_0, .slice A0_1 l0_1.length c0_1, .slice A0_2 l0_2.length c0_2, .slice A0_3 l0_3.length c0_3] 25 (0, 0)) (by (with_reducible repeat (first | refine Z26 ?_ _ | refine Z27 ?_ | refine Z28 ?_ _)); exact BK233.out)) : gb233 ≠ gb235)); have n7_ := Aside0.mk ((by rw [hg]; exact Nat.ne_of_gt (blk_lt (g := gb233) (o := .cells #[.slice A0_0 l0_0.length c0_0, .slice A0_1 l0_1.length c0_1, .slice A0_2 l0_2.length c0_2, .slice A0_3 l0_3.length c0_3] 25 (0, 0)) (by (with_reducible repeat (first | refine Z26 ?_ _ | refine Z27 ?_ | refine Z28 ?_ _)); exact BK233.out)) : gb235 ≠ gb233)); have n8_ := Aside0.mk ((by rw [hg]; exact Nat.ne_of_lt (blk_lt (g := gb234) (o := .cells #[.slice none 0 0, .slice none 0 0, .slice none 0 0, .slice none 0 0] 29 (0, 0)) (by (with_reducible repeat (first | refine Z26 ?_ _ | refine Z27 ?_ | refine Z28 ?_ _)); exact BK234.out)) : gb234 ≠ gb235)); have n9_ := Aside0.mk ((by rw [hg]; exact Nat.ne_of_gt (blk_lt (g := gb234) (o := .cells #[.slice none 0 0, .slice none 0 0, .slice none 0 0, .slice none 0 0] 29 (0, 0)) (by (with_reducible repeat (first | refine Z26 ?_ _ | refine Z27 ?_ | refine Z28 ?_ _)); exact BK234.out)) : gb235 ≠ gb234)); clear BK233; clear BK234; clear HB; have BK233 := n0_; have BK234 := n1_; have HB := n2_; have BK235 := n3_; have GW235 := n4_; have GE235 := n5_; have NB233_235 := n6_; have NB235_233 := n7_; have NB234_235 := n8_; have NB235_234 := n9_; clear n0_ n1_ n2_ n3_ n4_ n5_ n6_ n7_ n8_ n9_; clear hb hbox hg; have hnb9 := NB233_234.out; have hnc9 := NB234_233.out; have hnb10 := NB233_235.out; have hnc10 := NB235_233.out; have hcz11_0 : w8.cell? ⟨gb233, 0, none⟩ = some (.slice A0_0 l0_0.length c0_0) := (Z24 BK233.out 0).trans rfl; have hcz11_1 : w8.cell? ⟨gb233, 1, none⟩ = some (.slice A0_1 l0_1.length c0_1) := (Z24 BK233.out 1).trans rfl; have hcz11_2 : w8.cell? ⟨gb233, 2, none⟩ = some (.slice A0_2 l0_2.length c0_2) := (Z24 BK233.out 2).trans rfl; have hcz11_3 : w8.cell? ⟨gb233, 3, none⟩ = some (.slice A0_3 l0_3.length c0_3) := (Z24 BK233.out 3).trans rfl; have hfz11_0 := Z25 BK233.out 0; have hfz11_1 := Z25 BK233.out 1; have hfz11_2 := Z25 BK233.out 2; have hfz11_3 := Z25 BK233.out 3) | ((with_reducible refine gate_callee (f := 47) rfl ?_); refine goesL_ (some 6) rfl rfl Try.func47 (by kernel_rfl) rfl #[.slice A0_0 l0_0.length c0_0] rfl (by (try simp only [Z34, Z35, Z36]); first | done | rfl | (simp only [Z32, Z33]; rfl)) ?_; (with_reducible refine (laws_toIntS.calls k _ _ l0_0 t236 _ ?side1 ?side2 A2.out).mono ?_); (case side1 => repeat (first | exact (Z23 HR0_0.out HB.out) | (with_reducible refine Z20 ?_ _) | (with_reducible refine Z21 ?_ _) | (with_reducible refine Z22 ?_))); (case side2 => exact HC0_0.out); rintro e w12 ⟨v237, rfl, ho0, hb⟩; refine ⟨_, rfl, ?_⟩; have n0_ := Aside0.mk (Kd.R_lower ho0 (Z7 (by repeat (first | (with_reducible first | exact HB.out | apply Z5 | apply Z3 | apply Z4 | refine Z6 ?_ GE233.out | refine Z6 ?_ GE234.out | refine Z6 ?_ GE235.out) | exact HB.out)))); have n1_ := Aside0.mk (Z29 (g := gb233) (o := .cells #[.slice A0_0 l0_0.length c0_0, .slice A0_1 l0_1.length c0_1, .slice A0_2 l0_2.length c0_2, .slice A0_3 l0_3.length c0_3] 25 (0, 0)) (by (with_reducible repeat (first | refine Z26 ?_ _ | refine Z27 ?_ | refine Z28 ?_ _)); exact BK233.out) hb); have n2_ := Aside0.mk (Z29 (g := gb234) (o := .cells #[.slice none 0 0, .slice none 0 0, .slice none 0 0, .slice none 0 0] 29 (0, 0)) (by (with_reducible repeat (first | refine Z26 ?_ _ | refine Z27 ?_ | refine Z28 ?_ _)); exact BK234.out) hb); have n3_ := Aside0.mk (Z29 (g := gb235) (o := .cells #[.slice none 0 0, .slice none 0 0, .slice none 0 0, .slice none 0 0] 29 (0, 0)) (by (with_reducible repeat (first | refine Z26 ?_ _ | refine Z27 ?_ | refine Z28 ?_ _)); exact BK235.out) hb); have n4_ := Aside0.mk (Z8 (by repeat (first | (with_reducible first | exact HB.out | apply Z5 | apply Z3 | apply Z4 | refine Z6 ?_ GE233.out | refine Z6 ?_ GE234.out | refine Z6 ?_ GE235.out) | exact HB.out)) hb); clear BK233; clear BK234; clear BK235; clear HB; have HO238 := n0_; have BK233 := n1_; have BK234 := n2_; have BK235 := n3_; have HB := n4_; clear n0_ n1_ n2_ n3_ n4_; (try clear hb); (try clear hb2); (try clear hk); (try clear hi); (try clear ho0); obtain ⟨Ao13, co13, eo13⟩ := Z19 HO238.out; subst eo13; have hnb14 := NB235_234.out; have hnc14 := NB234_235.out; have hcz15_0 : w12.cell? ⟨gb235, 0, none⟩ = some (.slice none 0 0) := (Z24 BK235.out 0).trans rfl; have hcz15_1 : w12.cell? ⟨gb235, 1, none⟩ = some (.slice none 0 0) := (Z24 BK235.out 1).trans rfl; have hcz15_2 : w12.cell? ⟨gb235, 2, none⟩ = some (.slice none 0 0) := (Z24 BK235.out 2).trans rfl; have hcz15_3 : w12.cell? ⟨gb235, 3, none⟩ = some (.slice none 0 0) := (Z24 BK235.out 3).trans rfl; have hfz15_0 := Z25 BK235.out 0; have hfz15_1 := Z25 BK235.out 1; have hfz15_2 := Z25 BK235.out 2; have hfz15_3 := Z25 BK235.out 3; have hcz16_0 : w12.cell? ⟨gb233, 0, none⟩ = some (.slice A0_0 l0_0.length c0_0) := (Z24 BK233.out 0).trans rfl; have hcz16_1 : w12.cell? ⟨gb233, 1, none⟩ = some (.slice A0_1 l0_1.length c0_1) := (Z24 BK233.out 1).trans rfl; have hcz16_2 : w12.cell? ⟨gb233, 2, none⟩ = some (.slice A0_2 l0_2.length c0_2) := (Z24 BK233.out 2).trans rfl; have hcz16_3 : w12.cell? ⟨gb233, 3, none⟩ = some (.slice A0_3 l0_3.length c0_3) := (Z24 BK233.out 3).trans rfl; have hfz16_0 := Z25 BK233.out 0; have hfz16_1 := Z25 BK233.out 1; have hfz16_2 := Z25 BK233.out 2; have hfz16_3 := Z25 BK233.out 3) | ((with_reducible refine gate_callee (f := 47) rfl ?_); refine goesL_ (some 10) rfl rfl Try.func47 (by kernel_rfl) rfl #[.slice A0_1 l0_1.length c0_1] rfl (by (try simp only [Z34, Z35, Z36]); first | done | rfl | (simp only [Z32, Z33]; rfl)) ?_; (with_reducible refine (laws_toIntS.calls k _ _ l0_1 t239 _ ?side1 ?side2 A3.out).mono ?_); (case side1 => exact Z23 HR0_1.out (by repeat (first | (with_reducible first | exact HB.out | apply Z5 | apply Z3 | apply Z4 | refine Z6 ?_ GE233.out | refine Z6 ?_ GE234.out | refine Z6 ?_ GE235.out) | exact HB.out))); (case side2 => exact HC0_1.out); rintro e w17 ⟨v240, rfl, ho0, hb⟩; refine ⟨_, rfl, ?_⟩; have n0_ := Aside0.mk (Kd.R_elder' (by (with_reducible repeat (first | apply Z9 | apply Z10 | apply Z11)); exact (Z12 (Z13 (p := ⟨gb235, 0, none⟩) (Z15 HO238.out BK235.out (by decide)) (fun _ hk => hk.2) (.slice Ao13 t236.length co13)) (fun _ h_ => h_.1))) (Kd.R_base ho0) hb); have n1_ := Aside0.mk (Kd.R_lower (Kd.R_new' ho0 (Z18 (by (with_reducible repeat (first | apply Z9 | apply Z10 | apply Z11)); exact (Z12 (Z13 (p := ⟨gb235, 0, none⟩) (Z15 HO238.out BK235.out (by decide)) (fun _ hk => hk.2) (.slice Ao13 t236.length co13)) (fun _ h_ => h_.1))))) (Z7 (by repeat (first | (with_reducible first | exact HB.out | apply Z5 | apply Z3 | apply Z4 | refine Z6 ?_ GE233.out | refine Z6 ?_ GE234.out | refine Z6 ?_ GE235.out) | exact HB.out)))); have n2_ := Aside0.mk (Z29 (g := gb233) (o := .cells #[.slice A0_0 l0_0.length c0_0, .slice A0_1 l0_1.length c0_1, .slice A0_2 l0_2.length c0_2, .slice A0_3 l0_3.length c0_3] 25 (0, 0)) (by (with_reducible repeat (first | refine Z26 ?_ _ | refine Z27 ?_ | refine Z28 ?_ _)); refine blk_far ?_ NB233_235.out _; (with_reducible repeat (first | refine Z26 ?_ _ | refine Z27 ?_ | refine Z28 ?_ _)); exact BK233.out) hb); have n3_ := Aside0.mk (Z29 (g := gb234) (o := .cells #[.slice none 0 0, .slice none 0 0, .slice none 0 0, .slice none 0 0] 29 (0, 0)) (by (with_reducible repeat (first | refine Z26 ?_ _ | refine Z27 ?_ | refine Z28 ?_ _)); refine blk_far ?_ NB234_235.out _; (with_reducible repeat (first | refine Z26 ?_ _ | refine Z27 ?_ | refine Z28 ?_ _)); exact BK234.out) hb); have n4_ := Aside0.mk (Z29 (g := gb235) (o := .cells #[.slice Ao13 t236.length co13, .slice none 0 0, .slice none 0 0, .slice none 0 0] 29 (0, 0)) (by (with_reducible repeat (first | refine Z26 ?_ _ | refine Z27 ?_ | refine Z28 ?_ _)); refine Z30 (cs := #[.slice none 0 0, .slice none 0 0, .slice none 0 0, .slice none 0 0]) ?_ 0 _ rfl; (with_reducible repeat (first | refine Z26 ?_ _ | refine Z27 ?_ | refine Z28 ?_ _)); exact BK235.out) hb); have n5_ := Aside0.mk (Z8 (by repeat (first | (with_reducible first | exact HB.out | apply Z5 | apply Z3 | apply Z4 | refine Z6 ?_ GE233.out | refine Z6 ?_ GE234.out | refine Z6 ?_ GE235.out) | exact HB.out)) hb); clear HO238; clear BK233; clear BK234; clear BK235; clear HB; have HO238 := n0_; have HO241 := n1_; have BK233 := n2_; have BK234 := n3_; have BK235 := n4_; have HB := n5_; clear n0_ n1_ n2_ n3_ n4_ n5_; (try clear hb); (try clear hb2); (try clear hk); (try clear hi); (try clear ho0); obtain ⟨Ao18, co18, eo18⟩ := Z19 HO241.out; subst eo18; have hcz19_0 : w17.cell? ⟨gb235, 0, none⟩ = some (.slice Ao13 t236.length co13) := (Z24 BK235.out 0).trans rfl; have hcz19_1 : w17.cell? ⟨gb235, 1, none⟩ = some (.slice none 0 0) := (Z24 BK235.out 1).trans rfl; have hcz19_2 : w17.cell? ⟨gb235, 2, none⟩ = some (.slice none 0 0) := (Z24 BK235.out 2).trans rfl; have hcz19_3 : w17.cell? ⟨gb235, 3, none⟩ = some (.slice none 0 0) := (Z24 BK235.out 3).trans rfl; have hfz19_0 := Z25 BK235.out 0; have hfz19_1 := Z25 BK235.out 1; have hfz19_2 := Z25 BK235.out 2; have hfz19_3 := Z25 BK235.out 3; have hcz20_0 : w17.cell? ⟨gb233, 0, none⟩ = some (.slice A0_0 l0_0.length c0_0) := (Z24 BK233.out 0).trans rfl; have hcz20_1 : w17.cell? ⟨gb233, 1, none⟩ = some (.slice A0_1 l0_1.length c0_1) := (Z24 BK233.out 1).trans rfl; have hcz20_2 : w17.cell? ⟨gb233, 2, none⟩ = some (.slice A0_2 l0_2.length c0_2) := (Z24 BK233.out 2).trans rfl; have hcz20_3 : w17.cell? ⟨gb233, 3, none⟩ = some (.slice A0_3 l0_3.length c0_3) := (Z24 BK233.out 3).trans rfl; have hfz20_0 := Z25 BK233.out 0; have hfz20_1 := Z25 BK233.out 1; have hfz20_2 := Z25 BK233.out 2; have hfz20_3 := Z25 BK233.out 3) | ((with_reducible refine gate_callee (f := 48) rfl ?_); refine goesL_ (some 14) rfl rfl Try.func48 (by kernel_rfl) rfl #[.slice A0_2 l0_2.length c0_2] rfl (by (try simp only [Z34, Z35, Z36]); first | done | rfl | (simp only [Z32, Z33]; rfl)) ?_; (with_reducible refine (laws_toBoolS.calls k _ _ l0_2 t242 _ ?side1 ?side2 A4.out).mono ?_); (case side1 => exact Z23 HR0_2.out (by repeat (first | (with_reducible first | exact HB.out | apply Z5 | apply Z3 | apply Z4 | refine Z6 ?_ GE233.out | refine Z6 ?_ GE234.out | refine Z6 ?_ GE235.out) | exact HB.out))); (case side2 => exact HC0_2.out); rintro e w21 ⟨v243, rfl, ho0, hb⟩; refine ⟨_, rfl, ?_⟩; have n0_ := Aside0.mk (Z14 (by (with_reducible repeat (first | apply Z9 | apply Z10 | apply Z11)); exact (Z12 (Z13 (p := ⟨gb235, 1, none⟩) (Z15 HO238.out BK235.out (by decide)) (fun _ hk => hk.2) (.slice Ao18 t239.length co18)) (fun _ h_ => h_.1))) hb); have n1_ := Aside0.mk (Z14 (by (with_reducible repeat (first | apply Z9 | apply Z10 | apply Z11)); exact (Z12 (Z13 (p := ⟨gb235, 1, none⟩) (Z15 HO241.out BK235.out (by decide)) (fun _ hk => hk.2) (.slice Ao18 t239.length co18)) (fun _ h_ => h_.1))) hb); have n2_ := Aside0.mk (Kd.R_lower ho0 (Z7 (by repeat (first | (with_reducible first | exact HB.out | apply Z5 | apply Z3 | apply Z4 | refine Z6 ?_ GE233.out | refine Z6 ?_ GE234.out | refine Z6 ?_ GE235.out) | exact HB.out)))); have n3_ := Aside0.mk (Z29 (g := gb233) (o := .cells #[.slice A0_0 l0_0.length c0_0, .slice A0_1 l0_1.length c0_1, .slice A0_2 l0_2.length c0_2, .slice A0_3 l0_3.length c0_3] 25 (0, 0)) (by (with_reducible repeat (first | refine Z26 ?_ _ | refine Z27 ?_ | refine Z28 ?_ _)); refine blk_far ?_ NB233_235.out _; (with_reducible repeat (first | refine Z26 ?_ _ | refine Z27 ?_ | refine Z28 ?_ _)); exact BK233.out) hb); have n4_ := Aside0.mk (Z29 (g := gb234) (o := .cells #[.slice none 0 0, .slice none 0 0, .slice none 0 0, .slice none 0 0] 29 (0, 0)) (by (with_reducible repeat (first | refine Z26 ?_ _ | refine Z27 ?_ | refine Z28 ?_ _)); refine blk_far ?_ NB234_235.out _; (with_reducible repeat (first | refine Z26 ?_ _ | refine Z27 ?_ | refine Z28 ?_ _)); exact BK234.out) hb); have n5_ := Aside0.mk (Z29 (g := gb235) (o := .cells #[.slice Ao13 t236.length co13, .slice Ao18 t239.length co18, .slice none 0 0, .slice none 0 0] 29 (0, 0)) (by (with_reducible repeat (first | refine Z26 ?_ _ | refine Z27 ?_ | refine Z28 ?_ _)); refine Z30 (cs := #[.slice Ao13 t236.length co13, .slice none 0 0, .slice none 0 0, .slice none 0 0]) ?_ 1 _ rfl; (with_reducible repeat (first | refine Z26 ?_ _ | refine Z27 ?_ | refine Z28 ?_ _)); exact BK235.out) hb); have n6_ := Aside0.mk (Z8 (by repeat (first | (with_reducible first | exact HB.out | apply Z5 | apply Z3 | apply Z4 | refine Z6 ?_ GE233.out | refine Z6 ?_ GE234.out | refine Z6 ?_ GE235.out) | exact HB.out)) hb); clear HO238; clear HO241; clear BK233; clear BK234; clear BK235; clear HB; have HO238 := n0_; have HO241 := n1_; have HO244 := n2_; have BK233 := n3_; have BK234 := n4_; have BK235 := n5_; have HB := n6_; clear n0_ n1_ n2_ n3_ n4_ n5_ n6_; (try clear hb); (try clear hb2); (try clear hk); (try clear hi); (try clear ho0); obtain ⟨Ao22, co22, eo22⟩ := Z19 HO244.out; subst eo22; have hcz23_0 : w21.cell? ⟨gb235, 0, none⟩ = some (.slice Ao13 t236.length co13) := (Z24 BK235.out 0).trans rfl; have hcz23_1 : w21.cell? ⟨gb235, 1, none⟩ = some (.slice Ao18 t239.length co18) := (Z24 BK235.out 1).trans rfl; have hcz23_2 : w21.cell? ⟨gb235, 2, none⟩ = some (.slice none 0 0) := (Z24 BK235.out 2).trans rfl; have hcz23_3 : w21.cell? ⟨gb235, 3, none⟩ = some (.slice none 0 0) := (Z24 BK235.out 3).trans rfl; have hfz23_0 := Z25 BK235.out 0; have hfz23_1 := Z25 BK235.out 1; have hfz23_2 := Z25 BK235.out 2; have hfz23_3 := Z25 BK235.out 3; have hcz24_0 : w21.cell? ⟨gb233, 0, none⟩ = some (.slice A0_0 l0_0.length c0_0) := (Z24 BK233.out 0).trans rfl; have hcz24_1 : w21.cell? ⟨gb233, 1, none⟩ = some (.slice A0_1 l0_1.length c0_1) := (Z24 BK233.out 1).trans rfl; have hcz24_2 : w21.cell? ⟨gb233, 2, none⟩ = some (.slice A0_2 l0_2.length c0_2) := (Z24 BK233.out 2).trans rfl; have hcz24_3 : w21.cell? ⟨gb233, 3, none⟩ = some (.slice A0_3 l0_3.length c0_3) := (Z24 BK233.out 3).trans rfl; have hfz24_0 := Z25 BK233.out 0; have hfz24_1 := Z25 BK233.out 1; have hfz24_2 := Z25 BK233.out 2; have hfz24_3 := Z25 BK233.out 3) | ((with_reducible refine gate_callee (f := 47) rfl ?_); refine goesL_ (some 18) rfl rfl Try.func47 (by kernel_rfl) rfl #[.slice A0_3 l0_3.length c0_3] rfl (by (try simp only [Z34, Z35, Z36]); first | done | rfl | (simp only [Z32, Z33]; rfl)) ?_; (with_reducible refine (laws_toIntS.calls k _ _ l0_3 t245 _ ?side1 ?side2 A5.out).mono ?_); (case side1 => exact Z23 HR0_3.out (by repeat (first | (with_reducible first | exact HB.out | apply Z5 | apply Z3 | apply Z4 | refine Z6 ?_ GE233.out | refine Z6 ?_ GE234.out | refine Z6 ?_ GE235.out) | exact HB.out))); (case side2 => exact HC0_3.out); rintro e w25 ⟨v246, rfl, ho0, hb⟩; refine ⟨_, rfl, ?_⟩; have n0_ := Aside0.mk (Kd.R_elder' (by (with_reducible repeat (first | apply Z9 | apply Z10 | apply Z11)); exact (Z12 (Z13 (p := ⟨gb235, 2, none⟩) (Z15 HO238.out BK235.out (by decide)) (fun _ hk => hk.2) (.slice Ao22 t242.length co22)) (fun _ h_ => h_.1))) (Kd.R_base ho0) hb); have n1_ := Aside0.mk (Kd.R_elder' (by (with_reducible repeat (first | apply Z9 | apply Z10 | apply Z11)); exact (Z12 (Z13 (p := ⟨gb235, 2, none⟩) (Z15 HO241.out BK235.out (by decide)) (fun _ hk => hk.2) (.slice Ao22 t242.length co22)) (fun _ h_ => h_.1))) (Kd.R_base ho0) hb); have n2_ := Aside0.mk (Z14 (by (with_reducible repeat (first | apply Z9 | apply Z10 | apply Z11)); exact (Z12 (Z13 (p := ⟨gb235, 2, none⟩) (Z15 HO244.out BK235.out (by decide)) (fun _ hk => hk.2) (.slice Ao22 t242.length co22)) (fun _ h_ => h_.1))) hb); have n3_ := Aside0.mk (Kd.R_lower (Kd.R_new' (Kd.R_new' ho0 (Z18 (by (with_reducible repeat (first | apply Z9 | apply Z10 | apply Z11)); exact (Z12 (Z13 (p := ⟨gb235, 2, none⟩) (Z15 HO238.out BK235.out (by decide)) (fun _ hk => hk.2) (.slice Ao22 t242.length co22)) (fun _ h_ => h_.1))))) (Z18 (by (with_reducible repeat (first | apply Z9 | apply Z10 | apply Z11)); exact (Z12 (Z13 (p := ⟨gb235, 2, none⟩) (Z15 HO241.out BK235.out (by decide)) (fun _ hk => hk.2) (.slice Ao22 t242.length co22)) (fun _ h_ => h_.1))))) (Z7 (by repeat (first | (with_reducible first | exact HB.out | apply Z5 | apply Z3 | apply Z4 | refine Z6 ?_ GE233.out | refine Z6 ?_ GE234.out | refine Z6 ?_ GE235.out) | exact HB.out)))); have n4_ := Aside0.mk (Z29 (g := gb233) (o := .cells #[.slice A0_0 l0_0.length c0_0, .slice A0_1 l0_1.length c0_1, .slice A0_2 l0_2.length c0_2, .slice A0_3 l0_3.length c0_3] 25 (0, 0)) (by (with_reducible repeat (first | refine Z26 ?_ _ | refine Z27 ?_ | refine Z28 ?_ _)); refine blk_far ?_ NB233_235.out _; (with_reducible repeat (first | refine Z26 ?_ _ | refine Z27 ?_ | refine Z28 ?_ _)); exact BK233.out) hb); have n5_ := Aside0.mk (Z29 (g := gb234) (o := .cells #[.slice none 0 0, .slice none 0 0, .slice none 0 0, .slice none 0 0] 29 (0, 0)) (by (with_reducible repeat (first | refine Z26 ?_ _ | refine Z27 ?_ | refine Z28 ?_ _)); refine blk_far ?_ NB234_235.out _; (with_reducible repeat (first | refine Z26 ?_ _ | refine Z27 ?_ | refine Z28 ?_ _)); exact BK234.out) hb); have n6_ := Aside0.mk (Z29 (g := gb235) (o := .cells #[.slice Ao13 t236.length co13, .slice Ao18 t239.length co18, .slice Ao22 t242.length co22, .slice none 0 0] 29 (0, 0)) (by (with_reducible repeat (first | refine Z26 ?_ _ | refine Z27 ?_ | refine Z28 ?_ _)); refine Z30 (cs := #[.slice Ao13 t236.length co13, .slice Ao18 t239.length co18, .slice none 0 0, .slice none 0 0]) ?_ 2 _ rfl; (with_reducible repeat (first | refine Z26 ?_ _ | refine Z27 ?_ | refine Z28 ?_ _)); exact BK235.out) hb); have n7_ := Aside0.mk (Z8 (by repeat (first | (with_reducible first | exact HB.out | apply Z5 | apply Z3 | apply Z4 | refine Z6 ?_ GE233.out | refine Z6 ?_ GE234.out | refine Z6 ?_ GE235.out) | exact HB.out)) hb); clear HO238; clear HO241; clear HO244; clear BK233; clear BK234; clear BK235; clear HB; have HO238 := n0_; have HO241 := n1_; have HO244 := n2_; have HO247 := n3_; have BK233 := n4_; have BK234 := n5_; have BK235 := n6_; have HB := n7_; clear n0_ n1_ n2_ n3_ n4_ n5_ n6_ n7_; (try clear hb); (try clear hb2); (try clear hk); (try clear hi); (try clear ho0); obtain ⟨Ao26, co26, eo26⟩ := Z19 HO247.out; subst eo26; have hcz27_0 : w25.cell? ⟨gb235, 0, none⟩ = some (.slice Ao13 t236.length co13) := (Z24 BK235.out 0).trans rfl; have hcz27_1 : w25.cell? ⟨gb235, 1, none⟩ = some (.slice Ao18 t239.length co18) := (Z24 BK235.out 1).trans rfl; have hcz27_2 : w25.cell? ⟨gb235, 2, none⟩ = some (.slice Ao22 t242.length co22) := (Z24 BK235.out 2).trans rfl; have hcz27_3 : w25.cell? ⟨gb235, 3, none⟩ = some (.slice none 0 0) := (Z24 BK235.out 3).trans rfl; have hfz27_0 := Z25 BK235.out 0; have hfz27_1 := Z25 BK235.out 1; have hfz27_2 := Z25 BK235.out 2; have hfz27_3 := Z25 BK235.out 3; have hcz28_0 : w25.cell? ⟨gb234, 0, none⟩ = some (.slice none 0 0) := (Z24 BK234.out 0).trans rfl; have hcz28_1 : w25.cell? ⟨gb234, 1, none⟩ = some (.slice none 0 0) := (Z24 BK234.out 1).trans rfl; have hcz28_2 : w25.cell? ⟨gb234, 2, none⟩ = some (.slice none 0 0) := (Z24 BK234.out 2).trans rfl; have hcz28_3 : w25.cell? ⟨gb234, 3, none⟩ = some (.slice none 0 0) := (Z24 BK234.out 3).trans rfl; have hfz28_0 := Z25 BK234.out 0; have hfz28_1 := Z25 BK234.out 1; have hfz28_2 := Z25 BK234.out 2; have hfz28_3 := Z25 BK234.out 3))
 refine bodyPost_ret (results_cell_row rfl _ _ gb234 29 #[.slice Ao13 t236.length co13, .slice Ao18 t239.length co18, .slice Ao22 t242.length co22, .slice Ao26 t245.length co26] (0, 0) _ rfl (by (with_reducible repeat (first | refine Z26 ?_ _ | refine Z27 ?_ | refine Z28 ?_ _)); refine Z30 (cs := #[.slice Ao13 t236.length co13, .slice Ao18 t239.length co18, .slice Ao22 t242.length co22, .slice none 0 0]) ?_ 3 _ rfl; (with_reducible repeat (first | refine Z26 ?_ _ | refine Z27 ?_ | refine Z28 ?_ _)); refine Z30 (cs := #[.slice Ao13 t236.length co13, .slice Ao18 t239.length co18, .slice none 0 0, .slice none 0 0]) ?_ 2 _ rfl; (with_reducible repeat (first | refine Z26 ?_ _ | refine Z27 ?_ | refine Z28 ?_ _)); refine Z30 (cs := #[.slice Ao13 t236.length co13, .slice none 0 0, .slice none 0 0, .slice none 0 0]) ?_ 1 _ rfl; (with_reducible repeat (first | refine Z26 ?_ _ | refine Z27 ?_ | refine Z28 ?_ _)); refine Z30 (cs := #[.slice none 0 0, .slice none 0 0, .slice none 0 0, .slice none 0 0]) ?_ 0 _ rfl; (with_reducible repeat (first | refine Z26 ?_ _ | refine Z27 ?_ | refine Z28 ?_ _)); refine blk_far ?_ NB234_235.out _; (with_reducible repeat (first | refine Z26 ?_ _ | refine Z27 ?_ | refine Z28 ?_ _)); exact BK234.out) Try.underlying29 rfl (by kernel_rfl)) rfl ?_
 exact ⟨_, _, _, _, by first | rfl | (simp [errW_none, errW_some] <;> rfl) | (simp [*, errW_none, errW_some] <;> rfl), by (with_reducible repeat (first | apply Z9 | apply Z10 | apply Z11)); exact Z12 (Z13 (p := ⟨gb234, 3, none⟩) (Z13 (p := ⟨gb234, 2, none⟩) (Z13 (p := ⟨gb234, 1, none⟩) (Z13 (p := ⟨gb234, 0, none⟩) (Z13 (p := ⟨gb235, 3, none⟩) (Z15 (Z15 HO238.out BK235.out (by decide)) BK234.out (by decide)) (fun _ hk => hk.1.2) (.slice Ao26 t245.length co26)) (fun _ hk => hk.2) (.slice Ao13 t236.length co13)) (fun _ hk => hk.2) (.slice Ao18 t239.length co18)) (fun _ hk => hk.2) (.slice Ao22 t242.length co22)) (fun _ hk => hk.2) (.slice Ao26 t245.length co26)) (fun _ hk => ⟨hk.1.1.1.2, hk.1.1.2⟩), by (with_reducible repeat (first | apply Z9 | apply Z10 | apply Z11)); exact Z12 (Z13 (p := ⟨gb234, 3, none⟩) (Z13 (p := ⟨gb234, 2, none⟩) (Z13 (p := ⟨gb234, 1, none⟩) (Z13 (p := ⟨gb234, 0, none⟩) (Z13 (p := ⟨gb235, 3, none⟩) (Z15 (Z15 HO241.out BK235.out (by decide)) BK234.out (by decide)) (fun _ hk => hk.1.2) (.slice Ao26 t245.length co26)) (fun _ hk => hk.2) (.slice Ao13 t236.length co13)) (fun _ hk => hk.2) (.slice Ao18 t239.length co18)) (fun _ hk => hk.2) (.slice Ao22 t242.length co22)) (fun _ hk => hk.2) (.slice Ao26 t245.length co26)) (fun _ hk => ⟨hk.1.1.1.2, hk.1.1.2⟩), by (with_reducible repeat (first | apply Z9 | apply Z10 | apply Z11)); exact Z12 (Z13 (p := ⟨gb234, 3, none⟩) (Z13 (p := ⟨gb234, 2, none⟩) (Z13 (p := ⟨gb234, 1, none⟩) (Z13 (p := ⟨gb234, 0, none⟩) (Z13 (p := ⟨gb235, 3, none⟩) (Z15 (Z15 HO244.out BK235.out (by decide)) BK234.out (by decide)) (fun _ hk => hk.1.2) (.slice Ao26 t245.length co26)) (fun _ hk => hk.2) (.slice Ao13 t236.length co13)) (fun _ hk => hk.2) (.slice Ao18 t239.length co18)) (fun _ hk => hk.2) (.slice Ao22 t242.length co22)) (fun _ hk => hk.2) (.slice Ao26 t245.length co26)) (fun _ hk => trivial), by (with_reducible repeat (first | apply Z9 | apply Z10 | apply Z11)); exact Z12 (Z13 (p := ⟨gb234, 3, none⟩) (Z13 (p := ⟨gb234, 2, none⟩) (Z13 (p := ⟨gb234, 1, none⟩) (Z13 (p := ⟨gb234, 0, none⟩) (Z13 (p := ⟨gb235, 3, none⟩) (Z15 (Z15 HO247.out BK235.out (by decide)) BK234.out (by decide)) (fun _ hk => hk.1.2) (.slice Ao26 t245.length co26)) (fun _ hk => hk.2) (.slice Ao13 t236.length co13)) (fun _ hk => hk.2) (.slice Ao18 t239.length co18)) (fun _ hk => hk.2) (.slice Ao22 t242.length co22)) (fun _ hk => hk.2) (.slice Ao26 t245.length co26)) (fun _ hk => ⟨hk.1.1.1.2, hk.1.1.2⟩), by repeat (first | (with_reducible first | exact HB.out | apply Z5 | apply Z3 | apply Z4 | refine Z6 ?_ GE233.out | refine Z6 ?_ GE234.out | refine Z6 ?_ GE235.out) | exact HB.out)⟩
def impl_size.l0 : Nat → Int → List Int → Int → Int → Option (Int)
 | 0, _, _, _, _ => none
 | k + 1, x3, x6, x7, x8 => if x8 < x7 then (if 0 ≤ x8 then (if x8 < (x6.length : Int) then (impl_size.l0 k (mn (wrap64 (x3 * (rd x6 x8))) 1000001) x6 x7 (wrap64 (x8 + 1))) else (none)) else (none)) else (some x3)
def impl_size.f (k : Nat) (l0 : List Int) : Option (Int) := impl_size.l0 k 1 l0 (l0.length : Int) 0
theorem impl_size.mono_l : ∀ k, (∀ y0 y1 y2 y3, LeO (impl_size.l0 k y0 y1 y2 y3) (impl_size.l0 (k + 1) y0 y1 y2 y3))
 | 0 => fun _ _ _ _ r h => by simp [impl_size.l0] at h
 | k + 1 => by
  have ih0 := impl_size.mono_l k
  ·intro y0 y1 y2 y3
   unfold impl_size.l0
   repeat' first
   | (with_reducible exact ih0 _ _ _ _)
   | (with_reducible exact LeO.refl _)
   | (with_reducible exact LeO.none _)
   | (with_reducible refine LeO.ite ?_ ?_)
   | (with_reducible refine LeO.bind ?_ (fun _ => ?_))
   | exact ih0 _ _ _ _
   | exact LeO.none _
   | refine LeO.ite ?_ ?_
   | refine LeO.bind ?_ (fun _ => ?_)
theorem impl_size.mono : ∀ a0 k, LeO (impl_size.f k a0) (impl_size.f (k + 1) a0) := by
 intro a0 k
 have ih0 := impl_size.mono_l k
 unfold impl_size.f
 repeat' first
   | (with_reducible exact ih0 _ _ _ _)
   | (with_reducible exact LeO.refl _)
   | (with_reducible exact LeO.none _)
   | (with_reducible refine LeO.ite ?_ ?_)
   | (with_reducible refine LeO.bind ?_ (fun _ => ?_))
   | exact ih0 _ _ _ _
   | exact LeO.none _
   | refine LeO.ite ?_ ?_
   | refine LeO.bind ?_ (fun _ => ?_)
set_option maxHeartbeats 8000000 in
set_option maxRecDepth 100000 in
theorem impl_size.calls (k : Nat) (A0 : Option Addr) (c0 : Nat) (l0 : List Int) (r : Int) (w : World) (hr0 : Kd.C (Kd.int .i64) w A0 l0.length l0) (hc0 : l0.length ≤ c0) (h : impl_size.f k l0 = some r) :
  Calls Try.prog 82 #[.slice A0 l0.length c0] w fun e w' => e = .returned (.int .i64 r) ∧ Below w.heap.size w w' := by
 have HR0 := Aside0.mk hr0
 have HC0 := Aside0.mk hc0
 clear hr0 hc0
 have HB := Aside0.mk (Below.refl w.heap.size w)
 have H : (impl_size.l0 k 1 l0 (l0.length : Int) 0) = some r := h
 clear h
 have H' := Aside0.mk H
 clear H
 go_enter Try.func82, Try.ntmps82
 go_wp2
 go_loopg [3, 8] k (fun kq v3 v8 w' => ∃ (x3_1 : Int) (x8_1 : Int), v3 = .int .i64 x3_1 ∧ v8 = .int .i64 x8_1 ∧ Aside0 (impl_size.l0 kq x3_1 l0 (l0.length : Int) x8_1 = some r) ∧ Aside0 (kq ≤ k) ∧ Aside0 (Below w.heap.size w w'))
 case atStart => exact ⟨(1), (0), (by first | rfl | (simp; done) | (simp [*]; done)), (by first | rfl | (simp; done) | (simp [*]; done)), H', ⟨Nat.le_refl _⟩, ⟨by repeat (first | (with_reducible first | exact HB.out | apply Z5 | apply Z3 | apply Z4) | exact HB.out)⟩⟩
 case round =>
  clear H'
  obtain ⟨x3_1, x8_1, rfl, rfl, HA, HK1, HB⟩ := hrel
  cases gk with
  | zero => exact absurd HA.out (by simp [impl_size.l0])
  | succ k1 =>
   have H := HA.out
   clear HA
   simp only [impl_size.l0] at H
   by_cases c2 : x8_1 < (l0.length : Int)
   ·rw [if_pos c2] at H
    have c2b0 : decide (x8_1 < (l0.length : Int)) = true := Z39 c2
    clear c2
    by_cases c3 : 0 ≤ x8_1
    ·rw [if_pos c3] at H
     have c3b0 : decide (0 ≤ x8_1) = true := Z39 c3
     clear c3
     by_cases c4 : x8_1 < (l0.length : Int)
     ·rw [if_pos c4] at H
      have c4b0 : decide (x8_1 < (l0.length : Int)) = true := Z39 c4
      clear c4
      obtain ⟨ji5, hji5⟩ : ∃ j_ : Int, (mn (wrap64 (x3_1 * (rd l0 x8_1))) 1000001) = j_ := ⟨_, rfl⟩
      replace H : (impl_size.l0 k1 ji5 l0 (l0.length : Int) (wrap64 (x8_1 + 1))) = some r := by first | (rw [hji5] at H; exact H) | (simp only [hji5] at H ⊢; exact H)
      have hji5_ : (if 1000001 < (wrap64 (x3_1 * (rd l0 x8_1))) then 1000001 else (wrap64 (x3_1 * (rd l0 x8_1)))) = ji5 := hji5
      have H' := Aside0.mk H
      clear H
      have p248 : 0 ≤ (x8_1 : Int) := Z31 (by first | (with_reducible assumption) | assumption)
      have q248 : x8_1 < (l0.length : Int) := Z31 (by first | (with_reducible assumption) | assumption)
      obtain ⟨ad248, e248, hx248_0⟩ := Kd.at_int HR0.out x8_1 p248 q248
      cases e248
      try replace hx248_0 := (HB.out.cell (World.block_lt_of_cell? w _ hx248_0)).trans hx248_0
      replace p248 := eq_true p248
      replace q248 := eq_true q248
      go_wp2
      go_roundg k1
      case measure => have := HK1.out; omega
      case rel => exact ⟨(ji5), (wrap64 (x8_1 + 1)), (by first | rfl | (simp; done) | (simp only [← hji5] <;> (first | rfl | simp)) | (simp [*]; done)), (by first | rfl | (simp; done) | (simp [*]; done)), H', ⟨by have := HK1.out; omega⟩, ⟨by repeat (first | (with_reducible first | exact HB.out | apply Z5 | apply Z3 | apply Z4) | exact HB.out)⟩⟩
     ·rw [if_neg c4] at H
      exact absurd H (by simp)
    ·rw [if_neg c3] at H
     exact absurd H (by simp)
   ·rw [if_neg c2] at H
    have c2b0 : decide (x8_1 < (l0.length : Int)) = false := Z38 c2
    clear c2
    obtain rfl := Option.some.inj H
    go_wp2
    go_ret
    exact ⟨by first | rfl | (simp [errW_none, errW_some] <;> rfl) | (simp [*, errW_none, errW_some] <;> rfl), by repeat (first | (with_reducible first | exact HB.out | apply Z5 | apply Z3 | apply Z4) | exact HB.out)⟩
end Go.Proofs.Ytedijkelbdpcdaa.MFnExactFocusRank
