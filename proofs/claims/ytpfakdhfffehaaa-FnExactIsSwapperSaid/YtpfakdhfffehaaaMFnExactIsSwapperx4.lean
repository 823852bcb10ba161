import Derived.Test.YtpfakdhfffehaaaMFnExactIsSwapperx0
import Derived.Test.YtpfakdhfffehaaaMFnExactIsSwapperx1
import Derived.Test.YtpfakdhfffehaaaMFnExactIsSwapperx3
namespace Go.Proofs.Ytpfakdhfffehaaa.MFnExactIsSwapper
open Go.RowKit Go.Proofs.YtpfakdhfffehaaaW.PrintWords Go.Proofs.YtpfakdhfffehaaaW.PrintLast Go.Proofs.YtpfakdhfffehaaaW.PrintMore
attribute [local go_sem] max2_int min2_int max_two min_two max_three min_three max_four min_four   
set_option linter.unusedVariables false
set_option linter.unusedSimpArgs false
mutual
def spec_foSame.j0 : Nat → Bool → List Int → List Int → List Bool → List Int → List Int → List Int → List Bool → List Int → Option (Bool)
 | 0, _, _, _, _, _, _, _, _, _ => none
 | k + 1, x37, x214000, x214001, x214002, x214003, x215000, x215001, x215002, x215003 => if x37 = true then (some false) else (spec_foSame.l0 k x214002 (x214002.length : Int) 0 x215000 x215001 x215002 x215003)
def spec_foSame.l0 : Nat → List Bool → Int → Int → List Int → List Int → List Bool → List Int → Option (Bool)
 | 0, _, _, _, _, _, _, _ => none
 | k + 1, x39, x40, x41, x215000, x215001, x215002, x215003 => if x41 < x40 then (if 0 ≤ x41 then (if x41 < (x39.length : Int) then (if x41 < (x215002.length : Int) then (if ((rdOf false x39 x41) != (rdOf false x215002 x41)) = true then (some false) else (spec_foSame.l0 k x39 x40 (wrap64 (x41 + 1)) x215000 x215001 x215002 x215003)) else (none)) else (none)) else (none)) else (some true)
end
def spec_foSame.f (k : Nat) (l0_0 : List Int) (l0_1 : List Int) (l0_2 : List Bool) (l0_3 : List Int) (l1_0 : List Int) (l1_1 : List Int) (l1_2 : List Bool) (l1_3 : List Int) : Option (Bool) := (spec_l1Same.f k l0_0 l1_0).bind fun t215 => (if t215 = true then ((spec_l1Same.f k l0_1 l1_1).bind fun t216 => (if t216 = true then ((spec_l1Same.f k l0_3 l1_3).bind fun t217 => (if t217 = true then (spec_foSame.j0 k ((l0_2.length : Int) != (l1_2.length : Int)) l0_0 l0_1 l0_2 l0_3 l1_0 l1_1 l1_2 l1_3) else (spec_foSame.j0 k true l0_0 l0_1 l0_2 l0_3 l1_0 l1_1 l1_2 l1_3))) else (spec_foSame.j0 k true l0_0 l0_1 l0_2 l0_3 l1_0 l1_1 l1_2 l1_3))) else (spec_foSame.j0 k true l0_0 l0_1 l0_2 l0_3 l1_0 l1_1 l1_2 l1_3))
theorem spec_foSame.mono_l : ∀ k, (∀ y0 y1 y2 y3 y4 y5 y6 y7 y8, LeO (spec_foSame.j0 k y0 y1 y2 y3 y4 y5 y6 y7 y8) (spec_foSame.j0 (k + 1) y0 y1 y2 y3 y4 y5 y6 y7 y8)) ∧ (∀ y0 y1 y2 y3 y4 y5 y6, LeO (spec_foSame.l0 k y0 y1 y2 y3 y4 y5 y6) (spec_foSame.l0 (k + 1) y0 y1 y2 y3 y4 y5 y6))
 | 0 => ⟨fun _ _ _ _ _ _ _ _ _ r h => by simp [spec_foSame.j0] at h, fun _ _ _ _ _ _ _ r h => by simp [spec_foSame.l0] at h⟩
 | k + 1 => by
  obtain ⟨ih0, ih1⟩ := spec_foSame.mono_l k
  refine ⟨?_, ?_⟩
  ·intro y0 y1 y2 y3 y4 y5 y6 y7 y8
   unfold spec_foSame.j0
   repeat' first
   | (with_reducible exact ih0 _ _ _ _ _ _ _ _ _)
   | (with_reducible exact ih1 _ _ _ _ _ _ _)
   | (with_reducible exact spec_l1Same.mono _ _ _)
   | (with_reducible exact LeO.refl _)
   | (with_reducible exact LeO.none _)
   | (with_reducible refine LeO.ite ?_ ?_)
   | (with_reducible refine LeO.bind ?_ (fun _ => ?_))
   | exact ih0 _ _ _ _ _ _ _ _ _
   | exact ih1 _ _ _ _ _ _ _
   | exact spec_l1Same.mono _ _ _
   | exact LeO.none _
   | refine LeO.ite ?_ ?_
   | refine LeO.bind ?_ (fun _ => ?_)
  ·intro y0 y1 y2 y3 y4 y5 y6
   unfold spec_foSame.l0
   repeat' first
   | (with_reducible exact ih0 _ _ _ _ _ _ _ _ _)
   | (with_reducible exact ih1 _ _ _ _ _ _ _)
   | (with_reducible exact spec_l1Same.mono _ _ _)
   | (with_reducible exact LeO.refl _)
   | (with_reducible exact LeO.none _)
   | (with_reducible refine LeO.ite ?_ ?_)
   | (with_reducible refine LeO.bind ?_ (fun _ => ?_))
   | exact ih0 _ _ _ _ _ _ _ _ _
   | exact ih1 _ _ _ _ _ _ _
   | exact spec_l1Same.mono _ _ _
   | exact LeO.none _
   | refine LeO.ite ?_ ?_
   | refine LeO.bind ?_ (fun _ => ?_)
theorem spec_foSame.mono : ∀ a0 a1 a2 a3 a4 a5 a6 a7 k, LeO (spec_foSame.f k a0 a1 a2 a3 a4 a5 a6 a7) (spec_foSame.f (k + 1) a0 a1 a2 a3 a4 a5 a6 a7) := by
 intro a0 a1 a2 a3 a4 a5 a6 a7 k
 obtain ⟨ih0, ih1⟩ := spec_foSame.mono_l k
 unfold spec_foSame.f
 repeat' first
   | (with_reducible exact ih0 _ _ _ _ _ _ _ _ _)
   | (with_reducible exact ih1 _ _ _ _ _ _ _)
   | (with_reducible exact spec_l1Same.mono _ _ _)
   | (with_reducible exact LeO.refl _)
   | (with_reducible exact LeO.none _)
   | (with_reducible refine LeO.ite ?_ ?_)
   | (with_reducible refine LeO.bind ?_ (fun _ => ?_))
   | exact ih0 _ _ _ _ _ _ _ _ _
   | exact ih1 _ _ _ _ _ _ _
   | exact spec_l1Same.mono _ _ _
   | exact LeO.none _
   | refine LeO.ite ?_ ?_
   | refine LeO.bind ?_ (fun _ => ?_)
set_option maxHeartbeats 8000000 in
set_option maxRecDepth 100000 in
theorem spec_foSame.calls (k : Nat) (A0_0 : Option Addr) (c0_0 : Nat) (l0_0 : List Int) (A0_1 : Option Addr) (c0_1 : Nat) (l0_1 : List Int) (A0_2 : Option Addr) (c0_2 : Nat) (l0_2 : List Bool) (A0_3 : Option Addr) (c0_3 : Nat) (l0_3 : List Int) (A1_0 : Option Addr) (c1_0 : Nat) (l1_0 : List Int) (A1_1 : Option Addr) (c1_1 : Nat) (l1_1 : List Int) (A1_2 : Option Addr) (c1_2 : Nat) (l1_2 : List Bool) (A1_3 : Option Addr) (c1_3 : Nat) (l1_3 : List Int) (r : Bool) (w : World) (hr0_0 : Kd.C (Kd.int .i64) w A0_0 l0_0.length l0_0) (hc0_0 : l0_0.length ≤ c0_0) (hr0_1 : Kd.C (Kd.int .i64) w A0_1 l0_1.length l0_1) (hc0_1 : l0_1.length ≤ c0_1) (hr0_2 : Kd.C Kd.bool w A0_2 l0_2.length l0_2) (hc0_2 : l0_2.length ≤ c0_2) (hr0_3 : Kd.C (Kd.int .i64) w A0_3 l0_3.length l0_3) (hc0_3 : l0_3.length ≤ c0_3) (hr1_0 : Kd.C (Kd.int .i64) w A1_0 l1_0.length l1_0) (hc1_0 : l1_0.length ≤ c1_0) (hr1_1 : Kd.C (Kd.int .i64) w A1_1 l1_1.length l1_1) (hc1_1 : l1_1.length ≤ c1_1) (hr1_2 : Kd.C Kd.bool w A1_2 l1_2.length l1_2) (hc1_2 : l1_2.length ≤ c1_2) (hr1_3 : Kd.C (Kd.int .i64) w A1_3 l1_3.length l1_3) (hc1_3 : l1_3.length ≤ c1_3) (h : spec_foSame.f k l0_0 l0_1 l0_2 l0_3 l1_0 l1_1 l1_2 l1_3 = some r) :
  Calls Try.prog 62 #[.agg #[.slice A0_0 l0_0.length c0_0, .slice A0_1 l0_1.length c0_1, .slice A0_2 l0_2.length c0_2, .slice A0_3 l0_3.length c0_3], .agg #[.slice A1_0 l1_0.length c1_0, .slice A1_1 l1_1.length c1_1, .slice A1_2 l1_2.length c1_2, .slice A1_3 l1_3.length c1_3]] w fun e w' => e = .returned (.bool r) ∧ Below w.heap.size w w' := by
 have hu27 := Try.underlying27
 have HR0_0 := Ya hr0_0
 have HC0_0 := Ya hc0_0
 clear hr0_0 hc0_0
 have HR0_1 := Ya hr0_1
 have HC0_1 := Ya hc0_1
 clear hr0_1 hc0_1
 have HR0_2 := Ya hr0_2
 have HC0_2 := Ya hc0_2
 clear hr0_2 hc0_2
 have HR0_3 := Ya hr0_3
 have HC0_3 := Ya hc0_3
 clear hr0_3 hc0_3
 have HR1_0 := Ya hr1_0
 have HC1_0 := Ya hc1_0
 clear hr1_0 hc1_0
 have HR1_1 := Ya hr1_1
 have HC1_1 := Ya hc1_1
 clear hr1_1 hc1_1
 have HR1_2 := Ya hr1_2
 have HC1_2 := Ya hc1_2
 clear hr1_2 hc1_2
 have HR1_3 := Ya hr1_3
 have HC1_3 := Ya hc1_3
 clear hr1_3 hc1_3
 have HB := Ya (Below.refl w.heap.size w)
 have H : ((spec_l1Same.f k l0_0 l1_0).bind fun t215 => (if t215 = true then ((spec_l1Same.f k l0_1 l1_1).bind fun t216 => (if t216 = true then ((spec_l1Same.f k l0_3 l1_3).bind fun t217 => (if t217 = true then (spec_foSame.j0 k ((l0_2.length : Int) != (l1_2.length : Int)) l0_0 l0_1 l0_2 l0_3 l1_0 l1_1 l1_2 l1_3) else (spec_foSame.j0 k true l0_0 l0_1 l0_2 l0_3 l1_0 l1_1 l1_2 l1_3))) else (spec_foSame.j0 k true l0_0 l0_1 l0_2 l0_3 l1_0 l1_1 l1_2 l1_3))) else (spec_foSame.j0 k true l0_0 l0_1 l0_2 l0_3 l1_0 l1_1 l1_2 l1_3))) = some r := h
 clear h
 have HC3 := Ya H
 clear H
 go_enter Try.func62, Try.ntmps62
 go_upto_region 1 with (first | ((with_reducible refine gate_dst (N := 2) rfl ?_); (try (refine gate_guard (by rfl) ?_; dsimp only)); refine Yx 2 #[.slice A0_0 l0_0.length c0_0, .slice A0_1 l0_1.length c0_1, .slice A0_2 l0_2.length c0_2, .slice A0_3 l0_3.length c0_3] 27 ?_; intro gb213 hg w4 hbox hb; have BK213 := Ya hbox; have GE213 := Yg hg; replace HB := Yh hb; clear hb hbox hg) | ((with_reducible refine gate_dst (N := 3) rfl ?_); (try (refine gate_guard (by rfl) ?_; dsimp only)); refine Yx 3 #[.slice A1_0 l1_0.length c1_0, .slice A1_1 l1_1.length c1_1, .slice A1_2 l1_2.length c1_2, .slice A1_3 l1_3.length c1_3] 27 ?_; intro gb214 hg w5 hbox hb; have BK214 := Ya hbox; have GE214 := Yg hg; replace HB := Yh hb; have NB213_214 := Yn BK213 hg; have NB214_213 := Ym BK213 hg; replace BK213 := Yb BK213 hb; clear hb hbox hg))
 (try simp only [Act.put, Z0, Z1, Z2])
 go_cut [37] (fun v37 wc => ∃ (kq : Nat) (x37_2 : Bool), v37 = .bool x37_2 ∧ Aside0 (spec_foSame.j0 kq x37_2 l0_0 l0_1 l0_2 l0_3 l1_0 l1_1 l1_2 l1_3 = some r) ∧ Aside0 (kq ≤ k) ∧ Aside0 (wc.heap[gb213]? = some (.cells #[(.slice A0_0 l0_0.length c0_0), (.slice A0_1 l0_1.length c0_1), (.slice A0_2 l0_2.length c0_2), (.slice A0_3 l0_3.length c0_3)] 27 (0, 0))) ∧ Aside0 (wc.heap[gb214]? = some (.cells #[(.slice A1_0 l1_0.length c1_0), (.slice A1_1 l1_1.length c1_1), (.slice A1_2 l1_2.length c1_2), (.slice A1_3 l1_3.length c1_3)] 27 (0, 0))) ∧ Aside0 (Below w.heap.size w wc))
 case first =>
  have H := HC3.out
  clear HC3
  replace H := Z33.mp H
  obtain ⟨t215, A60, H⟩ := H
  replace H : (if t215 = true then ((spec_l1Same.f k l0_1 l1_1).bind fun t216 => (if t216 = true then ((spec_l1Same.f k l0_3 l1_3).bind fun t217 => (if t217 = true then (spec_foSame.j0 k ((l0_2.length : Int) != (l1_2.length : Int)) l0_0 l0_1 l0_2 l0_3 l1_0 l1_1 l1_2 l1_3) else (spec_foSame.j0 k true l0_0 l0_1 l0_2 l0_3 l1_0 l1_1 l1_2 l1_3))) else (spec_foSame.j0 k true l0_0 l0_1 l0_2 l0_3 l1_0 l1_1 l1_2 l1_3))) else (spec_foSame.j0 k true l0_0 l0_1 l0_2 l0_3 l1_0 l1_1 l1_2 l1_3)) = some r := H
  have A6 := Ya A60
  clear A60
  by_cases c7 : t215 = true
  ·subst c7
   have H1 : ((spec_l1Same.f k l0_1 l1_1).bind fun t216 => (if t216 = true then ((spec_l1Same.f k l0_3 l1_3).bind fun t217 => (if t217 = true then (spec_foSame.j0 k ((l0_2.length : Int) != (l1_2.length : Int)) l0_0 l0_1 l0_2 l0_3 l1_0 l1_1 l1_2 l1_3) else (spec_foSame.j0 k true l0_0 l0_1 l0_2 l0_3 l1_0 l1_1 l1_2 l1_3))) else (spec_foSame.j0 k true l0_0 l0_1 l0_2 l0_3 l1_0 l1_1 l1_2 l1_3))) = some r := by rw [if_pos rfl] at H; exact H
   clear H
   have H := H1
   clear H1
   replace H := Z33.mp H
   obtain ⟨t216, A80, H⟩ := H
   replace H : (if t216 = true then ((spec_l1Same.f k l0_3 l1_3).bind fun t217 => (if t217 = true then (spec_foSame.j0 k ((l0_2.length : Int) != (l1_2.length : Int)) l0_0 l0_1 l0_2 l0_3 l1_0 l1_1 l1_2 l1_3) else (spec_foSame.j0 k true l0_0 l0_1 l0_2 l0_3 l1_0 l1_1 l1_2 l1_3))) else (spec_foSame.j0 k true l0_0 l0_1 l0_2 l0_3 l1_0 l1_1 l1_2 l1_3)) = some r := H
   have A8 := Ya A80
   clear A80
   by_cases c9 : t216 = true
   ·subst c9
    have H1 : ((spec_l1Same.f k l0_3 l1_3).bind fun t217 => (if t217 = true then (spec_foSame.j0 k ((l0_2.length : Int) != (l1_2.length : Int)) l0_0 l0_1 l0_2 l0_3 l1_0 l1_1 l1_2 l1_3) else (spec_foSame.j0 k true l0_0 l0_1 l0_2 l0_3 l1_0 l1_1 l1_2 l1_3))) = some r := by rw [if_pos rfl] at H; exact H
    clear H
    have H := H1
    clear H1
    replace H := Z33.mp H
    obtain ⟨t217, A100, H⟩ := H
    replace H : (if t217 = true then (spec_foSame.j0 k ((l0_2.length : Int) != (l1_2.length : Int)) l0_0 l0_1 l0_2 l0_3 l1_0 l1_1 l1_2 l1_3) else (spec_foSame.j0 k true l0_0 l0_1 l0_2 l0_3 l1_0 l1_1 l1_2 l1_3)) = some r := H
    have A10 := Ya A100
    clear A100
    by_cases c11 : t217 = true
    ·subst c11
     have H1 : (spec_foSame.j0 k ((l0_2.length : Int) != (l1_2.length : Int)) l0_0 l0_1 l0_2 l0_3 l1_0 l1_1 l1_2 l1_3) = some r := by rw [if_pos rfl] at H; exact H
     clear H
     have H := H1
     clear H1
     have H' := Ya H
     clear H
     have hnb12 := NB213_214.out
     have hnc12 := NB214_213.out
     obtain ⟨hcz13_0, hcz13_1, hcz13_2, hcz13_3, hfz13_0, hfz13_1, hfz13_2, hfz13_3⟩ := Y4 BK213.out
     obtain ⟨hcz14_0, hcz14_1, hcz14_2, hcz14_3, hfz14_0, hfz14_1, hfz14_2, hfz14_3⟩ := Y4 BK214.out
     go_wp2_with (first | ((with_reducible refine gate_callee (f := 70) rfl ?_); refine Yz 11 Try.func70 #[.slice A0_0 l0_0.length c0_0, .slice A1_0 l1_0.length c1_0] ?_; (with_reducible refine (spec_l1Same.calls k _ _ l0_0 _ _ l1_0 true _ (Yc (Z19 HR0_0.out HB.out)) HC0_0.out (Yc (Z19 HR1_0.out HB.out)) HC1_0.out A6.out).mono ?_); rintro e w' ⟨rfl, ⟨nd, rfl⟩⟩; refine ⟨_, rfl, ?_⟩) | (go_at_call 70; (with_reducible refine (spec_l1Same.calls k _ _ l0_1 _ _ l1_1 true _ ?side1 HC0_1.out ?side3 HC1_1.out A8.out).mono ?_); (case side1 => exact Yc (Z19 HR0_1.out Q0)); (case side3 => exact Yc (Z19 HR1_1.out Q0)); rintro e w' ⟨rfl, ⟨nd, rfl⟩⟩) | (go_at_call 70; (with_reducible refine (spec_l1Same.calls k _ _ l0_3 _ _ l1_3 true _ ?side1 HC0_3.out ?side3 HC1_3.out A10.out).mono ?_); (case side1 => exact Yc (Z19 HR0_3.out Q0)); (case side3 => exact Yc (Z19 HR1_3.out Q0)); rintro e w' ⟨rfl, ⟨nd, rfl⟩⟩))
     go_meet
     case rel => exact ⟨_, (((l0_2.length : Int) != (l1_2.length : Int))), Q7, H', ⟨Q43⟩, ⟨Q36⟩, ⟨Q35⟩, ⟨Q12⟩⟩
    ·replace c11 := Bool.eq_false_iff.mpr c11
     subst c11
     have H1 : (spec_foSame.j0 k true l0_0 l0_1 l0_2 l0_3 l1_0 l1_1 l1_2 l1_3) = some r := by rw [if_neg (show ¬ (false = true) by decide)] at H; exact H
     clear H
     have H := H1
     clear H1
     have H' := Ya H
     clear H
     have hnb15 := NB213_214.out
     have hnc15 := NB214_213.out
     obtain ⟨hcz16_0, hcz16_1, hcz16_2, hcz16_3, hfz16_0, hfz16_1, hfz16_2, hfz16_3⟩ := Y4 BK213.out
     obtain ⟨hcz17_0, hcz17_1, hcz17_2, hcz17_3, hfz17_0, hfz17_1, hfz17_2, hfz17_3⟩ := Y4 BK214.out
     go_wp2_with (first | ((with_reducible refine gate_callee (f := 70) rfl ?_); refine Yz 11 Try.func70 #[.slice A0_0 l0_0.length c0_0, .slice A1_0 l1_0.length c1_0] ?_; (with_reducible refine (spec_l1Same.calls k _ _ l0_0 _ _ l1_0 true _ (Yc (Z19 HR0_0.out HB.out)) HC0_0.out (Yc (Z19 HR1_0.out HB.out)) HC1_0.out A6.out).mono ?_); rintro e w' ⟨rfl, ⟨nd, rfl⟩⟩; refine ⟨_, rfl, ?_⟩) | (go_at_call 70; (with_reducible refine (spec_l1Same.calls k _ _ l0_1 _ _ l1_1 true _ ?side1 HC0_1.out ?side3 HC1_1.out A8.out).mono ?_); (case side1 => exact Yc (Z19 HR0_1.out Q0)); (case side3 => exact Yc (Z19 HR1_1.out Q0)); rintro e w' ⟨rfl, ⟨nd, rfl⟩⟩) | (go_at_call 70; (with_reducible refine (spec_l1Same.calls k _ _ l0_3 _ _ l1_3 false _ ?side1 HC0_3.out ?side3 HC1_3.out A10.out).mono ?_); (case side1 => exact Yc (Z19 HR0_3.out Q0)); (case side3 => exact Yc (Z19 HR1_3.out Q0)); rintro e w' ⟨rfl, ⟨nd, rfl⟩⟩))
     go_meet
     case rel => exact ⟨_, (true), Q7, H', ⟨Q43⟩, ⟨Q36⟩, ⟨Q35⟩, ⟨Q12⟩⟩
   ·replace c9 := Bool.eq_false_iff.mpr c9
    subst c9
    have H1 : (spec_foSame.j0 k true l0_0 l0_1 l0_2 l0_3 l1_0 l1_1 l1_2 l1_3) = some r := by rw [if_neg (show ¬ (false = true) by decide)] at H; exact H
    clear H
    have H := H1
    clear H1
    have H' := Ya H
    clear H
    have hnb18 := NB213_214.out
    have hnc18 := NB214_213.out
    obtain ⟨hcz19_0, hcz19_1, hcz19_2, hcz19_3, hfz19_0, hfz19_1, hfz19_2, hfz19_3⟩ := Y4 BK213.out
    obtain ⟨hcz20_0, hcz20_1, hcz20_2, hcz20_3, hfz20_0, hfz20_1, hfz20_2, hfz20_3⟩ := Y4 BK214.out
    go_wp2_with (first | ((with_reducible refine gate_callee (f := 70) rfl ?_); refine Yz 11 Try.func70 #[.slice A0_0 l0_0.length c0_0, .slice A1_0 l1_0.length c1_0] ?_; (with_reducible refine (spec_l1Same.calls k _ _ l0_0 _ _ l1_0 true _ (Yc (Z19 HR0_0.out HB.out)) HC0_0.out (Yc (Z19 HR1_0.out HB.out)) HC1_0.out A6.out).mono ?_); rintro e w' ⟨rfl, ⟨nd, rfl⟩⟩; refine ⟨_, rfl, ?_⟩) | (go_at_call 70; (with_reducible refine (spec_l1Same.calls k _ _ l0_1 _ _ l1_1 false _ ?side1 HC0_1.out ?side3 HC1_1.out A8.out).mono ?_); (case side1 => exact Yc (Z19 HR0_1.out Q0)); (case side3 => exact Yc (Z19 HR1_1.out Q0)); rintro e w' ⟨rfl, ⟨nd, rfl⟩⟩))
    go_meet
    case rel => exact ⟨_, (true), Q7, H', ⟨Q43⟩, ⟨Q36⟩, ⟨Q35⟩, ⟨Q12⟩⟩
  ·replace c7 := Bool.eq_false_iff.mpr c7
   subst c7
   have H1 : (spec_foSame.j0 k true l0_0 l0_1 l0_2 l0_3 l1_0 l1_1 l1_2 l1_3) = some r := by rw [if_neg (show ¬ (false = true) by decide)] at H; exact H
   clear H
   have H := H1
   clear H1
   have H' := Ya H
   clear H
   have hnb21 := NB213_214.out
   have hnc21 := NB214_213.out
   obtain ⟨hcz22_0, hcz22_1, hcz22_2, hcz22_3, hfz22_0, hfz22_1, hfz22_2, hfz22_3⟩ := Y4 BK213.out
   obtain ⟨hcz23_0, hcz23_1, hcz23_2, hcz23_3, hfz23_0, hfz23_1, hfz23_2, hfz23_3⟩ := Y4 BK214.out
   go_wp2_with (first | ((with_reducible refine gate_callee (f := 70) rfl ?_); refine Yz 11 Try.func70 #[.slice A0_0 l0_0.length c0_0, .slice A1_0 l1_0.length c1_0] ?_; (with_reducible refine (spec_l1Same.calls k _ _ l0_0 _ _ l1_0 false _ (Yc (Z19 HR0_0.out HB.out)) HC0_0.out (Yc (Z19 HR1_0.out HB.out)) HC1_0.out A6.out).mono ?_); rintro e w' ⟨rfl, ⟨nd, rfl⟩⟩; refine ⟨_, rfl, ?_⟩))
   go_meet
   case rel => exact ⟨_, (true), Q7, H', ⟨Q43⟩, ⟨Q36⟩, ⟨Q35⟩, ⟨Q12⟩⟩
 case rest =>
  clear HC3
  try clear c1
  try clear c2
  try clear p2
  try clear c6
  try clear c7
  try clear c9
  try clear c11
  try clear c12
  try clear c15
  try clear c18
  try clear c21
  try clear hcz13_0
  try clear hcz13_1
  try clear hcz13_2
  try clear hcz13_3
  try clear hcz14_0
  try clear hcz14_1
  try clear hcz14_2
  try clear hcz14_3
  try clear hcz16_0
  try clear hcz16_1
  try clear hcz16_2
  try clear hcz16_3
  try clear hcz17_0
  try clear hcz17_1
  try clear hcz17_2
  try clear hcz17_3
  try clear hcz19_0
  try clear hcz19_1
  try clear hcz19_2
  try clear hcz19_3
  try clear hcz20_0
  try clear hcz20_1
  try clear hcz20_2
  try clear hcz20_3
  try clear hcz22_0
  try clear hcz22_1
  try clear hcz22_2
  try clear hcz22_3
  try clear hcz23_0
  try clear hcz23_1
  try clear hcz23_2
  try clear hcz23_3
  try clear hfz13_0
  try clear hfz13_1
  try clear hfz13_2
  try clear hfz13_3
  try clear hfz14_0
  try clear hfz14_1
  try clear hfz14_2
  try clear hfz14_3
  try clear hfz16_0
  try clear hfz16_1
  try clear hfz16_2
  try clear hfz16_3
  try clear hfz17_0
  try clear hfz17_1
  try clear hfz17_2
  try clear hfz17_3
  try clear hfz19_0
  try clear hfz19_1
  try clear hfz19_2
  try clear hfz19_3
  try clear hfz20_0
  try clear hfz20_1
  try clear hfz20_2
  try clear hfz20_3
  try clear hfz22_0
  try clear hfz22_1
  try clear hfz22_2
  try clear hfz22_3
  try clear hfz23_0
  try clear hfz23_1
  try clear hfz23_2
  try clear hfz23_3
  obtain ⟨kq, x37_2, rfl, HA, HJ2, BK213, BK214, HB⟩ := hcut
  cases kq with
  | zero => exact absurd HA.out (by simp [spec_foSame.j0])
  | succ kj2 =>
   have H := HA.out
   clear HA
   simp only [spec_foSame.j0] at H
   by_cases c24 : x37_2 = true
   ·subst c24
    have H1 : (some false) = some r := by rw [if_pos rfl] at H; exact H
    clear H
    have H := H1
    clear H1
    obtain rfl := Option.some.inj H
    go_wp2
    go_ret
    exact ⟨Q2, Q12⟩
   ·replace c24 := Bool.eq_false_iff.mpr c24
    subst c24
    have H1 : (spec_foSame.l0 kj2 l0_2 (l0_2.length : Int) 0 l1_0 l1_1 l1_2 l1_3) = some r := by rw [if_neg (show ¬ (false = true) by decide)] at H; exact H
    clear H
    have H := H1
    clear H1
    have H' := Ya H
    clear H
    have hnb25 := NB213_214.out
    have hnc25 := NB214_213.out
    obtain ⟨hcz26_0, hcz26_1, hcz26_2, hcz26_3, hfz26_0, hfz26_1, hfz26_2, hfz26_3⟩ := Y4 BK213.out
    go_wp2
    go_loopg [41] kj2 (fun kq v41 w' => ∃ (x41_2 : Int), v41 = .int .i64 x41_2 ∧ Aside0 (spec_foSame.l0 kq l0_2 (l0_2.length : Int) x41_2 l1_0 l1_1 l1_2 l1_3 = some r) ∧ Aside0 (kq ≤ kj2) ∧ Aside0 (w'.heap[gb213]? = some (.cells #[(.slice A0_0 l0_0.length c0_0), (.slice A0_1 l0_1.length c0_1), (.slice A0_2 l0_2.length c0_2), (.slice A0_3 l0_3.length c0_3)] 27 (0, 0))) ∧ Aside0 (w'.heap[gb214]? = some (.cells #[(.slice A1_0 l1_0.length c1_0), (.slice A1_1 l1_1.length c1_1), (.slice A1_2 l1_2.length c1_2), (.slice A1_3 l1_3.length c1_3)] 27 (0, 0))) ∧ Aside0 (Below w.heap.size w w'))
    case atStart => exact ⟨(0), Q7, H', ⟨Nat.le_refl _⟩, ⟨Q36⟩, ⟨Q35⟩, ⟨Q12⟩⟩
    case round =>
     clear H'
     try clear c1
     try clear c2
     try clear p2
     try clear c6
     try clear c7
     try clear c9
     try clear c11
     try clear c12
     try clear c15
     try clear c18
     try clear c21
     try clear c24
     try clear c25
     try clear hcz13_0
     try clear hcz13_1
     try clear hcz13_2
     try clear hcz13_3
     try clear hcz14_0
     try clear hcz14_1
     try clear hcz14_2
     try clear hcz14_3
     try clear hcz16_0
     try clear hcz16_1
     try clear hcz16_2
     try clear hcz16_3
     try clear hcz17_0
     try clear hcz17_1
     try clear hcz17_2
     try clear hcz17_3
     try clear hcz19_0
     try clear hcz19_1
     try clear hcz19_2
     try clear hcz19_3
     try clear hcz20_0
     try clear hcz20_1
     try clear hcz20_2
     try clear hcz20_3
     try clear hcz22_0
     try clear hcz22_1
     try clear hcz22_2
     try clear hcz22_3
     try clear hcz23_0
     try clear hcz23_1
     try clear hcz23_2
     try clear hcz23_3
     try clear hcz26_0
     try clear hcz26_1
     try clear hcz26_2
     try clear hcz26_3
     try clear hfz13_0
     try clear hfz13_1
     try clear hfz13_2
     try clear hfz13_3
     try clear hfz14_0
     try clear hfz14_1
     try clear hfz14_2
     try clear hfz14_3
     try clear hfz16_0
     try clear hfz16_1
     try clear hfz16_2
     try clear hfz16_3
     try clear hfz17_0
     try clear hfz17_1
     try clear hfz17_2
     try clear hfz17_3
     try clear hfz19_0
     try clear hfz19_1
     try clear hfz19_2
     try clear hfz19_3
     try clear hfz20_0
     try clear hfz20_1
     try clear hfz20_2
     try clear hfz20_3
     try clear hfz22_0
     try clear hfz22_1
     try clear hfz22_2
     try clear hfz22_3
     try clear hfz23_0
     try clear hfz23_1
     try clear hfz23_2
     try clear hfz23_3
     try clear hfz26_0
     try clear hfz26_1
     try clear hfz26_2
     try clear hfz26_3
     try clear p2
     obtain ⟨x41_2, rfl, HA, HK2, BK213, BK214, HB⟩ := hrel
     cases gk with
     | zero => exact absurd HA.out (by simp [spec_foSame.l0])
     | succ k2 =>
      have H := HA.out
      clear HA
      simp only [spec_foSame.l0] at H
      by_cases c27 : x41_2 < (l0_2.length : Int)
      ·rw [if_pos c27] at H
       have c27b0 : decide (x41_2 < (l0_2.length : Int)) = true := Z35 c27
       clear c27
       by_cases c28 : 0 ≤ x41_2
       ·rw [if_pos c28] at H
        have c28b0 : decide (0 ≤ x41_2) = true := Z35 c28
        clear c28
        by_cases c29 : x41_2 < (l0_2.length : Int)
        ·rw [if_pos c29] at H
         have c29b0 : decide (x41_2 < (l0_2.length : Int)) = true := Z35 c29
         clear c29
         by_cases c30 : x41_2 < (l1_2.length : Int)
         ·rw [if_pos c30] at H
          have c30b0 : decide (x41_2 < (l1_2.length : Int)) = true := Z35 c30
          clear c30
          by_cases c31 : ((rdOf false l0_2 x41_2) != (rdOf false l1_2 x41_2)) = true
          ·rw [if_pos c31] at H
           have c31b0 : ((rdOf false l0_2 x41_2) != (rdOf false l1_2 x41_2)) = true := c31
           (try (have c31b1 : decide ((rdOf false l0_2 x41_2) = (rdOf false l1_2 x41_2)) = false := by simpa using c31))
           (try (have c31b2 : ((rdOf false l0_2 x41_2) == (rdOf false l1_2 x41_2)) = false := by simpa using c31))
           (try (have c31b3 : ¬ ((rdOf false l0_2 x41_2) = (rdOf false l1_2 x41_2)) := by simpa using c31))
           clear c31
           obtain rfl := Option.some.inj H
           have p218 : 0 ≤ (x41_2 : Int) := Z27 Q1
           have q218 : x41_2 < (l0_2.length : Int) := Z27 Q1
           obtain ⟨ad218, e218, hx218_0⟩ := Kd.at_bool HR0_2.out x41_2 p218 q218
           cases e218
           try replace hx218_0 := (HB.out.cell (World.block_lt_of_cell? w _ hx218_0)).trans hx218_0
           replace p218 := eq_true p218
           replace q218 := eq_true q218
           have hnb32 := NB214_213.out
           have hnc32 := NB213_214.out
           have hz33 := Y4 BK214.out
           have p219 : 0 ≤ (x41_2 : Int) := Z27 Q1
           have q219 : x41_2 < (l1_2.length : Int) := Z27 Q1
           obtain ⟨ad219, e219, hx219_0⟩ := Kd.at_bool HR1_2.out x41_2 p219 q219
           cases e219
           try replace hx219_0 := (HB.out.cell (World.block_lt_of_cell? w _ hx219_0)).trans hx219_0
           replace p219 := eq_true p219
           replace q219 := eq_true q219
           go_wp2
           go_ret
           exact ⟨Q2, Q12⟩
          ·rw [if_neg c31] at H
           have c31b0 : ((rdOf false l0_2 x41_2) != (rdOf false l1_2 x41_2)) = false := by simpa using c31
           (try (have c31b1 : decide ((rdOf false l0_2 x41_2) = (rdOf false l1_2 x41_2)) = true := by simpa using c31))
           (try (have c31b2 : ((rdOf false l0_2 x41_2) == (rdOf false l1_2 x41_2)) = true := by simpa using c31))
           clear c31
           have H' := Ya H
           clear H
           have p218 : 0 ≤ (x41_2 : Int) := Z27 Q1
           have q218 : x41_2 < (l0_2.length : Int) := Z27 Q1
           obtain ⟨ad218, e218, hx218_0⟩ := Kd.at_bool HR0_2.out x41_2 p218 q218
           cases e218
           try replace hx218_0 := (HB.out.cell (World.block_lt_of_cell? w _ hx218_0)).trans hx218_0
           replace p218 := eq_true p218
           replace q218 := eq_true q218
           have hnb34 := NB214_213.out
           have hnc34 := NB213_214.out
           have hz35 := Y4 BK214.out
           have p219 : 0 ≤ (x41_2 : Int) := Z27 Q1
           have q219 : x41_2 < (l1_2.length : Int) := Z27 Q1
           obtain ⟨ad219, e219, hx219_0⟩ := Kd.at_bool HR1_2.out x41_2 p219 q219
           cases e219
           try replace hx219_0 := (HB.out.cell (World.block_lt_of_cell? w _ hx219_0)).trans hx219_0
           replace p219 := eq_true p219
           replace q219 := eq_true q219
           go_wp2
           go_roundg k2
           case measure => have := HJ2.out; have := HK2.out; omega
           case rel => exact ⟨(wrap64 (x41_2 + 1)), Q7, H', ⟨by have := HJ2.out; have := HK2.out; omega⟩, ⟨Q36⟩, ⟨Q35⟩, ⟨Q12⟩⟩
         ·rw [if_neg c30] at H
          exact absurd H (by simp)
        ·rw [if_neg c29] at H
         exact absurd H (by simp)
       ·rw [if_neg c28] at H
        exact absurd H (by simp)
      ·rw [if_neg c27] at H
       have c27b0 : decide (x41_2 < (l0_2.length : Int)) = false := Z34 c27
       clear c27
       obtain rfl := Option.some.inj H
       go_wp2
       go_ret
       exact ⟨Q2, Q12⟩
def spec_foGood.j0 : Nat → Bool → List Int → List Int → List Bool → List Int → Option (Bool)
 | 0, _, _, _, _, _ => none
 | k + 1, x16, x221000, x221001, x221002, x221003 => if x16 = true then (some false) else ((spec_gcMixedRank.f k x221000 x221001).bind fun t223 => ((spec_foAt.f k x221000 t223).bind fun bt224 => (if bt224.2.2.2.2 = true then ((spec_foSame.f k x221000 x221001 x221002 x221003 bt224.1 bt224.2.1 bt224.2.2.1 bt224.2.2.2.1).bind fun t238 => (some t238)) else (some false))))
def spec_foGood.f (k : Nat) (l0_0 : List Int) (l0_1 : List Int) (l0_2 : List Bool) (l0_3 : List Int) : Option (Bool) := (spec_foBases.f k l0_0).bind fun t221 => (if t221 = true then ((spec_raAreDigits.f k l0_0 l0_1).bind fun t222 => (spec_foGood.j0 k (!t222) l0_0 l0_1 l0_2 l0_3)) else (spec_foGood.j0 k true l0_0 l0_1 l0_2 l0_3))
theorem spec_foGood.mono_l : ∀ k, (∀ y0 y1 y2 y3 y4, LeO (spec_foGood.j0 k y0 y1 y2 y3 y4) (spec_foGood.j0 (k + 1) y0 y1 y2 y3 y4))
 | 0 => fun _ _ _ _ _ r h => by simp [spec_foGood.j0] at h
 | k + 1 => by
  have ih0 := spec_foGood.mono_l k
  ·intro y0 y1 y2 y3 y4
   unfold spec_foGood.j0
   repeat' first
   | (with_reducible exact ih0 _ _ _ _ _)
   | (with_reducible exact spec_foAt.mono _ _ _)
   | (with_reducible exact spec_foBases.mono _ _)
   | (with_reducible exact spec_foSame.mono _ _ _ _ _ _ _ _ _)
   | (with_reducible exact spec_gcMixedRank.mono _ _ _)
   | (with_reducible exact spec_raAreDigits.mono _ _ _)
   | (with_reducible exact LeO.refl _)
   | (with_reducible exact LeO.none _)
   | (with_reducible refine LeO.ite ?_ ?_)
   | (with_reducible refine LeO.bind ?_ (fun _ => ?_))
   | exact ih0 _ _ _ _ _
   | exact spec_foAt.mono _ _ _
   | exact spec_foBases.mono _ _
   | exact spec_foSame.mono _ _ _ _ _ _ _ _ _
   | exact spec_gcMixedRank.mono _ _ _
   | exact spec_raAreDigits.mono _ _ _
   | exact LeO.none _
   | refine LeO.ite ?_ ?_
   | refine LeO.bind ?_ (fun _ => ?_)
theorem spec_foGood.mono : ∀ a0 a1 a2 a3 k, LeO (spec_foGood.f k a0 a1 a2 a3) (spec_foGood.f (k + 1) a0 a1 a2 a3) := by
 intro a0 a1 a2 a3 k
 have ih0 := spec_foGood.mono_l k
 unfold spec_foGood.f
 repeat' first
   | (with_reducible exact ih0 _ _ _ _ _)
   | (with_reducible exact spec_foAt.mono _ _ _)
   | (with_reducible exact spec_foBases.mono _ _)
   | (with_reducible exact spec_foSame.mono _ _ _ _ _ _ _ _ _)
   | (with_reducible exact spec_gcMixedRank.mono _ _ _)
   | (with_reducible exact spec_raAreDigits.mono _ _ _)
   | (with_reducible exact LeO.refl _)
   | (with_reducible exact LeO.none _)
   | (with_reducible refine LeO.ite ?_ ?_)
   | (with_reducible refine LeO.bind ?_ (fun _ => ?_))
   | exact ih0 _ _ _ _ _
   | exact spec_foAt.mono _ _ _
   | exact spec_foBases.mono _ _
   | exact spec_foSame.mono _ _ _ _ _ _ _ _ _
   | exact spec_gcMixedRank.mono _ _ _
   | exact spec_raAreDigits.mono _ _ _
   | exact LeO.none _
   | refine LeO.ite ?_ ?_
   | refine LeO.bind ?_ (fun _ => ?_)
def spec_foGood.T3 : Bool × List (List Nat × List Nat) := (true, [([], []), ([0], [0]), ([], []), ([2], [2]), ([], []), ([4], [4]), ([3, 5], [3, 5]), ([1, 6, 6], [1, 6]), ([7], [7]), ([8], [8]), ([8], [8]), ([], []), ([11, 9, 7, 0, 1, 2, 3, 4, 5, 6, 7, 8, 9, 11], [9, 11]), ([10, 12, 0, 1, 2, 3, 4, 5, 6, 7, 8, 9, 10, 11, 12], [10])])
def spec_foGood.B3 : List Nat := [0, 1, 0, 4, 0, 16, 60, 127, 255, 511, 511, 0, 3071, 8191]
theorem spec_foGood.tab3 : rtab .any (opsOf Try.f30 3) = spec_foGood.T3 := by kernel_rfl
theorem spec_foGood.bits3 : waitsOk spec_foGood.T3.2 spec_foGood.B3 = true := by kernel_rfl
set_option maxHeartbeats 8000000 in
set_option maxRecDepth 100000 in
theorem spec_foGood.calls (k : Nat) (A0_0 : Option Addr) (c0_0 : Nat) (l0_0 : List Int) (A0_1 : Option Addr) (c0_1 : Nat) (l0_1 : List Int) (A0_2 : Option Addr) (c0_2 : Nat) (l0_2 : List Bool) (A0_3 : Option Addr) (c0_3 : Nat) (l0_3 : List Int) (r : Bool) (w : World) (hr0_0 : Kd.C (Kd.int .i64) w A0_0 l0_0.length l0_0) (hc0_0 : l0_0.length ≤ c0_0) (hr0_1 : Kd.C (Kd.int .i64) w A0_1 l0_1.length l0_1) (hc0_1 : l0_1.length ≤ c0_1) (hr0_2 : Kd.C Kd.bool w A0_2 l0_2.length l0_2) (hc0_2 : l0_2.length ≤ c0_2) (hr0_3 : Kd.C (Kd.int .i64) w A0_3 l0_3.length l0_3) (hc0_3 : l0_3.length ≤ c0_3) (h : spec_foGood.f k l0_0 l0_1 l0_2 l0_3 = some r) :
  Calls Try.prog 30 #[.agg #[.slice A0_0 l0_0.length c0_0, .slice A0_1 l0_1.length c0_1, .slice A0_2 l0_2.length c0_2, .slice A0_3 l0_3.length c0_3]] w fun e w' => e = .returned (.bool r) ∧ Below w.heap.size w w' := by
 have hu27 := Try.underlying27
 have HR0_0 := Ya hr0_0
 have HC0_0 := Ya hc0_0
 clear hr0_0 hc0_0
 have HR0_1 := Ya hr0_1
 have HC0_1 := Ya hc0_1
 clear hr0_1 hc0_1
 have HR0_2 := Ya hr0_2
 have HC0_2 := Ya hc0_2
 clear hr0_2 hc0_2
 have HR0_3 := Ya hr0_3
 have HC0_3 := Ya hc0_3
 clear hr0_3 hc0_3
 have HB := Ya (Below.refl w.heap.size w)
 have H : ((spec_foBases.f k l0_0).bind fun t221 => (if t221 = true then ((spec_raAreDigits.f k l0_0 l0_1).bind fun t222 => (spec_foGood.j0 k (!t222) l0_0 l0_1 l0_2 l0_3)) else (spec_foGood.j0 k true l0_0 l0_1 l0_2 l0_3))) = some r := h
 clear h
 have HC2 := Ya H
 clear H
 go_enter Try.func30, Try.ntmps30
 go_upto_region 1 with (first | ((with_reducible refine gate_dst (N := 1) rfl ?_); refine Yx 1 #[.slice A0_0 l0_0.length c0_0, .slice A0_1 l0_1.length c0_1, .slice A0_2 l0_2.length c0_2, .slice A0_3 l0_3.length c0_3] 27 ?_; intro gb220 hg w3 hbox hb; have BK220 := Ya hbox; have GW220 := Yg hg; have GE220 := GW220; replace HB := Yh hb; clear hb hbox hg))
 (try simp only [Act.put, Z0, Z1, Z2])
 go_cut [16] (fun v16 wc => ∃ (kq : Nat) (x16_1 : Bool), v16 = .bool x16_1 ∧ Aside0 (spec_foGood.j0 kq x16_1 l0_0 l0_1 l0_2 l0_3 = some r) ∧ Aside0 (kq ≤ k) ∧ Aside0 (wc.heap[gb220]? = some (.cells #[(.slice A0_0 l0_0.length c0_0), (.slice A0_1 l0_1.length c0_1), (.slice A0_2 l0_2.length c0_2), (.slice A0_3 l0_3.length c0_3)] 27 (0, 0))) ∧ Aside0 (Below w.heap.size w wc))
 case first =>
  have H := HC2.out
  clear HC2
  replace H := Z33.mp H
  obtain ⟨t221, A40, H⟩ := H
  replace H : (if t221 = true then ((spec_raAreDigits.f k l0_0 l0_1).bind fun t222 => (spec_foGood.j0 k (!t222) l0_0 l0_1 l0_2 l0_3)) else (spec_foGood.j0 k true l0_0 l0_1 l0_2 l0_3)) = some r := H
  have A4 := Ya A40
  clear A40
  by_cases c5 : t221 = true
  ·subst c5
   have H1 : ((spec_raAreDigits.f k l0_0 l0_1).bind fun t222 => (spec_foGood.j0 k (!t222) l0_0 l0_1 l0_2 l0_3)) = some r := by rw [if_pos rfl] at H; exact H
   clear H
   have H := H1
   clear H1
   replace H := Z33.mp H
   obtain ⟨t222, A60, H⟩ := H
   replace H : (spec_foGood.j0 k (!t222) l0_0 l0_1 l0_2 l0_3) = some r := H
   have A6 := Ya A60
   clear A60
   have H' := Ya H
   clear H
   obtain ⟨hcz7_0, hcz7_1, hcz7_2, hcz7_3, hfz7_0, hfz7_1, hfz7_2, hfz7_3⟩ := Y4 BK220.out
   go_wp2_with (first | ((with_reducible refine gate_callee (f := 58) rfl ?_); refine Yz 7 Try.func58 #[.slice A0_0 l0_0.length c0_0] ?_; (with_reducible refine (spec_foBases.calls k _ _ l0_0 true _ (Yc (Z19 HR0_0.out HB.out)) HC0_0.out A4.out).mono ?_); rintro e w' ⟨rfl, ⟨nd, rfl⟩⟩; refine ⟨_, rfl, ?_⟩) | (go_at_call 59; (with_reducible refine (spec_raAreDigits.calls k _ _ l0_0 _ _ l0_1 t222 _ ?side1 HC0_0.out ?side3 HC0_1.out A6.out).mono ?_); (case side1 => exact Yc (Z19 HR0_0.out Q0)); (case side3 => exact Yc (Z19 HR0_1.out Q0)); rintro e w' ⟨rfl, ⟨nd, rfl⟩⟩))
   go_meet
   case rel => exact ⟨_, (!t222), Q7, H', ⟨Q43⟩, ⟨by (with_reducible repeat (first | refine Z22 ?_ _ | refine Z23 ?_ | refine Z24 ?_ _)); exact BK220.out⟩, ⟨Q12⟩⟩
  ·replace c5 := Bool.eq_false_iff.mpr c5
   subst c5
   have H1 : (spec_foGood.j0 k true l0_0 l0_1 l0_2 l0_3) = some r := by rw [if_neg (show ¬ (false = true) by decide)] at H; exact H
   clear H
   have H := H1
   clear H1
   have H' := Ya H
   clear H
   obtain ⟨hcz8_0, hcz8_1, hcz8_2, hcz8_3, hfz8_0, hfz8_1, hfz8_2, hfz8_3⟩ := Y4 BK220.out
   go_wp2_with (first | ((with_reducible refine gate_callee (f := 58) rfl ?_); refine Yz 7 Try.func58 #[.slice A0_0 l0_0.length c0_0] ?_; (with_reducible refine (spec_foBases.calls k _ _ l0_0 false _ (Yc (Z19 HR0_0.out HB.out)) HC0_0.out A4.out).mono ?_); rintro e w' ⟨rfl, ⟨nd, rfl⟩⟩; refine ⟨_, rfl, ?_⟩))
   go_meet
   case rel => exact ⟨_, (true), Q7, H', ⟨Q43⟩, ⟨by (with_reducible repeat (first | refine Z22 ?_ _ | refine Z23 ?_ | refine Z24 ?_ _)); exact BK220.out⟩, ⟨Q12⟩⟩
 case rest =>
  clear HC2
  try clear p2
  try clear c3
  try clear c5
  try clear hcz7_0
  try clear hcz7_1
  try clear hcz7_2
  try clear hcz7_3
  try clear hcz8_0
  try clear hcz8_1
  try clear hcz8_2
  try clear hcz8_3
  try clear hfz7_0
  try clear hfz7_1
  try clear hfz7_2
  try clear hfz7_3
  try clear hfz8_0
  try clear hfz8_1
  try clear hfz8_2
  try clear hfz8_3
  obtain ⟨kq, x16_1, rfl, HA, HJ1, BK220, HB⟩ := hcut
  cases kq with
  | zero => exact absurd HA.out (by simp [spec_foGood.j0])
  | succ kj1 =>
   have H := HA.out
   clear HA
   simp only [spec_foGood.j0] at H
   by_cases c9 : x16_1 = true
   ·subst c9
    have H1 : (some false) = some r := by rw [if_pos rfl] at H; exact H
    clear H
    have H := H1
    clear H1
    obtain rfl := Option.some.inj H
    go_wp2
    go_ret
    exact ⟨Q2, Q12⟩
   ·replace c9 := Bool.eq_false_iff.mpr c9
    subst c9
    have H1 : ((spec_gcMixedRank.f kj1 l0_0 l0_1).bind fun t223 => ((spec_foAt.f kj1 l0_0 t223).bind fun bt224 => (if bt224.2.2.2.2 = true then ((spec_foSame.f kj1 l0_0 l0_1 l0_2 l0_3 bt224.1 bt224.2.1 bt224.2.2.1 bt224.2.2.2.1).bind fun t238 => (some t238)) else (some false)))) = some r := by rw [if_neg (show ¬ (false = true) by decide)] at H; exact H
    clear H
    have H := H1
    clear H1
    replace H := Z33.mp H
    obtain ⟨t223, A100, H⟩ := H
    replace H : ((spec_foAt.f kj1 l0_0 t223).bind fun bt224 => (if bt224.2.2.2.2 = true then ((spec_foSame.f kj1 l0_0 l0_1 l0_2 l0_3 bt224.1 bt224.2.1 bt224.2.2.1 bt224.2.2.2.1).bind fun t238 => (some t238)) else (some false))) = some r := H
    have A10 := Ya A100
    clear A100
    replace H := Z33.mp H
    obtain ⟨⟨t224, t227, t230, t233, t236⟩, A110, H⟩ := H
    replace H : (if t236 = true then ((spec_foSame.f kj1 l0_0 l0_1 l0_2 l0_3 t224 t227 t230 t233).bind fun t238 => (some t238)) else (some false)) = some r := H
    have A11 := Ya A110
    clear A110
    by_cases c12 : t236 = true
    ·subst c12
     have H1 : ((spec_foSame.f kj1 l0_0 l0_1 l0_2 l0_3 t224 t227 t230 t233).bind fun t238 => (some t238)) = some r := by rw [if_pos rfl] at H; exact H
     clear H
     have H := H1
     clear H1
     replace H := Z33.mp H
     obtain ⟨t238, A130, H⟩ := H
     replace H : (some t238) = some r := H
     have A13 := Ya A130
     clear A130
     obtain rfl := Option.some.inj H
     try go_wp2
     replace BK220 := Ya (Z23 BK220.out)
     replace HB := Ya (Z4 HB.out)
     refine start_ (n := 14) (S := fun w' => w'.cell? ⟨gb220, 0, none⟩ = some (.slice A0_0 l0_0.length c0_0) ∧ w'.cell? ⟨gb220, 1, none⟩ = some (.slice A0_1 l0_1.length c0_1) ∧ w'.cell? ⟨gb220, 2, none⟩ = some (.slice A0_2 l0_2.length c0_2) ∧ w'.cell? ⟨gb220, 3, none⟩ = some (.slice A0_3 l0_3.length c0_3)) (ds := []) (YA 14 0) (by kernel_rfl) rfl rfl ⟨(Z20 BK220.out 0).trans rfl, (Z20 BK220.out 1).trans rfl, (Z20 BK220.out 2).trans rfl, (Z20 BK220.out 3).trans rfl⟩ (fun hHeld => ?_); refine with_tabW spec_foGood.tab3 spec_foGood.bits3 (fun HT_ HW_ => ?_)
     generalize wc.drew = w14 at BK220 HB hHeld ⊢
     refine Yp 0 (some 18) (YA 14 1) rfl HT_.out ?_
     refine Yp 2 (some 20) (YA 14 5) rfl HT_.out ?_
     refine Yp 4 (some 22) (YA 14 21) rfl HT_.out ?_
     refine Yt 1 (some 19) (YA 14 23) rfl HT_.out HW_.out hHeld Q3 ?_
     refine Yt 3 (some 21) (YA 14 31) rfl HT_.out HW_.out hHeld Q3 ?_
     refine Yt 5 (some 23) (YA 14 63) rfl HT_.out HW_.out hHeld Q3 ?_
     refine join_ (σ := Value × Value × Value × Value × Nat) 2 (YA 14 4095) (fun s_ => [(24, .int .i64 t223), (25, .tuple #[.agg #[s_.1, s_.2.1, s_.2.2.1, s_.2.2.2.1], .bool true]), (3, .pointer (some ⟨s_.2.2.2.2, 0, none⟩)), (17, .tuple #[.agg #[s_.1, s_.2.1, s_.2.2.1, s_.2.2.2.1], .bool true]), (26, .agg #[s_.1, s_.2.1, s_.2.2.1, s_.2.2.2.1]), (27, .bool true)]) (fun s_ w' => (w'.cell? ⟨gb220, 0, none⟩ = some (.slice A0_0 l0_0.length c0_0) ∧ w'.cell? ⟨gb220, 1, none⟩ = some (.slice A0_1 l0_1.length c0_1) ∧ w'.cell? ⟨gb220, 2, none⟩ = some (.slice A0_2 l0_2.length c0_2) ∧ w'.cell? ⟨gb220, 3, none⟩ = some (.slice A0_3 l0_3.length c0_3)) ∧ (Kd.R (Kd.int .i64) 3 w' w.heap.size (fun k_ => some k_ ≠ (s_.2.1 : Value).ownBlock ∧ some k_ ≠ (s_.2.2.2.1 : Value).ownBlock) s_.1 t224) ∧ (Kd.R (Kd.int .i64) 3 w' w.heap.size (fun k_ => some k_ ≠ (s_.1 : Value).ownBlock ∧ some k_ ≠ (s_.2.2.2.1 : Value).ownBlock) s_.2.1 t227) ∧ (Kd.R Kd.bool 4 w' w.heap.size (fun _ => True) s_.2.2.1 t230) ∧ (Kd.R (Kd.int .i64) 3 w' w.heap.size (fun k_ => some k_ ≠ (s_.1 : Value).ownBlock ∧ some k_ ≠ (s_.2.1 : Value).ownBlock) s_.2.2.2.1 t233) ∧ (w'.heap[gb220]? = some (.cells #[.slice A0_0 l0_0.length c0_0, .slice A0_1 l0_1.length c0_1, .slice A0_2 l0_2.length c0_2, .slice A0_3 l0_3.length c0_3] 27 (0, 0))) ∧ (w'.heap[s_.2.2.2.2]? = some (.cells #[.slice none 0 0, .slice none 0 0, .slice none 0 0, .slice none 0 0] 27 (0, 0))) ∧ (w.heap.size ≤ s_.2.2.2.2) ∧ (w.heap.size ≤ s_.2.2.2.2) ∧ (gb220 ≠ s_.2.2.2.2) ∧ (s_.2.2.2.2 ≠ gb220) ∧ (Below w.heap.size w w')) ?_ ?_
     rotate_left
     ·intro hCont
      refine two_ (i := 6) (j := 11) (Ni := some 24) (Nj := some 3) (YA 14 127) (YA 14 2111) rfl rfl rfl rfl (two_of HT_.out (by kernel_rfl)) (by decide) (by decide) (fun K hK => ?_) (fun K hK => ?_)
      ·skip
       refine goes_ Try.func61 (by kernel_rfl) rfl #[.slice A0_0 l0_0.length c0_0, .slice A0_1 l0_1.length c0_1] (by rfl) rfl rfl Q6 ?_
       with_reducible refine (spec_gcMixedRank.calls kj1 _ _ l0_0 _ _ l0_1 t223 _ ?side1 ?side2 ?side3 ?side4 A10.out).mono ?_
       (case side1 => exact Yc (Z19 HR0_0.out HB.out))
       (case side2 => exact HC0_0.out)
       (case side3 => exact Yc (Z19 HR0_1.out HB.out))
       (case side4 => exact HC0_1.out)
       rintro e w15 ⟨rfl, hb⟩
       refine ⟨_, rfl, ?_⟩
       replace BK220 := Yb BK220 hb
       replace HB := Yh hb
       (try clear hb)
       refine hK.out _ _ ⟨(Z20 BK220.out 0).trans rfl, (Z20 BK220.out 1).trans rfl, (Z20 BK220.out 2).trans rfl, (Z20 BK220.out 3).trans rfl⟩ (fun hHeld => ?_)
       clear hK K
       refine norm_ (a' := ?_) ?_ ?_
       rotate_left
       ·show Act.put _ (some 24) _ = _
        simp only [Act.put, Z0, Z1, Z2, i64_w, i32_w]
        rfl
       refine two_ (i := 7) (j := 11) (Ni := some 25) (Nj := some 3) (YA 14 255) (YA 14 2175) rfl rfl rfl rfl (two_of HT_.out (by kernel_rfl)) (by decide) (by decide) (fun K hK => ?_) (fun K hK => ?_)
       ·skip
        refine goes_ Try.func60 (by kernel_rfl) rfl #[.slice A0_0 l0_0.length c0_0, .int .i64 t223] (by rfl) rfl rfl Q6 ?_
        with_reducible refine (spec_foAt.calls kj1 _ _ l0_0 t223 t224 t227 t230 t233 true _ ?side1 ?side2 A11.out).mono ?_
        (case side1 => exact Yc (Z19 HR0_0.out HB.out))
        (case side2 => exact HC0_0.out)
        rintro e w16 ⟨v225, v228, v231, v234, rfl, ho0, ho1, ho2, ho3, hb⟩
        refine ⟨_, rfl, ?_⟩
        have HO226 := Yl ho0
        have HO229 := Yl ho1
        have HO232 := Yl ho2
        have HO235 := Yl ho3
        replace BK220 := Yb BK220 hb
        replace HB := Yh hb
        (try clear hb ho0 ho1 ho2 ho3)
        refine hK.out _ _ ⟨(Z20 BK220.out 0).trans rfl, (Z20 BK220.out 1).trans rfl, (Z20 BK220.out 2).trans rfl, (Z20 BK220.out 3).trans rfl⟩ (fun hHeld => ?_)
        clear hK K
        refine norm_ (a' := ?_) ?_ ?_
        rotate_left
        ·show Act.put _ (some 25) _ = _
         simp only [Act.put, Z0, Z1, Z2, i64_w, i32_w]
         rfl
        refine Yp 8 (some 17) (YA 14 511) rfl HT_.out ?_
        refine Yp 9 (some 26) (YA 14 1023) rfl HT_.out ?_
        refine Yp 10 (some 27) (YA 14 2047) rfl HT_.out ?_
        refine one_ (i := 11) (N := some 3) (YA 14 4095) rfl rfl (one_of HT_.out (by kernel_rfl)) (by decide) (fun K hK => ?_)
        refine Yy 3 #[.slice none 0 0, .slice none 0 0, .slice none 0 0, .slice none 0 0] 27 ?_
        intro gb237 hg w17 hbox hb
        replace HO226 := Yw HO226 hb
        replace HO229 := Yw HO229 hb
        replace HO232 := Yw HO232 hb
        replace HO235 := Yw HO235 hb
        have BK237 := Ya hbox
        have GW237 := Yg hg
        have GE237 := GW237
        replace HB := Yh hb
        have NB220_237 := Yn BK220 hg
        have NB237_220 := Ym BK220 hg
        replace BK220 := Yb BK220 hb
        clear hb hbox hg
        refine hK.out _ _ ⟨(Z20 BK220.out 0).trans rfl, (Z20 BK220.out 1).trans rfl, (Z20 BK220.out 2).trans rfl, (Z20 BK220.out 3).trans rfl⟩ (fun hHeld => ?_)
        clear hK K
        refine norm_ (a' := ?_) ?_ ?_
        rotate_left
        ·show Act.put _ (some 3) _ = _
         simp only [Act.put, Z0, Z1, Z2, i64_w, i32_w]
         rfl
        exact norm_ Q44 (hCont (v225, v228, v231, v234, gb237) _ ⟨hHeld, (Yr HO226.out), (Yr HO229.out), (Yr HO232.out), (Yr HO235.out), (Yk BK220.out), (Yk BK237.out), GW237.out, GE237.out, NB220_237.out, NB237_220.out, Q0⟩)
       ·skip
        refine Yy 3 #[.slice none 0 0, .slice none 0 0, .slice none 0 0, .slice none 0 0] 27 ?_
        intro gb237 hg w16 hbox hb
        have BK237 := Ya hbox
        have GW237 := Yg hg
        have GE237 := GW237
        replace HB := Yh hb
        have NB220_237 := Yn BK220 hg
        have NB237_220 := Ym BK220 hg
        replace BK220 := Yb BK220 hb
        clear hb hbox hg
        refine hK.out _ _ ⟨(Z20 BK220.out 0).trans rfl, (Z20 BK220.out 1).trans rfl, (Z20 BK220.out 2).trans rfl, (Z20 BK220.out 3).trans rfl⟩ (fun hHeld => ?_)
        clear hK K
        refine norm_ (a' := ?_) ?_ ?_
        rotate_left
        ·show Act.put _ (some 3) _ = _
         simp only [Act.put, Z0, Z1, Z2, i64_w, i32_w]
         rfl
        refine one_ (i := 7) (N := some 25) (YA 14 2303) rfl rfl (one_of HT_.out (by kernel_rfl)) (by decide) (fun K hK => ?_)
        refine goes_ Try.func60 (by kernel_rfl) rfl #[.slice A0_0 l0_0.length c0_0, .int .i64 t223] (by rfl) rfl rfl Q6 ?_
        with_reducible refine (spec_foAt.calls kj1 _ _ l0_0 t223 t224 t227 t230 t233 true _ ?side1 ?side2 A11.out).mono ?_
        (case side1 => exact Yc (Z19 HR0_0.out HB.out))
        (case side2 => exact HC0_0.out)
        rintro e w17 ⟨v225, v228, v231, v234, rfl, ho0, ho1, ho2, ho3, hb⟩
        refine ⟨_, rfl, ?_⟩
        have HO226 := Yl ho0
        have HO229 := Yl ho1
        have HO232 := Yl ho2
        have HO235 := Yl ho3
        replace BK220 := Yb BK220 hb
        replace BK237 := Yb BK237 hb
        replace HB := Yh hb
        (try clear hb ho0 ho1 ho2 ho3)
        refine hK.out _ _ ⟨(Z20 BK220.out 0).trans rfl, (Z20 BK220.out 1).trans rfl, (Z20 BK220.out 2).trans rfl, (Z20 BK220.out 3).trans rfl⟩ (fun hHeld => ?_)
        clear hK K
        refine norm_ (a' := ?_) ?_ ?_
        rotate_left
        ·show Act.put _ (some 25) _ = _
         simp only [Act.put, Z0, Z1, Z2, i64_w, i32_w]
         rfl
        refine Yp 8 (some 17) (YA 14 2559) rfl HT_.out ?_
        refine Yp 9 (some 26) (YA 14 3071) rfl HT_.out ?_
        refine Yp 10 (some 27) (YA 14 4095) rfl HT_.out ?_
        exact norm_ Q44 (hCont (v225, v228, v231, v234, gb237) _ ⟨hHeld, (Yr HO226.out), (Yr HO229.out), (Yr HO232.out), (Yr HO235.out), (Yk BK220.out), (Yk BK237.out), GW237.out, GE237.out, NB220_237.out, NB237_220.out, Q0⟩)
      ·skip
       refine Yy 3 #[.slice none 0 0, .slice none 0 0, .slice none 0 0, .slice none 0 0] 27 ?_
       intro gb237 hg w15 hbox hb
       have BK237 := Ya hbox
       have GW237 := Yg hg
       have GE237 := GW237
       replace HB := Yh hb
       have NB220_237 := Yn BK220 hg
       have NB237_220 := Ym BK220 hg
       replace BK220 := Yb BK220 hb
       clear hb hbox hg
       refine hK.out _ _ ⟨(Z20 BK220.out 0).trans rfl, (Z20 BK220.out 1).trans rfl, (Z20 BK220.out 2).trans rfl, (Z20 BK220.out 3).trans rfl⟩ (fun hHeld => ?_)
       clear hK K
       refine norm_ (a' := ?_) ?_ ?_
       rotate_left
       ·show Act.put _ (some 3) _ = _
        simp only [Act.put, Z0, Z1, Z2, i64_w, i32_w]
        rfl
       refine one_ (i := 6) (N := some 24) (YA 14 2175) rfl rfl (one_of HT_.out (by kernel_rfl)) (by decide) (fun K hK => ?_)
       refine goes_ Try.func61 (by kernel_rfl) rfl #[.slice A0_0 l0_0.length c0_0, .slice A0_1 l0_1.length c0_1] (by rfl) rfl rfl Q6 ?_
       with_reducible refine (spec_gcMixedRank.calls kj1 _ _ l0_0 _ _ l0_1 t223 _ ?side1 ?side2 ?side3 ?side4 A10.out).mono ?_
       (case side1 => exact Yc (Z19 HR0_0.out HB.out))
       (case side2 => exact HC0_0.out)
       (case side3 => exact Yc (Z19 HR0_1.out HB.out))
       (case side4 => exact HC0_1.out)
       rintro e w16 ⟨rfl, hb⟩
       refine ⟨_, rfl, ?_⟩
       replace BK220 := Yb BK220 hb
       replace BK237 := Yb BK237 hb
       replace HB := Yh hb
       (try clear hb)
       refine hK.out _ _ ⟨(Z20 BK220.out 0).trans rfl, (Z20 BK220.out 1).trans rfl, (Z20 BK220.out 2).trans rfl, (Z20 BK220.out 3).trans rfl⟩ (fun hHeld => ?_)
       clear hK K
       refine norm_ (a' := ?_) ?_ ?_
       rotate_left
       ·show Act.put _ (some 24) _ = _
        simp only [Act.put, Z0, Z1, Z2, i64_w, i32_w]
        rfl
       refine one_ (i := 7) (N := some 25) (YA 14 2303) rfl rfl (one_of HT_.out (by kernel_rfl)) (by decide) (fun K hK => ?_)
       refine goes_ Try.func60 (by kernel_rfl) rfl #[.slice A0_0 l0_0.length c0_0, .int .i64 t223] (by rfl) rfl rfl Q6 ?_
       with_reducible refine (spec_foAt.calls kj1 _ _ l0_0 t223 t224 t227 t230 t233 true _ ?side1 ?side2 A11.out).mono ?_
       (case side1 => exact Yc (Z19 HR0_0.out HB.out))
       (case side2 => exact HC0_0.out)
       rintro e w17 ⟨v225, v228, v231, v234, rfl, ho0, ho1, ho2, ho3, hb⟩
       refine ⟨_, rfl, ?_⟩
       have HO226 := Yl ho0
       have HO229 := Yl ho1
       have HO232 := Yl ho2
       have HO235 := Yl ho3
       replace BK220 := Yb BK220 hb
       replace BK237 := Yb BK237 hb
       replace HB := Yh hb
       (try clear hb ho0 ho1 ho2 ho3)
       refine hK.out _ _ ⟨(Z20 BK220.out 0).trans rfl, (Z20 BK220.out 1).trans rfl, (Z20 BK220.out 2).trans rfl, (Z20 BK220.out 3).trans rfl⟩ (fun hHeld => ?_)
       clear hK K
       refine norm_ (a' := ?_) ?_ ?_
       rotate_left
       ·show Act.put _ (some 25) _ = _
        simp only [Act.put, Z0, Z1, Z2, i64_w, i32_w]
        rfl
       refine Yp 8 (some 17) (YA 14 2559) rfl HT_.out ?_
       refine Yp 9 (some 26) (YA 14 3071) rfl HT_.out ?_
       refine Yp 10 (some 27) (YA 14 4095) rfl HT_.out ?_
       exact norm_ Q44 (hCont (v225, v228, v231, v234, gb237) _ ⟨hHeld, (Yr HO226.out), (Yr HO229.out), (Yr HO232.out), (Yr HO235.out), (Yk BK220.out), (Yk BK237.out), GW237.out, GE237.out, NB220_237.out, NB237_220.out, Q0⟩)
     rintro ⟨v225, v228, v231, v234, gb237⟩ w18 ⟨hS_, h0_, h1_, h2_, h3_, h4_, h5_, h6_, h7_, h8_, h9_, h10_⟩
     have HO226 : Aside0 (Kd.R (Kd.int .i64) 3 w18 w.heap.size (fun k_ => some k_ ≠ (v228 : Value).ownBlock ∧ some k_ ≠ (v234 : Value).ownBlock) v225 t224) := ⟨h0_⟩
     have HO229 : Aside0 (Kd.R (Kd.int .i64) 3 w18 w.heap.size (fun k_ => some k_ ≠ (v225 : Value).ownBlock ∧ some k_ ≠ (v234 : Value).ownBlock) v228 t227) := ⟨h1_⟩
     have HO232 : Aside0 (Kd.R Kd.bool 4 w18 w.heap.size (fun _ => True) v231 t230) := ⟨h2_⟩
     have HO235 : Aside0 (Kd.R (Kd.int .i64) 3 w18 w.heap.size (fun k_ => some k_ ≠ (v225 : Value).ownBlock ∧ some k_ ≠ (v228 : Value).ownBlock) v234 t233) := ⟨h3_⟩
     replace BK220 : Aside0 (w18.heap[gb220]? = some (.cells #[.slice A0_0 l0_0.length c0_0, .slice A0_1 l0_1.length c0_1, .slice A0_2 l0_2.length c0_2, .slice A0_3 l0_3.length c0_3] 27 (0, 0))) := ⟨h4_⟩
     have BK237 : Aside0 (w18.heap[gb237]? = some (.cells #[.slice none 0 0, .slice none 0 0, .slice none 0 0, .slice none 0 0] 27 (0, 0))) := ⟨h5_⟩
     have GW237 : Aside0 (w.heap.size ≤ gb237) := ⟨h6_⟩
     have GE237 : Aside0 (w.heap.size ≤ gb237) := ⟨h7_⟩
     have NB220_237 : Aside0 (gb220 ≠ gb237) := ⟨h8_⟩
     have NB237_220 : Aside0 (gb237 ≠ gb220) := ⟨h9_⟩
     replace HB : Aside0 (Below w.heap.size w w18) := ⟨h10_⟩
     clear h0_ h1_ h2_ h3_ h4_ h5_ h6_ h7_ h8_ h9_ h10_
     have hHeld : w18.cell? ⟨gb220, 0, none⟩ = some (.slice A0_0 l0_0.length c0_0) ∧ w18.cell? ⟨gb220, 1, none⟩ = some (.slice A0_1 l0_1.length c0_1) ∧ w18.cell? ⟨gb220, 2, none⟩ = some (.slice A0_2 l0_2.length c0_2) ∧ w18.cell? ⟨gb220, 3, none⟩ = some (.slice A0_3 l0_3.length c0_3) := hS_
     obtain ⟨Ao19, co19, eo19⟩ := Z18 HO226.out
     (first | subst eo19 | (injection eo19 with f1_ f2_ f3_; have f4_ := f1_.symm; have f5_ := f3_.symm; clear f1_ f2_ f3_; subst f4_; subst f5_))
     obtain ⟨Ao21, co21, eo21⟩ := Z18 HO229.out
     (first | subst eo21 | (injection eo21 with f1_ f2_ f3_; have f4_ := f1_.symm; have f5_ := f3_.symm; clear f1_ f2_ f3_; subst f4_; subst f5_))
     obtain ⟨Ao23, co23, eo23⟩ := Z18 HO232.out
     (first | subst eo23 | (injection eo23 with f1_ f2_ f3_; have f4_ := f1_.symm; have f5_ := f3_.symm; clear f1_ f2_ f3_; subst f4_; subst f5_))
     obtain ⟨Ao25, co25, eo25⟩ := Z18 HO235.out
     (first | subst eo25 | (injection eo25 with f1_ f2_ f3_; have f4_ := f1_.symm; have f5_ := f3_.symm; clear f1_ f2_ f3_; subst f4_; subst f5_))
     refine norm_ (a' := ?_) ?_ ?_
     rotate_left
     ·simp only [putAll, Act.put, Z0, Z1, Z2]
      rfl
     refine one_ (i := 12) (N := none) (YA 14 8191) rfl rfl (one_of HT_.out (by kernel_rfl)) (by decide) (fun K hK => ?_)
     have hs20 : w18.cell? ⟨gb237, 0, none⟩ = some (.slice none 0 0) := (Z20 BK237.out 0).trans rfl
     have hfs20 := Z21 BK237.out 0
     have hns20_0 := NB220_237.out
     have hms20_0 := NB237_220.out
     have hs22 : w18.cell? ⟨gb237, 1, none⟩ = some (.slice none 0 0) := (Z20 BK237.out 1).trans rfl
     have hfs22 := Z21 BK237.out 1
     have hns22_0 := NB220_237.out
     have hms22_0 := NB237_220.out
     have hs24 : w18.cell? ⟨gb237, 2, none⟩ = some (.slice none 0 0) := (Z20 BK237.out 2).trans rfl
     have hfs24 := Z21 BK237.out 2
     have hns24_0 := NB220_237.out
     have hms24_0 := NB237_220.out
     have hs26 : w18.cell? ⟨gb237, 3, none⟩ = some (.slice none 0 0) := (Z20 BK237.out 3).trans rfl
     have hfs26 := Z21 BK237.out 3
     have hns26_0 := NB220_237.out
     have hms26_0 := NB237_220.out
     refine skip_ (w1 := ?_) (by rfl) rfl ?_ ?_
     rotate_left
     ·go_simp
      rfl
     refine hK.out _ _ ⟨((cell_far (p := ⟨gb237, _, none⟩) NB220_237.out _).trans (((cell_far (p := ⟨gb237, _, none⟩) NB220_237.out _).trans (((cell_far (p := ⟨gb237, _, none⟩) NB220_237.out _).trans (((cell_far (p := ⟨gb237, _, none⟩) NB220_237.out _).trans (hHeld.1)))))))), ((cell_far (p := ⟨gb237, _, none⟩) NB220_237.out _).trans (((cell_far (p := ⟨gb237, _, none⟩) NB220_237.out _).trans (((cell_far (p := ⟨gb237, _, none⟩) NB220_237.out _).trans (((cell_far (p := ⟨gb237, _, none⟩) NB220_237.out _).trans (hHeld.2.1)))))))), ((cell_far (p := ⟨gb237, _, none⟩) NB220_237.out _).trans (((cell_far (p := ⟨gb237, _, none⟩) NB220_237.out _).trans (((cell_far (p := ⟨gb237, _, none⟩) NB220_237.out _).trans (((cell_far (p := ⟨gb237, _, none⟩) NB220_237.out _).trans (hHeld.2.2.1)))))))), ((cell_far (p := ⟨gb237, _, none⟩) NB220_237.out _).trans (((cell_far (p := ⟨gb237, _, none⟩) NB220_237.out _).trans (((cell_far (p := ⟨gb237, _, none⟩) NB220_237.out _).trans (((cell_far (p := ⟨gb237, _, none⟩) NB220_237.out _).trans (hHeld.2.2.2))))))))⟩ (fun hHeld => ?_)
     clear hK K
     refine Yp 13 (some 4) (YA 14 16383) rfl HT_.out ?_
     refine done_ (done_of HT_.out (by kernel_rfl)) ?_
     have hnb27 := NB220_237.out
     have hnc27 := NB237_220.out
     have hz28 := Y4 BK220.out
     have hz29 := Y4 BK237.out
     try go_wp2_with (first | (go_at_call 62; (with_reducible refine (spec_foSame.calls kj1 _ _ l0_0 _ _ l0_1 _ _ l0_2 _ _ l0_3 _ _ t224 _ _ t227 _ _ t230 _ _ t233 t238 _ ?side1 HC0_0.out ?side3 HC0_1.out ?side5 HC0_2.out ?side7 HC0_3.out ?side9 ((Kd.R_reads' HO226.out).2.1) ?side11 ((Kd.R_reads' HO229.out).2.1) ?side13 ((Kd.R_reads' HO232.out).2.1) ?side15 ((Kd.R_reads' HO235.out).2.1) A13.out).mono ?_); (case side1 => exact Z19 HR0_0.out Q0); (case side3 => exact Z19 HR0_1.out Q0); (case side5 => exact Z19 HR0_2.out Q0); (case side7 => exact Z19 HR0_3.out Q0); (case side9 => refine (Kd.R_reads' (e := 3) (base := w.heap.size) (ok := fun k_ => (some k_ ≠ (.slice Ao21 t227.length co21 : Value).ownBlock ∧ some k_ ≠ (.slice Ao25 t233.length co25 : Value).ownBlock)) (n := t224.length) (c := co19) ?_).2.2; exact Q87); (case side11 => refine (Kd.R_reads' (e := 3) (base := w.heap.size) (ok := fun k_ => (some k_ ≠ (.slice Ao19 t224.length co19 : Value).ownBlock ∧ some k_ ≠ (.slice Ao25 t233.length co25 : Value).ownBlock)) (n := t227.length) (c := co21) ?_).2.2; exact Q86); (case side13 => refine (Kd.R_reads' (e := 4) (base := w.heap.size) (ok := fun k_ => True) (n := t230.length) (c := co23) ?_).2.2; exact Q85); (case side15 => refine (Kd.R_reads' (e := 3) (base := w.heap.size) (ok := fun k_ => (some k_ ≠ (.slice Ao19 t224.length co19 : Value).ownBlock ∧ some k_ ≠ (.slice Ao21 t227.length co21 : Value).ownBlock)) (n := t233.length) (c := co25) ?_).2.2; exact Q84); rintro e w30 ⟨rfl, hb⟩; replace HO226 := Ya (Z13 Q87 hb); replace HO229 := Ya (Z13 Q86 hb); replace HO232 := Ya (Z13 Q85 hb); replace HO235 := Ya (Z13 Q84 hb); replace BK220 := Yb ⟨Yo4 BK220.out NB220_237.out⟩ hb; replace BK237 := Yb ⟨Yv4 BK237.out⟩ hb; replace HB := Yh hb; (try clear hb)))
     go_ret
     exact ⟨Q2, Q12⟩
    ·replace c12 := Bool.eq_false_iff.mpr c12
     subst c12
     have H1 : (some false) = some r := by rw [if_neg (show ¬ (false = true) by decide)] at H; exact H
     clear H
     have H := H1
     clear H1
     obtain rfl := Option.some.inj H
     try go_wp2
     replace BK220 := Ya (Z23 BK220.out)
     replace HB := Ya (Z4 HB.out)
     refine start_ (n := 14) (S := fun w' => w'.cell? ⟨gb220, 0, none⟩ = some (.slice A0_0 l0_0.length c0_0) ∧ w'.cell? ⟨gb220, 1, none⟩ = some (.slice A0_1 l0_1.length c0_1) ∧ w'.cell? ⟨gb220, 2, none⟩ = some (.slice A0_2 l0_2.length c0_2) ∧ w'.cell? ⟨gb220, 3, none⟩ = some (.slice A0_3 l0_3.length c0_3)) (ds := []) (YA 14 0) (by kernel_rfl) rfl rfl ⟨(Z20 BK220.out 0).trans rfl, (Z20 BK220.out 1).trans rfl, (Z20 BK220.out 2).trans rfl, (Z20 BK220.out 3).trans rfl⟩ (fun hHeld => ?_); refine with_tabW spec_foGood.tab3 spec_foGood.bits3 (fun HT_ HW_ => ?_)
     generalize wc.drew = w31 at BK220 HB hHeld ⊢
     refine Yp 0 (some 18) (YA 14 1) rfl HT_.out ?_
     refine Yp 2 (some 20) (YA 14 5) rfl HT_.out ?_
     refine Yp 4 (some 22) (YA 14 21) rfl HT_.out ?_
     refine Yt 1 (some 19) (YA 14 23) rfl HT_.out HW_.out hHeld Q3 ?_
     refine Yt 3 (some 21) (YA 14 31) rfl HT_.out HW_.out hHeld Q3 ?_
     refine Yt 5 (some 23) (YA 14 63) rfl HT_.out HW_.out hHeld Q3 ?_
     refine join_ (σ := Value × Value × Value × Value × Nat) 2 (YA 14 4095) (fun s_ => [(24, .int .i64 t223), (25, .tuple #[.agg #[s_.1, s_.2.1, s_.2.2.1, s_.2.2.2.1], .bool false]), (3, .pointer (some ⟨s_.2.2.2.2, 0, none⟩)), (17, .tuple #[.agg #[s_.1, s_.2.1, s_.2.2.1, s_.2.2.2.1], .bool false]), (26, .agg #[s_.1, s_.2.1, s_.2.2.1, s_.2.2.2.1]), (27, .bool false)]) (fun s_ w' => (w'.cell? ⟨gb220, 0, none⟩ = some (.slice A0_0 l0_0.length c0_0) ∧ w'.cell? ⟨gb220, 1, none⟩ = some (.slice A0_1 l0_1.length c0_1) ∧ w'.cell? ⟨gb220, 2, none⟩ = some (.slice A0_2 l0_2.length c0_2) ∧ w'.cell? ⟨gb220, 3, none⟩ = some (.slice A0_3 l0_3.length c0_3)) ∧ (Kd.R (Kd.int .i64) 3 w' w.heap.size (fun k_ => some k_ ≠ (s_.2.1 : Value).ownBlock ∧ some k_ ≠ (s_.2.2.2.1 : Value).ownBlock) s_.1 t224) ∧ (Kd.R (Kd.int .i64) 3 w' w.heap.size (fun k_ => some k_ ≠ (s_.1 : Value).ownBlock ∧ some k_ ≠ (s_.2.2.2.1 : Value).ownBlock) s_.2.1 t227) ∧ (Kd.R Kd.bool 4 w' w.heap.size (fun _ => True) s_.2.2.1 t230) ∧ (Kd.R (Kd.int .i64) 3 w' w.heap.size (fun k_ => some k_ ≠ (s_.1 : Value).ownBlock ∧ some k_ ≠ (s_.2.1 : Value).ownBlock) s_.2.2.2.1 t233) ∧ (w'.heap[gb220]? = some (.cells #[.slice A0_0 l0_0.length c0_0, .slice A0_1 l0_1.length c0_1, .slice A0_2 l0_2.length c0_2, .slice A0_3 l0_3.length c0_3] 27 (0, 0))) ∧ (w'.heap[s_.2.2.2.2]? = some (.cells #[.slice none 0 0, .slice none 0 0, .slice none 0 0, .slice none 0 0] 27 (0, 0))) ∧ (w.heap.size ≤ s_.2.2.2.2) ∧ (w.heap.size ≤ s_.2.2.2.2) ∧ (gb220 ≠ s_.2.2.2.2) ∧ (s_.2.2.2.2 ≠ gb220) ∧ (Below w.heap.size w w')) ?_ ?_
     rotate_left
     ·intro hCont
      refine two_ (i := 6) (j := 11) (Ni := some 24) (Nj := some 3) (YA 14 127) (YA 14 2111) rfl rfl rfl rfl (two_of HT_.out (by kernel_rfl)) (by decide) (by decide) (fun K hK => ?_) (fun K hK => ?_)
      ·skip
       refine goes_ Try.func61 (by kernel_rfl) rfl #[.slice A0_0 l0_0.length c0_0, .slice A0_1 l0_1.length c0_1] (by rfl) rfl rfl Q6 ?_
       with_reducible refine (spec_gcMixedRank.calls kj1 _ _ l0_0 _ _ l0_1 t223 _ ?side1 ?side2 ?side3 ?side4 A10.out).mono ?_
       (case side1 => exact Yc (Z19 HR0_0.out HB.out))
       (case side2 => exact HC0_0.out)
       (case side3 => exact Yc (Z19 HR0_1.out HB.out))
       (case side4 => exact HC0_1.out)
       rintro e w32 ⟨rfl, hb⟩
       refine ⟨_, rfl, ?_⟩
       replace BK220 := Yb BK220 hb
       replace HB := Yh hb
       (try clear hb)
       refine hK.out _ _ ⟨(Z20 BK220.out 0).trans rfl, (Z20 BK220.out 1).trans rfl, (Z20 BK220.out 2).trans rfl, (Z20 BK220.out 3).trans rfl⟩ (fun hHeld => ?_)
       clear hK K
       refine norm_ (a' := ?_) ?_ ?_
       rotate_left
       ·show Act.put _ (some 24) _ = _
        simp only [Act.put, Z0, Z1, Z2, i64_w, i32_w]
        rfl
       refine two_ (i := 7) (j := 11) (Ni := some 25) (Nj := some 3) (YA 14 255) (YA 14 2175) rfl rfl rfl rfl (two_of HT_.out (by kernel_rfl)) (by decide) (by decide) (fun K hK => ?_) (fun K hK => ?_)
       ·skip
        refine goes_ Try.func60 (by kernel_rfl) rfl #[.slice A0_0 l0_0.length c0_0, .int .i64 t223] (by rfl) rfl rfl Q6 ?_
        with_reducible refine (spec_foAt.calls kj1 _ _ l0_0 t223 t224 t227 t230 t233 false _ ?side1 ?side2 A11.out).mono ?_
        (case side1 => exact Yc (Z19 HR0_0.out HB.out))
        (case side2 => exact HC0_0.out)
        rintro e w33 ⟨v225, v228, v231, v234, rfl, ho0, ho1, ho2, ho3, hb⟩
        refine ⟨_, rfl, ?_⟩
        have HO226 := Yl ho0
        have HO229 := Yl ho1
        have HO232 := Yl ho2
        have HO235 := Yl ho3
        replace BK220 := Yb BK220 hb
        replace HB := Yh hb
        (try clear hb ho0 ho1 ho2 ho3)
        refine hK.out _ _ ⟨(Z20 BK220.out 0).trans rfl, (Z20 BK220.out 1).trans rfl, (Z20 BK220.out 2).trans rfl, (Z20 BK220.out 3).trans rfl⟩ (fun hHeld => ?_)
        clear hK K
        refine norm_ (a' := ?_) ?_ ?_
        rotate_left
        ·show Act.put _ (some 25) _ = _
         simp only [Act.put, Z0, Z1, Z2, i64_w, i32_w]
         rfl
        refine Yp 8 (some 17) (YA 14 511) rfl HT_.out ?_
        refine Yp 9 (some 26) (YA 14 1023) rfl HT_.out ?_
        refine Yp 10 (some 27) (YA 14 2047) rfl HT_.out ?_
        refine one_ (i := 11) (N := some 3) (YA 14 4095) rfl rfl (one_of HT_.out (by kernel_rfl)) (by decide) (fun K hK => ?_)
        refine Yy 3 #[.slice none 0 0, .slice none 0 0, .slice none 0 0, .slice none 0 0] 27 ?_
        intro gb237 hg w34 hbox hb
        replace HO226 := Yw HO226 hb
        replace HO229 := Yw HO229 hb
        replace HO232 := Yw HO232 hb
        replace HO235 := Yw HO235 hb
        have BK237 := Ya hbox
        have GW237 := Yg hg
        have GE237 := GW237
        replace HB := Yh hb
        have NB220_237 := Yn BK220 hg
        have NB237_220 := Ym BK220 hg
        replace BK220 := Yb BK220 hb
        clear hb hbox hg
        refine hK.out _ _ ⟨(Z20 BK220.out 0).trans rfl, (Z20 BK220.out 1).trans rfl, (Z20 BK220.out 2).trans rfl, (Z20 BK220.out 3).trans rfl⟩ (fun hHeld => ?_)
        clear hK K
        refine norm_ (a' := ?_) ?_ ?_
        rotate_left
        ·show Act.put _ (some 3) _ = _
         simp only [Act.put, Z0, Z1, Z2, i64_w, i32_w]
         rfl
        exact norm_ Q44 (hCont (v225, v228, v231, v234, gb237) _ ⟨hHeld, (Yr HO226.out), (Yr HO229.out), (Yr HO232.out), (Yr HO235.out), (Yk BK220.out), (Yk BK237.out), GW237.out, GE237.out, NB220_237.out, NB237_220.out, Q0⟩)
       ·skip
        refine Yy 3 #[.slice none 0 0, .slice none 0 0, .slice none 0 0, .slice none 0 0] 27 ?_
        intro gb237 hg w33 hbox hb
        have BK237 := Ya hbox
        have GW237 := Yg hg
        have GE237 := GW237
        replace HB := Yh hb
        have NB220_237 := Yn BK220 hg
        have NB237_220 := Ym BK220 hg
        replace BK220 := Yb BK220 hb
        clear hb hbox hg
        refine hK.out _ _ ⟨(Z20 BK220.out 0).trans rfl, (Z20 BK220.out 1).trans rfl, (Z20 BK220.out 2).trans rfl, (Z20 BK220.out 3).trans rfl⟩ (fun hHeld => ?_)
        clear hK K
        refine norm_ (a' := ?_) ?_ ?_
        rotate_left
        ·show Act.put _ (some 3) _ = _
         simp only [Act.put, Z0, Z1, Z2, i64_w, i32_w]
         rfl
        refine one_ (i := 7) (N := some 25) (YA 14 2303) rfl rfl (one_of HT_.out (by kernel_rfl)) (by decide) (fun K hK => ?_)
        refine goes_ Try.func60 (by kernel_rfl) rfl #[.slice A0_0 l0_0.length c0_0, .int .i64 t223] (by rfl) rfl rfl Q6 ?_
        with_reducible refine (spec_foAt.calls kj1 _ _ l0_0 t223 t224 t227 t230 t233 false _ ?side1 ?side2 A11.out).mono ?_
        (case side1 => exact Yc (Z19 HR0_0.out HB.out))
        (case side2 => exact HC0_0.out)
        rintro e w34 ⟨v225, v228, v231, v234, rfl, ho0, ho1, ho2, ho3, hb⟩
        refine ⟨_, rfl, ?_⟩
        have HO226 := Yl ho0
        have HO229 := Yl ho1
        have HO232 := Yl ho2
        have HO235 := Yl ho3
        replace BK220 := Yb BK220 hb
        replace BK237 := Yb BK237 hb
        replace HB := Yh hb
        (try clear hb ho0 ho1 ho2 ho3)
        refine hK.out _ _ ⟨(Z20 BK220.out 0).trans rfl, (Z20 BK220.out 1).trans rfl, (Z20 BK220.out 2).trans rfl, (Z20 BK220.out 3).trans rfl⟩ (fun hHeld => ?_)
        clear hK K
        refine norm_ (a' := ?_) ?_ ?_
        rotate_left
        ·show Act.put _ (some 25) _ = _
         simp only [Act.put, Z0, Z1, Z2, i64_w, i32_w]
         rfl
        refine Yp 8 (some 17) (YA 14 2559) rfl HT_.out ?_
        refine Yp 9 (some 26) (YA 14 3071) rfl HT_.out ?_
        refine Yp 10 (some 27) (YA 14 4095) rfl HT_.out ?_
        exact norm_ Q44 (hCont (v225, v228, v231, v234, gb237) _ ⟨hHeld, (Yr HO226.out), (Yr HO229.out), (Yr HO232.out), (Yr HO235.out), (Yk BK220.out), (Yk BK237.out), GW237.out, GE237.out, NB220_237.out, NB237_220.out, Q0⟩)
      ·skip
       refine Yy 3 #[.slice none 0 0, .slice none 0 0, .slice none 0 0, .slice none 0 0] 27 ?_
       intro gb237 hg w32 hbox hb
       have BK237 := Ya hbox
       have GW237 := Yg hg
       have GE237 := GW237
       replace HB := Yh hb
       have NB220_237 := Yn BK220 hg
       have NB237_220 := Ym BK220 hg
       replace BK220 := Yb BK220 hb
       clear hb hbox hg
       refine hK.out _ _ ⟨(Z20 BK220.out 0).trans rfl, (Z20 BK220.out 1).trans rfl, (Z20 BK220.out 2).trans rfl, (Z20 BK220.out 3).trans rfl⟩ (fun hHeld => ?_)
       clear hK K
       refine norm_ (a' := ?_) ?_ ?_
       rotate_left
       ·show Act.put _ (some 3) _ = _
        simp only [Act.put, Z0, Z1, Z2, i64_w, i32_w]
        rfl
       refine one_ (i := 6) (N := some 24) (YA 14 2175) rfl rfl (one_of HT_.out (by kernel_rfl)) (by decide) (fun K hK => ?_)
       refine goes_ Try.func61 (by kernel_rfl) rfl #[.slice A0_0 l0_0.length c0_0, .slice A0_1 l0_1.length c0_1] (by rfl) rfl rfl Q6 ?_
       with_reducible refine (spec_gcMixedRank.calls kj1 _ _ l0_0 _ _ l0_1 t223 _ ?side1 ?side2 ?side3 ?side4 A10.out).mono ?_
       (case side1 => exact Yc (Z19 HR0_0.out HB.out))
       (case side2 => exact HC0_0.out)
       (case side3 => exact Yc (Z19 HR0_1.out HB.out))
       (case side4 => exact HC0_1.out)
       rintro e w33 ⟨rfl, hb⟩
       refine ⟨_, rfl, ?_⟩
       replace BK220 := Yb BK220 hb
       replace BK237 := Yb BK237 hb
       replace HB := Yh hb
       (try clear hb)
       refine hK.out _ _ ⟨(Z20 BK220.out 0).trans rfl, (Z20 BK220.out 1).trans rfl, (Z20 BK220.out 2).trans rfl, (Z20 BK220.out 3).trans rfl⟩ (fun hHeld => ?_)
       clear hK K
       refine norm_ (a' := ?_) ?_ ?_
       rotate_left
       ·show Act.put _ (some 24) _ = _
        simp only [Act.put, Z0, Z1, Z2, i64_w, i32_w]
        rfl
       refine one_ (i := 7) (N := some 25) (YA 14 2303) rfl rfl (one_of HT_.out (by kernel_rfl)) (by decide) (fun K hK => ?_)
       refine goes_ Try.func60 (by kernel_rfl) rfl #[.slice A0_0 l0_0.length c0_0, .int .i64 t223] (by rfl) rfl rfl Q6 ?_
       with_reducible refine (spec_foAt.calls kj1 _ _ l0_0 t223 t224 t227 t230 t233 false _ ?side1 ?side2 A11.out).mono ?_
       (case side1 => exact Yc (Z19 HR0_0.out HB.out))
       (case side2 => exact HC0_0.out)
       rintro e w34 ⟨v225, v228, v231, v234, rfl, ho0, ho1, ho2, ho3, hb⟩
       refine ⟨_, rfl, ?_⟩
       have HO226 := Yl ho0
       have HO229 := Yl ho1
       have HO232 := Yl ho2
       have HO235 := Yl ho3
       replace BK220 := Yb BK220 hb
       replace BK237 := Yb BK237 hb
       replace HB := Yh hb
       (try clear hb ho0 ho1 ho2 ho3)
       refine hK.out _ _ ⟨(Z20 BK220.out 0).trans rfl, (Z20 BK220.out 1).trans rfl, (Z20 BK220.out 2).trans rfl, (Z20 BK220.out 3).trans rfl⟩ (fun hHeld => ?_)
       clear hK K
       refine norm_ (a' := ?_) ?_ ?_
       rotate_left
       ·show Act.put _ (some 25) _ = _
        simp only [Act.put, Z0, Z1, Z2, i64_w, i32_w]
        rfl
       refine Yp 8 (some 17) (YA 14 2559) rfl HT_.out ?_
       refine Yp 9 (some 26) (YA 14 3071) rfl HT_.out ?_
       refine Yp 10 (some 27) (YA 14 4095) rfl HT_.out ?_
       exact norm_ Q44 (hCont (v225, v228, v231, v234, gb237) _ ⟨hHeld, (Yr HO226.out), (Yr HO229.out), (Yr HO232.out), (Yr HO235.out), (Yk BK220.out), (Yk BK237.out), GW237.out, GE237.out, NB220_237.out, NB237_220.out, Q0⟩)
     rintro ⟨v225, v228, v231, v234, gb237⟩ w35 ⟨hS_, h0_, h1_, h2_, h3_, h4_, h5_, h6_, h7_, h8_, h9_, h10_⟩
     have HO226 : Aside0 (Kd.R (Kd.int .i64) 3 w35 w.heap.size (fun k_ => some k_ ≠ (v228 : Value).ownBlock ∧ some k_ ≠ (v234 : Value).ownBlock) v225 t224) := ⟨h0_⟩
     have HO229 : Aside0 (Kd.R (Kd.int .i64) 3 w35 w.heap.size (fun k_ => some k_ ≠ (v225 : Value).ownBlock ∧ some k_ ≠ (v234 : Value).ownBlock) v228 t227) := ⟨h1_⟩
     have HO232 : Aside0 (Kd.R Kd.bool 4 w35 w.heap.size (fun _ => True) v231 t230) := ⟨h2_⟩
     have HO235 : Aside0 (Kd.R (Kd.int .i64) 3 w35 w.heap.size (fun k_ => some k_ ≠ (v225 : Value).ownBlock ∧ some k_ ≠ (v228 : Value).ownBlock) v234 t233) := ⟨h3_⟩
     replace BK220 : Aside0 (w35.heap[gb220]? = some (.cells #[.slice A0_0 l0_0.length c0_0, .slice A0_1 l0_1.length c0_1, .slice A0_2 l0_2.length c0_2, .slice A0_3 l0_3.length c0_3] 27 (0, 0))) := ⟨h4_⟩
     have BK237 : Aside0 (w35.heap[gb237]? = some (.cells #[.slice none 0 0, .slice none 0 0, .slice none 0 0, .slice none 0 0] 27 (0, 0))) := ⟨h5_⟩
     have GW237 : Aside0 (w.heap.size ≤ gb237) := ⟨h6_⟩
     have GE237 : Aside0 (w.heap.size ≤ gb237) := ⟨h7_⟩
     have NB220_237 : Aside0 (gb220 ≠ gb237) := ⟨h8_⟩
     have NB237_220 : Aside0 (gb237 ≠ gb220) := ⟨h9_⟩
     replace HB : Aside0 (Below w.heap.size w w35) := ⟨h10_⟩
     clear h0_ h1_ h2_ h3_ h4_ h5_ h6_ h7_ h8_ h9_ h10_
     have hHeld : w35.cell? ⟨gb220, 0, none⟩ = some (.slice A0_0 l0_0.length c0_0) ∧ w35.cell? ⟨gb220, 1, none⟩ = some (.slice A0_1 l0_1.length c0_1) ∧ w35.cell? ⟨gb220, 2, none⟩ = some (.slice A0_2 l0_2.length c0_2) ∧ w35.cell? ⟨gb220, 3, none⟩ = some (.slice A0_3 l0_3.length c0_3) := hS_
     obtain ⟨Ao36, co36, eo36⟩ := Z18 HO226.out
     (first | subst eo36 | (injection eo36 with f1_ f2_ f3_; have f4_ := f1_.symm; have f5_ := f3_.symm; clear f1_ f2_ f3_; subst f4_; subst f5_))
     obtain ⟨Ao38, co38, eo38⟩ := Z18 HO229.out
     (first | subst eo38 | (injection eo38 with f1_ f2_ f3_; have f4_ := f1_.symm; have f5_ := f3_.symm; clear f1_ f2_ f3_; subst f4_; subst f5_))
     obtain ⟨Ao40, co40, eo40⟩ := Z18 HO232.out
     (first | subst eo40 | (injection eo40 with f1_ f2_ f3_; have f4_ := f1_.symm; have f5_ := f3_.symm; clear f1_ f2_ f3_; subst f4_; subst f5_))
     obtain ⟨Ao42, co42, eo42⟩ := Z18 HO235.out
     (first | subst eo42 | (injection eo42 with f1_ f2_ f3_; have f4_ := f1_.symm; have f5_ := f3_.symm; clear f1_ f2_ f3_; subst f4_; subst f5_))
     refine norm_ (a' := ?_) ?_ ?_
     rotate_left
     ·simp only [putAll, Act.put, Z0, Z1, Z2]
      rfl
     refine one_ (i := 12) (N := none) (YA 14 8191) rfl rfl (one_of HT_.out (by kernel_rfl)) (by decide) (fun K hK => ?_)
     have hs37 : w35.cell? ⟨gb237, 0, none⟩ = some (.slice none 0 0) := (Z20 BK237.out 0).trans rfl
     have hfs37 := Z21 BK237.out 0
     have hns37_0 := NB220_237.out
     have hms37_0 := NB237_220.out
     have hs39 : w35.cell? ⟨gb237, 1, none⟩ = some (.slice none 0 0) := (Z20 BK237.out 1).trans rfl
     have hfs39 := Z21 BK237.out 1
     have hns39_0 := NB220_237.out
     have hms39_0 := NB237_220.out
     have hs41 : w35.cell? ⟨gb237, 2, none⟩ = some (.slice none 0 0) := (Z20 BK237.out 2).trans rfl
     have hfs41 := Z21 BK237.out 2
     have hns41_0 := NB220_237.out
     have hms41_0 := NB237_220.out
     have hs43 : w35.cell? ⟨gb237, 3, none⟩ = some (.slice none 0 0) := (Z20 BK237.out 3).trans rfl
     have hfs43 := Z21 BK237.out 3
     have hns43_0 := NB220_237.out
     have hms43_0 := NB237_220.out
     refine skip_ (w1 := ?_) (by rfl) rfl ?_ ?_
     rotate_left
     ·go_simp
      rfl
     refine hK.out _ _ ⟨((cell_far (p := ⟨gb237, _, none⟩) NB220_237.out _).trans (((cell_far (p := ⟨gb237, _, none⟩) NB220_237.out _).trans (((cell_far (p := ⟨gb237, _, none⟩) NB220_237.out _).trans (((cell_far (p := ⟨gb237, _, none⟩) NB220_237.out _).trans (hHeld.1)))))))), ((cell_far (p := ⟨gb237, _, none⟩) NB220_237.out _).trans (((cell_far (p := ⟨gb237, _, none⟩) NB220_237.out _).trans (((cell_far (p := ⟨gb237, _, none⟩) NB220_237.out _).trans (((cell_far (p := ⟨gb237, _, none⟩) NB220_237.out _).trans (hHeld.2.1)))))))), ((cell_far (p := ⟨gb237, _, none⟩) NB220_237.out _).trans (((cell_far (p := ⟨gb237, _, none⟩) NB220_237.out _).trans (((cell_far (p := ⟨gb237, _, none⟩) NB220_237.out _).trans (((cell_far (p := ⟨gb237, _, none⟩) NB220_237.out _).trans (hHeld.2.2.1)))))))), ((cell_far (p := ⟨gb237, _, none⟩) NB220_237.out _).trans (((cell_far (p := ⟨gb237, _, none⟩) NB220_237.out _).trans (((cell_far (p := ⟨gb237, _, none⟩) NB220_237.out _).trans (((cell_far (p := ⟨gb237, _, none⟩) NB220_237.out _).trans (hHeld.2.2.2))))))))⟩ (fun hHeld => ?_)
     clear hK K
     refine Yp 13 (some 4) (YA 14 16383) rfl HT_.out ?_
     refine done_ (done_of HT_.out (by kernel_rfl)) ?_
     try go_wp2
     go_ret
     exact ⟨Q2, Q12⟩
def spec_foSize.f (a0 : Int) : Option (Bool) := (spec_l1In.f a0 1 7).bind fun t239 => (some t239)
set_option maxHeartbeats 8000000 in
set_option maxRecDepth 100000 in
theorem spec_foSize.calls (a0 : Int) (r : Bool) (w : World) (h : spec_foSize.f a0 = some r) :
  Calls Try.prog 43 #[.int .i64 a0] w fun e w' => e = .returned (.bool r) ∧ Drawn0 w w' := by
 have H : ((spec_l1In.f a0 1 7).bind fun t239 => (some t239)) = some r := h
 clear h
 replace H := Z33.mp H
 obtain ⟨t239, A20, H⟩ := H
 replace H : (some t239) = some r := H
 have A2 := Ya A20
 clear A20
 obtain rfl := Option.some.inj H
 go_enter Try.func43, Try.ntmps43
 go_wp2_with (first | ((with_reducible refine gate_callee (f := 44) rfl ?_); refine Yz 4 Try.func44 #[.int .i64 a0, .int .i64 1, .int .i64 7] ?_; (with_reducible refine (spec_l1In.calls a0 1 7 t239 _ A2.out).mono ?_); rintro e w' ⟨rfl, ⟨nd, rfl⟩⟩; refine ⟨_, rfl, ?_⟩))
 go_ret
 exact ⟨Q13, Q5⟩
mutual
def spec_moApply.l0 : Nat → List Int → List Int → Int → Int → Int → Int → Option (List Int)
 | 0, _, _, _, _, _, _ => none
 | k + 1, x0, x5, x6, x241000, x241001, x241002 => if x6 < x241001 then (if 0 ≤ (wrap64 ((wrap64 (x241001 - 1)) - x6)) then (if (wrap64 ((wrap64 (x241001 - 1)) - x6)) < (x0.length : Int) then (if 0 ≤ x6 then (if x6 < (x5.length : Int) then (spec_moApply.l0 k x0 (x5.set (x6 : Int).toNat (rd x0 (wrap64 ((wrap64 (x241001 - 1)) - x6)))) (wrap64 (x6 + 1)) x241000 x241001 x241002) else (none)) else (none)) else (none)) else (none)) else (some x5)
def spec_moApply.l1 : Nat → List Int → List Int → Int → Int → Int → Int → Option (List Int)
 | 0, _, _, _, _, _, _ => none
 | k + 1, x0, x5, x7, x241000, x241001, x241002 => if x7 < x241001 then (if x241001 = 0 then (none) else (if 0 ≤ (Int.tmod (wrap64 (x7 + 1)) x241001) then (if (Int.tmod (wrap64 (x7 + 1)) x241001) < (x0.length : Int) then (if 0 ≤ x7 then (if x7 < (x5.length : Int) then (spec_moApply.l1 k x0 (x5.set (x7 : Int).toNat (rd x0 (Int.tmod (wrap64 (x7 + 1)) x241001))) (wrap64 (x7 + 1)) x241000 x241001 x241002) else (none)) else (none)) else (none)) else (none))) else (some x5)
end
def spec_moApply.f (k : Nat) (l0 : List Int) (a1_0 : Int) (a1_1 : Int) (a1_2 : Int) : Option (List Int) := (spec_l1Own.f l0).bind fun t241 => (if a1_0 = 0 then (if 0 ≤ a1_2 then (if a1_2 < (l0.length : Int) then (if 0 ≤ a1_1 then (if a1_1 < (t241.length : Int) then (if a1_1 < (l0.length : Int) then (if a1_2 < (t241.length : Int) then (some ((t241.set (a1_1 : Int).toNat (rd l0 a1_2)).set (a1_2 : Int).toNat (rd l0 a1_1))) else (none)) else (none)) else (none)) else (none)) else (none)) else (none)) else (if a1_0 = 1 then (spec_moApply.l0 k l0 t241 0 a1_0 a1_1 a1_2) else (spec_moApply.l1 k l0 t241 0 a1_0 a1_1 a1_2)))
theorem spec_moApply.mono_l : ∀ k, (∀ y0 y1 y2 y3 y4 y5, LeO (spec_moApply.l0 k y0 y1 y2 y3 y4 y5) (spec_moApply.l0 (k + 1) y0 y1 y2 y3 y4 y5)) ∧ (∀ y0 y1 y2 y3 y4 y5, LeO (spec_moApply.l1 k y0 y1 y2 y3 y4 y5) (spec_moApply.l1 (k + 1) y0 y1 y2 y3 y4 y5))
 | 0 => ⟨fun _ _ _ _ _ _ r h => by simp [spec_moApply.l0] at h, fun _ _ _ _ _ _ r h => by simp [spec_moApply.l1] at h⟩
 | k + 1 => by
  obtain ⟨ih0, ih1⟩ := spec_moApply.mono_l k
  refine ⟨?_, ?_⟩
  ·intro y0 y1 y2 y3 y4 y5
   unfold spec_moApply.l0
   repeat' first
   | (with_reducible exact ih0 _ _ _ _ _ _)
   | (with_reducible exact ih1 _ _ _ _ _ _)
   | (with_reducible exact LeO.refl _)
   | (with_reducible exact LeO.none _)
   | (with_reducible refine LeO.ite ?_ ?_)
   | (with_reducible refine LeO.bind ?_ (fun _ => ?_))
   | exact ih0 _ _ _ _ _ _
   | exact ih1 _ _ _ _ _ _
   | exact LeO.none _
   | refine LeO.ite ?_ ?_
   | refine LeO.bind ?_ (fun _ => ?_)
  ·intro y0 y1 y2 y3 y4 y5
   unfold spec_moApply.l1
   repeat' first
   | (with_reducible exact ih0 _ _ _ _ _ _)
   | (with_reducible exact ih1 _ _ _ _ _ _)
   | (with_reducible exact LeO.refl _)
   | (with_reducible exact LeO.none _)
   | (with_reducible refine LeO.ite ?_ ?_)
   | (with_reducible refine LeO.bind ?_ (fun _ => ?_))
   | exact ih0 _ _ _ _ _ _
   | exact ih1 _ _ _ _ _ _
   | exact LeO.none _
   | refine LeO.ite ?_ ?_
   | refine LeO.bind ?_ (fun _ => ?_)
theorem spec_moApply.mono : ∀ a0 a1 a2 a3 k, LeO (spec_moApply.f k a0 a1 a2 a3) (spec_moApply.f (k + 1) a0 a1 a2 a3) := by
 intro a0 a1 a2 a3 k
 obtain ⟨ih0, ih1⟩ := spec_moApply.mono_l k
 unfold spec_moApply.f
 repeat' first
   | (with_reducible exact ih0 _ _ _ _ _ _)
   | (with_reducible exact ih1 _ _ _ _ _ _)
   | (with_reducible exact LeO.refl _)
   | (with_reducible exact LeO.none _)
   | (with_reducible refine LeO.ite ?_ ?_)
   | (with_reducible refine LeO.bind ?_ (fun _ => ?_))
   | exact ih0 _ _ _ _ _ _
   | exact ih1 _ _ _ _ _ _
   | exact LeO.none _
   | refine LeO.ite ?_ ?_
   | refine LeO.bind ?_ (fun _ => ?_)
def spec_moApply.T8 : Bool × List (List Nat × List Nat) := (true, [([], []), ([], []), ([1], [1]), ([], []), ([], []), ([4], [4]), ([3, 5], [3, 5]), ([6], [6]), ([0, 2, 0, 1, 2, 3, 4, 5, 6, 7], [0, 2]), ([8, 7, 0, 1, 2, 3, 4, 5, 6, 7], [7, 8])])
def spec_moApply.B8 : List Nat := [0, 0, 2, 0, 0, 16, 56, 120, 255, 511]
theorem spec_moApply.tab8 : rtab .any (opsOf Try.f74 8) = spec_moApply.T8 := by kernel_rfl
theorem spec_moApply.bits8 : waitsOk spec_moApply.T8.2 spec_moApply.B8 = true := by kernel_rfl
def spec_moApply.T9 : Bool × List (List Nat × List Nat) := (true, [([], []), ([], []), ([1], [1]), ([], []), ([], []), ([4], [4]), ([3, 5], [3, 5]), ([6], [6]), ([0, 2, 0, 1, 2, 3, 4, 5, 6, 7], [0, 2]), ([8, 7, 0, 1, 2, 3, 4, 5, 6, 7], [7, 8])])
def spec_moApply.B9 : List Nat := [0, 0, 2, 0, 0, 16, 56, 120, 255, 511]
theorem spec_moApply.tab9 : rtab .any (opsOf Try.f74 9) = spec_moApply.T9 := by kernel_rfl
theorem spec_moApply.bits9 : waitsOk spec_moApply.T9.2 spec_moApply.B9 = true := by kernel_rfl
set_option maxHeartbeats 8000000 in
set_option maxRecDepth 100000 in
theorem spec_moApply.calls (k : Nat) (A0 : Option Addr) (c0 : Nat) (l0 : List Int) (a1_0 : Int) (a1_1 : Int) (a1_2 : Int) (r : List Int) (w : World) (hr0 : Kd.C (Kd.int .i64) w A0 l0.length l0) (hc0 : l0.length ≤ c0) (h : spec_moApply.f k l0 a1_0 a1_1 a1_2 = some r) :
  Calls Try.prog 74 #[.slice A0 l0.length c0, .agg #[.int .i64 a1_0, .int .i64 a1_1, .int .i64 a1_2]] w fun e w' => ∃ v0_ : Value, e = .returned (v0_) ∧ Kd.R (Kd.int .i64) 3 w' w.heap.size (fun _ => True) v0_ r ∧ Below w.heap.size w w' := by
 have hu82 := Try.underlying82
 have HR0 := Ya hr0
 have HC0 := Ya hc0
 clear hr0 hc0
 have HB := Ya (Below.refl w.heap.size w)
 have H : ((spec_l1Own.f l0).bind fun t241 => (if a1_0 = 0 then (if 0 ≤ a1_2 then (if a1_2 < (l0.length : Int) then (if 0 ≤ a1_1 then (if a1_1 < (t241.length : Int) then (if a1_1 < (l0.length : Int) then (if a1_2 < (t241.length : Int) then (some ((t241.set (a1_1 : Int).toNat (rd l0 a1_2)).set (a1_2 : Int).toNat (rd l0 a1_1))) else (none)) else (none)) else (none)) else (none)) else (none)) else (none)) else (if a1_0 = 1 then (spec_moApply.l0 k l0 t241 0 a1_0 a1_1 a1_2) else (spec_moApply.l1 k l0 t241 0 a1_0 a1_1 a1_2)))) = some r := h
 clear h
 replace H := Z33.mp H
 obtain ⟨t241, A30, H⟩ := H
 replace H : (if a1_0 = 0 then (if 0 ≤ a1_2 then (if a1_2 < (l0.length : Int) then (if 0 ≤ a1_1 then (if a1_1 < (t241.length : Int) then (if a1_1 < (l0.length : Int) then (if a1_2 < (t241.length : Int) then (some ((t241.set (a1_1 : Int).toNat (rd l0 a1_2)).set (a1_2 : Int).toNat (rd l0 a1_1))) else (none)) else (none)) else (none)) else (none)) else (none)) else (none)) else (if a1_0 = 1 then (spec_moApply.l0 k l0 t241 0 a1_0 a1_1 a1_2) else (spec_moApply.l1 k l0 t241 0 a1_0 a1_1 a1_2))) = some r := H
 have A3 := Ya A30
 clear A30
 by_cases c4 : a1_0 = 0
 ·rw [if_pos c4] at H
  have c4b0 : (a1_0 == 0) = true := beq_iff_eq.mpr c4
  have c4b1 : (a1_0 != 0) = false := bne_eq_false_iff_eq.mpr c4
  clear c4
  by_cases c5 : 0 ≤ a1_2
  ·rw [if_pos c5] at H
   have c5b0 : decide (0 ≤ a1_2) = true := Z35 c5
   clear c5
   by_cases c6 : a1_2 < (l0.length : Int)
   ·rw [if_pos c6] at H
    have c6b0 : decide (a1_2 < (l0.length : Int)) = true := Z35 c6
    clear c6
    by_cases c7 : 0 ≤ a1_1
    ·rw [if_pos c7] at H
     have c7b0 : decide (0 ≤ a1_1) = true := Z35 c7
     clear c7
     by_cases c8 : a1_1 < (t241.length : Int)
     ·rw [if_pos c8] at H
      have c8b0 : decide (a1_1 < (t241.length : Int)) = true := Z35 c8
      clear c8
      obtain ⟨y245, hy245⟩ : ∃ y_ : List Int, y_ = (t241.set (a1_1 : Int).toNat (rd l0 a1_2)) := ⟨_, rfl⟩
      replace H : (if a1_1 < (l0.length : Int) then (if a1_2 < (t241.length : Int) then (some (y245.set (a1_2 : Int).toNat (rd l0 a1_1))) else (none)) else (none)) = some r := by first | (rw [hy245]; with_reducible exact H) | (have H2_ := (Option.bind_some _ _).symm.trans H; rw [hy245]; with_reducible exact H2_) | (have H2_ := (Option.bind_some _ _).symm.trans H; with_reducible exact H2_) | with_reducible exact H | (rw [hy245]; exact H) | exact H
      have Ny245 := Ya hy245
      clear hy245
      by_cases c10 : a1_1 < (l0.length : Int)
      ·rw [if_pos c10] at H
       have c10b0 : decide (a1_1 < (l0.length : Int)) = true := Z35 c10
       clear c10
       by_cases c11 : a1_2 < (t241.length : Int)
       ·rw [if_pos c11] at H
        have c11b0 : decide (a1_2 < (t241.length : Int)) = true := Z35 c11
        clear c11
        obtain ⟨y247, hy247⟩ : ∃ y_ : List Int, y_ = (y245.set (a1_2 : Int).toNat (rd l0 a1_1)) := ⟨_, rfl⟩
        replace H : (some y247) = some r := by first | (rw [hy247]; with_reducible exact H) | (have H2_ := (Option.bind_some _ _).symm.trans H; rw [hy247]; with_reducible exact H2_) | (have H2_ := (Option.bind_some _ _).symm.trans H; with_reducible exact H2_) | with_reducible exact H | (rw [hy247]; exact H) | exact H
        have Ny247 := Ya hy247
        clear hy247
        obtain rfl := Option.some.inj H
        go_enter Try.func74, Try.ntmps74
        try go_wp2_with (first | ((with_reducible refine gate_dst (N := 3) rfl ?_); refine Yx 3 #[.int .i64 a1_0, .int .i64 a1_1, .int .i64 a1_2] 82 ?_; intro gb240 hg w13 hbox hb; have BK240 := Ya hbox; have GE240 := Yg hg; replace HB := Yh hb; clear hb hbox hg) | ((with_reducible refine gate_callee (f := 79) rfl ?_); refine Yz 9 Try.func79 #[.slice A0 l0.length c0] ?_; (with_reducible refine (spec_l1Own.calls _ _ l0 t241 _ (Yc (Z19 HR0.out HB.out)) HC0.out A3.out).mono ?_); rintro e w14 ⟨v242, rfl, ho0, hb⟩; refine ⟨_, rfl, ?_⟩; have HO243 := Yl ho0; replace BK240 := Yb BK240 hb; replace HB := Yh hb; (try clear hb ho0); have hcz15_0 : w14.cell? ⟨gb240, 0, none⟩ = some (.int .i64 a1_0) := (Z20 BK240.out 0).trans rfl; have hcz15_1 : w14.cell? ⟨gb240, 1, none⟩ = some (.int .i64 a1_1) := (Z20 BK240.out 1).trans rfl; have hcz15_2 : w14.cell? ⟨gb240, 2, none⟩ = some (.int .i64 a1_2) := (Z20 BK240.out 2).trans rfl; have hfz15_0 := Z21 BK240.out 0; have hfz15_1 := Z21 BK240.out 1; have hfz15_2 := Z21 BK240.out 2))
        replace HO243 := Ya (Z10 HO243.out)
        replace BK240 := Ya (Z23 BK240.out)
        replace HB := Ya (Z4 HB.out)
        have p244 : 0 ≤ (a1_2 : Int) := Z27 Q1
        have q244 : a1_2 < (l0.length : Int) := Z27 Q1
        obtain ⟨ad244, e244, hx244_0⟩ := Kd.at_int HR0.out a1_2 p244 q244
        have hw244_0 := hx244_0
        cases e244
        try replace hx244_0 := (HB.out.cell (World.block_lt_of_cell? w _ hx244_0)).trans hx244_0
        replace p244 := eq_true p244
        replace q244 := eq_true q244
        have p9 : 0 ≤ (a1_1 : Int) := Z27 Q1
        have q9 : (a1_1 : Int) < ((t241.length : Int) : Int) := Z27 Q1
        obtain ⟨go9, co9, eo9, gb9, gl9, cl9, HG9⟩ := Kd.R_form HO243.out (by omega)
        (first | cases eo9 | (injection eo9 with ea_ en_ ec_; (first | subst ea_ | (injection ea_ with ea_; subst ea_)); subst ec_; clear en_))
        have GB9 := Ya gb9
        have GG9 := Ya HG9
        clear gb9 gl9 HG9
        obtain ⟨hx9_0, hf9_0⟩ := Kd.R_celln 0 HO243.out (a1_1 : Int) p9 q9
        replace p9 := eq_true p9
        replace q9 := eq_true q9
        have HP17 := Kd.R_putn HO243.out (a1_1 : Int) (rd l0 a1_2)
        rw [← Ny245.out] at HP17
        have HQ17 := Ya HP17
        clear HP17
        refine start_ (n := 10) (S := fun w' => w'.cell? ⟨gb240, 0, none⟩ = some (.int .i64 a1_0) ∧ w'.cell? ⟨gb240, 1, none⟩ = some (.int .i64 a1_1) ∧ w'.cell? ⟨gb240, 2, none⟩ = some (.int .i64 a1_2) ∧ w'.cell? (ad244.add (a1_2).toNat) = some (.int .i64 (rd l0 a1_2))) (ds := [9]) (YA 10 0) (by kernel_rfl) rfl rfl ⟨(Z20 BK240.out 0).trans rfl, (Z20 BK240.out 1).trans rfl, (Z20 BK240.out 2).trans rfl, ((HB.out.cell (World.block_lt_of_cell? w _ hw244_0)).trans hw244_0)⟩ (fun hHeld => ?_); refine with_tabW spec_moApply.tab8 spec_moApply.bits8 (fun HT_ HW_ => ?_)
        generalize w14.drew = w16 at HO243 BK240 HB GG9 HQ17 hf9_0 hx244_0 hx9_0 hHeld ⊢
        refine Yp 0 (some 31) (YA 10 1) rfl HT_.out ?_
        refine Yp 1 (some 32) (YA 10 3) rfl HT_.out ?_
        refine Yp 3 (some 34) (YA 10 11) rfl HT_.out ?_
        refine Yp 4 (some 35) (YA 10 27) rfl HT_.out ?_
        refine Yt 2 (some 33) (YA 10 31) rfl HT_.out HW_.out hHeld Q3 ?_
        refine Yt 5 (some 36) (YA 10 63) rfl HT_.out HW_.out hHeld Q3 ?_
        refine Yp 6 (some 37) (YA 10 127) rfl HT_.out ?_
        refine Yt 7 (some 38) (YA 10 255) rfl HT_.out HW_.out hHeld Q3 ?_
        refine Yp 8 (some 39) (YA 10 511) rfl HT_.out ?_
        refine last_ (i := 9) (N := none) (YA 10 1023) rfl rfl (one_of HT_.out (by kernel_rfl)) (by decide) (fun K hK => ?_)
        refine skip_ (w1 := ?_) (by rfl) rfl ?_ ?_
        rotate_left
        ·go_simp
         rfl
        refine hK.out _ _ ?_
        clear hK K
        refine done_ (done_of HT_.out (by kernel_rfl)) ?_
        try go_wp2
        replace BK240 : Aside0 ((w16.setCell ⟨go9, (a1_1 : Int).toNat, none⟩ (.int .i64 (rd l0 a1_2))).heap[gb240]? = some (.cells #[.int .i64 a1_0, .int .i64 a1_1, .int .i64 a1_2] 82 (0, 0))) := ⟨by (with_reducible repeat (first | refine Z22 ?_ _ | refine Z23 ?_ | refine Z24 ?_ _)); refine blk_far ?_ (by have h_ := Kd.R_ne HO243.out BK240.out (by decide); intro e_; exact h_ (by rw [e_]; rfl)) _; (with_reducible repeat (first | refine Z22 ?_ _ | refine Z23 ?_ | refine Z24 ?_ _)); exact BK240.out⟩
        replace HO243 : Aside0 (Kd.R (Kd.int .i64) 3 (w16.setCell ⟨go9, (a1_1 : Int).toNat, none⟩ (.int .i64 (rd l0 a1_2))) w.heap.size (fun _ => True) (.slice (some ⟨go9, 0, none⟩) t241.length co9) y245) := ⟨by (with_reducible repeat (first | apply Z8 | apply Z9 | apply Z10)); exact HQ17.out⟩
        replace HB : Aside0 (Below w.heap.size w (w16.setCell ⟨go9, (a1_1 : Int).toNat, none⟩ (.int .i64 (rd l0 a1_2)))) := ⟨Q12⟩
        generalize (w16.setCell ⟨go9, (a1_1 : Int).toNat, none⟩ (.int .i64 (rd l0 a1_2))) = w18 at HO243 BK240 HB ⊢
        replace HO243 := Ya (Z10 HO243.out)
        replace BK240 := Ya (Z23 BK240.out)
        replace HB := Ya (Z4 HB.out)
        have p246 : 0 ≤ (a1_1 : Int) := Z27 Q1
        have q246 : a1_1 < (l0.length : Int) := Z27 Q1
        obtain ⟨ad246, e246, hx246_0⟩ := Kd.at_int HR0.out a1_1 p246 q246
        have hw246_0 := hx246_0
        obtain rfl : ad244 = ad246 := (by injection e246)
        try replace hx246_0 := (HB.out.cell (World.block_lt_of_cell? w _ hx246_0)).trans hx246_0
        replace p246 := eq_true p246
        replace q246 := eq_true q246
        have p12 : 0 ≤ (a1_2 : Int) := Z27 Q1
        have q12 : (a1_2 : Int) < ((t241.length : Int) : Int) := Z27 Q1
        obtain ⟨hx12_0, hf12_0⟩ := Kd.R_celln 0 HO243.out (a1_2 : Int) p12 q12
        replace p12 := eq_true p12
        replace q12 := eq_true q12
        have HP20 := Kd.R_putn HO243.out (a1_2 : Int) (rd l0 a1_1)
        rw [← Ny247.out] at HP20
        have HQ20 := Ya HP20
        clear HP20
        refine start_ (n := 10) (S := fun w' => w'.cell? ⟨gb240, 0, none⟩ = some (.int .i64 a1_0) ∧ w'.cell? ⟨gb240, 1, none⟩ = some (.int .i64 a1_1) ∧ w'.cell? ⟨gb240, 2, none⟩ = some (.int .i64 a1_2) ∧ w'.cell? (ad244.add (a1_1).toNat) = some (.int .i64 (rd l0 a1_1))) (ds := [9]) (YA 10 0) (by kernel_rfl) rfl rfl ⟨(Z20 BK240.out 0).trans rfl, (Z20 BK240.out 1).trans rfl, (Z20 BK240.out 2).trans rfl, ((HB.out.cell (World.block_lt_of_cell? w _ hw246_0)).trans hw246_0)⟩ (fun hHeld => ?_); refine with_tabW spec_moApply.tab9 spec_moApply.bits9 (fun HT_ HW_ => ?_)
        generalize w18.drew = w19 at HO243 BK240 HB HQ17 HQ20 hf12_0 hx12_0 hx246_0 hHeld ⊢
        refine Yp 0 (some 40) (YA 10 1) rfl HT_.out ?_
        refine Yp 1 (some 41) (YA 10 3) rfl HT_.out ?_
        refine Yp 3 (some 43) (YA 10 11) rfl HT_.out ?_
        refine Yp 4 (some 44) (YA 10 27) rfl HT_.out ?_
        refine Yt 2 (some 42) (YA 10 31) rfl HT_.out HW_.out hHeld Q3 ?_
        refine Yt 5 (some 45) (YA 10 63) rfl HT_.out HW_.out hHeld Q3 ?_
        refine Yp 6 (some 46) (YA 10 127) rfl HT_.out ?_
        refine Yt 7 (some 47) (YA 10 255) rfl HT_.out HW_.out hHeld Q3 ?_
        refine Yp 8 (some 48) (YA 10 511) rfl HT_.out ?_
        refine last_ (i := 9) (N := none) (YA 10 1023) rfl rfl (one_of HT_.out (by kernel_rfl)) (by decide) (fun K hK => ?_)
        refine skip_ (w1 := ?_) (by rfl) rfl ?_ ?_
        rotate_left
        ·go_simp
         rfl
        refine hK.out _ _ ?_
        clear hK K
        refine done_ (done_of HT_.out (by kernel_rfl)) ?_
        try go_wp2
        go_ret
        exact ⟨_, Q2, by (with_reducible repeat (first | apply Z8 | apply Z9 | apply Z10)); exact HQ20.out, Q12⟩
       ·rw [if_neg c11] at H
        exact absurd H (by simp)
      ·rw [if_neg c10] at H
       exact absurd H (by simp)
     ·rw [if_neg c8] at H
      exact absurd H (by simp)
    ·rw [if_neg c7] at H
     exact absurd H (by simp)
   ·rw [if_neg c6] at H
    exact absurd H (by simp)
  ·rw [if_neg c5] at H
   exact absurd H (by simp)
 ·rw [if_neg c4] at H
  have c4b0 : (a1_0 == 0) = false := beq_eq_false_iff_ne.mpr c4
  have c4b1 : (a1_0 != 0) = true := bne_iff_ne.mpr c4
  by_cases c21 : a1_0 = 1
  ·rw [if_pos c21] at H
   have c21b0 : (a1_0 == 1) = true := beq_iff_eq.mpr c21
   have c21b1 : (a1_0 != 1) = false := bne_eq_false_iff_eq.mpr c21
   clear c21
   have H' := Ya H
   clear H
   go_enter Try.func74, Try.ntmps74
   go_wp2_with (first | ((with_reducible refine gate_dst (N := 3) rfl ?_); refine Yx 3 #[.int .i64 a1_0, .int .i64 a1_1, .int .i64 a1_2] 82 ?_; intro gb240 hg w22 hbox hb; have BK240 := Ya hbox; have GE240 := Yg hg; replace HB := Yh hb; clear hb hbox hg) | ((with_reducible refine gate_callee (f := 79) rfl ?_); refine Yz 9 Try.func79 #[.slice A0 l0.length c0] ?_; (with_reducible refine (spec_l1Own.calls _ _ l0 t241 _ (Yc (Z19 HR0.out HB.out)) HC0.out A3.out).mono ?_); rintro e w23 ⟨v242, rfl, ho0, hb⟩; refine ⟨_, rfl, ?_⟩; have HO243 := Yl ho0; replace BK240 := Yb BK240 hb; replace HB := Yh hb; (try clear hb ho0); have hcz24_0 : w23.cell? ⟨gb240, 0, none⟩ = some (.int .i64 a1_0) := (Z20 BK240.out 0).trans rfl; have hcz24_1 : w23.cell? ⟨gb240, 1, none⟩ = some (.int .i64 a1_1) := (Z20 BK240.out 1).trans rfl; have hcz24_2 : w23.cell? ⟨gb240, 2, none⟩ = some (.int .i64 a1_2) := (Z20 BK240.out 2).trans rfl; have hfz24_0 := Z21 BK240.out 0; have hfz24_1 := Z21 BK240.out 1; have hfz24_2 := Z21 BK240.out 2))
   go_loopg [6] k (fun kq v6 w' => ∃ (x5_1 : List Int) (x6_1 : Int), v6 = .int .i64 x6_1 ∧ Aside0 (spec_moApply.l0 kq l0 x5_1 x6_1 a1_0 a1_1 a1_2 = some r) ∧ Aside0 (kq ≤ k) ∧ Aside0 (Kd.R (Kd.int .i64) 3 w' w.heap.size (fun _ => True) v242 x5_1) ∧ Aside0 (w'.heap[gb240]? = some (.cells #[.int .i64 a1_0, .int .i64 a1_1, .int .i64 a1_2] 82 (0, 0))) ∧ Aside0 (Below w.heap.size w w'))
   case atStart => exact ⟨(t241), (0), Q7, H', ⟨Nat.le_refl _⟩, ⟨by (with_reducible repeat (first | apply Z8 | apply Z9 | apply Z10)); exact HO243.out⟩, ⟨Q47⟩, ⟨Q12⟩⟩
   case round =>
    clear H'
    try clear c1
    try clear p1
    try clear q1
    try clear hx1
    try clear c2
    try clear p2
    try clear q2
    try clear hx2
    try clear c4
    try clear c4b0
    try clear c4b1
    try clear c5
    try clear c5b0
    try clear c6
    try clear c6b0
    try clear c7
    try clear c7b0
    try clear c8
    try clear c8b0
    try clear p9
    try clear q9
    try clear hx9
    try clear hf9
    try clear c10
    try clear c10b0
    try clear c11
    try clear c11b0
    try clear p12
    try clear q12
    try clear hx12
    try clear hf12
    try clear c21
    try clear c21b0
    try clear c21b1
    try clear p24
    try clear q24
    try clear hx24
    try clear hcz15_0
    try clear hcz15_1
    try clear hcz15_2
    try clear hcz24_0
    try clear hcz24_1
    try clear hcz24_2
    try clear hfz15_0
    try clear hfz15_1
    try clear hfz15_2
    try clear hfz24_0
    try clear hfz24_1
    try clear hfz24_2
    try clear hx12_0
    try clear hx244_0
    try clear hx246_0
    try clear hx9_0
    try clear p12
    try clear p244
    try clear p246
    try clear p9
    try clear q12
    try clear q244
    try clear q246
    try clear q9
    obtain ⟨x5_1, x6_1, rfl, HA, HK1, HO_5, BK240, HB⟩ := hrel
    cases gk with
    | zero => exact absurd HA.out (by simp [spec_moApply.l0])
    | succ k1 =>
     have H := HA.out
     clear HA
     simp only [spec_moApply.l0] at H
     by_cases c25 : x6_1 < a1_1
     ·rw [if_pos c25] at H
      have c25b0 : decide (x6_1 < a1_1) = true := Z35 c25
      clear c25
      obtain ⟨ji26, hji26⟩ : ∃ j_ : Int, (wrap64 ((wrap64 (a1_1 - 1)) - x6_1)) = j_ := ⟨_, rfl⟩
      replace H : (if 0 ≤ (ji26) then (if (ji26) < (l0.length : Int) then (if 0 ≤ x6_1 then (if x6_1 < (x5_1.length : Int) then (spec_moApply.l0 k1 l0 (x5_1.set (x6_1 : Int).toNat (rd l0 (ji26))) (wrap64 (x6_1 + 1)) a1_0 a1_1 a1_2) else (none)) else (none)) else (none)) else (none)) = some r := by first | (rw [hji26] at H; exact H) | (simp only [hji26] at H ⊢; exact H)
      have hji26w : (IntKind.i64.wrap ((wrap64 (a1_1 - 1)) - x6_1)) = ji26 := (i64_w _).trans hji26
      by_cases c27 : 0 ≤ (ji26)
      ·rw [if_pos c27] at H
       have c27b0 : decide (0 ≤ (ji26)) = true := Z35 c27
       clear c27
       by_cases c28 : (ji26) < (l0.length : Int)
       ·rw [if_pos c28] at H
        have c28b0 : decide ((ji26) < (l0.length : Int)) = true := Z35 c28
        clear c28
        by_cases c29 : 0 ≤ x6_1
        ·rw [if_pos c29] at H
         have c29b0 : decide (0 ≤ x6_1) = true := Z35 c29
         clear c29
         by_cases c30 : x6_1 < (x5_1.length : Int)
         ·rw [if_pos c30] at H
          have c30b0 : decide (x6_1 < (x5_1.length : Int)) = true := Z35 c30
          clear c30
          obtain ⟨y249, hy249⟩ : ∃ y_ : List Int, y_ = (x5_1.set (x6_1 : Int).toNat (rd l0 (ji26))) := ⟨_, rfl⟩
          replace H : (spec_moApply.l0 k1 l0 y249 (wrap64 (x6_1 + 1)) a1_0 a1_1 a1_2) = some r := by first | (rw [hy249]; with_reducible exact H) | (have H2_ := (Option.bind_some _ _).symm.trans H; rw [hy249]; with_reducible exact H2_) | (have H2_ := (Option.bind_some _ _).symm.trans H; with_reducible exact H2_) | with_reducible exact H | (rw [hy249]; exact H) | exact H
          have Ny249 := Ya hy249
          clear hy249
          have H' := Ya H
          clear H
          have hcz32_0 : wr.cell? ⟨gb240, 0, none⟩ = some (.int .i64 a1_0) := (Z20 BK240.out 0).trans rfl
          have hcz32_1 : wr.cell? ⟨gb240, 1, none⟩ = some (.int .i64 a1_1) := (Z20 BK240.out 1).trans rfl
          have hcz32_2 : wr.cell? ⟨gb240, 2, none⟩ = some (.int .i64 a1_2) := (Z20 BK240.out 2).trans rfl
          have hfz32_0 := Z21 BK240.out 0
          have hfz32_1 := Z21 BK240.out 1
          have hfz32_2 := Z21 BK240.out 2
          have p248 : 0 ≤ ((ji26) : Int) := Z27 Q1
          have q248 : (ji26) < (l0.length : Int) := Z27 Q1
          obtain ⟨ad248, e248, hx248_0⟩ := Kd.at_int HR0.out (ji26) p248 q248
          cases e248
          try replace hx248_0 := (HB.out.cell (World.block_lt_of_cell? w _ hx248_0)).trans hx248_0
          replace p248 := eq_true p248
          replace q248 := eq_true q248
          have p31 : 0 ≤ (x6_1 : Int) := Z27 Q1
          have q31 : (x6_1 : Int) < ((x5_1.length : Int) : Int) := Z27 Q1
          obtain ⟨go31, co31, eo31, gb31, gl31, cl31, HG31⟩ := Kd.R_form HO_5.out (by omega)
          (first | cases eo31 | (injection eo31 with ea_ en_ ec_; (first | subst ea_ | (injection ea_ with ea_; subst ea_)); subst ec_; clear en_))
          have GB31 := Ya gb31
          have GG31 := Ya HG31
          clear gb31 gl31 HG31
          obtain ⟨hx31_0, hf31_0⟩ := Kd.R_celln 0 HO_5.out (x6_1 : Int) p31 q31
          replace p31 := eq_true p31
          replace q31 := eq_true q31
          have HP33 := Kd.R_putg HO_5.out (x6_1 : Int) (rd l0 (ji26))
          go_wp2_with (first | ((with_reducible refine gate_store (t := 3) (p := 67) rfl ?_); refine store_event (t := 3) (p := 67) (v := ?vo_w34) (w1 := (wr.setCell ⟨go31, (x6_1 : Int).toNat, none⟩ (.int .i64 (rd l0 (ji26))))) ?hg ?ho ?hn ?hr ?_; (case ho => rfl); (case hg => rfl); (case hn => rfl); (case hr => first | (go_simp; done) | (go_simp; rfl)); intro w34 hw; have hg : wr.grownBy w34 (some go31) := (by rw [hw]; exact HP33.2); have hp_ : Kd.R (Kd.int .i64) 3 w34 w.heap.size (fun _ => True) (.slice (some ⟨go31, 0, none⟩) x5_1.length co31) y249 := (by rw [hw, Ny249.out]; exact HP33.1); clear HP33; replace BK240 := Ya (blk_grown (g := gb240) (o := .cells #[.int .i64 a1_0, .int .i64 a1_1, .int .i64 a1_2] 82 (0, 0)) (Yk BK240.out) hg (Kd.R_ne HO_5.out BK240.out (by decide))); replace HO_5 := Ya hp_; replace HB := Ya ((by rw [hw]; exact Z6 (HB.out) GB31.out : Below w.heap.size w w34)); clear hg hw hp_))
          go_roundg k1
          case measure => have := HK1.out; omega
          case rel => exact ⟨(y249), (wrap64 (x6_1 + 1)), Q7, H', ⟨Q30⟩, ⟨Q54⟩, ⟨Q47⟩, ⟨Q12⟩⟩
         ·rw [if_neg c30] at H
          exact absurd H (by simp)
        ·rw [if_neg c29] at H
         exact absurd H (by simp)
       ·rw [if_neg c28] at H
        exact absurd H (by simp)
      ·rw [if_neg c27] at H
       exact absurd H (by simp)
     ·rw [if_neg c25] at H
      have c25b0 : decide (x6_1 < a1_1) = false := Z34 c25
      clear c25
      obtain rfl := Option.some.inj H
      have hcz35_0 : wr.cell? ⟨gb240, 0, none⟩ = some (.int .i64 a1_0) := (Z20 BK240.out 0).trans rfl
      have hcz35_1 : wr.cell? ⟨gb240, 1, none⟩ = some (.int .i64 a1_1) := (Z20 BK240.out 1).trans rfl
      have hcz35_2 : wr.cell? ⟨gb240, 2, none⟩ = some (.int .i64 a1_2) := (Z20 BK240.out 2).trans rfl
      have hfz35_0 := Z21 BK240.out 0
      have hfz35_1 := Z21 BK240.out 1
      have hfz35_2 := Z21 BK240.out 2
      go_wp2
      go_ret
      exact ⟨_, Q2, Q54, Q12⟩
  ·rw [if_neg c21] at H
   have c21b0 : (a1_0 == 1) = false := beq_eq_false_iff_ne.mpr c21
   have c21b1 : (a1_0 != 1) = true := bne_iff_ne.mpr c21
   have H' := Ya H
   clear H
   go_enter Try.func74, Try.ntmps74
   go_wp2_with (first | ((with_reducible refine gate_dst (N := 3) rfl ?_); refine Yx 3 #[.int .i64 a1_0, .int .i64 a1_1, .int .i64 a1_2] 82 ?_; intro gb240 hg w36 hbox hb; have BK240 := Ya hbox; have GE240 := Yg hg; replace HB := Yh hb; clear hb hbox hg) | ((with_reducible refine gate_callee (f := 79) rfl ?_); refine Yz 9 Try.func79 #[.slice A0 l0.length c0] ?_; (with_reducible refine (spec_l1Own.calls _ _ l0 t241 _ (Yc (Z19 HR0.out HB.out)) HC0.out A3.out).mono ?_); rintro e w37 ⟨v242, rfl, ho0, hb⟩; refine ⟨_, rfl, ?_⟩; have HO243 := Yl ho0; replace BK240 := Yb BK240 hb; replace HB := Yh hb; (try clear hb ho0); have hcz38_0 : w37.cell? ⟨gb240, 0, none⟩ = some (.int .i64 a1_0) := (Z20 BK240.out 0).trans rfl; have hcz38_1 : w37.cell? ⟨gb240, 1, none⟩ = some (.int .i64 a1_1) := (Z20 BK240.out 1).trans rfl; have hcz38_2 : w37.cell? ⟨gb240, 2, none⟩ = some (.int .i64 a1_2) := (Z20 BK240.out 2).trans rfl; have hfz38_0 := Z21 BK240.out 0; have hfz38_1 := Z21 BK240.out 1; have hfz38_2 := Z21 BK240.out 2))
   go_loopg [7] k (fun kq v7 w' => ∃ (x5_1 : List Int) (x7_1 : Int), v7 = .int .i64 x7_1 ∧ Aside0 (spec_moApply.l1 kq l0 x5_1 x7_1 a1_0 a1_1 a1_2 = some r) ∧ Aside0 (kq ≤ k) ∧ Aside0 (Kd.R (Kd.int .i64) 3 w' w.heap.size (fun _ => True) v242 x5_1) ∧ Aside0 (w'.heap[gb240]? = some (.cells #[.int .i64 a1_0, .int .i64 a1_1, .int .i64 a1_2] 82 (0, 0))) ∧ Aside0 (Below w.heap.size w w'))
   case atStart => exact ⟨(t241), (0), Q7, H', ⟨Nat.le_refl _⟩, ⟨by (with_reducible repeat (first | apply Z8 | apply Z9 | apply Z10)); exact HO243.out⟩, ⟨Q47⟩, ⟨Q12⟩⟩
   case round =>
    clear H'
    try clear c1
    try clear p1
    try clear q1
    try clear hx1
    try clear c2
    try clear p2
    try clear q2
    try clear hx2
    try clear c3
    try clear p3
    try clear q3
    try clear hx3
    try clear hf3
    try clear c4
    try clear c4b0
    try clear c4b1
    try clear c5
    try clear c5b0
    try clear c6
    try clear c6b0
    try clear p6
    try clear c7
    try clear c7b0
    try clear c8
    try clear c8b0
    try clear p9
    try clear q9
    try clear hx9
    try clear hf9
    try clear c10
    try clear c10b0
    try clear c11
    try clear c11b0
    try clear p12
    try clear q12
    try clear hx12
    try clear hf12
    try clear c21
    try clear c21b0
    try clear c21b1
    try clear p24
    try clear q24
    try clear hx24
    try clear c25
    try clear c25b0
    try clear c27
    try clear c27b0
    try clear c28
    try clear c28b0
    try clear c29
    try clear c29b0
    try clear c30
    try clear c30b0
    try clear p31
    try clear q31
    try clear hx31
    try clear hf31
    try clear hcz15_0
    try clear hcz15_1
    try clear hcz15_2
    try clear hcz24_0
    try clear hcz24_1
    try clear hcz24_2
    try clear hcz32_0
    try clear hcz32_1
    try clear hcz32_2
    try clear hcz35_0
    try clear hcz35_1
    try clear hcz35_2
    try clear hcz38_0
    try clear hcz38_1
    try clear hcz38_2
    try clear hfz15_0
    try clear hfz15_1
    try clear hfz15_2
    try clear hfz24_0
    try clear hfz24_1
    try clear hfz24_2
    try clear hfz32_0
    try clear hfz32_1
    try clear hfz32_2
    try clear hfz35_0
    try clear hfz35_1
    try clear hfz35_2
    try clear hfz38_0
    try clear hfz38_1
    try clear hfz38_2
    try clear hx12_0
    try clear hx244_0
    try clear hx246_0
    try clear hx248_0
    try clear hx31_0
    try clear hx9_0
    try clear p1
    try clear p12
    try clear p2
    try clear p24
    try clear p244
    try clear p246
    try clear p248
    try clear p31
    try clear p9
    try clear q1
    try clear q12
    try clear q2
    try clear q24
    try clear q244
    try clear q246
    try clear q248
    try clear q31
    try clear q9
    obtain ⟨x5_1, x7_1, rfl, HA, HK1, HO_5, BK240, HB⟩ := hrel
    cases gk with
    | zero => exact absurd HA.out (by simp [spec_moApply.l1])
    | succ k1 =>
     have H := HA.out
     clear HA
     simp only [spec_moApply.l1] at H
     by_cases c39 : x7_1 < a1_1
     ·rw [if_pos c39] at H
      have c39b0 : decide (x7_1 < a1_1) = true := Z35 c39
      clear c39
      by_cases c40 : a1_1 = 0
      ·rw [if_pos c40] at H
       exact absurd H (by simp)
      ·rw [if_neg c40] at H
       have c40b0 : (a1_1 == 0) = false := beq_eq_false_iff_ne.mpr c40
       have c40b1 : (a1_1 != 0) = true := bne_iff_ne.mpr c40
       obtain ⟨ji41, hji41⟩ : ∃ j_ : Int, (Int.tmod (wrap64 (x7_1 + 1)) a1_1) = j_ := ⟨_, rfl⟩
       replace H : (if 0 ≤ (ji41) then (if (ji41) < (l0.length : Int) then (if 0 ≤ x7_1 then (if x7_1 < (x5_1.length : Int) then (spec_moApply.l1 k1 l0 (x5_1.set (x7_1 : Int).toNat (rd l0 (ji41))) (wrap64 (x7_1 + 1)) a1_0 a1_1 a1_2) else (none)) else (none)) else (none)) else (none)) = some r := by first | (rw [hji41] at H; exact H) | (simp only [hji41] at H ⊢; exact H)
       by_cases c42 : 0 ≤ (ji41)
       ·rw [if_pos c42] at H
        have c42b0 : decide (0 ≤ (ji41)) = true := Z35 c42
        clear c42
        by_cases c43 : (ji41) < (l0.length : Int)
        ·rw [if_pos c43] at H
         have c43b0 : decide ((ji41) < (l0.length : Int)) = true := Z35 c43
         clear c43
         by_cases c44 : 0 ≤ x7_1
         ·rw [if_pos c44] at H
          have c44b0 : decide (0 ≤ x7_1) = true := Z35 c44
          clear c44
          by_cases c45 : x7_1 < (x5_1.length : Int)
          ·rw [if_pos c45] at H
           have c45b0 : decide (x7_1 < (x5_1.length : Int)) = true := Z35 c45
           clear c45
           obtain ⟨y251, hy251⟩ : ∃ y_ : List Int, y_ = (x5_1.set (x7_1 : Int).toNat (rd l0 (ji41))) := ⟨_, rfl⟩
           replace H : (spec_moApply.l1 k1 l0 y251 (wrap64 (x7_1 + 1)) a1_0 a1_1 a1_2) = some r := by first | (rw [hy251]; with_reducible exact H) | (have H2_ := (Option.bind_some _ _).symm.trans H; rw [hy251]; with_reducible exact H2_) | (have H2_ := (Option.bind_some _ _).symm.trans H; with_reducible exact H2_) | with_reducible exact H | (rw [hy251]; exact H) | exact H
           have Ny251 := Ya hy251
           clear hy251
           have H' := Ya H
           clear H
           have hcz47_0 : wr.cell? ⟨gb240, 0, none⟩ = some (.int .i64 a1_0) := (Z20 BK240.out 0).trans rfl
           have hcz47_1 : wr.cell? ⟨gb240, 1, none⟩ = some (.int .i64 a1_1) := (Z20 BK240.out 1).trans rfl
           have hcz47_2 : wr.cell? ⟨gb240, 2, none⟩ = some (.int .i64 a1_2) := (Z20 BK240.out 2).trans rfl
           have hfz47_0 := Z21 BK240.out 0
           have hfz47_1 := Z21 BK240.out 1
           have hfz47_2 := Z21 BK240.out 2
           have p250 : 0 ≤ ((ji41) : Int) := Z27 Q1
           have q250 : (ji41) < (l0.length : Int) := Z27 Q1
           obtain ⟨ad250, e250, hx250_0⟩ := Kd.at_int HR0.out (ji41) p250 q250
           cases e250
           try replace hx250_0 := (HB.out.cell (World.block_lt_of_cell? w _ hx250_0)).trans hx250_0
           replace p250 := eq_true p250
           replace q250 := eq_true q250
           have p46 : 0 ≤ (x7_1 : Int) := Z27 Q1
           have q46 : (x7_1 : Int) < ((x5_1.length : Int) : Int) := Z27 Q1
           obtain ⟨go46, co46, eo46, gb46, gl46, cl46, HG46⟩ := Kd.R_form HO_5.out (by omega)
           (first | cases eo46 | (injection eo46 with ea_ en_ ec_; (first | subst ea_ | (injection ea_ with ea_; subst ea_)); subst ec_; clear en_))
           have GB46 := Ya gb46
           have GG46 := Ya HG46
           clear gb46 gl46 HG46
           obtain ⟨hx46_0, hf46_0⟩ := Kd.R_celln 0 HO_5.out (x7_1 : Int) p46 q46
           replace p46 := eq_true p46
           replace q46 := eq_true q46
           have HP48 := Kd.R_putg HO_5.out (x7_1 : Int) (rd l0 (ji41))
           go_wp2_with (first | ((with_reducible refine gate_store (t := 3) (p := 28) rfl ?_); refine store_event (t := 3) (p := 28) (v := ?vo_w49) (w1 := (wr.setCell ⟨go46, (x7_1 : Int).toNat, none⟩ (.int .i64 (rd l0 (ji41))))) ?hg ?ho ?hn ?hr ?_; (case ho => rfl); (case hg => rfl); (case hn => rfl); (case hr => first | (go_simp; done) | (go_simp; rfl)); intro w49 hw; have hg : wr.grownBy w49 (some go46) := (by rw [hw]; exact HP48.2); have hp_ : Kd.R (Kd.int .i64) 3 w49 w.heap.size (fun _ => True) (.slice (some ⟨go46, 0, none⟩) x5_1.length co46) y251 := (by rw [hw, Ny251.out]; exact HP48.1); clear HP48; replace BK240 := Ya (blk_grown (g := gb240) (o := .cells #[.int .i64 a1_0, .int .i64 a1_1, .int .i64 a1_2] 82 (0, 0)) (Yk BK240.out) hg (Kd.R_ne HO_5.out BK240.out (by decide))); replace HO_5 := Ya hp_; replace HB := Ya ((by rw [hw]; exact Z6 (HB.out) GB46.out : Below w.heap.size w w49)); clear hg hw hp_))
           go_roundg k1
           case measure => have := HK1.out; omega
           case rel => exact ⟨(y251), (wrap64 (x7_1 + 1)), Q7, H', ⟨Q30⟩, ⟨Q54⟩, ⟨Q47⟩, ⟨Q12⟩⟩
          ·rw [if_neg c45] at H
           exact absurd H (by simp)
         ·rw [if_neg c44] at H
          exact absurd H (by simp)
        ·rw [if_neg c43] at H
         exact absurd H (by simp)
       ·rw [if_neg c42] at H
        exact absurd H (by simp)
     ·rw [if_neg c39] at H
      have c39b0 : decide (x7_1 < a1_1) = false := Z34 c39
      clear c39
      obtain rfl := Option.some.inj H
      have hcz50_0 : wr.cell? ⟨gb240, 0, none⟩ = some (.int .i64 a1_0) := (Z20 BK240.out 0).trans rfl
      have hcz50_1 : wr.cell? ⟨gb240, 1, none⟩ = some (.int .i64 a1_1) := (Z20 BK240.out 1).trans rfl
      have hcz50_2 : wr.cell? ⟨gb240, 2, none⟩ = some (.int .i64 a1_2) := (Z20 BK240.out 2).trans rfl
      have hfz50_0 := Z21 BK240.out 0
      have hfz50_1 := Z21 BK240.out 1
      have hfz50_2 := Z21 BK240.out 2
      go_wp2
      go_ret
      exact ⟨_, Q2, Q54, Q12⟩
end Go.Proofs.Ytpfakdhfffehaaa.MFnExactIsSwapper
