import Derived.Test.YtpfakdhfffehaaaMFnExactStepSwapperx0
import Derived.Test.YtpfakdhfffehaaaMFnExactStepSwapperx5
import Derived.Test.YtpfakdhfffehaaaMFnExactStepSwapperx6
import Derived.Test.YtpfakdhfffehaaaMFnExactStepSwapperx7
namespace Go.Proofs.Ytpfakdhfffehaaa.MFnExactStepSwapper
open Go.RowKit Go.Proofs.YtpfakdhfffehaaaW.PrintWords Go.Proofs.YtpfakdhfffehaaaW.PrintLast Go.Proofs.YtpfakdhfffehaaaW.PrintMore
attribute [local go_sem] max2_int min2_int max_two min_two max_three min_three max_four min_four   
set_option linter.unusedVariables false
set_option linter.unusedSimpArgs false
def spec_foRank.j0 : Nat → Bool → List Int → List Int → List Bool → List Int → List Int → List Int → Option (Int)
 | 0, _, _, _, _, _, _, _ => none
 | k + 1, x22, x434000, x434001, x434002, x434003, x434004, x434005 => if x22 = true then (some (-1)) else ((spec_gcMixedRank.f k x434000 x434001).bind fun t437 => ((spec_foSwapperAt.f k (x434004.length : Int) t437).bind fun bt438 => (if bt438.2.2.2.2.2.2 = true then ((spec_foSame.f k x434000 x434001 x434002 x434003 bt438.1 bt438.2.1 bt438.2.2.1 bt438.2.2.2.1).bind fun t458 => (if t458 = true then ((spec_l1Same.f k x434004 bt438.2.2.2.2.1).bind fun t459 => (if t459 = true then ((spec_l1Same.f k x434005 bt438.2.2.2.2.2.1).bind fun t460 => (if t460 = true then (some t437) else (some (-1)))) else (some (-1)))) else (some (-1)))) else (some (-1)))))
def spec_foRank.f (k : Nat) (l0_0 : List Int) (l0_1 : List Int) (l0_2 : List Bool) (l0_3 : List Int) (l0_4 : List Int) (l0_5 : List Int) : Option (Int) := (spec_foSize.f (l0_4.length : Int)).bind fun t434 => (if t434 = true then ((spec_raPermutation.f k l0_4).bind fun t435 => (if t435 = true then ((spec_foGood.f k l0_0 l0_1 l0_2 l0_3).bind fun t436 => (spec_foRank.j0 k (!t436) l0_0 l0_1 l0_2 l0_3 l0_4 l0_5)) else (spec_foRank.j0 k true l0_0 l0_1 l0_2 l0_3 l0_4 l0_5))) else (spec_foRank.j0 k true l0_0 l0_1 l0_2 l0_3 l0_4 l0_5))
theorem spec_foRank.mono_l : ∀ k, (∀ y0 y1 y2 y3 y4 y5 y6, LeO (spec_foRank.j0 k y0 y1 y2 y3 y4 y5 y6) (spec_foRank.j0 (k + 1) y0 y1 y2 y3 y4 y5 y6))
 | 0 => fun _ _ _ _ _ _ _ r h => by simp [spec_foRank.j0] at h
 | k + 1 => by
  have ih0 := spec_foRank.mono_l k
  ·intro y0 y1 y2 y3 y4 y5 y6
   unfold spec_foRank.j0
   repeat' first
   | (with_reducible exact ih0 _ _ _ _ _ _ _)
   | (with_reducible exact spec_foGood.mono _ _ _ _ _)
   | (with_reducible exact spec_foSame.mono _ _ _ _ _ _ _ _ _)
   | (with_reducible exact spec_foSwapperAt.mono _ _ _)
   | (with_reducible exact spec_gcMixedRank.mono _ _ _)
   | (with_reducible exact spec_l1Same.mono _ _ _)
   | (with_reducible exact spec_raPermutation.mono _ _)
   | (with_reducible exact LeO.refl _)
   | (with_reducible exact LeO.none _)
   | (with_reducible refine LeO.ite ?_ ?_)
   | (with_reducible refine LeO.bind ?_ (fun _ => ?_))
   | exact ih0 _ _ _ _ _ _ _
   | exact spec_foGood.mono _ _ _ _ _
   | exact spec_foSame.mono _ _ _ _ _ _ _ _ _
   | exact spec_foSwapperAt.mono _ _ _
   | exact spec_gcMixedRank.mono _ _ _
   | exact spec_l1Same.mono _ _ _
   | exact spec_raPermutation.mono _ _
   | exact LeO.none _
   | refine LeO.ite ?_ ?_
   | refine LeO.bind ?_ (fun _ => ?_)
theorem spec_foRank.mono : ∀ a0 a1 a2 a3 a4 a5 k, LeO (spec_foRank.f k a0 a1 a2 a3 a4 a5) (spec_foRank.f (k + 1) a0 a1 a2 a3 a4 a5) := by
 intro a0 a1 a2 a3 a4 a5 k
 have ih0 := spec_foRank.mono_l k
 unfold spec_foRank.f
 repeat' first
   | (with_reducible exact ih0 _ _ _ _ _ _ _)
   | (with_reducible exact spec_foGood.mono _ _ _ _ _)
   | (with_reducible exact spec_foSame.mono _ _ _ _ _ _ _ _ _)
   | (with_reducible exact spec_foSwapperAt.mono _ _ _)
   | (with_reducible exact spec_gcMixedRank.mono _ _ _)
   | (with_reducible exact spec_l1Same.mono _ _ _)
   | (with_reducible exact spec_raPermutation.mono _ _)
   | (with_reducible exact LeO.refl _)
   | (with_reducible exact LeO.none _)
   | (with_reducible refine LeO.ite ?_ ?_)
   | (with_reducible refine LeO.bind ?_ (fun _ => ?_))
   | exact ih0 _ _ _ _ _ _ _
   | exact spec_foGood.mono _ _ _ _ _
   | exact spec_foSame.mono _ _ _ _ _ _ _ _ _
   | exact spec_foSwapperAt.mono _ _ _
   | exact spec_gcMixedRank.mono _ _ _
   | exact spec_l1Same.mono _ _ _
   | exact spec_raPermutation.mono _ _
   | exact LeO.none _
   | refine LeO.ite ?_ ?_
   | refine LeO.bind ?_ (fun _ => ?_)
set_option maxHeartbeats 8000000 in
set_option maxRecDepth 100000 in
theorem spec_foRank.calls (k : Nat) (A0_0 : Option Addr) (c0_0 : Nat) (l0_0 : List Int) (A0_1 : Option Addr) (c0_1 : Nat) (l0_1 : List Int) (A0_2 : Option Addr) (c0_2 : Nat) (l0_2 : List Bool) (A0_3 : Option Addr) (c0_3 : Nat) (l0_3 : List Int) (A0_4 : Option Addr) (c0_4 : Nat) (l0_4 : List Int) (A0_5 : Option Addr) (c0_5 : Nat) (l0_5 : List Int) (r : Int) (w : World) (hr0_0 : Kd.C (Kd.int .i64) w A0_0 l0_0.length l0_0) (hc0_0 : l0_0.length ≤ c0_0) (hr0_1 : Kd.C (Kd.int .i64) w A0_1 l0_1.length l0_1) (hc0_1 : l0_1.length ≤ c0_1) (hr0_2 : Kd.C Kd.bool w A0_2 l0_2.length l0_2) (hc0_2 : l0_2.length ≤ c0_2) (hr0_3 : Kd.C (Kd.int .i64) w A0_3 l0_3.length l0_3) (hc0_3 : l0_3.length ≤ c0_3) (hr0_4 : Kd.C (Kd.int .i64) w A0_4 l0_4.length l0_4) (hc0_4 : l0_4.length ≤ c0_4) (hr0_5 : Kd.C (Kd.int .i64) w A0_5 l0_5.length l0_5) (hc0_5 : l0_5.length ≤ c0_5) (h : spec_foRank.f k l0_0 l0_1 l0_2 l0_3 l0_4 l0_5 = some r) :
  Calls Try.prog 51 #[.agg #[.slice A0_0 l0_0.length c0_0, .slice A0_1 l0_1.length c0_1, .slice A0_2 l0_2.length c0_2, .slice A0_3 l0_3.length c0_3, .slice A0_4 l0_4.length c0_4, .slice A0_5 l0_5.length c0_5]] w fun e w' => e = .returned (.int .i64 r) ∧ Below w.heap.size w w' := by
 have hu35 := Try.underlying35
 have hu27 := Try.underlying27
 have HR0_0 := Ya hr0_0
 have HC0_0 := Ya hc0_0
 clear hr0_0 hc0_0
 have HR0_1 := Ya hr0_1
 have HC0_1 := Ya hc0_1
 clear hr0_1 hc0_1
 have HR0_2 := Ya hr0_2
 have HC0_2 := Ya hc0_2
 clear hr0_2 hc0_2
 have HR0_3 := Ya hr0_3
 have HC0_3 := Ya hc0_3
 clear hr0_3 hc0_3
 have HR0_4 := Ya hr0_4
 have HC0_4 := Ya hc0_4
 clear hr0_4 hc0_4
 have HR0_5 := Ya hr0_5
 have HC0_5 := Ya hc0_5
 clear hr0_5 hc0_5
 have HB := Ya (Below.refl w.heap.size w)
 have H : ((spec_foSize.f (l0_4.length : Int)).bind fun t434 => (if t434 = true then ((spec_raPermutation.f k l0_4).bind fun t435 => (if t435 = true then ((spec_foGood.f k l0_0 l0_1 l0_2 l0_3).bind fun t436 => (spec_foRank.j0 k (!t436) l0_0 l0_1 l0_2 l0_3 l0_4 l0_5)) else (spec_foRank.j0 k true l0_0 l0_1 l0_2 l0_3 l0_4 l0_5))) else (spec_foRank.j0 k true l0_0 l0_1 l0_2 l0_3 l0_4 l0_5))) = some r := h
 clear h
 have HC2 := Ya H
 clear H
 go_enter Try.func51, Try.ntmps51
 go_upto_region 1 with (first | ((with_reducible refine gate_dst (N := 1) rfl ?_); refine Yx 1 #[.slice A0_0 l0_0.length c0_0, .slice A0_1 l0_1.length c0_1, .slice A0_2 l0_2.length c0_2, .slice A0_3 l0_3.length c0_3, .slice A0_4 l0_4.length c0_4, .slice A0_5 l0_5.length c0_5] 35 ?_; intro gb433 hg w3 hbox hb; have BK433 := Ya hbox; have GE433 := Yg hg; replace HB := Yh hb; clear hb hbox hg))
 (try simp only [Act.put, Z0, Z1, Z2])
 go_cut [22] (fun v22 wc => ∃ (kq : Nat) (x22_1 : Bool), v22 = .bool x22_1 ∧ Aside0 (spec_foRank.j0 kq x22_1 l0_0 l0_1 l0_2 l0_3 l0_4 l0_5 = some r) ∧ Aside0 (kq ≤ k) ∧ Aside0 (wc.heap[gb433]? = some (.cells #[(.slice A0_0 l0_0.length c0_0), (.slice A0_1 l0_1.length c0_1), (.slice A0_2 l0_2.length c0_2), (.slice A0_3 l0_3.length c0_3), (.slice A0_4 l0_4.length c0_4), (.slice A0_5 l0_5.length c0_5)] 35 (0, 0))) ∧ Aside0 (Below w.heap.size w wc))
 case first =>
  have H := HC2.out
  clear HC2
  replace H := Z36.mp H
  obtain ⟨t434, A40, H⟩ := H
  replace H : (if t434 = true then ((spec_raPermutation.f k l0_4).bind fun t435 => (if t435 = true then ((spec_foGood.f k l0_0 l0_1 l0_2 l0_3).bind fun t436 => (spec_foRank.j0 k (!t436) l0_0 l0_1 l0_2 l0_3 l0_4 l0_5)) else (spec_foRank.j0 k true l0_0 l0_1 l0_2 l0_3 l0_4 l0_5))) else (spec_foRank.j0 k true l0_0 l0_1 l0_2 l0_3 l0_4 l0_5)) = some r := H
  have A4 := Ya A40
  clear A40
  by_cases c5 : t434 = true
  ·subst c5
   have H1 : ((spec_raPermutation.f k l0_4).bind fun t435 => (if t435 = true then ((spec_foGood.f k l0_0 l0_1 l0_2 l0_3).bind fun t436 => (spec_foRank.j0 k (!t436) l0_0 l0_1 l0_2 l0_3 l0_4 l0_5)) else (spec_foRank.j0 k true l0_0 l0_1 l0_2 l0_3 l0_4 l0_5))) = some r := by rw [if_pos rfl] at H; exact H
   clear H
   have H := H1
   clear H1
   replace H := Z36.mp H
   obtain ⟨t435, A60, H⟩ := H
   replace H : (if t435 = true then ((spec_foGood.f k l0_0 l0_1 l0_2 l0_3).bind fun t436 => (spec_foRank.j0 k (!t436) l0_0 l0_1 l0_2 l0_3 l0_4 l0_5)) else (spec_foRank.j0 k true l0_0 l0_1 l0_2 l0_3 l0_4 l0_5)) = some r := H
   have A6 := Ya A60
   clear A60
   by_cases c7 : t435 = true
   ·subst c7
    have H1 : ((spec_foGood.f k l0_0 l0_1 l0_2 l0_3).bind fun t436 => (spec_foRank.j0 k (!t436) l0_0 l0_1 l0_2 l0_3 l0_4 l0_5)) = some r := by rw [if_pos rfl] at H; exact H
    clear H
    have H := H1
    clear H1
    replace H := Z36.mp H
    obtain ⟨t436, A80, H⟩ := H
    replace H : (spec_foRank.j0 k (!t436) l0_0 l0_1 l0_2 l0_3 l0_4 l0_5) = some r := H
    have A8 := Ya A80
    clear A80
    have H' := Ya H
    clear H
    obtain ⟨hcz9_0, hcz9_1, hcz9_2, hcz9_3, hcz9_4, hcz9_5, hfz9_0, hfz9_1, hfz9_2, hfz9_3, hfz9_4, hfz9_5⟩ := Y6 BK433.out
    go_wp2_with (first | ((with_reducible refine gate_callee (f := 43) rfl ?_); refine Yz 9 Try.func43 #[.int .i64 (l0_4.length : Int)] ?_; (with_reducible refine (spec_foSize.calls (l0_4.length : Int) true _ A4.out).mono ?_); rintro e w' ⟨rfl, ⟨nd, rfl⟩⟩; refine ⟨_, rfl, ?_⟩) | (go_at_call 69; (with_reducible refine (spec_raPermutation.calls k _ _ l0_4 true _ ?side1 HC0_4.out A6.out).mono ?_); (case side1 => exact Yc (Z22 HR0_4.out Q0)); rintro e w' ⟨rfl, ⟨nd, rfl⟩⟩) | (go_at_call 30; (with_reducible refine (spec_foGood.calls k _ _ l0_0 _ _ l0_1 _ _ l0_2 _ _ l0_3 t436 _ ?side1 HC0_0.out ?side3 HC0_1.out ?side5 HC0_2.out ?side7 HC0_3.out A8.out).mono ?_); (case side1 => exact Yc (Z22 HR0_0.out Q0)); (case side3 => exact Yc (Z22 HR0_1.out Q0)); (case side5 => exact Yc (Z22 HR0_2.out Q0)); (case side7 => exact Yc (Z22 HR0_3.out Q0)); rintro e w10 ⟨rfl, hb⟩; replace BK433 := Yb BK433 hb; replace HB := Yh hb; (try clear hb)))
    go_meet
    case rel => exact ⟨_, (!t436), Q8, H', ⟨Q33⟩, ⟨Q41⟩, ⟨Q12⟩⟩
   ·replace c7 := Bool.eq_false_iff.mpr c7
    subst c7
    have H1 : (spec_foRank.j0 k true l0_0 l0_1 l0_2 l0_3 l0_4 l0_5) = some r := by rw [if_neg (show ¬ (false = true) by decide)] at H; exact H
    clear H
    have H := H1
    clear H1
    have H' := Ya H
    clear H
    obtain ⟨hcz11_0, hcz11_1, hcz11_2, hcz11_3, hcz11_4, hcz11_5, hfz11_0, hfz11_1, hfz11_2, hfz11_3, hfz11_4, hfz11_5⟩ := Y6 BK433.out
    go_wp2_with (first | ((with_reducible refine gate_callee (f := 43) rfl ?_); refine Yz 9 Try.func43 #[.int .i64 (l0_4.length : Int)] ?_; (with_reducible refine (spec_foSize.calls (l0_4.length : Int) true _ A4.out).mono ?_); rintro e w' ⟨rfl, ⟨nd, rfl⟩⟩; refine ⟨_, rfl, ?_⟩) | (go_at_call 69; (with_reducible refine (spec_raPermutation.calls k _ _ l0_4 false _ ?side1 HC0_4.out A6.out).mono ?_); (case side1 => exact Yc (Z22 HR0_4.out Q0)); rintro e w' ⟨rfl, ⟨nd, rfl⟩⟩))
    go_meet
    case rel => exact ⟨_, (true), Q8, H', ⟨Q33⟩, ⟨Q41⟩, ⟨Q12⟩⟩
  ·replace c5 := Bool.eq_false_iff.mpr c5
   subst c5
   have H1 : (spec_foRank.j0 k true l0_0 l0_1 l0_2 l0_3 l0_4 l0_5) = some r := by rw [if_neg (show ¬ (false = true) by decide)] at H; exact H
   clear H
   have H := H1
   clear H1
   have H' := Ya H
   clear H
   obtain ⟨hcz12_0, hcz12_1, hcz12_2, hcz12_3, hcz12_4, hcz12_5, hfz12_0, hfz12_1, hfz12_2, hfz12_3, hfz12_4, hfz12_5⟩ := Y6 BK433.out
   go_wp2_with (first | ((with_reducible refine gate_callee (f := 43) rfl ?_); refine Yz 9 Try.func43 #[.int .i64 (l0_4.length : Int)] ?_; (with_reducible refine (spec_foSize.calls (l0_4.length : Int) false _ A4.out).mono ?_); rintro e w' ⟨rfl, ⟨nd, rfl⟩⟩; refine ⟨_, rfl, ?_⟩))
   go_meet
   case rel => exact ⟨_, (true), Q8, H', ⟨Q33⟩, ⟨Q41⟩, ⟨Q12⟩⟩
 case rest =>
  clear HC2
  try clear p2
  try clear c4
  try clear c5
  try clear c7
  try clear hcz11_0
  try clear hcz11_1
  try clear hcz11_2
  try clear hcz11_3
  try clear hcz11_4
  try clear hcz11_5
  try clear hcz12_0
  try clear hcz12_1
  try clear hcz12_2
  try clear hcz12_3
  try clear hcz12_4
  try clear hcz12_5
  try clear hcz9_0
  try clear hcz9_1
  try clear hcz9_2
  try clear hcz9_3
  try clear hcz9_4
  try clear hcz9_5
  try clear hfz11_0
  try clear hfz11_1
  try clear hfz11_2
  try clear hfz11_3
  try clear hfz11_4
  try clear hfz11_5
  try clear hfz12_0
  try clear hfz12_1
  try clear hfz12_2
  try clear hfz12_3
  try clear hfz12_4
  try clear hfz12_5
  try clear hfz9_0
  try clear hfz9_1
  try clear hfz9_2
  try clear hfz9_3
  try clear hfz9_4
  try clear hfz9_5
  obtain ⟨kq, x22_1, rfl, HA, HJ1, BK433, HB⟩ := hcut
  cases kq with
  | zero => exact absurd HA.out (by simp [spec_foRank.j0])
  | succ kj1 =>
   have H := HA.out
   clear HA
   simp only [spec_foRank.j0] at H
   by_cases c13 : x22_1 = true
   ·subst c13
    have H1 : (some (-1)) = some r := by rw [if_pos rfl] at H; exact H
    clear H
    have H := H1
    clear H1
    obtain rfl := Option.some.inj H
    go_wp2
    go_ret
    exact ⟨Q2, Q12⟩
   ·replace c13 := Bool.eq_false_iff.mpr c13
    subst c13
    have H1 : ((spec_gcMixedRank.f kj1 l0_0 l0_1).bind fun t437 => ((spec_foSwapperAt.f kj1 (l0_4.length : Int) t437).bind fun bt438 => (if bt438.2.2.2.2.2.2 = true then ((spec_foSame.f kj1 l0_0 l0_1 l0_2 l0_3 bt438.1 bt438.2.1 bt438.2.2.1 bt438.2.2.2.1).bind fun t458 => (if t458 = true then ((spec_l1Same.f kj1 l0_4 bt438.2.2.2.2.1).bind fun t459 => (if t459 = true then ((spec_l1Same.f kj1 l0_5 bt438.2.2.2.2.2.1).bind fun t460 => (if t460 = true then (some t437) else (some (-1)))) else (some (-1)))) else (some (-1)))) else (some (-1))))) = some r := by rw [if_neg (show ¬ (false = true) by decide)] at H; exact H
    clear H
    have H := H1
    clear H1
    replace H := Z36.mp H
    obtain ⟨t437, A140, H⟩ := H
    replace H : ((spec_foSwapperAt.f kj1 (l0_4.length : Int) t437).bind fun bt438 => (if bt438.2.2.2.2.2.2 = true then ((spec_foSame.f kj1 l0_0 l0_1 l0_2 l0_3 bt438.1 bt438.2.1 bt438.2.2.1 bt438.2.2.2.1).bind fun t458 => (if t458 = true then ((spec_l1Same.f kj1 l0_4 bt438.2.2.2.2.1).bind fun t459 => (if t459 = true then ((spec_l1Same.f kj1 l0_5 bt438.2.2.2.2.2.1).bind fun t460 => (if t460 = true then (some t437) else (some (-1)))) else (some (-1)))) else (some (-1)))) else (some (-1)))) = some r := H
    have A14 := Ya A140
    clear A140
    replace H := Z36.mp H
    obtain ⟨⟨t438, t441, t444, t447, t450, t453, t456⟩, A150, H⟩ := H
    replace H : (if t456 = true then ((spec_foSame.f kj1 l0_0 l0_1 l0_2 l0_3 t438 t441 t444 t447).bind fun t458 => (if t458 = true then ((spec_l1Same.f kj1 l0_4 t450).bind fun t459 => (if t459 = true then ((spec_l1Same.f kj1 l0_5 t453).bind fun t460 => (if t460 = true then (some t437) else (some (-1)))) else (some (-1)))) else (some (-1)))) else (some (-1))) = some r := H
    have A15 := Ya A150
    clear A150
    by_cases c16 : t456 = true
    ·subst c16
     have H1 : ((spec_foSame.f kj1 l0_0 l0_1 l0_2 l0_3 t438 t441 t444 t447).bind fun t458 => (if t458 = true then ((spec_l1Same.f kj1 l0_4 t450).bind fun t459 => (if t459 = true then ((spec_l1Same.f kj1 l0_5 t453).bind fun t460 => (if t460 = true then (some t437) else (some (-1)))) else (some (-1)))) else (some (-1)))) = some r := by rw [if_pos rfl] at H; exact H
     clear H
     have H := H1
     clear H1
     replace H := Z36.mp H
     obtain ⟨t458, A170, H⟩ := H
     replace H : (if t458 = true then ((spec_l1Same.f kj1 l0_4 t450).bind fun t459 => (if t459 = true then ((spec_l1Same.f kj1 l0_5 t453).bind fun t460 => (if t460 = true then (some t437) else (some (-1)))) else (some (-1)))) else (some (-1))) = some r := H
     have A17 := Ya A170
     clear A170
     by_cases c18 : t458 = true
     ·subst c18
      have H1 : ((spec_l1Same.f kj1 l0_4 t450).bind fun t459 => (if t459 = true then ((spec_l1Same.f kj1 l0_5 t453).bind fun t460 => (if t460 = true then (some t437) else (some (-1)))) else (some (-1)))) = some r := by rw [if_pos rfl] at H; exact H
      clear H
      have H := H1
      clear H1
      replace H := Z36.mp H
      obtain ⟨t459, A190, H⟩ := H
      replace H : (if t459 = true then ((spec_l1Same.f kj1 l0_5 t453).bind fun t460 => (if t460 = true then (some t437) else (some (-1)))) else (some (-1))) = some r := H
      have A19 := Ya A190
      clear A190
      by_cases c20 : t459 = true
      ·subst c20
       have H1 : ((spec_l1Same.f kj1 l0_5 t453).bind fun t460 => (if t460 = true then (some t437) else (some (-1)))) = some r := by rw [if_pos rfl] at H; exact H
       clear H
       have H := H1
       clear H1
       replace H := Z36.mp H
       obtain ⟨t460, A210, H⟩ := H
       replace H : (if t460 = true then (some t437) else (some (-1))) = some r := H
       have A21 := Ya A210
       clear A210
       by_cases c22 : t460 = true
       ·subst c22
        have H1 : (some t437) = some r := by rw [if_pos rfl] at H; exact H
        clear H
        have H := H1
        clear H1
        obtain rfl := Option.some.inj H
        obtain ⟨hcz23_0, hcz23_1, hcz23_2, hcz23_3, hcz23_4, hcz23_5, hfz23_0, hfz23_1, hfz23_2, hfz23_3, hfz23_4, hfz23_5⟩ := Y6 BK433.out
        go_wp2_with (first | ((with_reducible refine gate_callee (f := 61) rfl ?_); refine Yz 29 Try.func61 #[.slice A0_0 l0_0.length c0_0, .slice A0_1 l0_1.length c0_1] ?_; (with_reducible refine (spec_gcMixedRank.calls kj1 _ _ l0_0 _ _ l0_1 t437 _ (Yc (Z22 HR0_0.out HB.out)) HC0_0.out (Yc (Z22 HR0_1.out HB.out)) HC0_1.out A14.out).mono ?_); rintro e w24 ⟨rfl, hb⟩; refine ⟨_, rfl, ?_⟩; replace BK433 := Yb BK433 hb; replace HB := Yh hb; (try clear hb); have hz25 := Y6 BK433.out) | ((with_reducible refine gate_callee (f := 46) rfl ?_); refine Yz 35 Try.func46 #[.int .i64 (l0_4.length : Int), .int .i64 t437] ?_; (with_reducible refine (spec_foSwapperAt.calls kj1 (l0_4.length : Int) t437 t438 t441 t444 t447 t450 t453 true _ A15.out).mono ?_); rintro e w26 ⟨v439, v442, v445, v448, v451, v454, rfl, ho0, ho1, ho2, ho3, ho4, ho5, hb⟩; refine ⟨_, rfl, ?_⟩; have HO440 := Yl ho0; have HO443 := Yl ho1; have HO446 := Yl ho2; have HO449 := Yl ho3; have HO452 := Yl ho4; have HO455 := Yl ho5; replace BK433 := Yb BK433 hb; replace HB := Yh hb; (try clear hb ho0 ho1 ho2 ho3 ho4 ho5)) | ((with_reducible refine gate_dst (N := 4) rfl ?_); refine Yx 4 YN6 35 ?_; intro gb457 hg w27 hbox hb; replace HO440 := Yw HO440 hb; replace HO443 := Yw HO443 hb; replace HO446 := Yw HO446 hb; replace HO449 := Yw HO449 hb; replace HO452 := Yw HO452 hb; replace HO455 := Yw HO455 hb; have BK457 := Ya hbox; have GE457 := Yg hg; replace HB := Yh hb; have NB433_457 := Yn BK433 hg; have NB457_433 := Ym BK433 hg; replace BK433 := Yb BK433 hb; clear hb hbox hg; obtain ⟨Ao28, co28, rfl⟩ := Z19 HO440.out; have hnb29 := NB457_433.out; have hnc29 := NB433_457.out; have hz30 := Y6 BK457.out; obtain ⟨Ao31, co31, rfl⟩ := Z19 HO443.out; obtain ⟨Ao32, co32, rfl⟩ := Z19 HO446.out; obtain ⟨Ao33, co33, rfl⟩ := Z19 HO449.out; obtain ⟨Ao34, co34, rfl⟩ := Z19 HO452.out; obtain ⟨Ao35, co35, rfl⟩ := Z19 HO455.out; have hz36 := Y6 BK433.out) | (go_at_call 62; (with_reducible refine (spec_foSame.calls kj1 _ _ l0_0 _ _ l0_1 _ _ l0_2 _ _ l0_3 _ _ t438 _ _ t441 _ _ t444 _ _ t447 true _ ?side1 HC0_0.out ?side3 HC0_1.out ?side5 HC0_2.out ?side7 HC0_3.out ?side9 ((Kd.R_reads' HO440.out).2.1) ?side11 ((Kd.R_reads' HO443.out).2.1) ?side13 ((Kd.R_reads' HO446.out).2.1) ?side15 ((Kd.R_reads' HO449.out).2.1) A17.out).mono ?_); (case side1 => exact Z22 HR0_0.out Q0); (case side3 => exact Z22 HR0_1.out Q0); (case side5 => exact Z22 HR0_2.out Q0); (case side7 => exact Z22 HR0_3.out Q0); (case side9 => refine (Kd.R_reads' (e := 3) (base := w.heap.size) (ok := fun k_ => (some k_ ≠ (.slice Ao31 t441.length co31 : Value).ownBlock ∧ (some k_ ≠ (.slice Ao33 t447.length co33 : Value).ownBlock ∧ (some k_ ≠ (.slice Ao34 t450.length co34 : Value).ownBlock ∧ some k_ ≠ (.slice Ao35 t453.length co35 : Value).ownBlock)))) (n := t438.length) (c := co28) ?_).2.2; exact (Yj (Yf6 HO440.out BK457.out) (fun _ h_ => h_.1))); (case side11 => refine (Kd.R_reads' (e := 3) (base := w.heap.size) (ok := fun k_ => (some k_ ≠ (.slice Ao28 t438.length co28 : Value).ownBlock ∧ (some k_ ≠ (.slice Ao33 t447.length co33 : Value).ownBlock ∧ (some k_ ≠ (.slice Ao34 t450.length co34 : Value).ownBlock ∧ some k_ ≠ (.slice Ao35 t453.length co35 : Value).ownBlock)))) (n := t441.length) (c := co31) ?_).2.2; exact (Yj (Yf6 HO443.out BK457.out) (fun _ h_ => h_.1))); (case side13 => refine (Kd.R_reads' (e := 4) (base := w.heap.size) (ok := fun k_ => True) (n := t444.length) (c := co32) ?_).2.2; exact (Yj (Yf6 HO446.out BK457.out) (fun _ h_ => h_.1))); (case side15 => refine (Kd.R_reads' (e := 3) (base := w.heap.size) (ok := fun k_ => (some k_ ≠ (.slice Ao28 t438.length co28 : Value).ownBlock ∧ (some k_ ≠ (.slice Ao31 t441.length co31 : Value).ownBlock ∧ (some k_ ≠ (.slice Ao34 t450.length co34 : Value).ownBlock ∧ some k_ ≠ (.slice Ao35 t453.length co35 : Value).ownBlock)))) (n := t447.length) (c := co33) ?_).2.2; exact (Yj (Yf6 HO449.out BK457.out) (fun _ h_ => h_.1))); rintro e w37 ⟨rfl, hb⟩; replace HO440 := Ya (Z14 (Yj (Yf6 HO440.out BK457.out) (fun _ h_ => h_.1)) hb); replace HO443 := Ya (Z14 (Yj (Yf6 HO443.out BK457.out) (fun _ h_ => h_.1)) hb); replace HO446 := Ya (Z14 (Yj (Yf6 HO446.out BK457.out) (fun _ h_ => h_.1)) hb); replace HO449 := Ya (Z14 (Yj (Yf6 HO449.out BK457.out) (fun _ h_ => h_.1)) hb); replace HO452 := Ya (Z14 (Yj (Yf6 HO452.out BK457.out) (fun _ h_ => h_.1)) hb); replace HO455 := Ya (Z14 (Yj (Yf6 HO455.out BK457.out) (fun _ h_ => h_.1)) hb); replace BK433 := Yb ⟨Yo6 BK433.out NB433_457.out⟩ hb; replace BK457 := Yb ⟨Yv6 BK457.out⟩ hb; replace HB := Yh hb; (try clear hb); have hz38 := Y6 BK433.out; have hz39 := Y6 BK457.out) | (go_at_call 70; (with_reducible refine (spec_l1Same.calls kj1 _ _ l0_4 _ _ t450 true _ (Yc (Z22 HR0_4.out HB.out)) HC0_4.out (Yc (Kd.R_reads' HO452.out).2.2) ((Kd.R_reads' HO452.out).2.1) A19.out).mono ?_); rintro e w' ⟨rfl, ⟨nd, rfl⟩⟩) | (go_at_call 70; (with_reducible refine (spec_l1Same.calls kj1 _ _ l0_5 _ _ t453 true _ ?side1 HC0_5.out (Yc (Kd.R_reads' HO455.out).2.2) ((Kd.R_reads' HO455.out).2.1) A21.out).mono ?_); (case side1 => exact Yc (Z22 HR0_5.out Q0)); rintro e w' ⟨rfl, ⟨nd, rfl⟩⟩))
        go_ret
        exact ⟨Q2, Q12⟩
       ·replace c22 := Bool.eq_false_iff.mpr c22
        subst c22
        have H1 : (some (-1)) = some r := by rw [if_neg (show ¬ (false = true) by decide)] at H; exact H
        clear H
        have H := H1
        clear H1
        obtain rfl := Option.some.inj H
        have hz40 := Y6 BK433.out
        go_wp2_with (first | ((with_reducible refine gate_callee (f := 61) rfl ?_); refine Yz 29 Try.func61 #[.slice A0_0 l0_0.length c0_0, .slice A0_1 l0_1.length c0_1] ?_; (with_reducible refine (spec_gcMixedRank.calls kj1 _ _ l0_0 _ _ l0_1 t437 _ (Yc (Z22 HR0_0.out HB.out)) HC0_0.out (Yc (Z22 HR0_1.out HB.out)) HC0_1.out A14.out).mono ?_); rintro e w41 ⟨rfl, hb⟩; refine ⟨_, rfl, ?_⟩; replace BK433 := Yb BK433 hb; replace HB := Yh hb; (try clear hb); have hz42 := Y6 BK433.out) | ((with_reducible refine gate_callee (f := 46) rfl ?_); refine Yz 35 Try.func46 #[.int .i64 (l0_4.length : Int), .int .i64 t437] ?_; (with_reducible refine (spec_foSwapperAt.calls kj1 (l0_4.length : Int) t437 t438 t441 t444 t447 t450 t453 true _ A15.out).mono ?_); rintro e w43 ⟨v439, v442, v445, v448, v451, v454, rfl, ho0, ho1, ho2, ho3, ho4, ho5, hb⟩; refine ⟨_, rfl, ?_⟩; have HO440 := Yl ho0; have HO443 := Yl ho1; have HO446 := Yl ho2; have HO449 := Yl ho3; have HO452 := Yl ho4; have HO455 := Yl ho5; replace BK433 := Yb BK433 hb; replace HB := Yh hb; (try clear hb ho0 ho1 ho2 ho3 ho4 ho5)) | ((with_reducible refine gate_dst (N := 4) rfl ?_); refine Yx 4 YN6 35 ?_; intro gb457 hg w44 hbox hb; replace HO440 := Yw HO440 hb; replace HO443 := Yw HO443 hb; replace HO446 := Yw HO446 hb; replace HO449 := Yw HO449 hb; replace HO452 := Yw HO452 hb; replace HO455 := Yw HO455 hb; have BK457 := Ya hbox; have GE457 := Yg hg; replace HB := Yh hb; have NB433_457 := Yn BK433 hg; have NB457_433 := Ym BK433 hg; replace BK433 := Yb BK433 hb; clear hb hbox hg; obtain ⟨Ao45, co45, rfl⟩ := Z19 HO440.out; have hnb46 := NB457_433.out; have hnc46 := NB433_457.out; obtain ⟨hcz47_0, hcz47_1, hcz47_2, hcz47_3, hcz47_4, hcz47_5, hfz47_0, hfz47_1, hfz47_2, hfz47_3, hfz47_4, hfz47_5⟩ := Y6 BK457.out; obtain ⟨Ao48, co48, rfl⟩ := Z19 HO443.out; obtain ⟨Ao49, co49, rfl⟩ := Z19 HO446.out; obtain ⟨Ao50, co50, rfl⟩ := Z19 HO449.out; obtain ⟨Ao51, co51, rfl⟩ := Z19 HO452.out; obtain ⟨Ao52, co52, rfl⟩ := Z19 HO455.out; have hz53 := Y6 BK433.out) | (go_at_call 62; (with_reducible refine (spec_foSame.calls kj1 _ _ l0_0 _ _ l0_1 _ _ l0_2 _ _ l0_3 _ _ t438 _ _ t441 _ _ t444 _ _ t447 true _ ?side1 HC0_0.out ?side3 HC0_1.out ?side5 HC0_2.out ?side7 HC0_3.out ?side9 ((Kd.R_reads' HO440.out).2.1) ?side11 ((Kd.R_reads' HO443.out).2.1) ?side13 ((Kd.R_reads' HO446.out).2.1) ?side15 ((Kd.R_reads' HO449.out).2.1) A17.out).mono ?_); (case side1 => exact Z22 HR0_0.out Q0); (case side3 => exact Z22 HR0_1.out Q0); (case side5 => exact Z22 HR0_2.out Q0); (case side7 => exact Z22 HR0_3.out Q0); (case side9 => refine (Kd.R_reads' (e := 3) (base := w.heap.size) (ok := fun k_ => (some k_ ≠ (.slice Ao48 t441.length co48 : Value).ownBlock ∧ (some k_ ≠ (.slice Ao50 t447.length co50 : Value).ownBlock ∧ (some k_ ≠ (.slice Ao51 t450.length co51 : Value).ownBlock ∧ some k_ ≠ (.slice Ao52 t453.length co52 : Value).ownBlock)))) (n := t438.length) (c := co45) ?_).2.2; exact (Yj (Yf6 HO440.out BK457.out) (fun _ h_ => h_.1))); (case side11 => refine (Kd.R_reads' (e := 3) (base := w.heap.size) (ok := fun k_ => (some k_ ≠ (.slice Ao45 t438.length co45 : Value).ownBlock ∧ (some k_ ≠ (.slice Ao50 t447.length co50 : Value).ownBlock ∧ (some k_ ≠ (.slice Ao51 t450.length co51 : Value).ownBlock ∧ some k_ ≠ (.slice Ao52 t453.length co52 : Value).ownBlock)))) (n := t441.length) (c := co48) ?_).2.2; exact (Yj (Yf6 HO443.out BK457.out) (fun _ h_ => h_.1))); (case side13 => refine (Kd.R_reads' (e := 4) (base := w.heap.size) (ok := fun k_ => True) (n := t444.length) (c := co49) ?_).2.2; exact (Yj (Yf6 HO446.out BK457.out) (fun _ h_ => h_.1))); (case side15 => refine (Kd.R_reads' (e := 3) (base := w.heap.size) (ok := fun k_ => (some k_ ≠ (.slice Ao45 t438.length co45 : Value).ownBlock ∧ (some k_ ≠ (.slice Ao48 t441.length co48 : Value).ownBlock ∧ (some k_ ≠ (.slice Ao51 t450.length co51 : Value).ownBlock ∧ some k_ ≠ (.slice Ao52 t453.length co52 : Value).ownBlock)))) (n := t447.length) (c := co50) ?_).2.2; exact (Yj (Yf6 HO449.out BK457.out) (fun _ h_ => h_.1))); rintro e w54 ⟨rfl, hb⟩; replace HO440 := Ya (Z14 (Yj (Yf6 HO440.out BK457.out) (fun _ h_ => h_.1)) hb); replace HO443 := Ya (Z14 (Yj (Yf6 HO443.out BK457.out) (fun _ h_ => h_.1)) hb); replace HO446 := Ya (Z14 (Yj (Yf6 HO446.out BK457.out) (fun _ h_ => h_.1)) hb); replace HO449 := Ya (Z14 (Yj (Yf6 HO449.out BK457.out) (fun _ h_ => h_.1)) hb); replace HO452 := Ya (Z14 (Yj (Yf6 HO452.out BK457.out) (fun _ h_ => h_.1)) hb); replace HO455 := Ya (Z14 (Yj (Yf6 HO455.out BK457.out) (fun _ h_ => h_.1)) hb); replace BK433 := Yb ⟨Yo6 BK433.out NB433_457.out⟩ hb; replace BK457 := Yb ⟨Yv6 BK457.out⟩ hb; replace HB := Yh hb; (try clear hb); have hz55 := Y6 BK433.out; have hz56 := Y6 BK457.out) | (go_at_call 70; (with_reducible refine (spec_l1Same.calls kj1 _ _ l0_4 _ _ t450 true _ (Yc (Z22 HR0_4.out HB.out)) HC0_4.out (Yc (Kd.R_reads' HO452.out).2.2) ((Kd.R_reads' HO452.out).2.1) A19.out).mono ?_); rintro e w' ⟨rfl, ⟨nd, rfl⟩⟩) | (go_at_call 70; (with_reducible refine (spec_l1Same.calls kj1 _ _ l0_5 _ _ t453 false _ ?side1 HC0_5.out (Yc (Kd.R_reads' HO455.out).2.2) ((Kd.R_reads' HO455.out).2.1) A21.out).mono ?_); (case side1 => exact Yc (Z22 HR0_5.out Q0)); rintro e w' ⟨rfl, ⟨nd, rfl⟩⟩))
        go_ret
        exact ⟨Q2, Q12⟩
      ·replace c20 := Bool.eq_false_iff.mpr c20
       subst c20
       have H1 : (some (-1)) = some r := by rw [if_neg (show ¬ (false = true) by decide)] at H; exact H
       clear H
       have H := H1
       clear H1
       obtain rfl := Option.some.inj H
       have hz57 := Y6 BK433.out
       go_wp2_with (first | ((with_reducible refine gate_callee (f := 61) rfl ?_); refine Yz 29 Try.func61 #[.slice A0_0 l0_0.length c0_0, .slice A0_1 l0_1.length c0_1] ?_; (with_reducible refine (spec_gcMixedRank.calls kj1 _ _ l0_0 _ _ l0_1 t437 _ (Yc (Z22 HR0_0.out HB.out)) HC0_0.out (Yc (Z22 HR0_1.out HB.out)) HC0_1.out A14.out).mono ?_); rintro e w58 ⟨rfl, hb⟩; refine ⟨_, rfl, ?_⟩; replace BK433 := Yb BK433 hb; replace HB := Yh hb; (try clear hb); have hz59 := Y6 BK433.out) | ((with_reducible refine gate_callee (f := 46) rfl ?_); refine Yz 35 Try.func46 #[.int .i64 (l0_4.length : Int), .int .i64 t437] ?_; (with_reducible refine (spec_foSwapperAt.calls kj1 (l0_4.length : Int) t437 t438 t441 t444 t447 t450 t453 true _ A15.out).mono ?_); rintro e w60 ⟨v439, v442, v445, v448, v451, v454, rfl, ho0, ho1, ho2, ho3, ho4, ho5, hb⟩; refine ⟨_, rfl, ?_⟩; have HO440 := Yl ho0; have HO443 := Yl ho1; have HO446 := Yl ho2; have HO449 := Yl ho3; have HO452 := Yl ho4; have HO455 := Yl ho5; replace BK433 := Yb BK433 hb; replace HB := Yh hb; (try clear hb ho0 ho1 ho2 ho3 ho4 ho5)) | ((with_reducible refine gate_dst (N := 4) rfl ?_); refine Yx 4 YN6 35 ?_; intro gb457 hg w61 hbox hb; replace HO440 := Yw HO440 hb; replace HO443 := Yw HO443 hb; replace HO446 := Yw HO446 hb; replace HO449 := Yw HO449 hb; replace HO452 := Yw HO452 hb; replace HO455 := Yw HO455 hb; have BK457 := Ya hbox; have GE457 := Yg hg; replace HB := Yh hb; have NB433_457 := Yn BK433 hg; have NB457_433 := Ym BK433 hg; replace BK433 := Yb BK433 hb; clear hb hbox hg; obtain ⟨Ao62, co62, rfl⟩ := Z19 HO440.out; have hnb63 := NB457_433.out; have hnc63 := NB433_457.out; have hz64 := Y6 BK457.out; obtain ⟨Ao65, co65, rfl⟩ := Z19 HO443.out; obtain ⟨Ao66, co66, rfl⟩ := Z19 HO446.out; obtain ⟨Ao67, co67, rfl⟩ := Z19 HO449.out; obtain ⟨Ao68, co68, rfl⟩ := Z19 HO452.out; obtain ⟨Ao69, co69, rfl⟩ := Z19 HO455.out; have hz70 := Y6 BK433.out) | (go_at_call 62; (with_reducible refine (spec_foSame.calls kj1 _ _ l0_0 _ _ l0_1 _ _ l0_2 _ _ l0_3 _ _ t438 _ _ t441 _ _ t444 _ _ t447 true _ ?side1 HC0_0.out ?side3 HC0_1.out ?side5 HC0_2.out ?side7 HC0_3.out ?side9 ((Kd.R_reads' HO440.out).2.1) ?side11 ((Kd.R_reads' HO443.out).2.1) ?side13 ((Kd.R_reads' HO446.out).2.1) ?side15 ((Kd.R_reads' HO449.out).2.1) A17.out).mono ?_); (case side1 => exact Z22 HR0_0.out Q0); (case side3 => exact Z22 HR0_1.out Q0); (case side5 => exact Z22 HR0_2.out Q0); (case side7 => exact Z22 HR0_3.out Q0); (case side9 => refine (Kd.R_reads' (e := 3) (base := w.heap.size) (ok := fun k_ => (some k_ ≠ (.slice Ao65 t441.length co65 : Value).ownBlock ∧ (some k_ ≠ (.slice Ao67 t447.length co67 : Value).ownBlock ∧ (some k_ ≠ (.slice Ao68 t450.length co68 : Value).ownBlock ∧ some k_ ≠ (.slice Ao69 t453.length co69 : Value).ownBlock)))) (n := t438.length) (c := co62) ?_).2.2; exact (Yj (Yf6 HO440.out BK457.out) (fun _ h_ => h_.1))); (case side11 => refine (Kd.R_reads' (e := 3) (base := w.heap.size) (ok := fun k_ => (some k_ ≠ (.slice Ao62 t438.length co62 : Value).ownBlock ∧ (some k_ ≠ (.slice Ao67 t447.length co67 : Value).ownBlock ∧ (some k_ ≠ (.slice Ao68 t450.length co68 : Value).ownBlock ∧ some k_ ≠ (.slice Ao69 t453.length co69 : Value).ownBlock)))) (n := t441.length) (c := co65) ?_).2.2; exact (Yj (Yf6 HO443.out BK457.out) (fun _ h_ => h_.1))); (case side13 => refine (Kd.R_reads' (e := 4) (base := w.heap.size) (ok := fun k_ => True) (n := t444.length) (c := co66) ?_).2.2; exact (Yj (Yf6 HO446.out BK457.out) (fun _ h_ => h_.1))); (case side15 => refine (Kd.R_reads' (e := 3) (base := w.heap.size) (ok := fun k_ => (some k_ ≠ (.slice Ao62 t438.length co62 : Value).ownBlock ∧ (some k_ ≠ (.slice Ao65 t441.length co65 : Value).ownBlock ∧ (some k_ ≠ (.slice Ao68 t450.length co68 : Value).ownBlock ∧ some k_ ≠ (.slice Ao69 t453.length co69 : Value).ownBlock)))) (n := t447.length) (c := co67) ?_).2.2; exact (Yj (Yf6 HO449.out BK457.out) (fun _ h_ => h_.1))); rintro e w71 ⟨rfl, hb⟩; replace HO440 := Ya (Z14 (Yj (Yf6 HO440.out BK457.out) (fun _ h_ => h_.1)) hb); replace HO443 := Ya (Z14 (Yj (Yf6 HO443.out BK457.out) (fun _ h_ => h_.1)) hb); replace HO446 := Ya (Z14 (Yj (Yf6 HO446.out BK457.out) (fun _ h_ => h_.1)) hb); replace HO449 := Ya (Z14 (Yj (Yf6 HO449.out BK457.out) (fun _ h_ => h_.1)) hb); replace HO452 := Ya (Z14 (Yj (Yf6 HO452.out BK457.out) (fun _ h_ => h_.1)) hb); replace HO455 := Ya (Z14 (Yj (Yf6 HO455.out BK457.out) (fun _ h_ => h_.1)) hb); replace BK433 := Yb ⟨Yo6 BK433.out NB433_457.out⟩ hb; replace BK457 := Yb ⟨Yv6 BK457.out⟩ hb; replace HB := Yh hb; (try clear hb); have hz72 := Y6 BK433.out; have hz73 := Y6 BK457.out) | (go_at_call 70; (with_reducible refine (spec_l1Same.calls kj1 _ _ l0_4 _ _ t450 false _ (Yc (Z22 HR0_4.out HB.out)) HC0_4.out (Yc (Kd.R_reads' HO452.out).2.2) ((Kd.R_reads' HO452.out).2.1) A19.out).mono ?_); rintro e w' ⟨rfl, ⟨nd, rfl⟩⟩))
       go_ret
       exact ⟨Q2, Q12⟩
     ·replace c18 := Bool.eq_false_iff.mpr c18
      subst c18
      have H1 : (some (-1)) = some r := by rw [if_neg (show ¬ (false = true) by decide)] at H; exact H
      clear H
      have H := H1
      clear H1
      obtain rfl := Option.some.inj H
      have hz74 := Y6 BK433.out
      go_wp2_with (first | ((with_reducible refine gate_callee (f := 61) rfl ?_); refine Yz 29 Try.func61 #[.slice A0_0 l0_0.length c0_0, .slice A0_1 l0_1.length c0_1] ?_; (with_reducible refine (spec_gcMixedRank.calls kj1 _ _ l0_0 _ _ l0_1 t437 _ (Yc (Z22 HR0_0.out HB.out)) HC0_0.out (Yc (Z22 HR0_1.out HB.out)) HC0_1.out A14.out).mono ?_); rintro e w75 ⟨rfl, hb⟩; refine ⟨_, rfl, ?_⟩; replace BK433 := Yb BK433 hb; replace HB := Yh hb; (try clear hb); have hz76 := Y6 BK433.out) | ((with_reducible refine gate_callee (f := 46) rfl ?_); refine Yz 35 Try.func46 #[.int .i64 (l0_4.length : Int), .int .i64 t437] ?_; (with_reducible refine (spec_foSwapperAt.calls kj1 (l0_4.length : Int) t437 t438 t441 t444 t447 t450 t453 true _ A15.out).mono ?_); rintro e w77 ⟨v439, v442, v445, v448, v451, v454, rfl, ho0, ho1, ho2, ho3, ho4, ho5, hb⟩; refine ⟨_, rfl, ?_⟩; have HO440 := Yl ho0; have HO443 := Yl ho1; have HO446 := Yl ho2; have HO449 := Yl ho3; have HO452 := Yl ho4; have HO455 := Yl ho5; replace BK433 := Yb BK433 hb; replace HB := Yh hb; (try clear hb ho0 ho1 ho2 ho3 ho4 ho5)) | ((with_reducible refine gate_dst (N := 4) rfl ?_); refine Yx 4 YN6 35 ?_; intro gb457 hg w78 hbox hb; replace HO440 := Yw HO440 hb; replace HO443 := Yw HO443 hb; replace HO446 := Yw HO446 hb; replace HO449 := Yw HO449 hb; replace HO452 := Yw HO452 hb; replace HO455 := Yw HO455 hb; have BK457 := Ya hbox; have GE457 := Yg hg; replace HB := Yh hb; have NB433_457 := Yn BK433 hg; have NB457_433 := Ym BK433 hg; replace BK433 := Yb BK433 hb; clear hb hbox hg; obtain ⟨Ao79, co79, rfl⟩ := Z19 HO440.out; have hnb80 := NB457_433.out; have hnc80 := NB433_457.out; have hz81 := Y6 BK457.out; obtain ⟨Ao82, co82, rfl⟩ := Z19 HO443.out; obtain ⟨Ao83, co83, rfl⟩ := Z19 HO446.out; obtain ⟨Ao84, co84, rfl⟩ := Z19 HO449.out; obtain ⟨Ao85, co85, rfl⟩ := Z19 HO452.out; obtain ⟨Ao86, co86, rfl⟩ := Z19 HO455.out; have hz87 := Y6 BK433.out) | (go_at_call 62; (with_reducible refine (spec_foSame.calls kj1 _ _ l0_0 _ _ l0_1 _ _ l0_2 _ _ l0_3 _ _ t438 _ _ t441 _ _ t444 _ _ t447 false _ ?side1 HC0_0.out ?side3 HC0_1.out ?side5 HC0_2.out ?side7 HC0_3.out ?side9 ((Kd.R_reads' HO440.out).2.1) ?side11 ((Kd.R_reads' HO443.out).2.1) ?side13 ((Kd.R_reads' HO446.out).2.1) ?side15 ((Kd.R_reads' HO449.out).2.1) A17.out).mono ?_); (case side1 => exact Z22 HR0_0.out Q0); (case side3 => exact Z22 HR0_1.out Q0); (case side5 => exact Z22 HR0_2.out Q0); (case side7 => exact Z22 HR0_3.out Q0); (case side9 => refine (Kd.R_reads' (e := 3) (base := w.heap.size) (ok := fun k_ => (some k_ ≠ (.slice Ao82 t441.length co82 : Value).ownBlock ∧ (some k_ ≠ (.slice Ao84 t447.length co84 : Value).ownBlock ∧ (some k_ ≠ (.slice Ao85 t450.length co85 : Value).ownBlock ∧ some k_ ≠ (.slice Ao86 t453.length co86 : Value).ownBlock)))) (n := t438.length) (c := co79) ?_).2.2; exact (Yj (Yf6 HO440.out BK457.out) (fun _ h_ => h_.1))); (case side11 => refine (Kd.R_reads' (e := 3) (base := w.heap.size) (ok := fun k_ => (some k_ ≠ (.slice Ao79 t438.length co79 : Value).ownBlock ∧ (some k_ ≠ (.slice Ao84 t447.length co84 : Value).ownBlock ∧ (some k_ ≠ (.slice Ao85 t450.length co85 : Value).ownBlock ∧ some k_ ≠ (.slice Ao86 t453.length co86 : Value).ownBlock)))) (n := t441.length) (c := co82) ?_).2.2; exact (Yj (Yf6 HO443.out BK457.out) (fun _ h_ => h_.1))); (case side13 => refine (Kd.R_reads' (e := 4) (base := w.heap.size) (ok := fun k_ => True) (n := t444.length) (c := co83) ?_).2.2; exact (Yj (Yf6 HO446.out BK457.out) (fun _ h_ => h_.1))); (case side15 => refine (Kd.R_reads' (e := 3) (base := w.heap.size) (ok := fun k_ => (some k_ ≠ (.slice Ao79 t438.length co79 : Value).ownBlock ∧ (some k_ ≠ (.slice Ao82 t441.length co82 : Value).ownBlock ∧ (some k_ ≠ (.slice Ao85 t450.length co85 : Value).ownBlock ∧ some k_ ≠ (.slice Ao86 t453.length co86 : Value).ownBlock)))) (n := t447.length) (c := co84) ?_).2.2; exact (Yj (Yf6 HO449.out BK457.out) (fun _ h_ => h_.1))); rintro e w88 ⟨rfl, hb⟩; replace HO440 := Ya (Z14 (Yj (Yf6 HO440.out BK457.out) (fun _ h_ => h_.1)) hb); replace HO443 := Ya (Z14 (Yj (Yf6 HO443.out BK457.out) (fun _ h_ => h_.1)) hb); replace HO446 := Ya (Z14 (Yj (Yf6 HO446.out BK457.out) (fun _ h_ => h_.1)) hb); replace HO449 := Ya (Z14 (Yj (Yf6 HO449.out BK457.out) (fun _ h_ => h_.1)) hb); replace HO452 := Ya (Z14 (Yj (Yf6 HO452.out BK457.out) (fun _ h_ => h_.1)) hb); replace HO455 := Ya (Z14 (Yj (Yf6 HO455.out BK457.out) (fun _ h_ => h_.1)) hb); replace BK433 := Yb ⟨Yo6 BK433.out NB433_457.out⟩ hb; replace BK457 := Yb ⟨Yv6 BK457.out⟩ hb; replace HB := Yh hb; (try clear hb)))
      go_ret
      exact ⟨Q2, Q12⟩
    ·replace c16 := Bool.eq_false_iff.mpr c16
     subst c16
     have H1 : (some (-1)) = some r := by rw [if_neg (show ¬ (false = true) by decide)] at H; exact H
     clear H
     have H := H1
     clear H1
     obtain rfl := Option.some.inj H
     have hz89 := Y6 BK433.out
     go_wp2_with (first | ((with_reducible refine gate_callee (f := 61) rfl ?_); refine Yz 29 Try.func61 #[.slice A0_0 l0_0.length c0_0, .slice A0_1 l0_1.length c0_1] ?_; (with_reducible refine (spec_gcMixedRank.calls kj1 _ _ l0_0 _ _ l0_1 t437 _ (Yc (Z22 HR0_0.out HB.out)) HC0_0.out (Yc (Z22 HR0_1.out HB.out)) HC0_1.out A14.out).mono ?_); rintro e w90 ⟨rfl, hb⟩; refine ⟨_, rfl, ?_⟩; replace BK433 := Yb BK433 hb; replace HB := Yh hb; (try clear hb); have hz91 := Y6 BK433.out) | ((with_reducible refine gate_callee (f := 46) rfl ?_); refine Yz 35 Try.func46 #[.int .i64 (l0_4.length : Int), .int .i64 t437] ?_; (with_reducible refine (spec_foSwapperAt.calls kj1 (l0_4.length : Int) t437 t438 t441 t444 t447 t450 t453 false _ A15.out).mono ?_); rintro e w92 ⟨v439, v442, v445, v448, v451, v454, rfl, ho0, ho1, ho2, ho3, ho4, ho5, hb⟩; refine ⟨_, rfl, ?_⟩; have HO440 := Yl ho0; have HO443 := Yl ho1; have HO446 := Yl ho2; have HO449 := Yl ho3; have HO452 := Yl ho4; have HO455 := Yl ho5; replace BK433 := Yb BK433 hb; replace HB := Yh hb; (try clear hb ho0 ho1 ho2 ho3 ho4 ho5)) | ((with_reducible refine gate_dst (N := 4) rfl ?_); refine Yx 4 YN6 35 ?_; intro gb457 hg w93 hbox hb; replace HO440 := Yw HO440 hb; replace HO443 := Yw HO443 hb; replace HO446 := Yw HO446 hb; replace HO449 := Yw HO449 hb; replace HO452 := Yw HO452 hb; replace HO455 := Yw HO455 hb; have BK457 := Ya hbox; have GE457 := Yg hg; replace HB := Yh hb; have NB433_457 := Yn BK433 hg; have NB457_433 := Ym BK433 hg; replace BK433 := Yb BK433 hb; clear hb hbox hg; obtain ⟨Ao94, co94, rfl⟩ := Z19 HO440.out; have hnb95 := NB457_433.out; have hnc95 := NB433_457.out; have hz96 := Y6 BK457.out; obtain ⟨Ao97, co97, rfl⟩ := Z19 HO443.out; obtain ⟨Ao98, co98, rfl⟩ := Z19 HO446.out; obtain ⟨Ao99, co99, rfl⟩ := Z19 HO449.out; obtain ⟨Ao100, co100, rfl⟩ := Z19 HO452.out; obtain ⟨Ao101, co101, rfl⟩ := Z19 HO455.out))
     go_ret
     exact ⟨Q2, Q12⟩
def spec_StepSwapper.f (k : Nat) (l0_0 : List Int) (l0_1 : List Int) (l0_2 : List Bool) (l0_3 : List Int) (l0_4 : List Int) (l0_5 : List Int) : Option (List Int × List Int × List Bool × List Int × List Int × List Int × Int × Bool) := (spec_foRank.f k l0_0 l0_1 l0_2 l0_3 l0_4 l0_5).bind fun t463 => (if t463 < 0 then (some (([] : List Int), ([] : List Int), ([] : List Bool), ([] : List Int), ([] : List Int), ([] : List Int), 0, false)) else ((spec_foSwap.f k l0_0 l0_1 l0_2 l0_3 l0_4 l0_5).bind fun bt464 => (if bt464.2.2.2.2.2.2 < 0 then (some (([] : List Int), ([] : List Int), ([] : List Bool), ([] : List Int), ([] : List Int), ([] : List Int), 0, false)) else (some (bt464.1, bt464.2.1, bt464.2.2.1, bt464.2.2.2.1, bt464.2.2.2.2.1, bt464.2.2.2.2.2.1, bt464.2.2.2.2.2.2, true)))))
theorem spec_StepSwapper.mono : ∀ a0 a1 a2 a3 a4 a5 k, LeO (spec_StepSwapper.f k a0 a1 a2 a3 a4 a5) (spec_StepSwapper.f (k + 1) a0 a1 a2 a3 a4 a5) := by
 intro a0 a1 a2 a3 a4 a5 k
 unfold spec_StepSwapper.f
 repeat' first
   | (with_reducible exact spec_foRank.mono _ _ _ _ _ _ _)
   | (with_reducible exact spec_foSwap.mono _ _ _ _ _ _ _)
   | (with_reducible exact LeO.refl _)
   | (with_reducible exact LeO.none _)
   | (with_reducible refine LeO.ite ?_ ?_)
   | (with_reducible refine LeO.bind ?_ (fun _ => ?_))
   | exact spec_foRank.mono _ _ _ _ _ _ _
   | exact spec_foSwap.mono _ _ _ _ _ _ _
   | exact LeO.none _
   | refine LeO.ite ?_ ?_
   | refine LeO.bind ?_ (fun _ => ?_)
set_option maxHeartbeats 8000000 in
set_option maxRecDepth 100000 in
theorem spec_StepSwapper.calls (k : Nat) (A0_0 : Option Addr) (c0_0 : Nat) (l0_0 : List Int) (A0_1 : Option Addr) (c0_1 : Nat) (l0_1 : List Int) (A0_2 : Option Addr) (c0_2 : Nat) (l0_2 : List Bool) (A0_3 : Option Addr) (c0_3 : Nat) (l0_3 : List Int) (A0_4 : Option Addr) (c0_4 : Nat) (l0_4 : List Int) (A0_5 : Option Addr) (c0_5 : Nat) (l0_5 : List Int) (r1 : List Int) (r2 : List Int) (r3 : List Bool) (r4 : List Int) (r5 : List Int) (r6 : List Int) (r7 : Int) (r8 : Bool) (w : World) (hr0_0 : Kd.C (Kd.int .i64) w A0_0 l0_0.length l0_0) (hc0_0 : l0_0.length ≤ c0_0) (hr0_1 : Kd.C (Kd.int .i64) w A0_1 l0_1.length l0_1) (hc0_1 : l0_1.length ≤ c0_1) (hr0_2 : Kd.C Kd.bool w A0_2 l0_2.length l0_2) (hc0_2 : l0_2.length ≤ c0_2) (hr0_3 : Kd.C (Kd.int .i64) w A0_3 l0_3.length l0_3) (hc0_3 : l0_3.length ≤ c0_3) (hr0_4 : Kd.C (Kd.int .i64) w A0_4 l0_4.length l0_4) (hc0_4 : l0_4.length ≤ c0_4) (hr0_5 : Kd.C (Kd.int .i64) w A0_5 l0_5.length l0_5) (hc0_5 : l0_5.length ≤ c0_5) (h : spec_StepSwapper.f k l0_0 l0_1 l0_2 l0_3 l0_4 l0_5 = some (r1, r2, r3, r4, r5, r6, r7, r8)) :
  Calls Try.prog 26 #[.agg #[.slice A0_0 l0_0.length c0_0, .slice A0_1 l0_1.length c0_1, .slice A0_2 l0_2.length c0_2, .slice A0_3 l0_3.length c0_3, .slice A0_4 l0_4.length c0_4, .slice A0_5 l0_5.length c0_5]] w fun e w' => ∃ v0_ v1_ v2_ v3_ v4_ v5_ : Value, e = .returned (.tuple #[.agg #[v0_, v1_, v2_, v3_, v4_, v5_], .int .i64 r7, .bool r8]) ∧ Kd.R (Kd.int .i64) 3 w' w.heap.size (fun k_ => some k_ ≠ (v1_ : Value).ownBlock ∧ some k_ ≠ (v3_ : Value).ownBlock ∧ some k_ ≠ (v4_ : Value).ownBlock ∧ some k_ ≠ (v5_ : Value).ownBlock) v0_ r1 ∧ Kd.R (Kd.int .i64) 3 w' w.heap.size (fun k_ => some k_ ≠ (v0_ : Value).ownBlock ∧ some k_ ≠ (v3_ : Value).ownBlock ∧ some k_ ≠ (v4_ : Value).ownBlock ∧ some k_ ≠ (v5_ : Value).ownBlock) v1_ r2 ∧ Kd.R Kd.bool 4 w' w.heap.size (fun _ => True) v2_ r3 ∧ Kd.R (Kd.int .i64) 3 w' w.heap.size (fun k_ => some k_ ≠ (v0_ : Value).ownBlock ∧ some k_ ≠ (v1_ : Value).ownBlock ∧ some k_ ≠ (v4_ : Value).ownBlock ∧ some k_ ≠ (v5_ : Value).ownBlock) v3_ r4 ∧ Kd.R (Kd.int .i64) 3 w' w.heap.size (fun k_ => some k_ ≠ (v0_ : Value).ownBlock ∧ some k_ ≠ (v1_ : Value).ownBlock ∧ some k_ ≠ (v3_ : Value).ownBlock ∧ some k_ ≠ (v5_ : Value).ownBlock) v4_ r5 ∧ Kd.R (Kd.int .i64) 3 w' w.heap.size (fun k_ => some k_ ≠ (v0_ : Value).ownBlock ∧ some k_ ≠ (v1_ : Value).ownBlock ∧ some k_ ≠ (v3_ : Value).ownBlock ∧ some k_ ≠ (v4_ : Value).ownBlock) v5_ r6 ∧ Below w.heap.size w w' := by
 have hu35 := Try.underlying35
 have HR0_0 := Ya hr0_0
 have HC0_0 := Ya hc0_0
 clear hr0_0 hc0_0
 have HR0_1 := Ya hr0_1
 have HC0_1 := Ya hc0_1
 clear hr0_1 hc0_1
 have HR0_2 := Ya hr0_2
 have HC0_2 := Ya hc0_2
 clear hr0_2 hc0_2
 have HR0_3 := Ya hr0_3
 have HC0_3 := Ya hc0_3
 clear hr0_3 hc0_3
 have HR0_4 := Ya hr0_4
 have HC0_4 := Ya hc0_4
 clear hr0_4 hc0_4
 have HR0_5 := Ya hr0_5
 have HC0_5 := Ya hc0_5
 clear hr0_5 hc0_5
 have HB := Ya (Below.refl w.heap.size w)
 have H : ((spec_foRank.f k l0_0 l0_1 l0_2 l0_3 l0_4 l0_5).bind fun t463 => (if t463 < 0 then (some (([] : List Int), ([] : List Int), ([] : List Bool), ([] : List Int), ([] : List Int), ([] : List Int), 0, false)) else ((spec_foSwap.f k l0_0 l0_1 l0_2 l0_3 l0_4 l0_5).bind fun bt464 => (if bt464.2.2.2.2.2.2 < 0 then (some (([] : List Int), ([] : List Int), ([] : List Bool), ([] : List Int), ([] : List Int), ([] : List Int), 0, false)) else (some (bt464.1, bt464.2.1, bt464.2.2.1, bt464.2.2.2.1, bt464.2.2.2.2.1, bt464.2.2.2.2.2.1, bt464.2.2.2.2.2.2, true)))))) = some (r1, r2, r3, r4, r5, r6, r7, r8) := h
 clear h
 replace H := Z36.mp H
 obtain ⟨t463, A20, H⟩ := H
 replace H : (if t463 < 0 then (some (([] : List Int), ([] : List Int), ([] : List Bool), ([] : List Int), ([] : List Int), ([] : List Int), 0, false)) else ((spec_foSwap.f k l0_0 l0_1 l0_2 l0_3 l0_4 l0_5).bind fun bt464 => (if bt464.2.2.2.2.2.2 < 0 then (some (([] : List Int), ([] : List Int), ([] : List Bool), ([] : List Int), ([] : List Int), ([] : List Int), 0, false)) else (some (bt464.1, bt464.2.1, bt464.2.2.1, bt464.2.2.2.1, bt464.2.2.2.2.1, bt464.2.2.2.2.2.1, bt464.2.2.2.2.2.2, true))))) = some (r1, r2, r3, r4, r5, r6, r7, r8) := H
 have A2 := Ya A20
 clear A20
 by_cases c3 : t463 < 0
 ·rw [if_pos c3] at H
  have c3b0 := Z38 c3
  clear c3
  simp only [Option.some.injEq, Prod.mk.injEq] at H
  obtain ⟨rfl, rfl, rfl, rfl, rfl, rfl, rfl, rfl⟩ := H
  go_enter Try.func26, Try.ntmps26
  go_wp2_with (first | ((with_reducible refine gate_dst (N := 1) rfl ?_); refine Yx 1 #[.slice A0_0 l0_0.length c0_0, .slice A0_1 l0_1.length c0_1, .slice A0_2 l0_2.length c0_2, .slice A0_3 l0_3.length c0_3, .slice A0_4 l0_4.length c0_4, .slice A0_5 l0_5.length c0_5] 35 ?_; intro gb461 hg w4 hbox hb; have BK461 := Ya hbox; have GE461 := Yg hg; replace HB := Yh hb; clear hb hbox hg) | ((with_reducible refine gate_dst (N := 2) rfl ?_); refine Yx 2 YN6 35 ?_; intro gb462 hg w5 hbox hb; have BK462 := Ya hbox; have GE462 := Yg hg; replace HB := Yh hb; have NB461_462 := Yn BK461 hg; have NB462_461 := Ym BK461 hg; replace BK461 := Yb BK461 hb; clear hb hbox hg; have hnb6 := NB461_462.out; have hnc6 := NB462_461.out; have hz7 := Y6 BK461.out) | ((with_reducible refine gate_callee (f := 51) rfl ?_); refine Yz 8 Try.func51 #[.agg #[.slice A0_0 l0_0.length c0_0, .slice A0_1 l0_1.length c0_1, .slice A0_2 l0_2.length c0_2, .slice A0_3 l0_3.length c0_3, .slice A0_4 l0_4.length c0_4, .slice A0_5 l0_5.length c0_5]] ?_; (with_reducible refine (spec_foRank.calls k _ _ l0_0 _ _ l0_1 _ _ l0_2 _ _ l0_3 _ _ l0_4 _ _ l0_5 t463 _ (Yc (Z22 HR0_0.out HB.out)) HC0_0.out (Yc (Z22 HR0_1.out HB.out)) HC0_1.out (Yc (Z22 HR0_2.out HB.out)) HC0_2.out (Yc (Z22 HR0_3.out HB.out)) HC0_3.out (Yc (Z22 HR0_4.out HB.out)) HC0_4.out (Yc (Z22 HR0_5.out HB.out)) HC0_5.out A2.out).mono ?_); rintro e w8 ⟨rfl, hb⟩; refine ⟨_, rfl, ?_⟩; replace BK461 := Yb BK461 hb; replace BK462 := Yb BK462 hb; replace HB := Yh hb; (try clear hb); obtain ⟨hcz9_0, hcz9_1, hcz9_2, hcz9_3, hcz9_4, hcz9_5, hfz9_0, hfz9_1, hfz9_2, hfz9_3, hfz9_4, hfz9_5⟩ := Y6 BK462.out))
  refine bodyPost_ret (results_ctt rfl _ _ gb462 35 YN6 (0, 0) _ rfl (Yk (Yv6 BK462.out)) Try.underlying35 rfl (by kernel_rfl)) rfl ?_
  exact ⟨_, _, _, _, _, _, Q2, Q6, Q6, Q6, Q6, Q6, Q6, Q12⟩
 ·rw [if_neg c3] at H
  have c3b0 := Z37 c3
  clear c3
  replace H := Z36.mp H
  obtain ⟨⟨t464, t467, t470, t473, t476, t479, t482⟩, A100, H⟩ := H
  replace H : (if t482 < 0 then (some (([] : List Int), ([] : List Int), ([] : List Bool), ([] : List Int), ([] : List Int), ([] : List Int), 0, false)) else (some (t464, t467, t470, t473, t476, t479, t482, true))) = some (r1, r2, r3, r4, r5, r6, r7, r8) := H
  have A10 := Ya A100
  clear A100
  by_cases c11 : t482 < 0
  ·rw [if_pos c11] at H
   have c11b0 := Z38 c11
   clear c11
   simp only [Option.some.injEq, Prod.mk.injEq] at H
   obtain ⟨rfl, rfl, rfl, rfl, rfl, rfl, rfl, rfl⟩ := H
   go_enter Try.func26, Try.ntmps26
   go_wp2_with (first | ((with_reducible refine gate_dst (N := 1) rfl ?_); refine Yx 1 #[.slice A0_0 l0_0.length c0_0, .slice A0_1 l0_1.length c0_1, .slice A0_2 l0_2.length c0_2, .slice A0_3 l0_3.length c0_3, .slice A0_4 l0_4.length c0_4, .slice A0_5 l0_5.length c0_5] 35 ?_; intro gb461 hg w12 hbox hb; have BK461 := Ya hbox; have GE461 := Yg hg; replace HB := Yh hb; clear hb hbox hg) | ((with_reducible refine gate_dst (N := 2) rfl ?_); refine Yx 2 YN6 35 ?_; intro gb462 hg w13 hbox hb; have BK462 := Ya hbox; have GE462 := Yg hg; replace HB := Yh hb; have NB461_462 := Yn BK461 hg; have NB462_461 := Ym BK461 hg; replace BK461 := Yb BK461 hb; clear hb hbox hg; have hnb14 := NB461_462.out; have hnc14 := NB462_461.out; have hz15 := Y6 BK461.out) | ((with_reducible refine gate_callee (f := 51) rfl ?_); refine Yz 8 Try.func51 #[.agg #[.slice A0_0 l0_0.length c0_0, .slice A0_1 l0_1.length c0_1, .slice A0_2 l0_2.length c0_2, .slice A0_3 l0_3.length c0_3, .slice A0_4 l0_4.length c0_4, .slice A0_5 l0_5.length c0_5]] ?_; (with_reducible refine (spec_foRank.calls k _ _ l0_0 _ _ l0_1 _ _ l0_2 _ _ l0_3 _ _ l0_4 _ _ l0_5 t463 _ (Yc (Z22 HR0_0.out HB.out)) HC0_0.out (Yc (Z22 HR0_1.out HB.out)) HC0_1.out (Yc (Z22 HR0_2.out HB.out)) HC0_2.out (Yc (Z22 HR0_3.out HB.out)) HC0_3.out (Yc (Z22 HR0_4.out HB.out)) HC0_4.out (Yc (Z22 HR0_5.out HB.out)) HC0_5.out A2.out).mono ?_); rintro e w16 ⟨rfl, hb⟩; refine ⟨_, rfl, ?_⟩; replace BK461 := Yb BK461 hb; replace BK462 := Yb BK462 hb; replace HB := Yh hb; (try clear hb); have hz17 := Y6 BK461.out) | ((with_reducible refine gate_callee (f := 55) rfl ?_); refine Yz 13 Try.func55 #[.agg #[.slice A0_0 l0_0.length c0_0, .slice A0_1 l0_1.length c0_1, .slice A0_2 l0_2.length c0_2, .slice A0_3 l0_3.length c0_3, .slice A0_4 l0_4.length c0_4, .slice A0_5 l0_5.length c0_5]] ?_; (with_reducible refine (spec_foSwap.calls k _ _ l0_0 _ _ l0_1 _ _ l0_2 _ _ l0_3 _ _ l0_4 _ _ l0_5 t464 t467 t470 t473 t476 t479 t482 _ (Yc (Z22 HR0_0.out HB.out)) HC0_0.out (Yc (Z22 HR0_1.out HB.out)) HC0_1.out (Yc (Z22 HR0_2.out HB.out)) HC0_2.out (Yc (Z22 HR0_3.out HB.out)) HC0_3.out (Yc (Z22 HR0_4.out HB.out)) HC0_4.out (Yc (Z22 HR0_5.out HB.out)) HC0_5.out A10.out).mono ?_); rintro e w18 ⟨v465, v468, v471, v474, v477, v480, rfl, ho0, ho1, ho2, ho3, ho4, ho5, hb⟩; refine ⟨_, rfl, ?_⟩; have HO466 := Yl ho0; have HO469 := Yl ho1; have HO472 := Yl ho2; have HO475 := Yl ho3; have HO478 := Yl ho4; have HO481 := Yl ho5; replace BK461 := Yb BK461 hb; replace BK462 := Yb BK462 hb; replace HB := Yh hb; (try clear hb ho0 ho1 ho2 ho3 ho4 ho5)) | ((with_reducible refine gate_dst (N := 5) rfl ?_); refine Yx 5 YN6 35 ?_; intro gb483 hg w19 hbox hb; replace HO466 := Yw HO466 hb; replace HO469 := Yw HO469 hb; replace HO472 := Yw HO472 hb; replace HO475 := Yw HO475 hb; replace HO478 := Yw HO478 hb; replace HO481 := Yw HO481 hb; have BK483 := Ya hbox; have GE483 := Yg hg; replace HB := Yh hb; have NB461_483 := Yn BK461 hg; have NB483_461 := Ym BK461 hg; replace BK461 := Yb BK461 hb; have NB462_483 := Yn BK462 hg; have NB483_462 := Ym BK462 hg; replace BK462 := Yb BK462 hb; clear hb hbox hg; obtain ⟨Ao20, co20, rfl⟩ := Z19 HO466.out; have hnb21 := NB483_461.out; have hnc21 := NB461_483.out; have hnb22 := NB483_462.out; have hnc22 := NB462_483.out; obtain ⟨hcz23_0, hcz23_1, hcz23_2, hcz23_3, hcz23_4, hcz23_5, hfz23_0, hfz23_1, hfz23_2, hfz23_3, hfz23_4, hfz23_5⟩ := Y6 BK483.out; obtain ⟨Ao24, co24, rfl⟩ := Z19 HO469.out; obtain ⟨Ao25, co25, rfl⟩ := Z19 HO472.out; obtain ⟨Ao26, co26, rfl⟩ := Z19 HO475.out; obtain ⟨Ao27, co27, rfl⟩ := Z19 HO478.out; obtain ⟨Ao28, co28, rfl⟩ := Z19 HO481.out; have hz29 := Y6 BK462.out))
   refine bodyPost_ret (results_ctt rfl _ _ gb462 35 YN6 (0, 0) _ rfl (Yk (Yv6 (Yo6 BK462.out NB462_483.out))) Try.underlying35 rfl (by kernel_rfl)) rfl ?_
   exact ⟨_, _, _, _, _, _, Q2, Q6, Q6, Q6, Q6, Q6, Q6, Q12⟩
  ·rw [if_neg c11] at H
   have c11b0 := Z37 c11
   clear c11
   simp only [Option.some.injEq, Prod.mk.injEq] at H
   obtain ⟨rfl, rfl, rfl, rfl, rfl, rfl, rfl, rfl⟩ := H
   go_enter Try.func26, Try.ntmps26
   go_wp2_with (first | ((with_reducible refine gate_dst (N := 1) rfl ?_); refine Yx 1 #[.slice A0_0 l0_0.length c0_0, .slice A0_1 l0_1.length c0_1, .slice A0_2 l0_2.length c0_2, .slice A0_3 l0_3.length c0_3, .slice A0_4 l0_4.length c0_4, .slice A0_5 l0_5.length c0_5] 35 ?_; intro gb461 hg w30 hbox hb; have BK461 := Ya hbox; have GE461 := Yg hg; replace HB := Yh hb; clear hb hbox hg) | ((with_reducible refine gate_dst (N := 2) rfl ?_); refine Yx 2 YN6 35 ?_; intro gb462 hg w31 hbox hb; have BK462 := Ya hbox; have GE462 := Yg hg; replace HB := Yh hb; have NB461_462 := Yn BK461 hg; have NB462_461 := Ym BK461 hg; replace BK461 := Yb BK461 hb; clear hb hbox hg; have hnb32 := NB461_462.out; have hnc32 := NB462_461.out; have hz33 := Y6 BK461.out) | ((with_reducible refine gate_callee (f := 51) rfl ?_); refine Yz 8 Try.func51 #[.agg #[.slice A0_0 l0_0.length c0_0, .slice A0_1 l0_1.length c0_1, .slice A0_2 l0_2.length c0_2, .slice A0_3 l0_3.length c0_3, .slice A0_4 l0_4.length c0_4, .slice A0_5 l0_5.length c0_5]] ?_; (with_reducible refine (spec_foRank.calls k _ _ l0_0 _ _ l0_1 _ _ l0_2 _ _ l0_3 _ _ l0_4 _ _ l0_5 t463 _ (Yc (Z22 HR0_0.out HB.out)) HC0_0.out (Yc (Z22 HR0_1.out HB.out)) HC0_1.out (Yc (Z22 HR0_2.out HB.out)) HC0_2.out (Yc (Z22 HR0_3.out HB.out)) HC0_3.out (Yc (Z22 HR0_4.out HB.out)) HC0_4.out (Yc (Z22 HR0_5.out HB.out)) HC0_5.out A2.out).mono ?_); rintro e w34 ⟨rfl, hb⟩; refine ⟨_, rfl, ?_⟩; replace BK461 := Yb BK461 hb; replace BK462 := Yb BK462 hb; replace HB := Yh hb; (try clear hb); have hz35 := Y6 BK461.out) | ((with_reducible refine gate_callee (f := 55) rfl ?_); refine Yz 13 Try.func55 #[.agg #[.slice A0_0 l0_0.length c0_0, .slice A0_1 l0_1.length c0_1, .slice A0_2 l0_2.length c0_2, .slice A0_3 l0_3.length c0_3, .slice A0_4 l0_4.length c0_4, .slice A0_5 l0_5.length c0_5]] ?_; (with_reducible refine (spec_foSwap.calls k _ _ l0_0 _ _ l0_1 _ _ l0_2 _ _ l0_3 _ _ l0_4 _ _ l0_5 t464 t467 t470 t473 t476 t479 t482 _ (Yc (Z22 HR0_0.out HB.out)) HC0_0.out (Yc (Z22 HR0_1.out HB.out)) HC0_1.out (Yc (Z22 HR0_2.out HB.out)) HC0_2.out (Yc (Z22 HR0_3.out HB.out)) HC0_3.out (Yc (Z22 HR0_4.out HB.out)) HC0_4.out (Yc (Z22 HR0_5.out HB.out)) HC0_5.out A10.out).mono ?_); rintro e w36 ⟨v465, v468, v471, v474, v477, v480, rfl, ho0, ho1, ho2, ho3, ho4, ho5, hb⟩; refine ⟨_, rfl, ?_⟩; have HO466 := Yl ho0; have HO469 := Yl ho1; have HO472 := Yl ho2; have HO475 := Yl ho3; have HO478 := Yl ho4; have HO481 := Yl ho5; replace BK461 := Yb BK461 hb; replace BK462 := Yb BK462 hb; replace HB := Yh hb; (try clear hb ho0 ho1 ho2 ho3 ho4 ho5)) | ((with_reducible refine gate_dst (N := 5) rfl ?_); refine Yx 5 YN6 35 ?_; intro gb483 hg w37 hbox hb; replace HO466 := Yw HO466 hb; replace HO469 := Yw HO469 hb; replace HO472 := Yw HO472 hb; replace HO475 := Yw HO475 hb; replace HO478 := Yw HO478 hb; replace HO481 := Yw HO481 hb; have BK483 := Ya hbox; have GE483 := Yg hg; replace HB := Yh hb; have NB461_483 := Yn BK461 hg; have NB483_461 := Ym BK461 hg; replace BK461 := Yb BK461 hb; have NB462_483 := Yn BK462 hg; have NB483_462 := Ym BK462 hg; replace BK462 := Yb BK462 hb; clear hb hbox hg; obtain ⟨Ao38, co38, rfl⟩ := Z19 HO466.out; have hnb39 := NB483_461.out; have hnc39 := NB461_483.out; have hnb40 := NB483_462.out; have hnc40 := NB462_483.out; have hz41 := Y6 BK483.out; obtain ⟨Ao42, co42, rfl⟩ := Z19 HO469.out; obtain ⟨Ao43, co43, rfl⟩ := Z19 HO472.out; obtain ⟨Ao44, co44, rfl⟩ := Z19 HO475.out; obtain ⟨Ao45, co45, rfl⟩ := Z19 HO478.out; obtain ⟨Ao46, co46, rfl⟩ := Z19 HO481.out; obtain ⟨hcz47_0, hcz47_1, hcz47_2, hcz47_3, hcz47_4, hcz47_5, hfz47_0, hfz47_1, hfz47_2, hfz47_3, hfz47_4, hfz47_5⟩ := Y6 BK462.out))
   refine bodyPost_ret (results_ctt rfl _ _ gb462 35 #[.slice Ao38 t464.length co38, .slice Ao42 t467.length co42, .slice Ao43 t470.length co43, .slice Ao44 t473.length co44, .slice Ao45 t476.length co45, .slice Ao46 t479.length co46] (0, 0) _ rfl (Yk (Yv6 (Yo6 BK462.out NB462_483.out))) Try.underlying35 rfl (by kernel_rfl)) rfl ?_
   exact ⟨_, _, _, _, _, _, Q2, Yj (Yd6 HO466.out BK483.out BK462.out) (fun _ hk => ⟨hk.1.1.1, ⟨hk.1.1.2.1, ⟨hk.1.1.2.2.1, hk.1.1.2.2.2⟩⟩⟩), Yj (Yd6 HO469.out BK483.out BK462.out) (fun _ hk => ⟨hk.1.1.1, ⟨hk.1.1.2.1, ⟨hk.1.1.2.2.1, hk.1.1.2.2.2⟩⟩⟩), Yj (Yd6 HO472.out BK483.out BK462.out) (fun _ hk => trivial), Yj (Yd6 HO475.out BK483.out BK462.out) (fun _ hk => ⟨hk.1.1.1, ⟨hk.1.1.2.1, ⟨hk.1.1.2.2.1, hk.1.1.2.2.2⟩⟩⟩), Yj (Yd6 HO478.out BK483.out BK462.out) (fun _ hk => ⟨hk.1.1.1, ⟨hk.1.1.2.1, ⟨hk.1.1.2.2.1, hk.1.1.2.2.2⟩⟩⟩), Yj (Yd6 HO481.out BK483.out BK462.out) (fun _ hk => ⟨hk.1.1.1, ⟨hk.1.1.2.1, ⟨hk.1.1.2.2.1, hk.1.1.2.2.2⟩⟩⟩), Q12⟩
def impl_size.l0 : Nat → Int → List Int → Int → Int → Option (Int)
 | 0, _, _, _, _ => none
 | k + 1, x3, x6, x7, x8 => if x8 < x7 then (if 0 ≤ x8 then (if x8 < (x6.length : Int) then (impl_size.l0 k (mn (wrap64 (x3 * (rd x6 x8))) 1000001) x6 x7 (wrap64 (x8 + 1))) else (none)) else (none)) else (some x3)
def impl_size.f (k : Nat) (l0 : List Int) : Option (Int) := impl_size.l0 k 1 l0 (l0.length : Int) 0
theorem impl_size.mono_l : ∀ k, (∀ y0 y1 y2 y3, LeO (impl_size.l0 k y0 y1 y2 y3) (impl_size.l0 (k + 1) y0 y1 y2 y3))
 | 0 => fun _ _ _ _ r h => by simp [impl_size.l0] at h
 | k + 1 => by
  have ih0 := impl_size.mono_l k
  ·intro y0 y1 y2 y3
   unfold impl_size.l0
   repeat' first
   | (with_reducible exact ih0 _ _ _ _)
   | (with_reducible exact LeO.refl _)
   | (with_reducible exact LeO.none _)
   | (with_reducible refine LeO.ite ?_ ?_)
   | (with_reducible refine LeO.bind ?_ (fun _ => ?_))
   | exact ih0 _ _ _ _
   | exact LeO.none _
   | refine LeO.ite ?_ ?_
   | refine LeO.bind ?_ (fun _ => ?_)
theorem impl_size.mono : ∀ a0 k, LeO (impl_size.f k a0) (impl_size.f (k + 1) a0) := by
 intro a0 k
 have ih0 := impl_size.mono_l k
 unfold impl_size.f
 repeat' first
   | (with_reducible exact ih0 _ _ _ _)
   | (with_reducible exact LeO.refl _)
   | (with_reducible exact LeO.none _)
   | (with_reducible refine LeO.ite ?_ ?_)
   | (with_reducible refine LeO.bind ?_ (fun _ => ?_))
   | exact ih0 _ _ _ _
   | exact LeO.none _
   | refine LeO.ite ?_ ?_
   | refine LeO.bind ?_ (fun _ => ?_)
set_option maxHeartbeats 8000000 in
set_option maxRecDepth 100000 in
theorem impl_size.calls (k : Nat) (A0 : Option Addr) (c0 : Nat) (l0 : List Int) (r : Int) (w : World) (hr0 : Kd.C (Kd.int .i64) w A0 l0.length l0) (hc0 : l0.length ≤ c0) (h : impl_size.f k l0 = some r) :
  Calls Try.prog 73 #[.slice A0 l0.length c0] w fun e w' => e = .returned (.int .i64 r) ∧ Below w.heap.size w w' := by
 have HR0 := Ya hr0
 have HC0 := Ya hc0
 clear hr0 hc0
 have HB := Ya (Below.refl w.heap.size w)
 have H : (impl_size.l0 k 1 l0 (l0.length : Int) 0) = some r := h
 clear h
 have H' := Ya H
 clear H
 go_enter Try.func73, Try.ntmps73
 go_wp2
 go_loopg [3, 8] k (fun kq v3 v8 w' => ∃ (x3_1 : Int) (x8_1 : Int), v3 = .int .i64 x3_1 ∧ v8 = .int .i64 x8_1 ∧ Aside0 (impl_size.l0 kq x3_1 l0 (l0.length : Int) x8_1 = some r) ∧ Aside0 (kq ≤ k) ∧ Aside0 (Below w.heap.size w w'))
 case atStart => exact ⟨(1), (0), Q8, Q8, H', ⟨Nat.le_refl _⟩, ⟨Q12⟩⟩
 case round =>
  clear H'
  obtain ⟨x3_1, x8_1, rfl, rfl, HA, HK1, HB⟩ := hrel
  cases gk with
  | zero => exact absurd HA.out (by simp [impl_size.l0])
  | succ k1 =>
   have H := HA.out
   clear HA
   simp only [impl_size.l0] at H
   by_cases c2 : x8_1 < (l0.length : Int)
   ·rw [if_pos c2] at H
    have c2b0 := Z38 c2
    clear c2
    by_cases c3 : 0 ≤ x8_1
    ·rw [if_pos c3] at H
     have c3b0 := Z38 c3
     clear c3
     by_cases c4 : x8_1 < (l0.length : Int)
     ·rw [if_pos c4] at H
      have c4b0 := Z38 c4
      clear c4
      obtain ⟨ji5, hji5⟩ : ∃ j_ : Int, (mn (wrap64 (x3_1 * (rd l0 x8_1))) 1000001) = j_ := ⟨_, rfl⟩
      replace H : (impl_size.l0 k1 ji5 l0 (l0.length : Int) (wrap64 (x8_1 + 1))) = some r := by first | (rw [hji5] at H; exact H) | (simp only [hji5] at H ⊢; exact H)
      have hji5_ : (if 1000001 < (wrap64 (x3_1 * (rd l0 x8_1))) then 1000001 else (wrap64 (x3_1 * (rd l0 x8_1)))) = ji5 := hji5
      have H' := Ya H
      clear H
      have p484 : 0 ≤ (x8_1 : Int) := Z30 Q1
      have q484 : x8_1 < (l0.length : Int) := Z30 Q1
      obtain ⟨ad484, e484, hx484_0⟩ := Kd.at_int HR0.out x8_1 p484 q484
      cases e484
      try replace hx484_0 := (HB.out.cell (World.block_lt_of_cell? w _ hx484_0)).trans hx484_0
      replace p484 := eq_true p484
      replace q484 := eq_true q484
      go_wp2
      go_roundg k1
      case measure => have := HK1.out; omega
      case rel => exact ⟨(ji5), (wrap64 (x8_1 + 1)), (by first | rfl | (simp; done) | (simp only [← hji5] <;> (first | rfl | simp)) | (simp [*]; done)), Q8, H', ⟨Q20⟩, ⟨Q12⟩⟩
     ·rw [if_neg c4] at H
      exact absurd H (by simp)
    ·rw [if_neg c3] at H
     exact absurd H (by simp)
   ·rw [if_neg c2] at H
    have c2b0 := Z37 c2
    clear c2
    obtain rfl := Option.some.inj H
    go_wp2
    go_ret
    exact ⟨Q2, Q12⟩
def impl_mixedRank.f : Nat → List Int → List Int → Option (Int)
 | 0, _, _ => none
 | k + 1, l0, l1 => if (l1.length : Int) = 0 then (some 0) else (if 1 ≤ (l0.length : Int) then ((impl_size.f k (l0.drop 1)).bind fun t486 => (if 1 ≤ (l1.length : Int) then ((impl_mixedRank.f k (l0.drop 1) (l1.drop 1)).bind fun t489 => (if 0 < (l1.length : Int) then (if (Int.tmod (rd l1 0) 2) = 1 then (some (wrap64 ((wrap64 ((rd l1 0) * t486)) + (wrap64 ((wrap64 (t486 - 1)) - t489))))) else (some (wrap64 ((wrap64 ((rd l1 0) * t486)) + t489)))) else (none))) else (none))) else (none))
theorem impl_mixedRank.mono_l : ∀ k, (∀ y0 y1, LeO (impl_mixedRank.f k y0 y1) (impl_mixedRank.f (k + 1) y0 y1))
 | 0 => fun _ _ r h => by simp [impl_mixedRank.f] at h
 | k + 1 => by
  have ih0 := impl_mixedRank.mono_l k
  ·intro y0 y1
   unfold impl_mixedRank.f
   repeat' first
   | (with_reducible exact ih0 _ _)
   | (with_reducible exact impl_size.mono _ _)
   | (with_reducible exact LeO.refl _)
   | (with_reducible exact LeO.none _)
   | (with_reducible refine LeO.ite ?_ ?_)
   | (with_reducible refine LeO.bind ?_ (fun _ => ?_))
   | exact ih0 _ _
   | exact impl_size.mono _ _
   | exact LeO.none _
   | refine LeO.ite ?_ ?_
   | refine LeO.bind ?_ (fun _ => ?_)
theorem impl_mixedRank.mono : ∀ a0 a1 k, LeO (impl_mixedRank.f k a0 a1) (impl_mixedRank.f (k + 1) a0 a1) := by
 intro a0 a1 k
 have ih0 := impl_mixedRank.mono_l k
 exact ih0 a0 a1
def impl_mixedRank.T3 : Bool × List (List Nat × List Nat) := (true, [([], []), ([0], [0]), ([1], [1]), ([], []), ([3], [3]), ([], []), ([5], [5]), ([4, 6, 2], [4, 6]), ([2, 7, 0, 1, 2], [2]), ([7, 8, 0, 1, 2, 3, 4, 5, 6, 7, 8], [7])])
def impl_mixedRank.B3 : List Nat := [0, 1, 3, 0, 8, 0, 32, 127, 255, 511]
theorem impl_mixedRank.tab3 : rtab .any (opsOf Try.f54 3) = impl_mixedRank.T3 := by kernel_rfl
theorem impl_mixedRank.bits3 : waitsOk impl_mixedRank.T3.2 impl_mixedRank.B3 = true := by kernel_rfl
set_option maxHeartbeats 8000000 in
set_option maxRecDepth 100000 in
theorem impl_mixedRank.calls (k : Nat) : ∀ (A0 : Option Addr) (c0 : Nat) (l0 : List Int) (A1 : Option Addr) (c1 : Nat) (l1 : List Int) (r : Int) (w : World) (hr0 : Kd.C (Kd.int .i64) w A0 l0.length l0) (hc0 : l0.length ≤ c0) (hr1 : Kd.C (Kd.int .i64) w A1 l1.length l1) (hc1 : l1.length ≤ c1) (h : impl_mixedRank.f k l0 l1 = some r),
  Calls Try.prog 54 #[.slice A0 l0.length c0, .slice A1 l1.length c1] w fun e w' => e = .returned (.int .i64 r) ∧ Below w.heap.size w w' := by
 induction k using Nat.strongRecOn with
 | _ k ih =>
 intro A0 c0 l0 A1 c1 l1 r w hr0 hc0 hr1 hc1 h
 cases k with
 | zero => exact absurd h (by simp [impl_mixedRank.f])
 | succ k =>
 simp only [impl_mixedRank.f] at h
 have HR0 := Ya hr0
 have HC0 := Ya hc0
 clear hr0 hc0
 have HR1 := Ya hr1
 have HC1 := Ya hc1
 clear hr1 hc1
 have HB := Ya (Below.refl w.heap.size w)
 have H : (if (l1.length : Int) = 0 then (some 0) else (if 1 ≤ (l0.length : Int) then ((impl_size.f k (l0.drop 1)).bind fun t486 => (if 1 ≤ (l1.length : Int) then ((impl_mixedRank.f k (l0.drop 1) (l1.drop 1)).bind fun t489 => (if 0 < (l1.length : Int) then (if (Int.tmod (rd l1 0) 2) = 1 then (some (wrap64 ((wrap64 ((rd l1 0) * t486)) + (wrap64 ((wrap64 (t486 - 1)) - t489))))) else (some (wrap64 ((wrap64 ((rd l1 0) * t486)) + t489)))) else (none))) else (none))) else (none))) = some r := h
 clear h
 by_cases c3 : (l1.length : Int) = 0
 ·rw [if_pos c3] at H
  have c3b0 : ((l1.length : Int) == 0) = true := beq_iff_eq.mpr c3
  have c3b1 : ((l1.length : Int) != 0) = false := bne_eq_false_iff_eq.mpr c3
  clear c3
  obtain rfl := Option.some.inj H
  go_enter Try.func54, Try.ntmps54
  go_wp2
  go_ret
  exact ⟨Q2, Q12⟩
 ·rw [if_neg c3] at H
  have c3b0 : ((l1.length : Int) == 0) = false := beq_eq_false_iff_ne.mpr c3
  have c3b1 : ((l1.length : Int) != 0) = true := bne_iff_ne.mpr c3
  have c3b2 : ¬ (l1 = []) := fun h_ => c3 (by rw [h_]; rfl)
  by_cases c4 : 1 ≤ (l0.length : Int)
  ·rw [if_pos c4] at H
   have c4b0 := eq_true c4
   have c4b1 := Z38 c4
   have HLEc4 := Ya c4
   clear c4
   replace H := Z36.mp H
   obtain ⟨t486, A50, H⟩ := H
   replace H : (if 1 ≤ (l1.length : Int) then ((impl_mixedRank.f k (l0.drop 1) (l1.drop 1)).bind fun t489 => (if 0 < (l1.length : Int) then (if (Int.tmod (rd l1 0) 2) = 1 then (some (wrap64 ((wrap64 ((rd l1 0) * t486)) + (wrap64 ((wrap64 (t486 - 1)) - t489))))) else (some (wrap64 ((wrap64 ((rd l1 0) * t486)) + t489)))) else (none))) else (none)) = some r := H
   have A5 := Ya A50
   clear A50
   have c6b0 := eq_true (Z30 Q1 : 1 ≤ (l0.length : Int))
   by_cases c7 : 1 ≤ (l1.length : Int)
   ·rw [if_pos c7] at H
    have c7b0 := eq_true c7
    have c7b1 := Z38 c7
    have HLEc7 := Ya c7
    clear c7
    replace H := Z36.mp H
    obtain ⟨t489, A80, H⟩ := H
    replace H : (if 0 < (l1.length : Int) then (if (Int.tmod (rd l1 0) 2) = 1 then (some (wrap64 ((wrap64 ((rd l1 0) * t486)) + (wrap64 ((wrap64 (t486 - 1)) - t489))))) else (some (wrap64 ((wrap64 ((rd l1 0) * t486)) + t489)))) else (none)) = some r := H
    have A8 := Ya A80
    clear A80
    by_cases c9 : 0 < (l1.length : Int)
    ·rw [if_pos c9] at H
     have c9b0 := Z38 c9
     have c9b1 : decide (0 < l1.length) = true := Z38 (by omega)
     clear c9
     by_cases c10 : (Int.tmod (rd l1 0) 2) = 1
     ·rw [if_pos c10] at H
      have c10b0 : ((Int.tmod (rd l1 0) 2) == 1) = true := beq_iff_eq.mpr c10
      have c10b1 : ((Int.tmod (rd l1 0) 2) != 1) = false := bne_eq_false_iff_eq.mpr c10
      clear c10
      obtain rfl := Option.some.inj H
      go_enter Try.func54, Try.ntmps54
      try go_wp2
      replace HB := Ya (Z4 HB.out)
      obtain ⟨i012, hi012, _, hsz12, _⟩ := info_parts info3
      obtain ⟨A12, hcut12, hA12, hC12⟩ := print_drop_of (P := Try.prog) (Value.int .i64) 0 22 3 .i64 Try.underlying22 hi012 hsz12 A0 c0 l0 1 (by omega) (Z30 Q1) HC0.out
      have HR485 := Ya (Kd.C_of_reads (h1 := fun _ => rfl) (hA12 _ (Kd.reads_of_C HR0.out)))
      have HC485 := Ya hC12
      clear hA12 hC12 hi012 hsz12
      have HR487 := HR485
      have HC487 := HC485
      obtain ⟨i014, hi014, _, hsz14, _⟩ := info_parts info3
      obtain ⟨A14, hcut14, hA14, hC14⟩ := print_drop_of (P := Try.prog) (Value.int .i64) 0 22 3 .i64 Try.underlying22 hi014 hsz14 A1 c1 l1 1 (by omega) (Z30 Q1) HC1.out
      have HR488 := Ya (Kd.C_of_reads (h1 := fun _ => rfl) (hA14 _ (Kd.reads_of_C HR1.out)))
      have HC488 := Ya hC14
      clear hA14 hC14 hi014 hsz14
      refine start_ (n := 10) (S := fun w' => True) (ds := []) (YA 10 0) (by kernel_rfl) rfl rfl trivial (fun hHeld => ?_); refine with_tabW impl_mixedRank.tab3 impl_mixedRank.bits3 (fun HT_ HW_ => ?_)
      generalize w.drew = w11 at HB HR485 HR487 HR488 hHeld ⊢
      refine Yp 0 (some 10) (YA 10 1) rfl HT_.out ?_
      refine Yp 1 (some 11) (YA 10 3) rfl HT_.out ?_
      refine Yp 3 (some 13) (YA 10 11) rfl HT_.out ?_
      refine Yp 4 (some 14) (YA 10 27) rfl HT_.out ?_
      refine Yp 5 (some 15) (YA 10 59) rfl HT_.out ?_
      refine Yp 6 (some 16) (YA 10 123) rfl HT_.out ?_
      refine one_ (i := 2) (N := some 12) (YA 10 127) rfl rfl (one_of HT_.out (by kernel_rfl)) (by decide) (fun K hK => ?_)
      refine goes_ Try.func73 (by kernel_rfl) rfl #[.slice A12 (l0.drop 1).length (c0 - 1)] (by rfl) rfl rfl Q29 ?_
      with_reducible refine (impl_size.calls k _ _ (l0.drop 1) t486 _ ?side1 ?side2 A5.out).mono ?_
      (case side1 => exact Yc (Z22 HR485.out HB.out))
      (case side2 => exact HC485.out)
      rintro e w15 ⟨rfl, hb⟩
      refine ⟨_, rfl, ?_⟩
      replace HB := Yh hb
      (try clear hb)
      refine hK.out _ _ trivial (fun hHeld => ?_)
      clear hK K
      refine norm_ (a' := ?_) ?_ ?_
      rotate_left
      ·show Act.put _ (some 12) _ = _
       simp only [Act.put, Z0, Z1, Z2, i64_w, i32_w]
       rfl
      refine one_ (i := 7) (N := some 17) (YA 10 255) rfl rfl (one_of HT_.out (by kernel_rfl)) (by decide) (fun K hK => ?_)
      refine goes_ Try.func54 (by kernel_rfl) rfl #[.slice A12 (l0.drop 1).length (c0 - 1), .slice A14 (l1.drop 1).length (c1 - 1)] (by rfl) rfl rfl Q19 ?_
      with_reducible refine (ih k (by omega) _ _ (l0.drop 1) _ _ (l1.drop 1) t489 _ ?side1 ?side2 ?side3 ?side4 A8.out).mono ?_
      (case side1 => exact Yc (Z22 HR487.out HB.out))
      (case side2 => exact HC487.out)
      (case side3 => exact Yc (Z22 HR488.out HB.out))
      (case side4 => exact HC488.out)
      rintro e w16 ⟨rfl, hb⟩
      refine ⟨_, rfl, ?_⟩
      replace HB := Yh hb
      (try clear hb)
      refine hK.out _ _ trivial (fun hHeld => ?_)
      clear hK K
      refine norm_ (a' := ?_) ?_ ?_
      rotate_left
      ·show Act.put _ (some 17) _ = _
       simp only [Act.put, Z0, Z1, Z2, i64_w, i32_w]
       rfl
      refine Yp 8 (some 5) (YA 10 511) rfl HT_.out ?_
      refine Yp 9 (some 6) (YA 10 1023) rfl HT_.out ?_
      refine done_ (done_of HT_.out (by kernel_rfl)) ?_
      have p490 : 0 ≤ (0 : Int) := (by omega)
      have q490 : 0 < (l1.length : Int) := Z30 Q1
      obtain ⟨ad490, e490, hx490_0⟩ := Kd.at_int HR1.out 0 p490 q490
      cases e490
      have qi490 : (0 < l1.length) = True := eq_true (by omega)
      (try rw [show ((0 : Int)).toNat = 0 from rfl] at hx490_0)
      (try rw [Addr.add_zero'] at hx490_0)
      try replace hx490_0 := (HB.out.cell (World.block_lt_of_cell? w _ hx490_0)).trans hx490_0
      replace p490 := eq_true p490
      replace q490 := eq_true q490
      have p491 : 0 ≤ (0 : Int) := (by omega)
      have q491 : 0 < (l1.length : Int) := Z30 Q1
      obtain ⟨ad491, e491, hx491_0⟩ := Kd.at_int HR1.out 0 p491 q491
      obtain rfl : ad490 = ad491 := (by injection e491)
      have qi491 : (0 < l1.length) = True := eq_true (by omega)
      (try rw [show ((0 : Int)).toNat = 0 from rfl] at hx491_0)
      (try rw [Addr.add_zero'] at hx491_0)
      try replace hx491_0 := (HB.out.cell (World.block_lt_of_cell? w _ hx491_0)).trans hx491_0
      replace p491 := eq_true p491
      replace q491 := eq_true q491
      try go_wp2
      go_ret
      exact ⟨Q2, Q12⟩
     ·rw [if_neg c10] at H
      have c10b0 : ((Int.tmod (rd l1 0) 2) == 1) = false := beq_eq_false_iff_ne.mpr c10
      have c10b1 : ((Int.tmod (rd l1 0) 2) != 1) = true := bne_iff_ne.mpr c10
      obtain rfl := Option.some.inj H
      go_enter Try.func54, Try.ntmps54
      try go_wp2
      replace HB := Ya (Z4 HB.out)
      obtain ⟨i018, hi018, _, hsz18, _⟩ := info_parts info3
      obtain ⟨A18, hcut18, hA18, hC18⟩ := print_drop_of (P := Try.prog) (Value.int .i64) 0 22 3 .i64 Try.underlying22 hi018 hsz18 A0 c0 l0 1 (by omega) (Z30 Q1) HC0.out
      have HR485 := Ya (Kd.C_of_reads (h1 := fun _ => rfl) (hA18 _ (Kd.reads_of_C HR0.out)))
      have HC485 := Ya hC18
      clear hA18 hC18 hi018 hsz18
      have HR487 := HR485
      have HC487 := HC485
      obtain ⟨i020, hi020, _, hsz20, _⟩ := info_parts info3
      obtain ⟨A20, hcut20, hA20, hC20⟩ := print_drop_of (P := Try.prog) (Value.int .i64) 0 22 3 .i64 Try.underlying22 hi020 hsz20 A1 c1 l1 1 (by omega) (Z30 Q1) HC1.out
      have HR488 := Ya (Kd.C_of_reads (h1 := fun _ => rfl) (hA20 _ (Kd.reads_of_C HR1.out)))
      have HC488 := Ya hC20
      clear hA20 hC20 hi020 hsz20
      refine start_ (n := 10) (S := fun w' => True) (ds := []) (YA 10 0) (by kernel_rfl) rfl rfl trivial (fun hHeld => ?_); refine with_tabW impl_mixedRank.tab3 impl_mixedRank.bits3 (fun HT_ HW_ => ?_)
      generalize w.drew = w17 at HB HR485 HR487 HR488 hHeld ⊢
      refine Yp 0 (some 10) (YA 10 1) rfl HT_.out ?_
      refine Yp 1 (some 11) (YA 10 3) rfl HT_.out ?_
      refine Yp 3 (some 13) (YA 10 11) rfl HT_.out ?_
      refine Yp 4 (some 14) (YA 10 27) rfl HT_.out ?_
      refine Yp 5 (some 15) (YA 10 59) rfl HT_.out ?_
      refine Yp 6 (some 16) (YA 10 123) rfl HT_.out ?_
      refine one_ (i := 2) (N := some 12) (YA 10 127) rfl rfl (one_of HT_.out (by kernel_rfl)) (by decide) (fun K hK => ?_)
      refine goes_ Try.func73 (by kernel_rfl) rfl #[.slice A18 (l0.drop 1).length (c0 - 1)] (by rfl) rfl rfl Q29 ?_
      with_reducible refine (impl_size.calls k _ _ (l0.drop 1) t486 _ ?side1 ?side2 A5.out).mono ?_
      (case side1 => exact Yc (Z22 HR485.out HB.out))
      (case side2 => exact HC485.out)
      rintro e w21 ⟨rfl, hb⟩
      refine ⟨_, rfl, ?_⟩
      replace HB := Yh hb
      (try clear hb)
      refine hK.out _ _ trivial (fun hHeld => ?_)
      clear hK K
      refine norm_ (a' := ?_) ?_ ?_
      rotate_left
      ·show Act.put _ (some 12) _ = _
       simp only [Act.put, Z0, Z1, Z2, i64_w, i32_w]
       rfl
      refine one_ (i := 7) (N := some 17) (YA 10 255) rfl rfl (one_of HT_.out (by kernel_rfl)) (by decide) (fun K hK => ?_)
      refine goes_ Try.func54 (by kernel_rfl) rfl #[.slice A18 (l0.drop 1).length (c0 - 1), .slice A20 (l1.drop 1).length (c1 - 1)] (by rfl) rfl rfl Q19 ?_
      with_reducible refine (ih k (by omega) _ _ (l0.drop 1) _ _ (l1.drop 1) t489 _ ?side1 ?side2 ?side3 ?side4 A8.out).mono ?_
      (case side1 => exact Yc (Z22 HR487.out HB.out))
      (case side2 => exact HC487.out)
      (case side3 => exact Yc (Z22 HR488.out HB.out))
      (case side4 => exact HC488.out)
      rintro e w22 ⟨rfl, hb⟩
      refine ⟨_, rfl, ?_⟩
      replace HB := Yh hb
      (try clear hb)
      refine hK.out _ _ trivial (fun hHeld => ?_)
      clear hK K
      refine norm_ (a' := ?_) ?_ ?_
      rotate_left
      ·show Act.put _ (some 17) _ = _
       simp only [Act.put, Z0, Z1, Z2, i64_w, i32_w]
       rfl
      refine Yp 8 (some 5) (YA 10 511) rfl HT_.out ?_
      refine Yp 9 (some 6) (YA 10 1023) rfl HT_.out ?_
      refine done_ (done_of HT_.out (by kernel_rfl)) ?_
      have p490 : 0 ≤ (0 : Int) := (by omega)
      have q490 : 0 < (l1.length : Int) := Z30 Q1
      obtain ⟨ad490, e490, hx490_0⟩ := Kd.at_int HR1.out 0 p490 q490
      cases e490
      have qi490 : (0 < l1.length) = True := eq_true (by omega)
      (try rw [show ((0 : Int)).toNat = 0 from rfl] at hx490_0)
      (try rw [Addr.add_zero'] at hx490_0)
      try replace hx490_0 := (HB.out.cell (World.block_lt_of_cell? w _ hx490_0)).trans hx490_0
      replace p490 := eq_true p490
      replace q490 := eq_true q490
      have p492 : 0 ≤ (0 : Int) := (by omega)
      have q492 : 0 < (l1.length : Int) := Z30 Q1
      obtain ⟨ad492, e492, hx492_0⟩ := Kd.at_int HR1.out 0 p492 q492
      obtain rfl : ad490 = ad492 := (by injection e492)
      have qi492 : (0 < l1.length) = True := eq_true (by omega)
      (try rw [show ((0 : Int)).toNat = 0 from rfl] at hx492_0)
      (try rw [Addr.add_zero'] at hx492_0)
      try replace hx492_0 := (HB.out.cell (World.block_lt_of_cell? w _ hx492_0)).trans hx492_0
      replace p492 := eq_true p492
      replace q492 := eq_true q492
      try go_wp2
      go_ret
      exact ⟨Q2, Q12⟩
    ·rw [if_neg c9] at H
     exact absurd H (by simp)
   ·rw [if_neg c7] at H
    exact absurd H (by simp)
  ·rw [if_neg c4] at H
   exact absurd H (by simp)
def impl_within.f (a0 : Int) (a1 : Int) (a2 : Int) : Option (Bool) := if a0 ≥ a1 then (some (decide (a0 ≤ a2))) else (some false)
set_option maxHeartbeats 8000000 in
set_option maxRecDepth 100000 in
theorem impl_within.calls (a0 : Int) (a1 : Int) (a2 : Int) (r : Bool) (w : World) (h : impl_within.f a0 a1 a2 = some r) :
  Calls Try.prog 48 #[.int .i64 a0, .int .i64 a1, .int .i64 a2] w fun e w' => e = .returned (.bool r) ∧ Drawn0 w w' := by
 have H : (if a0 ≥ a1 then (some (decide (a0 ≤ a2))) else (some false)) = some r := h
 clear h
 by_cases c4 : a0 ≥ a1
 ·rw [if_pos c4] at H
  have c4b0 : decide (a1 ≤ a0) = true := Z38 c4
  clear c4
  obtain rfl := Option.some.inj H
  go_enter Try.func48, Try.ntmps48
  go_wp2
  go_ret
  exact ⟨Q13, Q5⟩
 ·rw [if_neg c4] at H
  have c4b0 : decide (a1 ≤ a0) = false := Z37 c4
  clear c4
  obtain rfl := Option.some.inj H
  go_enter Try.func48, Try.ntmps48
  go_wp2
  go_ret
  exact ⟨Q13, Q5⟩
def impl_allWithin.l0 : Nat → Int → Int → List Int → Int → Int → Option (Bool)
 | 0, _, _, _, _, _ => none
 | k + 1, x1, x2, x9, x10, x11 => if x11 < x10 then (if 0 ≤ x11 then (if x11 < (x9.length : Int) then ((impl_within.f (rd x9 x11) x1 x2).bind fun t494 => (if t494 = true then (impl_allWithin.l0 k x1 x2 x9 x10 (wrap64 (x11 + 1))) else (some false))) else (none)) else (none)) else (some true)
def impl_allWithin.f (k : Nat) (l0 : List Int) (a1 : Int) (a2 : Int) : Option (Bool) := impl_allWithin.l0 k a1 a2 l0 (l0.length : Int) 0
theorem impl_allWithin.mono_l : ∀ k, (∀ y0 y1 y2 y3 y4, LeO (impl_allWithin.l0 k y0 y1 y2 y3 y4) (impl_allWithin.l0 (k + 1) y0 y1 y2 y3 y4))
 | 0 => fun _ _ _ _ _ r h => by simp [impl_allWithin.l0] at h
 | k + 1 => by
  have ih0 := impl_allWithin.mono_l k
  ·intro y0 y1 y2 y3 y4
   unfold impl_allWithin.l0
   repeat' first
   | (with_reducible exact ih0 _ _ _ _ _)
   | (with_reducible exact LeO.refl _)
   | (with_reducible exact LeO.none _)
   | (with_reducible refine LeO.ite ?_ ?_)
   | (with_reducible refine LeO.bind ?_ (fun _ => ?_))
   | exact ih0 _ _ _ _ _
   | exact LeO.none _
   | refine LeO.ite ?_ ?_
   | refine LeO.bind ?_ (fun _ => ?_)
theorem impl_allWithin.mono : ∀ a0 a1 a2 k, LeO (impl_allWithin.f k a0 a1 a2) (impl_allWithin.f (k + 1) a0 a1 a2) := by
 intro a0 a1 a2 k
 have ih0 := impl_allWithin.mono_l k
 unfold impl_allWithin.f
 repeat' first
   | (with_reducible exact ih0 _ _ _ _ _)
   | (with_reducible exact LeO.refl _)
   | (with_reducible exact LeO.none _)
   | (with_reducible refine LeO.ite ?_ ?_)
   | (with_reducible refine LeO.bind ?_ (fun _ => ?_))
   | exact ih0 _ _ _ _ _
   | exact LeO.none _
   | refine LeO.ite ?_ ?_
   | refine LeO.bind ?_ (fun _ => ?_)
set_option maxHeartbeats 8000000 in
set_option maxRecDepth 100000 in
theorem impl_allWithin.calls (k : Nat) (A0 : Option Addr) (c0 : Nat) (l0 : List Int) (a1 : Int) (a2 : Int) (r : Bool) (w : World) (hr0 : Kd.C (Kd.int .i64) w A0 l0.length l0) (hc0 : l0.length ≤ c0) (h : impl_allWithin.f k l0 a1 a2 = some r) :
  Calls Try.prog 85 #[.slice A0 l0.length c0, .int .i64 a1, .int .i64 a2] w fun e w' => e = .returned (.bool r) ∧ Drawn0 w w' := by
 have HR0 := Ya hr0
 have HC0 := Ya hc0
 clear hr0 hc0
 have H : (impl_allWithin.l0 k a1 a2 l0 (l0.length : Int) 0) = some r := h
 clear h
 have H' := Ya H
 clear H
 go_enter Try.func85, Try.ntmps85
 go_wp2
 go_loopg [11] k (fun kq v11 w' => ∃ (x11_1 : Int), v11 = .int .i64 x11_1 ∧ Aside0 (impl_allWithin.l0 kq a1 a2 l0 (l0.length : Int) x11_1 = some r) ∧ Aside0 (kq ≤ k) ∧ Drawn0 w w')
 case atStart => exact ⟨(0), Q8, H', ⟨Nat.le_refl _⟩, Q5⟩
 case round =>
  clear H'
  try clear p2
  obtain ⟨x11_1, rfl, HA, HK1, ⟨m1, rfl⟩⟩ := hrel
  cases gk with
  | zero => exact absurd HA.out (by simp [impl_allWithin.l0])
  | succ k1 =>
   have H := HA.out
   clear HA
   simp only [impl_allWithin.l0] at H
   by_cases c4 : x11_1 < (l0.length : Int)
   ·rw [if_pos c4] at H
    have c4b0 := Z38 c4
    clear c4
    by_cases c5 : 0 ≤ x11_1
    ·rw [if_pos c5] at H
     have c5b0 := Z38 c5
     clear c5
     by_cases c6 : x11_1 < (l0.length : Int)
     ·rw [if_pos c6] at H
      have c6b0 := Z38 c6
      clear c6
      replace H := Z36.mp H
      obtain ⟨t494, A70, H⟩ := H
      replace H : (if t494 = true then (impl_allWithin.l0 k1 a1 a2 l0 (l0.length : Int) (wrap64 (x11_1 + 1))) else (some false)) = some r := H
      have A7 := Ya A70
      clear A70
      by_cases c8 : t494 = true
      ·subst c8
       have H1 : (impl_allWithin.l0 k1 a1 a2 l0 (l0.length : Int) (wrap64 (x11_1 + 1))) = some r := by rw [if_pos rfl] at H; exact H
       clear H
       have H := H1
       clear H1
       have H' := Ya H
       clear H
       have p493 : 0 ≤ (x11_1 : Int) := Z30 Q1
       have q493 : x11_1 < (l0.length : Int) := Z30 Q1
       obtain ⟨ad493, e493, hx493_0⟩ := Kd.at_int HR0.out x11_1 p493 q493
       cases e493
       replace p493 := eq_true p493
       replace q493 := eq_true q493
       go_wp2_with (first | ((with_reducible refine gate_callee (f := 48) rfl ?_); refine Yz 18 Try.func48 #[.int .i64 (rd l0 x11_1), .int .i64 a1, .int .i64 a2] ?_; (with_reducible refine (impl_within.calls (rd l0 x11_1) a1 a2 true _ A7.out).mono ?_); rintro e w' ⟨rfl, ⟨nd, rfl⟩⟩; refine ⟨_, rfl, ?_⟩))
       go_roundg k1
       case measure => have := HK1.out; omega
       case rel => exact ⟨(wrap64 (x11_1 + 1)), Q8, H', ⟨Q20⟩, Q5⟩
      ·replace c8 := Bool.eq_false_iff.mpr c8
       subst c8
       have H1 : (some false) = some r := by rw [if_neg (show ¬ (false = true) by decide)] at H; exact H
       clear H
       have H := H1
       clear H1
       obtain rfl := Option.some.inj H
       have p493 : 0 ≤ (x11_1 : Int) := Z30 Q1
       have q493 : x11_1 < (l0.length : Int) := Z30 Q1
       obtain ⟨ad493, e493, hx493_0⟩ := Kd.at_int HR0.out x11_1 p493 q493
       cases e493
       replace p493 := eq_true p493
       replace q493 := eq_true q493
       go_wp2_with (first | ((with_reducible refine gate_callee (f := 48) rfl ?_); refine Yz 18 Try.func48 #[.int .i64 (rd l0 x11_1), .int .i64 a1, .int .i64 a2] ?_; (with_reducible refine (impl_within.calls (rd l0 x11_1) a1 a2 false _ A7.out).mono ?_); rintro e w' ⟨rfl, ⟨nd, rfl⟩⟩; refine ⟨_, rfl, ?_⟩))
       go_ret
       exact ⟨Q13, Q5⟩
     ·rw [if_neg c6] at H
      exact absurd H (by simp)
    ·rw [if_neg c5] at H
     exact absurd H (by simp)
   ·rw [if_neg c4] at H
    have c4b0 := Z37 c4
    clear c4
    obtain rfl := Option.some.inj H
    go_wp2
    go_ret
    exact ⟨Q13, Q5⟩
def impl_areBases.f (k : Nat) (l0 : List Int) : Option (Bool) := if (l0.length : Int) ≤ 12 then ((impl_allWithin.f k l0 2 12).bind fun t495 => (if t495 = true then ((impl_size.f k l0).bind fun t496 => (some (decide (t496 ≤ 1000000)))) else (some false))) else (some false)
theorem impl_areBases.mono : ∀ a0 k, LeO (impl_areBases.f k a0) (impl_areBases.f (k + 1) a0) := by
 intro a0 k
 unfold impl_areBases.f
 repeat' first
   | (with_reducible exact impl_allWithin.mono _ _ _ _)
   | (with_reducible exact impl_size.mono _ _)
   | (with_reducible exact LeO.refl _)
   | (with_reducible exact LeO.none _)
   | (with_reducible refine LeO.ite ?_ ?_)
   | (with_reducible refine LeO.bind ?_ (fun _ => ?_))
   | exact impl_allWithin.mono _ _ _ _
   | exact impl_size.mono _ _
   | exact LeO.none _
   | refine LeO.ite ?_ ?_
   | refine LeO.bind ?_ (fun _ => ?_)
set_option maxHeartbeats 8000000 in
set_option maxRecDepth 100000 in
theorem impl_areBases.calls (k : Nat) (A0 : Option Addr) (c0 : Nat) (l0 : List Int) (r : Bool) (w : World) (hr0 : Kd.C (Kd.int .i64) w A0 l0.length l0) (hc0 : l0.length ≤ c0) (h : impl_areBases.f k l0 = some r) :
  Calls Try.prog 80 #[.slice A0 l0.length c0] w fun e w' => e = .returned (.bool r) ∧ Below w.heap.size w w' := by
 have HR0 := Ya hr0
 have HC0 := Ya hc0
 clear hr0 hc0
 have HB := Ya (Below.refl w.heap.size w)
 have H : (if (l0.length : Int) ≤ 12 then ((impl_allWithin.f k l0 2 12).bind fun t495 => (if t495 = true then ((impl_size.f k l0).bind fun t496 => (some (decide (t496 ≤ 1000000)))) else (some false))) else (some false)) = some r := h
 clear h
 by_cases c2 : (l0.length : Int) ≤ 12
 ·rw [if_pos c2] at H
  have c2b0 := Z38 c2
  have c2b1 : decide (l0.length ≤ 12) = true := Z38 (by omega)
  clear c2
  replace H := Z36.mp H
  obtain ⟨t495, A30, H⟩ := H
  replace H : (if t495 = true then ((impl_size.f k l0).bind fun t496 => (some (decide (t496 ≤ 1000000)))) else (some false)) = some r := H
  have A3 := Ya A30
  clear A30
  by_cases c4 : t495 = true
  ·subst c4
   have H1 : ((impl_size.f k l0).bind fun t496 => (some (decide (t496 ≤ 1000000)))) = some r := by rw [if_pos rfl] at H; exact H
   clear H
   have H := H1
   clear H1
   replace H := Z36.mp H
   obtain ⟨t496, A50, H⟩ := H
   replace H : (some (decide (t496 ≤ 1000000))) = some r := H
   have A5 := Ya A50
   clear A50
   obtain rfl := Option.some.inj H
   go_enter Try.func80, Try.ntmps80
   go_wp2_with (first | (go_at_call 85; (with_reducible refine (impl_allWithin.calls k _ _ l0 2 12 true _ (Yc HR0.out) HC0.out A3.out).mono ?_); rintro e w' ⟨rfl, ⟨nd, rfl⟩⟩) | (go_at_call 73; (with_reducible refine (impl_size.calls k _ _ l0 t496 _ (Yc HR0.out) HC0.out A5.out).mono ?_); rintro e w6 ⟨rfl, hb⟩; replace HB := Yh hb; (try clear hb)))
   go_ret
   exact ⟨Q2, Q12⟩
  ·replace c4 := Bool.eq_false_iff.mpr c4
   subst c4
   have H1 : (some false) = some r := by rw [if_neg (show ¬ (false = true) by decide)] at H; exact H
   clear H
   have H := H1
   clear H1
   obtain rfl := Option.some.inj H
   go_enter Try.func80, Try.ntmps80
   go_wp2_with (first | (go_at_call 85; (with_reducible refine (impl_allWithin.calls k _ _ l0 2 12 false _ (Yc HR0.out) HC0.out A3.out).mono ?_); rintro e w' ⟨rfl, ⟨nd, rfl⟩⟩))
   go_ret
   exact ⟨Q2, Q12⟩
 ·rw [if_neg c2] at H
  have c2b0 := Z37 c2
  have c2b1 : decide (l0.length ≤ 12) = false := Z37 (by omega)
  clear c2
  obtain rfl := Option.some.inj H
  go_enter Try.func80, Try.ntmps80
  go_wp2
  go_ret
  exact ⟨Q2, Q12⟩
def impl_areFocusBases.f (k : Nat) (l0 : List Int) : Option (Bool) := (impl_areBases.f k l0).bind fun t497 => (if t497 = true then ((impl_size.f k l0).bind fun t498 => (some (decide (t498 ≤ 5040)))) else (some false))
theorem impl_areFocusBases.mono : ∀ a0 k, LeO (impl_areFocusBases.f k a0) (impl_areFocusBases.f (k + 1) a0) := by
 intro a0 k
 unfold impl_areFocusBases.f
 repeat' first
   | (with_reducible exact impl_areBases.mono _ _)
   | (with_reducible exact impl_size.mono _ _)
   | (with_reducible exact LeO.refl _)
   | (with_reducible exact LeO.none _)
   | (with_reducible refine LeO.ite ?_ ?_)
   | (with_reducible refine LeO.bind ?_ (fun _ => ?_))
   | exact impl_areBases.mono _ _
   | exact impl_size.mono _ _
   | exact LeO.none _
   | refine LeO.ite ?_ ?_
   | refine LeO.bind ?_ (fun _ => ?_)
set_option maxHeartbeats 8000000 in
set_option maxRecDepth 100000 in
theorem impl_areFocusBases.calls (k : Nat) (A0 : Option Addr) (c0 : Nat) (l0 : List Int) (r : Bool) (w : World) (hr0 : Kd.C (Kd.int .i64) w A0 l0.length l0) (hc0 : l0.length ≤ c0) (h : impl_areFocusBases.f k l0 = some r) :
  Calls Try.prog 64 #[.slice A0 l0.length c0] w fun e w' => e = .returned (.bool r) ∧ Below w.heap.size w w' := by
 have HR0 := Ya hr0
 have HC0 := Ya hc0
 clear hr0 hc0
 have HB := Ya (Below.refl w.heap.size w)
 have H : ((impl_areBases.f k l0).bind fun t497 => (if t497 = true then ((impl_size.f k l0).bind fun t498 => (some (decide (t498 ≤ 5040)))) else (some false))) = some r := h
 clear h
 replace H := Z36.mp H
 obtain ⟨t497, A20, H⟩ := H
 replace H : (if t497 = true then ((impl_size.f k l0).bind fun t498 => (some (decide (t498 ≤ 5040)))) else (some false)) = some r := H
 have A2 := Ya A20
 clear A20
 by_cases c3 : t497 = true
 ·subst c3
  have H1 : ((impl_size.f k l0).bind fun t498 => (some (decide (t498 ≤ 5040)))) = some r := by rw [if_pos rfl] at H; exact H
  clear H
  have H := H1
  clear H1
  replace H := Z36.mp H
  obtain ⟨t498, A40, H⟩ := H
  replace H : (some (decide (t498 ≤ 5040))) = some r := H
  have A4 := Ya A40
  clear A40
  obtain rfl := Option.some.inj H
  go_enter Try.func64, Try.ntmps64
  go_wp2_with (first | ((with_reducible refine gate_callee (f := 80) rfl ?_); refine Yz 4 Try.func80 #[.slice A0 l0.length c0] ?_; (with_reducible refine (impl_areBases.calls k _ _ l0 true _ (Yc HR0.out) HC0.out A2.out).mono ?_); rintro e w5 ⟨rfl, hb⟩; refine ⟨_, rfl, ?_⟩; replace HB := Yh hb; (try clear hb)) | (go_at_call 73; (with_reducible refine (impl_size.calls k _ _ l0 t498 _ (Yc (Z22 HR0.out HB.out)) HC0.out A4.out).mono ?_); rintro e w6 ⟨rfl, hb⟩; replace HB := Yh hb; (try clear hb)))
  go_ret
  exact ⟨Q2, Q12⟩
 ·replace c3 := Bool.eq_false_iff.mpr c3
  subst c3
  have H1 : (some false) = some r := by rw [if_neg (show ¬ (false = true) by decide)] at H; exact H
  clear H
  have H := H1
  clear H1
  obtain rfl := Option.some.inj H
  go_enter Try.func64, Try.ntmps64
  go_wp2_with (first | ((with_reducible refine gate_callee (f := 80) rfl ?_); refine Yz 4 Try.func80 #[.slice A0 l0.length c0] ?_; (with_reducible refine (impl_areBases.calls k _ _ l0 false _ (Yc HR0.out) HC0.out A2.out).mono ?_); rintro e w7 ⟨rfl, hb⟩; refine ⟨_, rfl, ?_⟩; replace HB := Yh hb; (try clear hb)))
  go_ret
  exact ⟨Q2, Q12⟩
def impl_areDigits.l0 : Nat → List Int → List Int → List Int → Int → Int → Option (Bool)
 | 0, _, _, _, _, _ => none
 | k + 1, x0, x1, x7, x8, x9 => if x9 < x8 then (if 0 ≤ x9 then (if x9 < (x7.length : Int) then (if x9 ≥ (x0.length : Int) then (some false) else (if x9 < (x0.length : Int) then ((impl_within.f (rd x7 x9) 0 (wrap64 ((rd x0 x9) - 1))).bind fun t501 => (if t501 = true then (impl_areDigits.l0 k x0 x1 x7 x8 (wrap64 (x9 + 1))) else (some false))) else (none))) else (none)) else (none)) else (some ((x1.length : Int) == (x0.length : Int)))
def impl_areDigits.f (k : Nat) (l0 : List Int) (l1 : List Int) : Option (Bool) := impl_areDigits.l0 k l0 l1 l1 (l1.length : Int) 0
theorem impl_areDigits.mono_l : ∀ k, (∀ y0 y1 y2 y3 y4, LeO (impl_areDigits.l0 k y0 y1 y2 y3 y4) (impl_areDigits.l0 (k + 1) y0 y1 y2 y3 y4))
 | 0 => fun _ _ _ _ _ r h => by simp [impl_areDigits.l0] at h
 | k + 1 => by
  have ih0 := impl_areDigits.mono_l k
  ·intro y0 y1 y2 y3 y4
   unfold impl_areDigits.l0
   repeat' first
   | (with_reducible exact ih0 _ _ _ _ _)
   | (with_reducible exact LeO.refl _)
   | (with_reducible exact LeO.none _)
   | (with_reducible refine LeO.ite ?_ ?_)
   | (with_reducible refine LeO.bind ?_ (fun _ => ?_))
   | exact ih0 _ _ _ _ _
   | exact LeO.none _
   | refine LeO.ite ?_ ?_
   | refine LeO.bind ?_ (fun _ => ?_)
theorem impl_areDigits.mono : ∀ a0 a1 k, LeO (impl_areDigits.f k a0 a1) (impl_areDigits.f (k + 1) a0 a1) := by
 intro a0 a1 k
 have ih0 := impl_areDigits.mono_l k
 unfold impl_areDigits.f
 repeat' first
   | (with_reducible exact ih0 _ _ _ _ _)
   | (with_reducible exact LeO.refl _)
   | (with_reducible exact LeO.none _)
   | (with_reducible refine LeO.ite ?_ ?_)
   | (with_reducible refine LeO.bind ?_ (fun _ => ?_))
   | exact ih0 _ _ _ _ _
   | exact LeO.none _
   | refine LeO.ite ?_ ?_
   | refine LeO.bind ?_ (fun _ => ?_)
set_option maxHeartbeats 8000000 in
set_option maxRecDepth 100000 in
theorem impl_areDigits.calls (k : Nat) (A0 : Option Addr) (c0 : Nat) (l0 : List Int) (A1 : Option Addr) (c1 : Nat) (l1 : List Int) (r : Bool) (w : World) (hr0 : Kd.C (Kd.int .i64) w A0 l0.length l0) (hc0 : l0.length ≤ c0) (hr1 : Kd.C (Kd.int .i64) w A1 l1.length l1) (hc1 : l1.length ≤ c1) (h : impl_areDigits.f k l0 l1 = some r) :
  Calls Try.prog 65 #[.slice A0 l0.length c0, .slice A1 l1.length c1] w fun e w' => e = .returned (.bool r) ∧ Drawn0 w w' := by
 have HR0 := Ya hr0
 have HC0 := Ya hc0
 clear hr0 hc0
 have HR1 := Ya hr1
 have HC1 := Ya hc1
 clear hr1 hc1
 have H : (impl_areDigits.l0 k l0 l1 l1 (l1.length : Int) 0) = some r := h
 clear h
 have H' := Ya H
 clear H
 go_enter Try.func65, Try.ntmps65
 go_wp2
 go_loopg [9] k (fun kq v9 w' => ∃ (x9_1 : Int), v9 = .int .i64 x9_1 ∧ Aside0 (impl_areDigits.l0 kq l0 l1 l1 (l1.length : Int) x9_1 = some r) ∧ Aside0 (kq ≤ k) ∧ Drawn0 w w')
 case atStart => exact ⟨(0), Q8, H', ⟨Nat.le_refl _⟩, Q5⟩
 case round =>
  clear H'
  try clear c1
  try clear p2
  obtain ⟨x9_1, rfl, HA, HK1, ⟨m1, rfl⟩⟩ := hrel
  cases gk with
  | zero => exact absurd HA.out (by simp [impl_areDigits.l0])
  | succ k1 =>
   have H := HA.out
   clear HA
   simp only [impl_areDigits.l0] at H
   by_cases c3 : x9_1 < (l1.length : Int)
   ·rw [if_pos c3] at H
    have c3b0 := Z38 c3
    clear c3
    by_cases c4 : 0 ≤ x9_1
    ·rw [if_pos c4] at H
     have c4b0 := Z38 c4
     clear c4
     by_cases c5 : x9_1 < (l1.length : Int)
     ·rw [if_pos c5] at H
      have c5b0 := Z38 c5
      clear c5
      by_cases c6 : x9_1 ≥ (l0.length : Int)
      ·rw [if_pos c6] at H
       have c6b0 : decide ((l0.length : Int) ≤ x9_1) = true := Z38 c6
       clear c6
       obtain rfl := Option.some.inj H
       have p499 : 0 ≤ (x9_1 : Int) := Z30 Q1
       have q499 : x9_1 < (l1.length : Int) := Z30 Q1
       obtain ⟨ad499, e499, hx499_0⟩ := Kd.at_int HR1.out x9_1 p499 q499
       cases e499
       replace p499 := eq_true p499
       replace q499 := eq_true q499
       go_wp2
       go_ret
       exact ⟨Q13, Q5⟩
      ·rw [if_neg c6] at H
       have c6b0 : decide ((l0.length : Int) ≤ x9_1) = false := Z37 c6
       clear c6
       by_cases c7 : x9_1 < (l0.length : Int)
       ·rw [if_pos c7] at H
        have c7b0 := Z38 c7
        clear c7
        replace H := Z36.mp H
        obtain ⟨t501, A80, H⟩ := H
        replace H : (if t501 = true then (impl_areDigits.l0 k1 l0 l1 l1 (l1.length : Int) (wrap64 (x9_1 + 1))) else (some false)) = some r := H
        have A8 := Ya A80
        clear A80
        by_cases c9 : t501 = true
        ·subst c9
         have H1 : (impl_areDigits.l0 k1 l0 l1 l1 (l1.length : Int) (wrap64 (x9_1 + 1))) = some r := by rw [if_pos rfl] at H; exact H
         clear H
         have H := H1
         clear H1
         have H' := Ya H
         clear H
         have p499 : 0 ≤ (x9_1 : Int) := Z30 Q1
         have q499 : x9_1 < (l1.length : Int) := Z30 Q1
         obtain ⟨ad499, e499, hx499_0⟩ := Kd.at_int HR1.out x9_1 p499 q499
         cases e499
         replace p499 := eq_true p499
         replace q499 := eq_true q499
         have p500 : 0 ≤ (x9_1 : Int) := Z30 Q1
         have q500 : x9_1 < (l0.length : Int) := Z30 Q1
         obtain ⟨ad500, e500, hx500_0⟩ := Kd.at_int HR0.out x9_1 p500 q500
         cases e500
         replace p500 := eq_true p500
         replace q500 := eq_true q500
         go_wp2_with (first | (go_at_call 48; (with_reducible refine (impl_within.calls (rd l1 x9_1) 0 (wrap64 ((rd l0 x9_1) - 1)) true _ A8.out).mono ?_); rintro e w' ⟨rfl, ⟨nd, rfl⟩⟩))
         go_roundg k1
         case measure => have := HK1.out; omega
         case rel => exact ⟨(wrap64 (x9_1 + 1)), Q8, H', ⟨Q20⟩, Q5⟩
        ·replace c9 := Bool.eq_false_iff.mpr c9
         subst c9
         have H1 : (some false) = some r := by rw [if_neg (show ¬ (false = true) by decide)] at H; exact H
         clear H
         have H := H1
         clear H1
         obtain rfl := Option.some.inj H
         have p499 : 0 ≤ (x9_1 : Int) := Z30 Q1
         have q499 : x9_1 < (l1.length : Int) := Z30 Q1
         obtain ⟨ad499, e499, hx499_0⟩ := Kd.at_int HR1.out x9_1 p499 q499
         cases e499
         replace p499 := eq_true p499
         replace q499 := eq_true q499
         have p500 : 0 ≤ (x9_1 : Int) := Z30 Q1
         have q500 : x9_1 < (l0.length : Int) := Z30 Q1
         obtain ⟨ad500, e500, hx500_0⟩ := Kd.at_int HR0.out x9_1 p500 q500
         cases e500
         replace p500 := eq_true p500
         replace q500 := eq_true q500
         go_wp2_with (first | (go_at_call 48; (with_reducible refine (impl_within.calls (rd l1 x9_1) 0 (wrap64 ((rd l0 x9_1) - 1)) false _ A8.out).mono ?_); rintro e w' ⟨rfl, ⟨nd, rfl⟩⟩))
         go_ret
         exact ⟨Q13, Q5⟩
       ·rw [if_neg c7] at H
        exact absurd H (by simp)
     ·rw [if_neg c5] at H
      exact absurd H (by simp)
    ·rw [if_neg c4] at H
     exact absurd H (by simp)
   ·rw [if_neg c3] at H
    have c3b0 := Z37 c3
    clear c3
    obtain rfl := Option.some.inj H
    go_wp2
    go_ret
    exact ⟨Q13, Q5⟩
end Go.Proofs.Ytpfakdhfffehaaa.MFnExactStepSwapper
