import Derived.Test.YtpfakdhfffehaaaMFnExactIsSwapperx0
import Derived.Test.YtpfakdhfffehaaaMFnExactIsSwapperx3
import Derived.Test.YtpfakdhfffehaaaMFnExactIsSwapperx4
import Derived.Test.YtpfakdhfffehaaaMFnExactIsSwapperx6
namespace Go.Proofs.Ytpfakdhfffehaaa.MFnExactIsSwapper
open Go.RowKit Go.Proofs.YtpfakdhfffehaaaW.PrintWords Go.Proofs.YtpfakdhfffehaaaW.PrintLast Go.Proofs.YtpfakdhfffehaaaW.PrintMore
attribute [local go_sem] max2_int min2_int max_two min_two max_three min_three max_four min_four   
set_option linter.unusedVariables false
set_option linter.unusedSimpArgs false
def spec_foRank.j0 : Nat → Bool → List Int → List Int → List Bool → List Int → List Int → List Int → Option (Int)
 | 0, _, _, _, _, _, _, _ => none
 | k + 1, x22, x356000, x356001, x356002, x356003, x356004, x356005 => if x22 = true then (some (-1)) else ((spec_gcMixedRank.f k x356000 x356001).bind fun t359 => ((spec_foSwapperAt.f k (x356004.length : Int) t359).bind fun bt360 => (if bt360.2.2.2.2.2.2 = true then ((spec_foSame.f k x356000 x356001 x356002 x356003 bt360.1 bt360.2.1 bt360.2.2.1 bt360.2.2.2.1).bind fun t380 => (if t380 = true then ((spec_l1Same.f k x356004 bt360.2.2.2.2.1).bind fun t381 => (if t381 = true then ((spec_l1Same.f k x356005 bt360.2.2.2.2.2.1).bind fun t382 => (if t382 = true then (some t359) else (some (-1)))) else (some (-1)))) else (some (-1)))) else (some (-1)))))
def spec_foRank.f (k : Nat) (l0_0 : List Int) (l0_1 : List Int) (l0_2 : List Bool) (l0_3 : List Int) (l0_4 : List Int) (l0_5 : List Int) : Option (Int) := (spec_foSize.f (l0_4.length : Int)).bind fun t356 => (if t356 = true then ((spec_raPermutation.f k l0_4).bind fun t357 => (if t357 = true then ((spec_foGood.f k l0_0 l0_1 l0_2 l0_3).bind fun t358 => (spec_foRank.j0 k (!t358) l0_0 l0_1 l0_2 l0_3 l0_4 l0_5)) else (spec_foRank.j0 k true l0_0 l0_1 l0_2 l0_3 l0_4 l0_5))) else (spec_foRank.j0 k true l0_0 l0_1 l0_2 l0_3 l0_4 l0_5))
theorem spec_foRank.mono_l : ∀ k, (∀ y0 y1 y2 y3 y4 y5 y6, LeO (spec_foRank.j0 k y0 y1 y2 y3 y4 y5 y6) (spec_foRank.j0 (k + 1) y0 y1 y2 y3 y4 y5 y6))
 | 0 => fun _ _ _ _ _ _ _ r h => by simp [spec_foRank.j0] at h
 | k + 1 => by
  have ih0 := spec_foRank.mono_l k
  ·intro y0 y1 y2 y3 y4 y5 y6
   unfold spec_foRank.j0
   repeat' first
   | (with_reducible exact ih0 _ _ _ _ _ _ _)
   | (with_reducible exact spec_foGood.mono _ _ _ _ _)
   | (with_reducible exact spec_foSame.mono _ _ _ _ _ _ _ _ _)
   | (with_reducible exact spec_foSwapperAt.mono _ _ _)
   | (with_reducible exact spec_gcMixedRank.mono _ _ _)
   | (with_reducible exact spec_l1Same.mono _ _ _)
   | (with_reducible exact spec_raPermutation.mono _ _)
   | (with_reducible exact LeO.refl _)
   | (with_reducible exact LeO.none _)
   | (with_reducible refine LeO.ite ?_ ?_)
   | (with_reducible refine LeO.bind ?_ (fun _ => ?_))
   | exact ih0 _ _ _ _ _ _ _
   | exact spec_foGood.mono _ _ _ _ _
   | exact spec_foSame.mono _ _ _ _ _ _ _ _ _
   | exact spec_foSwapperAt.mono _ _ _
   | exact spec_gcMixedRank.mono _ _ _
   | exact spec_l1Same.mono _ _ _
   | exact spec_raPermutation.mono _ _
   | exact LeO.none _
   | refine LeO.ite ?_ ?_
   | refine LeO.bind ?_ (fun _ => ?_)
theorem spec_foRank.mono : ∀ a0 a1 a2 a3 a4 a5 k, LeO (spec_foRank.f k a0 a1 a2 a3 a4 a5) (spec_foRank.f (k + 1) a0 a1 a2 a3 a4 a5) := by
 intro a0 a1 a2 a3 a4 a5 k
 have ih0 := spec_foRank.mono_l k
 unfold spec_foRank.f
 repeat' first
   | (with_reducible exact ih0 _ _ _ _ _ _ _)
   | (with_reducible exact spec_foGood.mono _ _ _ _ _)
   | (with_reducible exact spec_foSame.mono _ _ _ _ _ _ _ _ _)
   | (with_reducible exact spec_foSwapperAt.mono _ _ _)
   | (with_reducible exact spec_gcMixedRank.mono _ _ _)
   | (with_reducible exact spec_l1Same.mono _ _ _)
   | (with_reducible exact spec_raPermutation.mono _ _)
   | (with_reducible exact LeO.refl _)
   | (with_reducible exact LeO.none _)
   | (with_reducible refine LeO.ite ?_ ?_)
   | (with_reducible refine LeO.bind ?_ (fun _ => ?_))
   | exact ih0 _ _ _ _ _ _ _
   | exact spec_foGood.mono _ _ _ _ _
   | exact spec_foSame.mono _ _ _ _ _ _ _ _ _
   | exact spec_foSwapperAt.mono _ _ _
   | exact spec_gcMixedRank.mono _ _ _
   | exact spec_l1Same.mono _ _ _
   | exact spec_raPermutation.mono _ _
   | exact LeO.none _
   | refine LeO.ite ?_ ?_
   | refine LeO.bind ?_ (fun _ => ?_)
set_option maxHeartbeats 8000000 in
set_option maxRecDepth 100000 in
theorem spec_foRank.calls (k : Nat) (A0_0 : Option Addr) (c0_0 : Nat) (l0_0 : List Int) (A0_1 : Option Addr) (c0_1 : Nat) (l0_1 : List Int) (A0_2 : Option Addr) (c0_2 : Nat) (l0_2 : List Bool) (A0_3 : Option Addr) (c0_3 : Nat) (l0_3 : List Int) (A0_4 : Option Addr) (c0_4 : Nat) (l0_4 : List Int) (A0_5 : Option Addr) (c0_5 : Nat) (l0_5 : List Int) (r : Int) (w : World) (hr0_0 : Kd.C (Kd.int .i64) w A0_0 l0_0.length l0_0) (hc0_0 : l0_0.length ≤ c0_0) (hr0_1 : Kd.C (Kd.int .i64) w A0_1 l0_1.length l0_1) (hc0_1 : l0_1.length ≤ c0_1) (hr0_2 : Kd.C Kd.bool w A0_2 l0_2.length l0_2) (hc0_2 : l0_2.length ≤ c0_2) (hr0_3 : Kd.C (Kd.int .i64) w A0_3 l0_3.length l0_3) (hc0_3 : l0_3.length ≤ c0_3) (hr0_4 : Kd.C (Kd.int .i64) w A0_4 l0_4.length l0_4) (hc0_4 : l0_4.length ≤ c0_4) (hr0_5 : Kd.C (Kd.int .i64) w A0_5 l0_5.length l0_5) (hc0_5 : l0_5.length ≤ c0_5) (h : spec_foRank.f k l0_0 l0_1 l0_2 l0_3 l0_4 l0_5 = some r) :
  Calls Try.prog 51 #[.agg #[.slice A0_0 l0_0.length c0_0, .slice A0_1 l0_1.length c0_1, .slice A0_2 l0_2.length c0_2, .slice A0_3 l0_3.length c0_3, .slice A0_4 l0_4.length c0_4, .slice A0_5 l0_5.length c0_5]] w fun e w' => e = .returned (.int .i64 r) ∧ Below w.heap.size w w' := by
 have hu35 := Try.underlying35
 have hu27 := Try.underlying27
 have HR0_0 := Ya hr0_0
 have HC0_0 := Ya hc0_0
 clear hr0_0 hc0_0
 have HR0_1 := Ya hr0_1
 have HC0_1 := Ya hc0_1
 clear hr0_1 hc0_1
 have HR0_2 := Ya hr0_2
 have HC0_2 := Ya hc0_2
 clear hr0_2 hc0_2
 have HR0_3 := Ya hr0_3
 have HC0_3 := Ya hc0_3
 clear hr0_3 hc0_3
 have HR0_4 := Ya hr0_4
 have HC0_4 := Ya hc0_4
 clear hr0_4 hc0_4
 have HR0_5 := Ya hr0_5
 have HC0_5 := Ya hc0_5
 clear hr0_5 hc0_5
 have HB := Ya (Below.refl w.heap.size w)
 have H : ((spec_foSize.f (l0_4.length : Int)).bind fun t356 => (if t356 = true then ((spec_raPermutation.f k l0_4).bind fun t357 => (if t357 = true then ((spec_foGood.f k l0_0 l0_1 l0_2 l0_3).bind fun t358 => (spec_foRank.j0 k (!t358) l0_0 l0_1 l0_2 l0_3 l0_4 l0_5)) else (spec_foRank.j0 k true l0_0 l0_1 l0_2 l0_3 l0_4 l0_5))) else (spec_foRank.j0 k true l0_0 l0_1 l0_2 l0_3 l0_4 l0_5))) = some r := h
 clear h
 have HC2 := Ya H
 clear H
 go_enter Try.func51, Try.ntmps51
 go_upto_region 1 with (first | ((with_reducible refine gate_dst (N := 1) rfl ?_); refine Yx 1 #[.slice A0_0 l0_0.length c0_0, .slice A0_1 l0_1.length c0_1, .slice A0_2 l0_2.length c0_2, .slice A0_3 l0_3.length c0_3, .slice A0_4 l0_4.length c0_4, .slice A0_5 l0_5.length c0_5] 35 ?_; intro gb355 hg w3 hbox hb; have BK355 := Ya hbox; have GE355 := Yg hg; replace HB := Yh hb; clear hb hbox hg))
 (try simp only [Act.put, Z0, Z1, Z2])
 go_cut [22] (fun v22 wc => ∃ (kq : Nat) (x22_1 : Bool), v22 = .bool x22_1 ∧ Aside0 (spec_foRank.j0 kq x22_1 l0_0 l0_1 l0_2 l0_3 l0_4 l0_5 = some r) ∧ Aside0 (kq ≤ k) ∧ Aside0 (wc.heap[gb355]? = some (.cells #[(.slice A0_0 l0_0.length c0_0), (.slice A0_1 l0_1.length c0_1), (.slice A0_2 l0_2.length c0_2), (.slice A0_3 l0_3.length c0_3), (.slice A0_4 l0_4.length c0_4), (.slice A0_5 l0_5.length c0_5)] 35 (0, 0))) ∧ Aside0 (Below w.heap.size w wc))
 case first =>
  have H := HC2.out
  clear HC2
  replace H := Z33.mp H
  obtain ⟨t356, A40, H⟩ := H
  replace H : (if t356 = true then ((spec_raPermutation.f k l0_4).bind fun t357 => (if t357 = true then ((spec_foGood.f k l0_0 l0_1 l0_2 l0_3).bind fun t358 => (spec_foRank.j0 k (!t358) l0_0 l0_1 l0_2 l0_3 l0_4 l0_5)) else (spec_foRank.j0 k true l0_0 l0_1 l0_2 l0_3 l0_4 l0_5))) else (spec_foRank.j0 k true l0_0 l0_1 l0_2 l0_3 l0_4 l0_5)) = some r := H
  have A4 := Ya A40
  clear A40
  by_cases c5 : t356 = true
  ·subst c5
   have H1 : ((spec_raPermutation.f k l0_4).bind fun t357 => (if t357 = true then ((spec_foGood.f k l0_0 l0_1 l0_2 l0_3).bind fun t358 => (spec_foRank.j0 k (!t358) l0_0 l0_1 l0_2 l0_3 l0_4 l0_5)) else (spec_foRank.j0 k true l0_0 l0_1 l0_2 l0_3 l0_4 l0_5))) = some r := by rw [if_pos rfl] at H; exact H
   clear H
   have H := H1
   clear H1
   replace H := Z33.mp H
   obtain ⟨t357, A60, H⟩ := H
   replace H : (if t357 = true then ((spec_foGood.f k l0_0 l0_1 l0_2 l0_3).bind fun t358 => (spec_foRank.j0 k (!t358) l0_0 l0_1 l0_2 l0_3 l0_4 l0_5)) else (spec_foRank.j0 k true l0_0 l0_1 l0_2 l0_3 l0_4 l0_5)) = some r := H
   have A6 := Ya A60
   clear A60
   by_cases c7 : t357 = true
   ·subst c7
    have H1 : ((spec_foGood.f k l0_0 l0_1 l0_2 l0_3).bind fun t358 => (spec_foRank.j0 k (!t358) l0_0 l0_1 l0_2 l0_3 l0_4 l0_5)) = some r := by rw [if_pos rfl] at H; exact H
    clear H
    have H := H1
    clear H1
    replace H := Z33.mp H
    obtain ⟨t358, A80, H⟩ := H
    replace H : (spec_foRank.j0 k (!t358) l0_0 l0_1 l0_2 l0_3 l0_4 l0_5) = some r := H
    have A8 := Ya A80
    clear A80
    have H' := Ya H
    clear H
    obtain ⟨hcz9_0, hcz9_1, hcz9_2, hcz9_3, hcz9_4, hcz9_5, hfz9_0, hfz9_1, hfz9_2, hfz9_3, hfz9_4, hfz9_5⟩ := Y6 BK355.out
    go_wp2_with (first | ((with_reducible refine gate_callee (f := 43) rfl ?_); refine Yz 9 Try.func43 #[.int .i64 (l0_4.length : Int)] ?_; (with_reducible refine (spec_foSize.calls (l0_4.length : Int) true _ A4.out).mono ?_); rintro e w' ⟨rfl, ⟨nd, rfl⟩⟩; refine ⟨_, rfl, ?_⟩) | (go_at_call 69; (with_reducible refine (spec_raPermutation.calls k _ _ l0_4 true _ ?side1 HC0_4.out A6.out).mono ?_); (case side1 => exact Yc (Z19 HR0_4.out Q0)); rintro e w' ⟨rfl, ⟨nd, rfl⟩⟩) | (go_at_call 30; (with_reducible refine (spec_foGood.calls k _ _ l0_0 _ _ l0_1 _ _ l0_2 _ _ l0_3 t358 _ ?side1 HC0_0.out ?side3 HC0_1.out ?side5 HC0_2.out ?side7 HC0_3.out A8.out).mono ?_); (case side1 => exact Yc (Z19 HR0_0.out Q0)); (case side3 => exact Yc (Z19 HR0_1.out Q0)); (case side5 => exact Yc (Z19 HR0_2.out Q0)); (case side7 => exact Yc (Z19 HR0_3.out Q0)); rintro e w10 ⟨rfl, hb⟩; replace BK355 := Yb BK355 hb; replace HB := Yh hb; (try clear hb)))
    go_meet
    case rel => exact ⟨_, (!t358), Q7, H', ⟨Q43⟩, ⟨Q65⟩, ⟨Q12⟩⟩
   ·replace c7 := Bool.eq_false_iff.mpr c7
    subst c7
    have H1 : (spec_foRank.j0 k true l0_0 l0_1 l0_2 l0_3 l0_4 l0_5) = some r := by rw [if_neg (show ¬ (false = true) by decide)] at H; exact H
    clear H
    have H := H1
    clear H1
    have H' := Ya H
    clear H
    obtain ⟨hcz11_0, hcz11_1, hcz11_2, hcz11_3, hcz11_4, hcz11_5, hfz11_0, hfz11_1, hfz11_2, hfz11_3, hfz11_4, hfz11_5⟩ := Y6 BK355.out
    go_wp2_with (first | ((with_reducible refine gate_callee (f := 43) rfl ?_); refine Yz 9 Try.func43 #[.int .i64 (l0_4.length : Int)] ?_; (with_reducible refine (spec_foSize.calls (l0_4.length : Int) true _ A4.out).mono ?_); rintro e w' ⟨rfl, ⟨nd, rfl⟩⟩; refine ⟨_, rfl, ?_⟩) | (go_at_call 69; (with_reducible refine (spec_raPermutation.calls k _ _ l0_4 false _ ?side1 HC0_4.out A6.out).mono ?_); (case side1 => exact Yc (Z19 HR0_4.out Q0)); rintro e w' ⟨rfl, ⟨nd, rfl⟩⟩))
    go_meet
    case rel => exact ⟨_, (true), Q7, H', ⟨Q43⟩, ⟨Q65⟩, ⟨Q12⟩⟩
  ·replace c5 := Bool.eq_false_iff.mpr c5
   subst c5
   have H1 : (spec_foRank.j0 k true l0_0 l0_1 l0_2 l0_3 l0_4 l0_5) = some r := by rw [if_neg (show ¬ (false = true) by decide)] at H; exact H
   clear H
   have H := H1
   clear H1
   have H' := Ya H
   clear H
   obtain ⟨hcz12_0, hcz12_1, hcz12_2, hcz12_3, hcz12_4, hcz12_5, hfz12_0, hfz12_1, hfz12_2, hfz12_3, hfz12_4, hfz12_5⟩ := Y6 BK355.out
   go_wp2_with (first | ((with_reducible refine gate_callee (f := 43) rfl ?_); refine Yz 9 Try.func43 #[.int .i64 (l0_4.length : Int)] ?_; (with_reducible refine (spec_foSize.calls (l0_4.length : Int) false _ A4.out).mono ?_); rintro e w' ⟨rfl, ⟨nd, rfl⟩⟩; refine ⟨_, rfl, ?_⟩))
   go_meet
   case rel => exact ⟨_, (true), Q7, H', ⟨Q43⟩, ⟨Q65⟩, ⟨Q12⟩⟩
 case rest =>
  clear HC2
  try clear p2
  try clear c4
  try clear c5
  try clear c7
  try clear hcz11_0
  try clear hcz11_1
  try clear hcz11_2
  try clear hcz11_3
  try clear hcz11_4
  try clear hcz11_5
  try clear hcz12_0
  try clear hcz12_1
  try clear hcz12_2
  try clear hcz12_3
  try clear hcz12_4
  try clear hcz12_5
  try clear hcz9_0
  try clear hcz9_1
  try clear hcz9_2
  try clear hcz9_3
  try clear hcz9_4
  try clear hcz9_5
  try clear hfz11_0
  try clear hfz11_1
  try clear hfz11_2
  try clear hfz11_3
  try clear hfz11_4
  try clear hfz11_5
  try clear hfz12_0
  try clear hfz12_1
  try clear hfz12_2
  try clear hfz12_3
  try clear hfz12_4
  try clear hfz12_5
  try clear hfz9_0
  try clear hfz9_1
  try clear hfz9_2
  try clear hfz9_3
  try clear hfz9_4
  try clear hfz9_5
  obtain ⟨kq, x22_1, rfl, HA, HJ1, BK355, HB⟩ := hcut
  cases kq with
  | zero => exact absurd HA.out (by simp [spec_foRank.j0])
  | succ kj1 =>
   have H := HA.out
   clear HA
   simp only [spec_foRank.j0] at H
   by_cases c13 : x22_1 = true
   ·subst c13
    have H1 : (some (-1)) = some r := by rw [if_pos rfl] at H; exact H
    clear H
    have H := H1
    clear H1
    obtain rfl := Option.some.inj H
    go_wp2
    go_ret
    exact ⟨Q2, Q12⟩
   ·replace c13 := Bool.eq_false_iff.mpr c13
    subst c13
    have H1 : ((spec_gcMixedRank.f kj1 l0_0 l0_1).bind fun t359 => ((spec_foSwapperAt.f kj1 (l0_4.length : Int) t359).bind fun bt360 => (if bt360.2.2.2.2.2.2 = true then ((spec_foSame.f kj1 l0_0 l0_1 l0_2 l0_3 bt360.1 bt360.2.1 bt360.2.2.1 bt360.2.2.2.1).bind fun t380 => (if t380 = true then ((spec_l1Same.f kj1 l0_4 bt360.2.2.2.2.1).bind fun t381 => (if t381 = true then ((spec_l1Same.f kj1 l0_5 bt360.2.2.2.2.2.1).bind fun t382 => (if t382 = true then (some t359) else (some (-1)))) else (some (-1)))) else (some (-1)))) else (some (-1))))) = some r := by rw [if_neg (show ¬ (false = true) by decide)] at H; exact H
    clear H
    have H := H1
    clear H1
    replace H := Z33.mp H
    obtain ⟨t359, A140, H⟩ := H
    replace H : ((spec_foSwapperAt.f kj1 (l0_4.length : Int) t359).bind fun bt360 => (if bt360.2.2.2.2.2.2 = true then ((spec_foSame.f kj1 l0_0 l0_1 l0_2 l0_3 bt360.1 bt360.2.1 bt360.2.2.1 bt360.2.2.2.1).bind fun t380 => (if t380 = true then ((spec_l1Same.f kj1 l0_4 bt360.2.2.2.2.1).bind fun t381 => (if t381 = true then ((spec_l1Same.f kj1 l0_5 bt360.2.2.2.2.2.1).bind fun t382 => (if t382 = true then (some t359) else (some (-1)))) else (some (-1)))) else (some (-1)))) else (some (-1)))) = some r := H
    have A14 := Ya A140
    clear A140
    replace H := Z33.mp H
    obtain ⟨⟨t360, t363, t366, t369, t372, t375, t378⟩, A150, H⟩ := H
    replace H : (if t378 = true then ((spec_foSame.f kj1 l0_0 l0_1 l0_2 l0_3 t360 t363 t366 t369).bind fun t380 => (if t380 = true then ((spec_l1Same.f kj1 l0_4 t372).bind fun t381 => (if t381 = true then ((spec_l1Same.f kj1 l0_5 t375).bind fun t382 => (if t382 = true then (some t359) else (some (-1)))) else (some (-1)))) else (some (-1)))) else (some (-1))) = some r := H
    have A15 := Ya A150
    clear A150
    by_cases c16 : t378 = true
    ·subst c16
     have H1 : ((spec_foSame.f kj1 l0_0 l0_1 l0_2 l0_3 t360 t363 t366 t369).bind fun t380 => (if t380 = true then ((spec_l1Same.f kj1 l0_4 t372).bind fun t381 => (if t381 = true then ((spec_l1Same.f kj1 l0_5 t375).bind fun t382 => (if t382 = true then (some t359) else (some (-1)))) else (some (-1)))) else (some (-1)))) = some r := by rw [if_pos rfl] at H; exact H
     clear H
     have H := H1
     clear H1
     replace H := Z33.mp H
     obtain ⟨t380, A170, H⟩ := H
     replace H : (if t380 = true then ((spec_l1Same.f kj1 l0_4 t372).bind fun t381 => (if t381 = true then ((spec_l1Same.f kj1 l0_5 t375).bind fun t382 => (if t382 = true then (some t359) else (some (-1)))) else (some (-1)))) else (some (-1))) = some r := H
     have A17 := Ya A170
     clear A170
     by_cases c18 : t380 = true
     ·subst c18
      have H1 : ((spec_l1Same.f kj1 l0_4 t372).bind fun t381 => (if t381 = true then ((spec_l1Same.f kj1 l0_5 t375).bind fun t382 => (if t382 = true then (some t359) else (some (-1)))) else (some (-1)))) = some r := by rw [if_pos rfl] at H; exact H
      clear H
      have H := H1
      clear H1
      replace H := Z33.mp H
      obtain ⟨t381, A190, H⟩ := H
      replace H : (if t381 = true then ((spec_l1Same.f kj1 l0_5 t375).bind fun t382 => (if t382 = true then (some t359) else (some (-1)))) else (some (-1))) = some r := H
      have A19 := Ya A190
      clear A190
      by_cases c20 : t381 = true
      ·subst c20
       have H1 : ((spec_l1Same.f kj1 l0_5 t375).bind fun t382 => (if t382 = true then (some t359) else (some (-1)))) = some r := by rw [if_pos rfl] at H; exact H
       clear H
       have H := H1
       clear H1
       replace H := Z33.mp H
       obtain ⟨t382, A210, H⟩ := H
       replace H : (if t382 = true then (some t359) else (some (-1))) = some r := H
       have A21 := Ya A210
       clear A210
       by_cases c22 : t382 = true
       ·subst c22
        have H1 : (some t359) = some r := by rw [if_pos rfl] at H; exact H
        clear H
        have H := H1
        clear H1
        obtain rfl := Option.some.inj H
        obtain ⟨hcz23_0, hcz23_1, hcz23_2, hcz23_3, hcz23_4, hcz23_5, hfz23_0, hfz23_1, hfz23_2, hfz23_3, hfz23_4, hfz23_5⟩ := Y6 BK355.out
        go_wp2_with (first | ((with_reducible refine gate_callee (f := 61) rfl ?_); refine Yz 29 Try.func61 #[.slice A0_0 l0_0.length c0_0, .slice A0_1 l0_1.length c0_1] ?_; (with_reducible refine (spec_gcMixedRank.calls kj1 _ _ l0_0 _ _ l0_1 t359 _ (Yc (Z19 HR0_0.out HB.out)) HC0_0.out (Yc (Z19 HR0_1.out HB.out)) HC0_1.out A14.out).mono ?_); rintro e w24 ⟨rfl, hb⟩; refine ⟨_, rfl, ?_⟩; replace BK355 := Yb BK355 hb; replace HB := Yh hb; (try clear hb); obtain ⟨hcz25_0, hcz25_1, hcz25_2, hcz25_3, hcz25_4, hcz25_5, hfz25_0, hfz25_1, hfz25_2, hfz25_3, hfz25_4, hfz25_5⟩ := Y6 BK355.out) | ((with_reducible refine gate_callee (f := 46) rfl ?_); refine Yz 35 Try.func46 #[.int .i64 (l0_4.length : Int), .int .i64 t359] ?_; (with_reducible refine (spec_foSwapperAt.calls kj1 (l0_4.length : Int) t359 t360 t363 t366 t369 t372 t375 true _ A15.out).mono ?_); rintro e w26 ⟨v361, v364, v367, v370, v373, v376, rfl, ho0, ho1, ho2, ho3, ho4, ho5, hb⟩; refine ⟨_, rfl, ?_⟩; have HO362 := Yl ho0; have HO365 := Yl ho1; have HO368 := Yl ho2; have HO371 := Yl ho3; have HO374 := Yl ho4; have HO377 := Yl ho5; replace BK355 := Yb BK355 hb; replace HB := Yh hb; (try clear hb ho0 ho1 ho2 ho3 ho4 ho5)) | ((with_reducible refine gate_dst (N := 4) rfl ?_); refine Yx 4 #[.slice none 0 0, .slice none 0 0, .slice none 0 0, .slice none 0 0, .slice none 0 0, .slice none 0 0] 35 ?_; intro gb379 hg w27 hbox hb; replace HO362 := Yw HO362 hb; replace HO365 := Yw HO365 hb; replace HO368 := Yw HO368 hb; replace HO371 := Yw HO371 hb; replace HO374 := Yw HO374 hb; replace HO377 := Yw HO377 hb; have BK379 := Ya hbox; have GE379 := Yg hg; replace HB := Yh hb; have NB355_379 := Yn BK355 hg; have NB379_355 := Ym BK355 hg; replace BK355 := Yb BK355 hb; clear hb hbox hg; obtain ⟨Ao28, co28, rfl⟩ := Z18 HO362.out; have hnb29 := NB379_355.out; have hnc29 := NB355_379.out; have hz30 := Y6 BK379.out; obtain ⟨Ao31, co31, rfl⟩ := Z18 HO365.out; obtain ⟨Ao32, co32, rfl⟩ := Z18 HO368.out; obtain ⟨Ao33, co33, rfl⟩ := Z18 HO371.out; obtain ⟨Ao34, co34, rfl⟩ := Z18 HO374.out; obtain ⟨Ao35, co35, rfl⟩ := Z18 HO377.out; have hz36 := Y6 BK355.out) | (go_at_call 62; (with_reducible refine (spec_foSame.calls kj1 _ _ l0_0 _ _ l0_1 _ _ l0_2 _ _ l0_3 _ _ t360 _ _ t363 _ _ t366 _ _ t369 true _ ?side1 HC0_0.out ?side3 HC0_1.out ?side5 HC0_2.out ?side7 HC0_3.out ?side9 ((Kd.R_reads' HO362.out).2.1) ?side11 ((Kd.R_reads' HO365.out).2.1) ?side13 ((Kd.R_reads' HO368.out).2.1) ?side15 ((Kd.R_reads' HO371.out).2.1) A17.out).mono ?_); (case side1 => exact Z19 HR0_0.out Q0); (case side3 => exact Z19 HR0_1.out Q0); (case side5 => exact Z19 HR0_2.out Q0); (case side7 => exact Z19 HR0_3.out Q0); (case side9 => refine (Kd.R_reads' (e := 3) (base := w.heap.size) (ok := fun k_ => (some k_ ≠ (.slice Ao31 t363.length co31 : Value).ownBlock ∧ (some k_ ≠ (.slice Ao33 t369.length co33 : Value).ownBlock ∧ (some k_ ≠ (.slice Ao34 t372.length co34 : Value).ownBlock ∧ some k_ ≠ (.slice Ao35 t375.length co35 : Value).ownBlock)))) (n := t360.length) (c := co28) ?_).2.2; exact Q18); (case side11 => refine (Kd.R_reads' (e := 3) (base := w.heap.size) (ok := fun k_ => (some k_ ≠ (.slice Ao28 t360.length co28 : Value).ownBlock ∧ (some k_ ≠ (.slice Ao33 t369.length co33 : Value).ownBlock ∧ (some k_ ≠ (.slice Ao34 t372.length co34 : Value).ownBlock ∧ some k_ ≠ (.slice Ao35 t375.length co35 : Value).ownBlock)))) (n := t363.length) (c := co31) ?_).2.2; exact Q17); (case side13 => refine (Kd.R_reads' (e := 4) (base := w.heap.size) (ok := fun k_ => True) (n := t366.length) (c := co32) ?_).2.2; exact Q16); (case side15 => refine (Kd.R_reads' (e := 3) (base := w.heap.size) (ok := fun k_ => (some k_ ≠ (.slice Ao28 t360.length co28 : Value).ownBlock ∧ (some k_ ≠ (.slice Ao31 t363.length co31 : Value).ownBlock ∧ (some k_ ≠ (.slice Ao34 t372.length co34 : Value).ownBlock ∧ some k_ ≠ (.slice Ao35 t375.length co35 : Value).ownBlock)))) (n := t369.length) (c := co33) ?_).2.2; exact Q15); rintro e w37 ⟨rfl, hb⟩; replace HO362 := Ya (Z13 Q18 hb); replace HO365 := Ya (Z13 Q17 hb); replace HO368 := Ya (Z13 Q16 hb); replace HO371 := Ya (Z13 Q15 hb); replace HO374 := Ya (Z13 Q42 hb); replace HO377 := Ya (Z13 Q41 hb); replace BK355 := Yb ⟨Yo6 BK355.out NB355_379.out⟩ hb; replace BK379 := Yb ⟨Yv6 BK379.out⟩ hb; replace HB := Yh hb; (try clear hb); have hz38 := Y6 BK355.out; have hz39 := Y6 BK379.out) | (go_at_call 70; (with_reducible refine (spec_l1Same.calls kj1 _ _ l0_4 _ _ t372 true _ (Yc (Z19 HR0_4.out HB.out)) HC0_4.out (Yc (Kd.R_reads' HO374.out).2.2) ((Kd.R_reads' HO374.out).2.1) A19.out).mono ?_); rintro e w' ⟨rfl, ⟨nd, rfl⟩⟩) | (go_at_call 70; (with_reducible refine (spec_l1Same.calls kj1 _ _ l0_5 _ _ t375 true _ ?side1 HC0_5.out (Yc (Kd.R_reads' HO377.out).2.2) ((Kd.R_reads' HO377.out).2.1) A21.out).mono ?_); (case side1 => exact Yc (Z19 HR0_5.out Q0)); rintro e w' ⟨rfl, ⟨nd, rfl⟩⟩))
        go_ret
        exact ⟨Q2, Q12⟩
       ·replace c22 := Bool.eq_false_iff.mpr c22
        subst c22
        have H1 : (some (-1)) = some r := by rw [if_neg (show ¬ (false = true) by decide)] at H; exact H
        clear H
        have H := H1
        clear H1
        obtain rfl := Option.some.inj H
        have hz40 := Y6 BK355.out
        go_wp2_with (first | ((with_reducible refine gate_callee (f := 61) rfl ?_); refine Yz 29 Try.func61 #[.slice A0_0 l0_0.length c0_0, .slice A0_1 l0_1.length c0_1] ?_; (with_reducible refine (spec_gcMixedRank.calls kj1 _ _ l0_0 _ _ l0_1 t359 _ (Yc (Z19 HR0_0.out HB.out)) HC0_0.out (Yc (Z19 HR0_1.out HB.out)) HC0_1.out A14.out).mono ?_); rintro e w41 ⟨rfl, hb⟩; refine ⟨_, rfl, ?_⟩; replace BK355 := Yb BK355 hb; replace HB := Yh hb; (try clear hb); have hz42 := Y6 BK355.out) | ((with_reducible refine gate_callee (f := 46) rfl ?_); refine Yz 35 Try.func46 #[.int .i64 (l0_4.length : Int), .int .i64 t359] ?_; (with_reducible refine (spec_foSwapperAt.calls kj1 (l0_4.length : Int) t359 t360 t363 t366 t369 t372 t375 true _ A15.out).mono ?_); rintro e w43 ⟨v361, v364, v367, v370, v373, v376, rfl, ho0, ho1, ho2, ho3, ho4, ho5, hb⟩; refine ⟨_, rfl, ?_⟩; have HO362 := Yl ho0; have HO365 := Yl ho1; have HO368 := Yl ho2; have HO371 := Yl ho3; have HO374 := Yl ho4; have HO377 := Yl ho5; replace BK355 := Yb BK355 hb; replace HB := Yh hb; (try clear hb ho0 ho1 ho2 ho3 ho4 ho5)) | ((with_reducible refine gate_dst (N := 4) rfl ?_); refine Yx 4 #[.slice none 0 0, .slice none 0 0, .slice none 0 0, .slice none 0 0, .slice none 0 0, .slice none 0 0] 35 ?_; intro gb379 hg w44 hbox hb; replace HO362 := Yw HO362 hb; replace HO365 := Yw HO365 hb; replace HO368 := Yw HO368 hb; replace HO371 := Yw HO371 hb; replace HO374 := Yw HO374 hb; replace HO377 := Yw HO377 hb; have BK379 := Ya hbox; have GE379 := Yg hg; replace HB := Yh hb; have NB355_379 := Yn BK355 hg; have NB379_355 := Ym BK355 hg; replace BK355 := Yb BK355 hb; clear hb hbox hg; obtain ⟨Ao45, co45, rfl⟩ := Z18 HO362.out; have hnb46 := NB379_355.out; have hnc46 := NB355_379.out; have hz47 := Y6 BK379.out; obtain ⟨Ao48, co48, rfl⟩ := Z18 HO365.out; obtain ⟨Ao49, co49, rfl⟩ := Z18 HO368.out; obtain ⟨Ao50, co50, rfl⟩ := Z18 HO371.out; obtain ⟨Ao51, co51, rfl⟩ := Z18 HO374.out; obtain ⟨Ao52, co52, rfl⟩ := Z18 HO377.out; have hz53 := Y6 BK355.out) | (go_at_call 62; (with_reducible refine (spec_foSame.calls kj1 _ _ l0_0 _ _ l0_1 _ _ l0_2 _ _ l0_3 _ _ t360 _ _ t363 _ _ t366 _ _ t369 true _ ?side1 HC0_0.out ?side3 HC0_1.out ?side5 HC0_2.out ?side7 HC0_3.out ?side9 ((Kd.R_reads' HO362.out).2.1) ?side11 ((Kd.R_reads' HO365.out).2.1) ?side13 ((Kd.R_reads' HO368.out).2.1) ?side15 ((Kd.R_reads' HO371.out).2.1) A17.out).mono ?_); (case side1 => exact Z19 HR0_0.out Q0); (case side3 => exact Z19 HR0_1.out Q0); (case side5 => exact Z19 HR0_2.out Q0); (case side7 => exact Z19 HR0_3.out Q0); (case side9 => refine (Kd.R_reads' (e := 3) (base := w.heap.size) (ok := fun k_ => (some k_ ≠ (.slice Ao48 t363.length co48 : Value).ownBlock ∧ (some k_ ≠ (.slice Ao50 t369.length co50 : Value).ownBlock ∧ (some k_ ≠ (.slice Ao51 t372.length co51 : Value).ownBlock ∧ some k_ ≠ (.slice Ao52 t375.length co52 : Value).ownBlock)))) (n := t360.length) (c := co45) ?_).2.2; exact Q18); (case side11 => refine (Kd.R_reads' (e := 3) (base := w.heap.size) (ok := fun k_ => (some k_ ≠ (.slice Ao45 t360.length co45 : Value).ownBlock ∧ (some k_ ≠ (.slice Ao50 t369.length co50 : Value).ownBlock ∧ (some k_ ≠ (.slice Ao51 t372.length co51 : Value).ownBlock ∧ some k_ ≠ (.slice Ao52 t375.length co52 : Value).ownBlock)))) (n := t363.length) (c := co48) ?_).2.2; exact Q17); (case side13 => refine (Kd.R_reads' (e := 4) (base := w.heap.size) (ok := fun k_ => True) (n := t366.length) (c := co49) ?_).2.2; exact Q16); (case side15 => refine (Kd.R_reads' (e := 3) (base := w.heap.size) (ok := fun k_ => (some k_ ≠ (.slice Ao45 t360.length co45 : Value).ownBlock ∧ (some k_ ≠ (.slice Ao48 t363.length co48 : Value).ownBlock ∧ (some k_ ≠ (.slice Ao51 t372.length co51 : Value).ownBlock ∧ some k_ ≠ (.slice Ao52 t375.length co52 : Value).ownBlock)))) (n := t369.length) (c := co50) ?_).2.2; exact Q15); rintro e w54 ⟨rfl, hb⟩; replace HO362 := Ya (Z13 Q18 hb); replace HO365 := Ya (Z13 Q17 hb); replace HO368 := Ya (Z13 Q16 hb); replace HO371 := Ya (Z13 Q15 hb); replace HO374 := Ya (Z13 Q42 hb); replace HO377 := Ya (Z13 Q41 hb); replace BK355 := Yb ⟨Yo6 BK355.out NB355_379.out⟩ hb; replace BK379 := Yb ⟨Yv6 BK379.out⟩ hb; replace HB := Yh hb; (try clear hb); have hz55 := Y6 BK355.out; have hz56 := Y6 BK379.out) | (go_at_call 70; (with_reducible refine (spec_l1Same.calls kj1 _ _ l0_4 _ _ t372 true _ (Yc (Z19 HR0_4.out HB.out)) HC0_4.out (Yc (Kd.R_reads' HO374.out).2.2) ((Kd.R_reads' HO374.out).2.1) A19.out).mono ?_); rintro e w' ⟨rfl, ⟨nd, rfl⟩⟩) | (go_at_call 70; (with_reducible refine (spec_l1Same.calls kj1 _ _ l0_5 _ _ t375 false _ ?side1 HC0_5.out (Yc (Kd.R_reads' HO377.out).2.2) ((Kd.R_reads' HO377.out).2.1) A21.out).mono ?_); (case side1 => exact Yc (Z19 HR0_5.out Q0)); rintro e w' ⟨rfl, ⟨nd, rfl⟩⟩))
        go_ret
        exact ⟨Q2, Q12⟩
      ·replace c20 := Bool.eq_false_iff.mpr c20
       subst c20
       have H1 : (some (-1)) = some r := by rw [if_neg (show ¬ (false = true) by decide)] at H; exact H
       clear H
       have H := H1
       clear H1
       obtain rfl := Option.some.inj H
       have hz57 := Y6 BK355.out
       go_wp2_with (first | ((with_reducible refine gate_callee (f := 61) rfl ?_); refine Yz 29 Try.func61 #[.slice A0_0 l0_0.length c0_0, .slice A0_1 l0_1.length c0_1] ?_; (with_reducible refine (spec_gcMixedRank.calls kj1 _ _ l0_0 _ _ l0_1 t359 _ (Yc (Z19 HR0_0.out HB.out)) HC0_0.out (Yc (Z19 HR0_1.out HB.out)) HC0_1.out A14.out).mono ?_); rintro e w58 ⟨rfl, hb⟩; refine ⟨_, rfl, ?_⟩; replace BK355 := Yb BK355 hb; replace HB := Yh hb; (try clear hb); have hz59 := Y6 BK355.out) | ((with_reducible refine gate_callee (f := 46) rfl ?_); refine Yz 35 Try.func46 #[.int .i64 (l0_4.length : Int), .int .i64 t359] ?_; (with_reducible refine (spec_foSwapperAt.calls kj1 (l0_4.length : Int) t359 t360 t363 t366 t369 t372 t375 true _ A15.out).mono ?_); rintro e w60 ⟨v361, v364, v367, v370, v373, v376, rfl, ho0, ho1, ho2, ho3, ho4, ho5, hb⟩; refine ⟨_, rfl, ?_⟩; have HO362 := Yl ho0; have HO365 := Yl ho1; have HO368 := Yl ho2; have HO371 := Yl ho3; have HO374 := Yl ho4; have HO377 := Yl ho5; replace BK355 := Yb BK355 hb; replace HB := Yh hb; (try clear hb ho0 ho1 ho2 ho3 ho4 ho5)) | ((with_reducible refine gate_dst (N := 4) rfl ?_); refine Yx 4 #[.slice none 0 0, .slice none 0 0, .slice none 0 0, .slice none 0 0, .slice none 0 0, .slice none 0 0] 35 ?_; intro gb379 hg w61 hbox hb; replace HO362 := Yw HO362 hb; replace HO365 := Yw HO365 hb; replace HO368 := Yw HO368 hb; replace HO371 := Yw HO371 hb; replace HO374 := Yw HO374 hb; replace HO377 := Yw HO377 hb; have BK379 := Ya hbox; have GE379 := Yg hg; replace HB := Yh hb; have NB355_379 := Yn BK355 hg; have NB379_355 := Ym BK355 hg; replace BK355 := Yb BK355 hb; clear hb hbox hg; obtain ⟨Ao62, co62, rfl⟩ := Z18 HO362.out; have hnb63 := NB379_355.out; have hnc63 := NB355_379.out; have hz64 := Y6 BK379.out; obtain ⟨Ao65, co65, rfl⟩ := Z18 HO365.out; obtain ⟨Ao66, co66, rfl⟩ := Z18 HO368.out; obtain ⟨Ao67, co67, rfl⟩ := Z18 HO371.out; obtain ⟨Ao68, co68, rfl⟩ := Z18 HO374.out; obtain ⟨Ao69, co69, rfl⟩ := Z18 HO377.out; have hz70 := Y6 BK355.out) | (go_at_call 62; (with_reducible refine (spec_foSame.calls kj1 _ _ l0_0 _ _ l0_1 _ _ l0_2 _ _ l0_3 _ _ t360 _ _ t363 _ _ t366 _ _ t369 true _ ?side1 HC0_0.out ?side3 HC0_1.out ?side5 HC0_2.out ?side7 HC0_3.out ?side9 ((Kd.R_reads' HO362.out).2.1) ?side11 ((Kd.R_reads' HO365.out).2.1) ?side13 ((Kd.R_reads' HO368.out).2.1) ?side15 ((Kd.R_reads' HO371.out).2.1) A17.out).mono ?_); (case side1 => exact Z19 HR0_0.out Q0); (case side3 => exact Z19 HR0_1.out Q0); (case side5 => exact Z19 HR0_2.out Q0); (case side7 => exact Z19 HR0_3.out Q0); (case side9 => refine (Kd.R_reads' (e := 3) (base := w.heap.size) (ok := fun k_ => (some k_ ≠ (.slice Ao65 t363.length co65 : Value).ownBlock ∧ (some k_ ≠ (.slice Ao67 t369.length co67 : Value).ownBlock ∧ (some k_ ≠ (.slice Ao68 t372.length co68 : Value).ownBlock ∧ some k_ ≠ (.slice Ao69 t375.length co69 : Value).ownBlock)))) (n := t360.length) (c := co62) ?_).2.2; exact Q18); (case side11 => refine (Kd.R_reads' (e := 3) (base := w.heap.size) (ok := fun k_ => (some k_ ≠ (.slice Ao62 t360.length co62 : Value).ownBlock ∧ (some k_ ≠ (.slice Ao67 t369.length co67 : Value).ownBlock ∧ (some k_ ≠ (.slice Ao68 t372.length co68 : Value).ownBlock ∧ some k_ ≠ (.slice Ao69 t375.length co69 : Value).ownBlock)))) (n := t363.length) (c := co65) ?_).2.2; exact Q17); (case side13 => refine (Kd.R_reads' (e := 4) (base := w.heap.size) (ok := fun k_ => True) (n := t366.length) (c := co66) ?_).2.2; exact Q16); (case side15 => refine (Kd.R_reads' (e := 3) (base := w.heap.size) (ok := fun k_ => (some k_ ≠ (.slice Ao62 t360.length co62 : Value).ownBlock ∧ (some k_ ≠ (.slice Ao65 t363.length co65 : Value).ownBlock ∧ (some k_ ≠ (.slice Ao68 t372.length co68 : Value).ownBlock ∧ some k_ ≠ (.slice Ao69 t375.length co69 : Value).ownBlock)))) (n := t369.length) (c := co67) ?_).2.2; exact Q15); rintro e w71 ⟨rfl, hb⟩; replace HO362 := Ya (Z13 Q18 hb); replace HO365 := Ya (Z13 Q17 hb); replace HO368 := Ya (Z13 Q16 hb); replace HO371 := Ya (Z13 Q15 hb); replace HO374 := Ya (Z13 Q42 hb); replace HO377 := Ya (Z13 Q41 hb); replace BK355 := Yb ⟨Yo6 BK355.out NB355_379.out⟩ hb; replace BK379 := Yb ⟨Yv6 BK379.out⟩ hb; replace HB := Yh hb; (try clear hb); have hz72 := Y6 BK355.out; have hz73 := Y6 BK379.out) | (go_at_call 70; (with_reducible refine (spec_l1Same.calls kj1 _ _ l0_4 _ _ t372 false _ (Yc (Z19 HR0_4.out HB.out)) HC0_4.out (Yc (Kd.R_reads' HO374.out).2.2) ((Kd.R_reads' HO374.out).2.1) A19.out).mono ?_); rintro e w' ⟨rfl, ⟨nd, rfl⟩⟩))
       go_ret
       exact ⟨Q2, Q12⟩
     ·replace c18 := Bool.eq_false_iff.mpr c18
      subst c18
      have H1 : (some (-1)) = some r := by rw [if_neg (show ¬ (false = true) by decide)] at H; exact H
      clear H
      have H := H1
      clear H1
      obtain rfl := Option.some.inj H
      have hz74 := Y6 BK355.out
      go_wp2_with (first | ((with_reducible refine gate_callee (f := 61) rfl ?_); refine Yz 29 Try.func61 #[.slice A0_0 l0_0.length c0_0, .slice A0_1 l0_1.length c0_1] ?_; (with_reducible refine (spec_gcMixedRank.calls kj1 _ _ l0_0 _ _ l0_1 t359 _ (Yc (Z19 HR0_0.out HB.out)) HC0_0.out (Yc (Z19 HR0_1.out HB.out)) HC0_1.out A14.out).mono ?_); rintro e w75 ⟨rfl, hb⟩; refine ⟨_, rfl, ?_⟩; replace BK355 := Yb BK355 hb; replace HB := Yh hb; (try clear hb); have hz76 := Y6 BK355.out) | ((with_reducible refine gate_callee (f := 46) rfl ?_); refine Yz 35 Try.func46 #[.int .i64 (l0_4.length : Int), .int .i64 t359] ?_; (with_reducible refine (spec_foSwapperAt.calls kj1 (l0_4.length : Int) t359 t360 t363 t366 t369 t372 t375 true _ A15.out).mono ?_); rintro e w77 ⟨v361, v364, v367, v370, v373, v376, rfl, ho0, ho1, ho2, ho3, ho4, ho5, hb⟩; refine ⟨_, rfl, ?_⟩; have HO362 := Yl ho0; have HO365 := Yl ho1; have HO368 := Yl ho2; have HO371 := Yl ho3; have HO374 := Yl ho4; have HO377 := Yl ho5; replace BK355 := Yb BK355 hb; replace HB := Yh hb; (try clear hb ho0 ho1 ho2 ho3 ho4 ho5)) | ((with_reducible refine gate_dst (N := 4) rfl ?_); refine Yx 4 #[.slice none 0 0, .slice none 0 0, .slice none 0 0, .slice none 0 0, .slice none 0 0, .slice none 0 0] 35 ?_; intro gb379 hg w78 hbox hb; replace HO362 := Yw HO362 hb; replace HO365 := Yw HO365 hb; replace HO368 := Yw HO368 hb; replace HO371 := Yw HO371 hb; replace HO374 := Yw HO374 hb; replace HO377 := Yw HO377 hb; have BK379 := Ya hbox; have GE379 := Yg hg; replace HB := Yh hb; have NB355_379 := Yn BK355 hg; have NB379_355 := Ym BK355 hg; replace BK355 := Yb BK355 hb; clear hb hbox hg; obtain ⟨Ao79, co79, rfl⟩ := Z18 HO362.out; have hnb80 := NB379_355.out; have hnc80 := NB355_379.out; have hz81 := Y6 BK379.out; obtain ⟨Ao82, co82, rfl⟩ := Z18 HO365.out; obtain ⟨Ao83, co83, rfl⟩ := Z18 HO368.out; obtain ⟨Ao84, co84, rfl⟩ := Z18 HO371.out; obtain ⟨Ao85, co85, rfl⟩ := Z18 HO374.out; obtain ⟨Ao86, co86, rfl⟩ := Z18 HO377.out; have hz87 := Y6 BK355.out) | (go_at_call 62; (with_reducible refine (spec_foSame.calls kj1 _ _ l0_0 _ _ l0_1 _ _ l0_2 _ _ l0_3 _ _ t360 _ _ t363 _ _ t366 _ _ t369 false _ ?side1 HC0_0.out ?side3 HC0_1.out ?side5 HC0_2.out ?side7 HC0_3.out ?side9 ((Kd.R_reads' HO362.out).2.1) ?side11 ((Kd.R_reads' HO365.out).2.1) ?side13 ((Kd.R_reads' HO368.out).2.1) ?side15 ((Kd.R_reads' HO371.out).2.1) A17.out).mono ?_); (case side1 => exact Z19 HR0_0.out Q0); (case side3 => exact Z19 HR0_1.out Q0); (case side5 => exact Z19 HR0_2.out Q0); (case side7 => exact Z19 HR0_3.out Q0); (case side9 => refine (Kd.R_reads' (e := 3) (base := w.heap.size) (ok := fun k_ => (some k_ ≠ (.slice Ao82 t363.length co82 : Value).ownBlock ∧ (some k_ ≠ (.slice Ao84 t369.length co84 : Value).ownBlock ∧ (some k_ ≠ (.slice Ao85 t372.length co85 : Value).ownBlock ∧ some k_ ≠ (.slice Ao86 t375.length co86 : Value).ownBlock)))) (n := t360.length) (c := co79) ?_).2.2; exact Q18); (case side11 => refine (Kd.R_reads' (e := 3) (base := w.heap.size) (ok := fun k_ => (some k_ ≠ (.slice Ao79 t360.length co79 : Value).ownBlock ∧ (some k_ ≠ (.slice Ao84 t369.length co84 : Value).ownBlock ∧ (some k_ ≠ (.slice Ao85 t372.length co85 : Value).ownBlock ∧ some k_ ≠ (.slice Ao86 t375.length co86 : Value).ownBlock)))) (n := t363.length) (c := co82) ?_).2.2; exact Q17); (case side13 => refine (Kd.R_reads' (e := 4) (base := w.heap.size) (ok := fun k_ => True) (n := t366.length) (c := co83) ?_).2.2; exact Q16); (case side15 => refine (Kd.R_reads' (e := 3) (base := w.heap.size) (ok := fun k_ => (some k_ ≠ (.slice Ao79 t360.length co79 : Value).ownBlock ∧ (some k_ ≠ (.slice Ao82 t363.length co82 : Value).ownBlock ∧ (some k_ ≠ (.slice Ao85 t372.length co85 : Value).ownBlock ∧ some k_ ≠ (.slice Ao86 t375.length co86 : Value).ownBlock)))) (n := t369.length) (c := co84) ?_).2.2; exact Q15); rintro e w88 ⟨rfl, hb⟩; replace HO362 := Ya (Z13 Q18 hb); replace HO365 := Ya (Z13 Q17 hb); replace HO368 := Ya (Z13 Q16 hb); replace HO371 := Ya (Z13 Q15 hb); replace HO374 := Ya (Z13 Q42 hb); replace HO377 := Ya (Z13 Q41 hb); replace BK355 := Yb ⟨Yo6 BK355.out NB355_379.out⟩ hb; replace BK379 := Yb ⟨Yv6 BK379.out⟩ hb; replace HB := Yh hb; (try clear hb)))
      go_ret
      exact ⟨Q2, Q12⟩
    ·replace c16 := Bool.eq_false_iff.mpr c16
     subst c16
     have H1 : (some (-1)) = some r := by rw [if_neg (show ¬ (false = true) by decide)] at H; exact H
     clear H
     have H := H1
     clear H1
     obtain rfl := Option.some.inj H
     have hz89 := Y6 BK355.out
     go_wp2_with (first | ((with_reducible refine gate_callee (f := 61) rfl ?_); refine Yz 29 Try.func61 #[.slice A0_0 l0_0.length c0_0, .slice A0_1 l0_1.length c0_1] ?_; (with_reducible refine (spec_gcMixedRank.calls kj1 _ _ l0_0 _ _ l0_1 t359 _ (Yc (Z19 HR0_0.out HB.out)) HC0_0.out (Yc (Z19 HR0_1.out HB.out)) HC0_1.out A14.out).mono ?_); rintro e w90 ⟨rfl, hb⟩; refine ⟨_, rfl, ?_⟩; replace BK355 := Yb BK355 hb; replace HB := Yh hb; (try clear hb); have hz91 := Y6 BK355.out) | ((with_reducible refine gate_callee (f := 46) rfl ?_); refine Yz 35 Try.func46 #[.int .i64 (l0_4.length : Int), .int .i64 t359] ?_; (with_reducible refine (spec_foSwapperAt.calls kj1 (l0_4.length : Int) t359 t360 t363 t366 t369 t372 t375 false _ A15.out).mono ?_); rintro e w92 ⟨v361, v364, v367, v370, v373, v376, rfl, ho0, ho1, ho2, ho3, ho4, ho5, hb⟩; refine ⟨_, rfl, ?_⟩; have HO362 := Yl ho0; have HO365 := Yl ho1; have HO368 := Yl ho2; have HO371 := Yl ho3; have HO374 := Yl ho4; have HO377 := Yl ho5; replace BK355 := Yb BK355 hb; replace HB := Yh hb; (try clear hb ho0 ho1 ho2 ho3 ho4 ho5)) | ((with_reducible refine gate_dst (N := 4) rfl ?_); refine Yx 4 #[.slice none 0 0, .slice none 0 0, .slice none 0 0, .slice none 0 0, .slice none 0 0, .slice none 0 0] 35 ?_; intro gb379 hg w93 hbox hb; replace HO362 := Yw HO362 hb; replace HO365 := Yw HO365 hb; replace HO368 := Yw HO368 hb; replace HO371 := Yw HO371 hb; replace HO374 := Yw HO374 hb; replace HO377 := Yw HO377 hb; have BK379 := Ya hbox; have GE379 := Yg hg; replace HB := Yh hb; have NB355_379 := Yn BK355 hg; have NB379_355 := Ym BK355 hg; replace BK355 := Yb BK355 hb; clear hb hbox hg; obtain ⟨Ao94, co94, rfl⟩ := Z18 HO362.out; have hnb95 := NB379_355.out; have hnc95 := NB355_379.out; have hz96 := Y6 BK379.out; obtain ⟨Ao97, co97, rfl⟩ := Z18 HO365.out; obtain ⟨Ao98, co98, rfl⟩ := Z18 HO368.out; obtain ⟨Ao99, co99, rfl⟩ := Z18 HO371.out; obtain ⟨Ao100, co100, rfl⟩ := Z18 HO374.out; obtain ⟨Ao101, co101, rfl⟩ := Z18 HO377.out))
     go_ret
     exact ⟨Q2, Q12⟩
def spec_IsSwapper.f (k : Nat) (l0_0 : List Int) (l0_1 : List Int) (l0_2 : List Bool) (l0_3 : List Int) (l0_4 : List Int) (l0_5 : List Int) : Option (Bool) := (spec_foRank.f k l0_0 l0_1 l0_2 l0_3 l0_4 l0_5).bind fun t384 => (some (decide (t384 ≥ 0)))
theorem spec_IsSwapper.mono : ∀ a0 a1 a2 a3 a4 a5 k, LeO (spec_IsSwapper.f k a0 a1 a2 a3 a4 a5) (spec_IsSwapper.f (k + 1) a0 a1 a2 a3 a4 a5) := by
 intro a0 a1 a2 a3 a4 a5 k
 unfold spec_IsSwapper.f
 repeat' first
   | (with_reducible exact spec_foRank.mono _ _ _ _ _ _ _)
   | (with_reducible exact LeO.refl _)
   | (with_reducible exact LeO.none _)
   | (with_reducible refine LeO.ite ?_ ?_)
   | (with_reducible refine LeO.bind ?_ (fun _ => ?_))
   | exact spec_foRank.mono _ _ _ _ _ _ _
   | exact LeO.none _
   | refine LeO.ite ?_ ?_
   | refine LeO.bind ?_ (fun _ => ?_)
set_option maxHeartbeats 8000000 in
set_option maxRecDepth 100000 in
theorem spec_IsSwapper.calls (k : Nat) (A0_0 : Option Addr) (c0_0 : Nat) (l0_0 : List Int) (A0_1 : Option Addr) (c0_1 : Nat) (l0_1 : List Int) (A0_2 : Option Addr) (c0_2 : Nat) (l0_2 : List Bool) (A0_3 : Option Addr) (c0_3 : Nat) (l0_3 : List Int) (A0_4 : Option Addr) (c0_4 : Nat) (l0_4 : List Int) (A0_5 : Option Addr) (c0_5 : Nat) (l0_5 : List Int) (r : Bool) (w : World) (hr0_0 : Kd.C (Kd.int .i64) w A0_0 l0_0.length l0_0) (hc0_0 : l0_0.length ≤ c0_0) (hr0_1 : Kd.C (Kd.int .i64) w A0_1 l0_1.length l0_1) (hc0_1 : l0_1.length ≤ c0_1) (hr0_2 : Kd.C Kd.bool w A0_2 l0_2.length l0_2) (hc0_2 : l0_2.length ≤ c0_2) (hr0_3 : Kd.C (Kd.int .i64) w A0_3 l0_3.length l0_3) (hc0_3 : l0_3.length ≤ c0_3) (hr0_4 : Kd.C (Kd.int .i64) w A0_4 l0_4.length l0_4) (hc0_4 : l0_4.length ≤ c0_4) (hr0_5 : Kd.C (Kd.int .i64) w A0_5 l0_5.length l0_5) (hc0_5 : l0_5.length ≤ c0_5) (h : spec_IsSwapper.f k l0_0 l0_1 l0_2 l0_3 l0_4 l0_5 = some r) :
  Calls Try.prog 21 #[.agg #[.slice A0_0 l0_0.length c0_0, .slice A0_1 l0_1.length c0_1, .slice A0_2 l0_2.length c0_2, .slice A0_3 l0_3.length c0_3, .slice A0_4 l0_4.length c0_4, .slice A0_5 l0_5.length c0_5]] w fun e w' => e = .returned (.bool r) ∧ Below w.heap.size w w' := by
 have hu35 := Try.underlying35
 have HR0_0 := Ya hr0_0
 have HC0_0 := Ya hc0_0
 clear hr0_0 hc0_0
 have HR0_1 := Ya hr0_1
 have HC0_1 := Ya hc0_1
 clear hr0_1 hc0_1
 have HR0_2 := Ya hr0_2
 have HC0_2 := Ya hc0_2
 clear hr0_2 hc0_2
 have HR0_3 := Ya hr0_3
 have HC0_3 := Ya hc0_3
 clear hr0_3 hc0_3
 have HR0_4 := Ya hr0_4
 have HC0_4 := Ya hc0_4
 clear hr0_4 hc0_4
 have HR0_5 := Ya hr0_5
 have HC0_5 := Ya hc0_5
 clear hr0_5 hc0_5
 have HB := Ya (Below.refl w.heap.size w)
 have H : ((spec_foRank.f k l0_0 l0_1 l0_2 l0_3 l0_4 l0_5).bind fun t384 => (some (decide (t384 ≥ 0)))) = some r := h
 clear h
 replace H := Z33.mp H
 obtain ⟨t384, A20, H⟩ := H
 replace H : (some (decide (t384 ≥ 0))) = some r := H
 have A2 := Ya A20
 clear A20
 obtain rfl := Option.some.inj H
 go_enter Try.func21, Try.ntmps21
 go_wp2_with (first | ((with_reducible refine gate_dst (N := 1) rfl ?_); refine Yx 1 #[.slice A0_0 l0_0.length c0_0, .slice A0_1 l0_1.length c0_1, .slice A0_2 l0_2.length c0_2, .slice A0_3 l0_3.length c0_3, .slice A0_4 l0_4.length c0_4, .slice A0_5 l0_5.length c0_5] 35 ?_; intro gb383 hg w3 hbox hb; have BK383 := Ya hbox; have GE383 := Yg hg; replace HB := Yh hb; clear hb hbox hg; have hz4 := Y6 BK383.out) | ((with_reducible refine gate_callee (f := 51) rfl ?_); refine Yz 4 Try.func51 #[.agg #[.slice A0_0 l0_0.length c0_0, .slice A0_1 l0_1.length c0_1, .slice A0_2 l0_2.length c0_2, .slice A0_3 l0_3.length c0_3, .slice A0_4 l0_4.length c0_4, .slice A0_5 l0_5.length c0_5]] ?_; (with_reducible refine (spec_foRank.calls k _ _ l0_0 _ _ l0_1 _ _ l0_2 _ _ l0_3 _ _ l0_4 _ _ l0_5 t384 _ (Yc (Z19 HR0_0.out HB.out)) HC0_0.out (Yc (Z19 HR0_1.out HB.out)) HC0_1.out (Yc (Z19 HR0_2.out HB.out)) HC0_2.out (Yc (Z19 HR0_3.out HB.out)) HC0_3.out (Yc (Z19 HR0_4.out HB.out)) HC0_4.out (Yc (Z19 HR0_5.out HB.out)) HC0_5.out A2.out).mono ?_); rintro e w5 ⟨rfl, hb⟩; refine ⟨_, rfl, ?_⟩; replace BK383 := Yb BK383 hb; replace HB := Yh hb; (try clear hb)))
 go_ret
 exact ⟨Q2, Q12⟩
def laws_toIntS.l0 : Nat → List Int → List Int → Int → Option (List Int)
 | 0, _, _, _ => none
 | k + 1, x0, x3, x4 => if x4 < (x0.length : Int) then (if 0 ≤ x4 then (if x4 < (x3.length : Int) then (laws_toIntS.l0 k x0 (x3.set (x4 : Int).toNat (rd x0 x4)) (wrap64 (x4 + 1))) else (none)) else (none)) else (some x3)
def laws_toIntS.f (k : Nat) (l0 : List Int) : Option (List Int) := if 0 ≤ (l0.length : Int) then (if ((l0.length : Int) : Int).toNat ≤ 35184372088832 then (laws_toIntS.l0 k l0 (List.replicate ((l0.length : Int) : Int).toNat 0) 0) else (none)) else (none)
theorem laws_toIntS.mono_l : ∀ k, (∀ y0 y1 y2, LeO (laws_toIntS.l0 k y0 y1 y2) (laws_toIntS.l0 (k + 1) y0 y1 y2))
 | 0 => fun _ _ _ r h => by simp [laws_toIntS.l0] at h
 | k + 1 => by
  have ih0 := laws_toIntS.mono_l k
  ·intro y0 y1 y2
   unfold laws_toIntS.l0
   repeat' first
   | (with_reducible exact ih0 _ _ _)
   | (with_reducible exact LeO.refl _)
   | (with_reducible exact LeO.none _)
   | (with_reducible refine LeO.ite ?_ ?_)
   | (with_reducible refine LeO.bind ?_ (fun _ => ?_))
   | exact ih0 _ _ _
   | exact LeO.none _
   | refine LeO.ite ?_ ?_
   | refine LeO.bind ?_ (fun _ => ?_)
theorem laws_toIntS.mono : ∀ a0 k, LeO (laws_toIntS.f k a0) (laws_toIntS.f (k + 1) a0) := by
 intro a0 k
 have ih0 := laws_toIntS.mono_l k
 unfold laws_toIntS.f
 repeat' first
   | (with_reducible exact ih0 _ _ _)
   | (with_reducible exact LeO.refl _)
   | (with_reducible exact LeO.none _)
   | (with_reducible refine LeO.ite ?_ ?_)
   | (with_reducible refine LeO.bind ?_ (fun _ => ?_))
   | exact ih0 _ _ _
   | exact LeO.none _
   | refine LeO.ite ?_ ?_
   | refine LeO.bind ?_ (fun _ => ?_)
set_option maxHeartbeats 8000000 in
set_option maxRecDepth 100000 in
theorem laws_toIntS.calls (k : Nat) (A0 : Option Addr) (c0 : Nat) (l0 : List Int) (r : List Int) (w : World) (hr0 : Kd.C (Kd.int .i64) w A0 l0.length l0) (hc0 : l0.length ≤ c0) (h : laws_toIntS.f k l0 = some r) :
  Calls Try.prog 32 #[.slice A0 l0.length c0] w fun e w' => ∃ v0_ : Value, e = .returned (v0_) ∧ Kd.R (Kd.int .i64) 3 w' w.heap.size (fun _ => True) v0_ r ∧ Below w.heap.size w w' := by
 have HR0 := Ya hr0
 have HC0 := Ya hc0
 clear hr0 hc0
 have HB := Ya (Below.refl w.heap.size w)
 have H : (if 0 ≤ (l0.length : Int) then (if ((l0.length : Int) : Int).toNat ≤ 35184372088832 then (laws_toIntS.l0 k l0 (List.replicate ((l0.length : Int) : Int).toNat 0) 0) else (none)) else (none)) = some r := h
 clear h
 by_cases c2 : 0 ≤ (l0.length : Int)
 ·rw [if_pos c2] at H
  have c2b0 := eq_true c2
  have c2b1 : decide (0 ≤ (l0.length : Int)) = true := Z35 c2
  have HLEc2 := Ya c2
  clear c2
  by_cases c3 : ((l0.length : Int) : Int).toNat ≤ 35184372088832
  ·rw [if_pos c3] at H
   have c3b0 := eq_true c3
   have c3b1 : decide (((l0.length : Int) : Int).toNat ≤ 35184372088832) = true := Z35 c3
   clear c3
   obtain ⟨y385, hy385⟩ : ∃ y_ : List Int, y_ = (List.replicate ((l0.length : Int) : Int).toNat 0) := ⟨_, rfl⟩
   replace H : (laws_toIntS.l0 k l0 y385 0) = some r := by first | (rw [hy385]; with_reducible exact H) | (have H2_ := (Option.bind_some _ _).symm.trans H; rw [hy385]; with_reducible exact H2_) | (have H2_ := (Option.bind_some _ _).symm.trans H; with_reducible exact H2_) | with_reducible exact H | (rw [hy385]; exact H) | exact H
   have Ny385 := Ya hy385
   clear hy385
   have H' := Ya H
   clear H
   go_enter Try.func32, Try.ntmps32
   go_wp2_with (first | ((with_reducible refine gate_dst (N := 7) rfl ?_); refine Kd.R_make (Kd.int .i64) _ 3 rfl (N := 7) rfl 22 _ _ rfl (l0.length : Int) rfl rfl Try.underlying22 (.int .i64 0) 8 info3 rfl (by decide) (by omega) 0 (ok := fun _ => True) (okp := fun _ => True) rfl (fun _ hk => hk) trivial (Z27 Q1) (Nat.le_trans (Nat.mul_le_mul_right _ (Z27 Q1 : (l0.length : Int).toNat ≤ 35184372088832)) (by omega)) (Below.refl _ _) (Nat.le_refl _) ?_; intro v386 w4 ho5 hb hg_ hnew_; clear hg_ hnew_; (first | rw [← Ny385.out] at ho5 | (simp only [Int.reduceToNat] at ho5; rw [← Ny385.out] at ho5)); have HO387 := Yl ho5; replace HB := Yh hb; clear hb ho5))
   go_loopg [4] k (fun kq v4 w' => ∃ (x3_1 : List Int) (x4_1 : Int), v4 = .int .i64 x4_1 ∧ Aside0 (laws_toIntS.l0 kq l0 x3_1 x4_1 = some r) ∧ Aside0 (kq ≤ k) ∧ Aside0 (Kd.R (Kd.int .i64) 3 w' w.heap.size (fun _ => True) v386 x3_1) ∧ Aside0 (Below w.heap.size w w'))
   case atStart => exact ⟨(y385), (0), Q7, H', ⟨Nat.le_refl _⟩, ⟨by (with_reducible repeat (first | apply Z8 | apply Z9 | apply Z10)); exact HO387.out⟩, ⟨Q12⟩⟩
   case round =>
    clear H'
    try clear c2
    try clear c2b0
    try clear c2b1
    try clear p2
    try clear c3
    try clear c3b0
    try clear c3b1
    obtain ⟨x3_1, x4_1, rfl, HA, HK1, HO_3, HB⟩ := hrel
    cases gk with
    | zero => exact absurd HA.out (by simp [laws_toIntS.l0])
    | succ k1 =>
     have H := HA.out
     clear HA
     simp only [laws_toIntS.l0] at H
     by_cases c6 : x4_1 < (l0.length : Int)
     ·rw [if_pos c6] at H
      have c6b0 : decide (x4_1 < (l0.length : Int)) = true := Z35 c6
      clear c6
      by_cases c7 : 0 ≤ x4_1
      ·rw [if_pos c7] at H
       have c7b0 : decide (0 ≤ x4_1) = true := Z35 c7
       clear c7
       by_cases c8 : x4_1 < (x3_1.length : Int)
       ·rw [if_pos c8] at H
        have c8b0 : decide (x4_1 < (x3_1.length : Int)) = true := Z35 c8
        clear c8
        obtain ⟨y389, hy389⟩ : ∃ y_ : List Int, y_ = (x3_1.set (x4_1 : Int).toNat (rd l0 x4_1)) := ⟨_, rfl⟩
        replace H : (laws_toIntS.l0 k1 l0 y389 (wrap64 (x4_1 + 1))) = some r := by first | (rw [hy389]; with_reducible exact H) | (have H2_ := (Option.bind_some _ _).symm.trans H; rw [hy389]; with_reducible exact H2_) | (have H2_ := (Option.bind_some _ _).symm.trans H; with_reducible exact H2_) | with_reducible exact H | (rw [hy389]; exact H) | exact H
        have Ny389 := Ya hy389
        clear hy389
        have H' := Ya H
        clear H
        have p388 : 0 ≤ (x4_1 : Int) := Z27 Q1
        have q388 : x4_1 < (l0.length : Int) := Z27 Q1
        obtain ⟨ad388, e388, hx388_0⟩ := Kd.at_int HR0.out x4_1 p388 q388
        cases e388
        try replace hx388_0 := (HB.out.cell (World.block_lt_of_cell? w _ hx388_0)).trans hx388_0
        replace p388 := eq_true p388
        replace q388 := eq_true q388
        have p9 : 0 ≤ (x4_1 : Int) := Z27 Q1
        have q9 : (x4_1 : Int) < ((x3_1.length : Int) : Int) := Z27 Q1
        obtain ⟨go9, co9, eo9, gb9, gl9, cl9, HG9⟩ := Kd.R_form HO_3.out (by omega)
        (first | cases eo9 | (injection eo9 with ea_ en_ ec_; (first | subst ea_ | (injection ea_ with ea_; subst ea_)); subst ec_; clear en_))
        have GB9 := Ya gb9
        have GG9 := Ya HG9
        clear gb9 gl9 HG9
        obtain ⟨hx9_0, hf9_0⟩ := Kd.R_celln 0 HO_3.out (x4_1 : Int) p9 q9
        replace p9 := eq_true p9
        replace q9 := eq_true q9
        have HP10 := Kd.R_putg HO_3.out (x4_1 : Int) (rd l0 x4_1)
        go_wp2_with (first | ((with_reducible refine gate_store (t := 3) (p := 20) rfl ?_); refine store_event (t := 3) (p := 20) (v := ?vo_w11) (w1 := (wr.setCell ⟨go9, (x4_1 : Int).toNat, none⟩ (.int .i64 (rd l0 x4_1)))) ?hg ?ho ?hn ?hr ?_; (case ho => rfl); (case hg => rfl); (case hn => rfl); (case hr => first | (go_simp; done) | (go_simp; rfl)); intro w11 hw; have hg : wr.grownBy w11 (some go9) := (by rw [hw]; exact HP10.2); have hp_ : Kd.R (Kd.int .i64) 3 w11 w.heap.size (fun _ => True) (.slice (some ⟨go9, 0, none⟩) x3_1.length co9) y389 := (by rw [hw, Ny389.out]; exact HP10.1); clear HP10; replace HO_3 := Ya hp_; replace HB := Ya ((by rw [hw]; exact Z6 (HB.out) GB9.out : Below w.heap.size w w11)); clear hg hw hp_))
        go_roundg k1
        case measure => have := HK1.out; omega
        case rel => exact ⟨(y389), (wrap64 (x4_1 + 1)), Q7, H', ⟨Q30⟩, ⟨Q31⟩, ⟨Q12⟩⟩
       ·rw [if_neg c8] at H
        exact absurd H (by simp)
      ·rw [if_neg c7] at H
       exact absurd H (by simp)
     ·rw [if_neg c6] at H
      have c6b0 : decide (x4_1 < (l0.length : Int)) = false := Z34 c6
      clear c6
      obtain rfl := Option.some.inj H
      go_wp2
      go_ret
      exact ⟨_, Q2, Q31, Q12⟩
  ·rw [if_neg c3] at H
   exact absurd H (by simp)
 ·rw [if_neg c2] at H
  exact absurd H (by simp)
def laws_toBoolS.l0 : Nat → List Bool → List Bool → Int → Option (List Bool)
 | 0, _, _, _ => none
 | k + 1, x0, x3, x4 => if x4 < (x0.length : Int) then (if 0 ≤ x4 then (if x4 < (x3.length : Int) then (laws_toBoolS.l0 k x0 (x3.set (x4 : Int).toNat (rdOf false x0 x4)) (wrap64 (x4 + 1))) else (none)) else (none)) else (some x3)
def laws_toBoolS.f (k : Nat) (l0 : List Bool) : Option (List Bool) := if 0 ≤ (l0.length : Int) then (if ((l0.length : Int) : Int).toNat ≤ 281474976710656 then (laws_toBoolS.l0 k l0 (List.replicate ((l0.length : Int) : Int).toNat false) 0) else (none)) else (none)
theorem laws_toBoolS.mono_l : ∀ k, (∀ y0 y1 y2, LeO (laws_toBoolS.l0 k y0 y1 y2) (laws_toBoolS.l0 (k + 1) y0 y1 y2))
 | 0 => fun _ _ _ r h => by simp [laws_toBoolS.l0] at h
 | k + 1 => by
  have ih0 := laws_toBoolS.mono_l k
  ·intro y0 y1 y2
   unfold laws_toBoolS.l0
   repeat' first
   | (with_reducible exact ih0 _ _ _)
   | (with_reducible exact LeO.refl _)
   | (with_reducible exact LeO.none _)
   | (with_reducible refine LeO.ite ?_ ?_)
   | (with_reducible refine LeO.bind ?_ (fun _ => ?_))
   | exact ih0 _ _ _
   | exact LeO.none _
   | refine LeO.ite ?_ ?_
   | refine LeO.bind ?_ (fun _ => ?_)
theorem laws_toBoolS.mono : ∀ a0 k, LeO (laws_toBoolS.f k a0) (laws_toBoolS.f (k + 1) a0) := by
 intro a0 k
 have ih0 := laws_toBoolS.mono_l k
 unfold laws_toBoolS.f
 repeat' first
   | (with_reducible exact ih0 _ _ _)
   | (with_reducible exact LeO.refl _)
   | (with_reducible exact LeO.none _)
   | (with_reducible refine LeO.ite ?_ ?_)
   | (with_reducible refine LeO.bind ?_ (fun _ => ?_))
   | exact ih0 _ _ _
   | exact LeO.none _
   | refine LeO.ite ?_ ?_
   | refine LeO.bind ?_ (fun _ => ?_)
set_option maxHeartbeats 8000000 in
set_option maxRecDepth 100000 in
theorem laws_toBoolS.calls (k : Nat) (A0 : Option Addr) (c0 : Nat) (l0 : List Bool) (r : List Bool) (w : World) (hr0 : Kd.C Kd.bool w A0 l0.length l0) (hc0 : l0.length ≤ c0) (h : laws_toBoolS.f k l0 = some r) :
  Calls Try.prog 33 #[.slice A0 l0.length c0] w fun e w' => ∃ v0_ : Value, e = .returned (v0_) ∧ Kd.R Kd.bool 4 w' w.heap.size (fun _ => True) v0_ r ∧ Below w.heap.size w w' := by
 have HR0 := Ya hr0
 have HC0 := Ya hc0
 clear hr0 hc0
 have HB := Ya (Below.refl w.heap.size w)
 have H : (if 0 ≤ (l0.length : Int) then (if ((l0.length : Int) : Int).toNat ≤ 281474976710656 then (laws_toBoolS.l0 k l0 (List.replicate ((l0.length : Int) : Int).toNat false) 0) else (none)) else (none)) = some r := h
 clear h
 by_cases c2 : 0 ≤ (l0.length : Int)
 ·rw [if_pos c2] at H
  have c2b0 := eq_true c2
  have c2b1 : decide (0 ≤ (l0.length : Int)) = true := Z35 c2
  have HLEc2 := Ya c2
  clear c2
  by_cases c3 : ((l0.length : Int) : Int).toNat ≤ 281474976710656
  ·rw [if_pos c3] at H
   have c3b0 := eq_true c3
   have c3b1 : decide (((l0.length : Int) : Int).toNat ≤ 281474976710656) = true := Z35 c3
   clear c3
   obtain ⟨y390, hy390⟩ : ∃ y_ : List Bool, y_ = (List.replicate ((l0.length : Int) : Int).toNat false) := ⟨_, rfl⟩
   replace H : (laws_toBoolS.l0 k l0 y390 0) = some r := by first | (rw [hy390]; with_reducible exact H) | (have H2_ := (Option.bind_some _ _).symm.trans H; rw [hy390]; with_reducible exact H2_) | (have H2_ := (Option.bind_some _ _).symm.trans H; with_reducible exact H2_) | with_reducible exact H | (rw [hy390]; exact H) | exact H
   have Ny390 := Ya hy390
   clear hy390
   have H' := Ya H
   clear H
   go_enter Try.func33, Try.ntmps33
   go_wp2_with (first | ((with_reducible refine gate_dst (N := 7) rfl ?_); refine Kd.R_make Kd.bool _ 4 rfl (N := 7) rfl 23 _ _ rfl (l0.length : Int) rfl rfl Try.underlying23 (.bool false) 1 info4 rfl (by decide) (by omega) false (ok := fun _ => True) (okp := fun _ => True) rfl (fun _ hk => hk) trivial (Z27 Q1) (Nat.le_trans (Nat.mul_le_mul_right _ (Z27 Q1 : (l0.length : Int).toNat ≤ 281474976710656)) (by omega)) (Below.refl _ _) (Nat.le_refl _) ?_; intro v391 w4 ho5 hb hg_ hnew_; clear hg_ hnew_; (first | rw [← Ny390.out] at ho5 | (simp only [Int.reduceToNat] at ho5; rw [← Ny390.out] at ho5)); have HO392 := Yl ho5; replace HB := Yh hb; clear hb ho5))
   go_loopg [4] k (fun kq v4 w' => ∃ (x3_1 : List Bool) (x4_1 : Int), v4 = .int .i64 x4_1 ∧ Aside0 (laws_toBoolS.l0 kq l0 x3_1 x4_1 = some r) ∧ Aside0 (kq ≤ k) ∧ Aside0 (Kd.R Kd.bool 4 w' w.heap.size (fun _ => True) v391 x3_1) ∧ Aside0 (Below w.heap.size w w'))
   case atStart => exact ⟨(y390), (0), Q7, H', ⟨Nat.le_refl _⟩, ⟨by (with_reducible repeat (first | apply Z8 | apply Z9 | apply Z10)); exact HO392.out⟩, ⟨Q12⟩⟩
   case round =>
    clear H'
    try clear c2
    try clear c2b0
    try clear c2b1
    try clear p2
    try clear c3
    try clear c3b0
    try clear c3b1
    obtain ⟨x3_1, x4_1, rfl, HA, HK1, HO_3, HB⟩ := hrel
    cases gk with
    | zero => exact absurd HA.out (by simp [laws_toBoolS.l0])
    | succ k1 =>
     have H := HA.out
     clear HA
     simp only [laws_toBoolS.l0] at H
     by_cases c6 : x4_1 < (l0.length : Int)
     ·rw [if_pos c6] at H
      have c6b0 : decide (x4_1 < (l0.length : Int)) = true := Z35 c6
      clear c6
      by_cases c7 : 0 ≤ x4_1
      ·rw [if_pos c7] at H
       have c7b0 : decide (0 ≤ x4_1) = true := Z35 c7
       clear c7
       by_cases c8 : x4_1 < (x3_1.length : Int)
       ·rw [if_pos c8] at H
        have c8b0 : decide (x4_1 < (x3_1.length : Int)) = true := Z35 c8
        clear c8
        obtain ⟨y394, hy394⟩ : ∃ y_ : List Bool, y_ = (x3_1.set (x4_1 : Int).toNat (rdOf false l0 x4_1)) := ⟨_, rfl⟩
        replace H : (laws_toBoolS.l0 k1 l0 y394 (wrap64 (x4_1 + 1))) = some r := by first | (rw [hy394]; with_reducible exact H) | (have H2_ := (Option.bind_some _ _).symm.trans H; rw [hy394]; with_reducible exact H2_) | (have H2_ := (Option.bind_some _ _).symm.trans H; with_reducible exact H2_) | with_reducible exact H | (rw [hy394]; exact H) | exact H
        have Ny394 := Ya hy394
        clear hy394
        have H' := Ya H
        clear H
        have p393 : 0 ≤ (x4_1 : Int) := Z27 Q1
        have q393 : x4_1 < (l0.length : Int) := Z27 Q1
        obtain ⟨ad393, e393, hx393_0⟩ := Kd.at_bool HR0.out x4_1 p393 q393
        cases e393
        try replace hx393_0 := (HB.out.cell (World.block_lt_of_cell? w _ hx393_0)).trans hx393_0
        replace p393 := eq_true p393
        replace q393 := eq_true q393
        have p9 : 0 ≤ (x4_1 : Int) := Z27 Q1
        have q9 : (x4_1 : Int) < ((x3_1.length : Int) : Int) := Z27 Q1
        obtain ⟨go9, co9, eo9, gb9, gl9, cl9, HG9⟩ := Kd.R_form HO_3.out (by omega)
        (first | cases eo9 | (injection eo9 with ea_ en_ ec_; (first | subst ea_ | (injection ea_ with ea_; subst ea_)); subst ec_; clear en_))
        have GB9 := Ya gb9
        have GG9 := Ya HG9
        clear gb9 gl9 HG9
        obtain ⟨hx9_0, hf9_0⟩ := Kd.R_celln false HO_3.out (x4_1 : Int) p9 q9
        replace p9 := eq_true p9
        replace q9 := eq_true q9
        have HP10 := Kd.R_putg HO_3.out (x4_1 : Int) (rdOf false l0 x4_1)
        go_wp2_with (first | ((with_reducible refine gate_store (t := 4) (p := 20) rfl ?_); refine store_event (t := 4) (p := 20) (v := ?vo_w11) (w1 := (wr.setCell ⟨go9, (x4_1 : Int).toNat, none⟩ (.bool (rdOf false l0 x4_1)))) ?hg ?ho ?hn ?hr ?_; (case ho => rfl); (case hg => rfl); (case hn => rfl); (case hr => first | (go_simp; done) | (go_simp; rfl)); intro w11 hw; have hg : wr.grownBy w11 (some go9) := (by rw [hw]; exact HP10.2); have hp_ : Kd.R Kd.bool 4 w11 w.heap.size (fun _ => True) (.slice (some ⟨go9, 0, none⟩) x3_1.length co9) y394 := (by rw [hw, Ny394.out]; exact HP10.1); clear HP10; replace HO_3 := Ya hp_; replace HB := Ya ((by rw [hw]; exact Z6 (HB.out) GB9.out : Below w.heap.size w w11)); clear hg hw hp_))
        go_roundg k1
        case measure => have := HK1.out; omega
        case rel => exact ⟨(y394), (wrap64 (x4_1 + 1)), Q7, H', ⟨Q30⟩, ⟨Q31⟩, ⟨Q12⟩⟩
       ·rw [if_neg c8] at H
        exact absurd H (by simp)
      ·rw [if_neg c7] at H
       exact absurd H (by simp)
     ·rw [if_neg c6] at H
      have c6b0 : decide (x4_1 < (l0.length : Int)) = false := Z34 c6
      clear c6
      obtain rfl := Option.some.inj H
      go_wp2
      go_ret
      exact ⟨_, Q2, Q31, Q12⟩
  ·rw [if_neg c3] at H
   exact absurd H (by simp)
 ·rw [if_neg c2] at H
  exact absurd H (by simp)
def laws_toFocus.f (k : Nat) (l0_0 : List Int) (l0_1 : List Int) (l0_2 : List Bool) (l0_3 : List Int) : Option (List Int × List Int × List Bool × List Int) := (laws_toIntS.f k l0_0).bind fun t398 => ((laws_toIntS.f k l0_1).bind fun t401 => ((laws_toBoolS.f k l0_2).bind fun t404 => ((laws_toIntS.f k l0_3).bind fun t407 => (some (t398, t401, t404, t407)))))
theorem laws_toFocus.mono : ∀ a0 a1 a2 a3 k, LeO (laws_toFocus.f k a0 a1 a2 a3) (laws_toFocus.f (k + 1) a0 a1 a2 a3) := by
 intro a0 a1 a2 a3 k
 unfold laws_toFocus.f
 repeat' first
   | (with_reducible exact laws_toBoolS.mono _ _)
   | (with_reducible exact laws_toIntS.mono _ _)
   | (with_reducible exact LeO.refl _)
   | (with_reducible exact LeO.none _)
   | (with_reducible refine LeO.ite ?_ ?_)
   | (with_reducible refine LeO.bind ?_ (fun _ => ?_))
   | exact laws_toBoolS.mono _ _
   | exact laws_toIntS.mono _ _
   | exact LeO.none _
   | refine LeO.ite ?_ ?_
   | refine LeO.bind ?_ (fun _ => ?_)
set_option maxHeartbeats 8000000 in
set_option maxRecDepth 100000 in
theorem laws_toFocus.calls (k : Nat) (A0_0 : Option Addr) (c0_0 : Nat) (l0_0 : List Int) (A0_1 : Option Addr) (c0_1 : Nat) (l0_1 : List Int) (A0_2 : Option Addr) (c0_2 : Nat) (l0_2 : List Bool) (A0_3 : Option Addr) (c0_3 : Nat) (l0_3 : List Int) (r1 : List Int) (r2 : List Int) (r3 : List Bool) (r4 : List Int) (w : World) (hr0_0 : Kd.C (Kd.int .i64) w A0_0 l0_0.length l0_0) (hc0_0 : l0_0.length ≤ c0_0) (hr0_1 : Kd.C (Kd.int .i64) w A0_1 l0_1.length l0_1) (hc0_1 : l0_1.length ≤ c0_1) (hr0_2 : Kd.C Kd.bool w A0_2 l0_2.length l0_2) (hc0_2 : l0_2.length ≤ c0_2) (hr0_3 : Kd.C (Kd.int .i64) w A0_3 l0_3.length l0_3) (hc0_3 : l0_3.length ≤ c0_3) (h : laws_toFocus.f k l0_0 l0_1 l0_2 l0_3 = some (r1, r2, r3, r4)) :
  Calls Try.prog 10 #[.agg #[.slice A0_0 l0_0.length c0_0, .slice A0_1 l0_1.length c0_1, .slice A0_2 l0_2.length c0_2, .slice A0_3 l0_3.length c0_3]] w fun e w' => ∃ v0_ v1_ v2_ v3_ : Value, e = .returned (.agg #[v0_, v1_, v2_, v3_]) ∧ Kd.R (Kd.int .i64) 3 w' w.heap.size (fun k_ => some k_ ≠ (v1_ : Value).ownBlock ∧ some k_ ≠ (v3_ : Value).ownBlock) v0_ r1 ∧ Kd.R (Kd.int .i64) 3 w' w.heap.size (fun k_ => some k_ ≠ (v0_ : Value).ownBlock ∧ some k_ ≠ (v3_ : Value).ownBlock) v1_ r2 ∧ Kd.R Kd.bool 4 w' w.heap.size (fun _ => True) v2_ r3 ∧ Kd.R (Kd.int .i64) 3 w' w.heap.size (fun k_ => some k_ ≠ (v0_ : Value).ownBlock ∧ some k_ ≠ (v1_ : Value).ownBlock) v3_ r4 ∧ Below w.heap.size w w' := by
 have hu25 := Try.underlying25
 have hu27 := Try.underlying27
 have HR0_0 := Ya hr0_0
 have HC0_0 := Ya hc0_0
 clear hr0_0 hc0_0
 have HR0_1 := Ya hr0_1
 have HC0_1 := Ya hc0_1
 clear hr0_1 hc0_1
 have HR0_2 := Ya hr0_2
 have HC0_2 := Ya hc0_2
 clear hr0_2 hc0_2
 have HR0_3 := Ya hr0_3
 have HC0_3 := Ya hc0_3
 clear hr0_3 hc0_3
 have HB := Ya (Below.refl w.heap.size w)
 have H : ((laws_toIntS.f k l0_0).bind fun t398 => ((laws_toIntS.f k l0_1).bind fun t401 => ((laws_toBoolS.f k l0_2).bind fun t404 => ((laws_toIntS.f k l0_3).bind fun t407 => (some (t398, t401, t404, t407)))))) = some (r1, r2, r3, r4) := h
 clear h
 replace H := Z33.mp H
 obtain ⟨t398, A20, H⟩ := H
 replace H : ((laws_toIntS.f k l0_1).bind fun t401 => ((laws_toBoolS.f k l0_2).bind fun t404 => ((laws_toIntS.f k l0_3).bind fun t407 => (some (t398, t401, t404, t407))))) = some (r1, r2, r3, r4) := H
 have A2 := Ya A20
 clear A20
 replace H := Z33.mp H
 obtain ⟨t401, A30, H⟩ := H
 replace H : ((laws_toBoolS.f k l0_2).bind fun t404 => ((laws_toIntS.f k l0_3).bind fun t407 => (some (t398, t401, t404, t407)))) = some (r1, r2, r3, r4) := H
 have A3 := Ya A30
 clear A30
 replace H := Z33.mp H
 obtain ⟨t404, A40, H⟩ := H
 replace H : ((laws_toIntS.f k l0_3).bind fun t407 => (some (t398, t401, t404, t407))) = some (r1, r2, r3, r4) := H
 have A4 := Ya A40
 clear A40
 replace H := Z33.mp H
 obtain ⟨t407, A50, H⟩ := H
 replace H : (some (t398, t401, t404, t407)) = some (r1, r2, r3, r4) := H
 have A5 := Ya A50
 clear A50
 simp only [Option.some.injEq, Prod.mk.injEq] at H
 obtain ⟨rfl, rfl, rfl, rfl⟩ := H
 go_enter Try.func10, Try.ntmps10
 go_wp2_with (first | ((with_reducible refine gate_dst (N := 1) rfl ?_); refine Yx 1 #[.slice A0_0 l0_0.length c0_0, .slice A0_1 l0_1.length c0_1, .slice A0_2 l0_2.length c0_2, .slice A0_3 l0_3.length c0_3] 25 ?_; intro gb395 hg w6 hbox hb; have BK395 := Ya hbox; have GE395 := Yg hg; replace HB := Yh hb; clear hb hbox hg) | ((with_reducible refine gate_dst (N := 2) rfl ?_); refine Yx 2 #[.slice none 0 0, .slice none 0 0, .slice none 0 0, .slice none 0 0] 27 ?_; intro gb396 hg w7 hbox hb; have BK396 := Ya hbox; have GE396 := Yg hg; replace HB := Yh hb; have NB395_396 := Yn BK395 hg; have NB396_395 := Ym BK395 hg; replace BK395 := Yb BK395 hb; clear hb hbox hg) | ((with_reducible refine gate_dst (N := 3) rfl ?_); refine Yx 3 #[.slice none 0 0, .slice none 0 0, .slice none 0 0, .slice none 0 0] 27 ?_; intro gb397 hg w8 hbox hb; have BK397 := Ya hbox; have GE397 := Yg hg; replace HB := Yh hb; have NB395_397 := Yn BK395 hg; have NB397_395 := Ym BK395 hg; replace BK395 := Yb BK395 hb; have NB396_397 := Yn BK396 hg; have NB397_396 := Ym BK396 hg; replace BK396 := Yb BK396 hb; clear hb hbox hg; have hnb9 := NB395_396.out; have hnc9 := NB396_395.out; have hnb10 := NB395_397.out; have hnc10 := NB397_395.out; obtain ⟨hcz11_0, hcz11_1, hcz11_2, hcz11_3, hfz11_0, hfz11_1, hfz11_2, hfz11_3⟩ := Y4 BK395.out) | ((with_reducible refine gate_callee (f := 32) rfl ?_); refine Yz 6 Try.func32 #[.slice A0_0 l0_0.length c0_0] ?_; (with_reducible refine (laws_toIntS.calls k _ _ l0_0 t398 _ (Yc (Z19 HR0_0.out HB.out)) HC0_0.out A2.out).mono ?_); rintro e w12 ⟨v399, rfl, ho0, hb⟩; refine ⟨_, rfl, ?_⟩; have HO400 := Yl ho0; replace BK395 := Yb BK395 hb; replace BK396 := Yb BK396 hb; replace BK397 := Yb BK397 hb; replace HB := Yh hb; (try clear hb ho0); obtain ⟨Ao13, co13, rfl⟩ := Z18 HO400.out; have hnb14 := NB397_396.out; have hnc14 := NB396_397.out; have hz15 := Y4 BK397.out; have hz16 := Y4 BK395.out) | ((with_reducible refine gate_callee (f := 32) rfl ?_); refine Yz 10 Try.func32 #[.slice A0_1 l0_1.length c0_1] ?_; (with_reducible refine (laws_toIntS.calls k _ _ l0_1 t401 _ ?side1 HC0_1.out A3.out).mono ?_); (case side1 => exact Z19 HR0_1.out Q0); rintro e w17 ⟨v402, rfl, ho0, hb⟩; refine ⟨_, rfl, ?_⟩; have HO403 := Yl (Kd.R_new' ho0 (Z17 Q61)); replace HO400 := Ya (Kd.R_elder' Q61 (Kd.R_base ho0) hb); replace BK395 := Ya (Z25 (g := gb395) (o := .cells #[.slice A0_0 l0_0.length c0_0, .slice A0_1 l0_1.length c0_1, .slice A0_2 l0_2.length c0_2, .slice A0_3 l0_3.length c0_3] 25 (0, 0)) Q39 hb); replace BK396 := Ya (Z25 (g := gb396) (o := .cells #[.slice none 0 0, .slice none 0 0, .slice none 0 0, .slice none 0 0] 27 (0, 0)) Q38 hb); replace BK397 := Ya (Z25 (g := gb397) (o := .cells #[.slice Ao13 t398.length co13, .slice none 0 0, .slice none 0 0, .slice none 0 0] 27 (0, 0)) (by (with_reducible repeat (first | refine Z22 ?_ _ | refine Z23 ?_ | refine Z24 ?_ _)); refine Z26 (cs := #[.slice none 0 0, .slice none 0 0, .slice none 0 0, .slice none 0 0]) ?_ 0 _ rfl; (with_reducible repeat (first | refine Z22 ?_ _ | refine Z23 ?_ | refine Z24 ?_ _)); exact BK397.out) hb); replace HB := Yh hb; (try clear hb ho0); obtain ⟨Ao18, co18, rfl⟩ := Z18 HO403.out; have hz19 := Y4 BK397.out; have hz20 := Y4 BK395.out) | ((with_reducible refine gate_callee (f := 33) rfl ?_); refine Yz 14 Try.func33 #[.slice A0_2 l0_2.length c0_2] ?_; (with_reducible refine (laws_toBoolS.calls k _ _ l0_2 t404 _ ?side1 HC0_2.out A4.out).mono ?_); (case side1 => exact Z19 HR0_2.out Q0); rintro e w21 ⟨v405, rfl, ho0, hb⟩; refine ⟨_, rfl, ?_⟩; replace HO400 := Ya (Z13 (by (with_reducible repeat (first | apply Z8 | apply Z9 | apply Z10)); exact (Z11 (Z12 (p := ⟨gb397, 1, none⟩) (Z14 HO400.out BK397.out (by decide)) (fun _ hk => hk.2) (.slice Ao18 t401.length co18)) (fun _ h_ => h_.1))) hb); replace HO403 := Ya (Z13 (by (with_reducible repeat (first | apply Z8 | apply Z9 | apply Z10)); exact (Z11 (Z12 (p := ⟨gb397, 1, none⟩) (Z14 HO403.out BK397.out (by decide)) (fun _ hk => hk.2) (.slice Ao18 t401.length co18)) (fun _ h_ => h_.1))) hb); have HO406 := Yl ho0; replace BK395 := Ya (Z25 (g := gb395) (o := .cells #[.slice A0_0 l0_0.length c0_0, .slice A0_1 l0_1.length c0_1, .slice A0_2 l0_2.length c0_2, .slice A0_3 l0_3.length c0_3] 25 (0, 0)) Q39 hb); replace BK396 := Ya (Z25 (g := gb396) (o := .cells #[.slice none 0 0, .slice none 0 0, .slice none 0 0, .slice none 0 0] 27 (0, 0)) Q38 hb); replace BK397 := Ya (Z25 (g := gb397) (o := .cells #[.slice Ao13 t398.length co13, .slice Ao18 t401.length co18, .slice none 0 0, .slice none 0 0] 27 (0, 0)) (by (with_reducible repeat (first | refine Z22 ?_ _ | refine Z23 ?_ | refine Z24 ?_ _)); refine Z26 (cs := #[.slice Ao13 t398.length co13, .slice none 0 0, .slice none 0 0, .slice none 0 0]) ?_ 1 _ rfl; (with_reducible repeat (first | refine Z22 ?_ _ | refine Z23 ?_ | refine Z24 ?_ _)); exact BK397.out) hb); replace HB := Yh hb; (try clear hb ho0); obtain ⟨Ao22, co22, rfl⟩ := Z18 HO406.out; obtain ⟨hcz23_0, hcz23_1, hcz23_2, hcz23_3, hfz23_0, hfz23_1, hfz23_2, hfz23_3⟩ := Y4 BK397.out; have hz24 := Y4 BK395.out) | ((with_reducible refine gate_callee (f := 32) rfl ?_); refine Yz 18 Try.func32 #[.slice A0_3 l0_3.length c0_3] ?_; (with_reducible refine (laws_toIntS.calls k _ _ l0_3 t407 _ ?side1 HC0_3.out A5.out).mono ?_); (case side1 => exact Z19 HR0_3.out Q0); rintro e w25 ⟨v408, rfl, ho0, hb⟩; refine ⟨_, rfl, ?_⟩; replace HO406 := Ya (Z13 (by (with_reducible repeat (first | apply Z8 | apply Z9 | apply Z10)); exact (Z11 (Z12 (p := ⟨gb397, 2, none⟩) (Z14 HO406.out BK397.out (by decide)) (fun _ hk => hk.2) (.slice Ao22 t404.length co22)) (fun _ h_ => h_.1))) hb); have HO409 := Yl (Kd.R_new' (Kd.R_new' ho0 (Z17 Q60)) (Z17 Q59)); replace HO400 := Ya (Kd.R_elder' Q60 (Kd.R_base ho0) hb); replace HO403 := Ya (Kd.R_elder' Q59 (Kd.R_base ho0) hb); replace BK395 := Ya (Z25 (g := gb395) (o := .cells #[.slice A0_0 l0_0.length c0_0, .slice A0_1 l0_1.length c0_1, .slice A0_2 l0_2.length c0_2, .slice A0_3 l0_3.length c0_3] 25 (0, 0)) Q39 hb); replace BK396 := Ya (Z25 (g := gb396) (o := .cells #[.slice none 0 0, .slice none 0 0, .slice none 0 0, .slice none 0 0] 27 (0, 0)) Q38 hb); replace BK397 := Ya (Z25 (g := gb397) (o := .cells #[.slice Ao13 t398.length co13, .slice Ao18 t401.length co18, .slice Ao22 t404.length co22, .slice none 0 0] 27 (0, 0)) (by (with_reducible repeat (first | refine Z22 ?_ _ | refine Z23 ?_ | refine Z24 ?_ _)); refine Z26 (cs := #[.slice Ao13 t398.length co13, .slice Ao18 t401.length co18, .slice none 0 0, .slice none 0 0]) ?_ 2 _ rfl; (with_reducible repeat (first | refine Z22 ?_ _ | refine Z23 ?_ | refine Z24 ?_ _)); exact BK397.out) hb); replace HB := Yh hb; (try clear hb ho0); obtain ⟨Ao26, co26, rfl⟩ := Z18 HO409.out; have hz27 := Y4 BK397.out; have hz28 := Y4 BK396.out))
 refine bodyPost_ret (results_cell_row rfl _ _ gb396 27 #[.slice Ao13 t398.length co13, .slice Ao18 t401.length co18, .slice Ao22 t404.length co22, .slice Ao26 t407.length co26] (0, 0) _ rfl (by (with_reducible repeat (first | refine Z22 ?_ _ | refine Z23 ?_ | refine Z24 ?_ _)); refine Z26 (cs := #[.slice Ao13 t398.length co13, .slice Ao18 t401.length co18, .slice Ao22 t404.length co22, .slice none 0 0]) ?_ 3 _ rfl; (with_reducible repeat (first | refine Z22 ?_ _ | refine Z23 ?_ | refine Z24 ?_ _)); refine Z26 (cs := #[.slice Ao13 t398.length co13, .slice Ao18 t401.length co18, .slice none 0 0, .slice none 0 0]) ?_ 2 _ rfl; (with_reducible repeat (first | refine Z22 ?_ _ | refine Z23 ?_ | refine Z24 ?_ _)); refine Z26 (cs := #[.slice Ao13 t398.length co13, .slice none 0 0, .slice none 0 0, .slice none 0 0]) ?_ 1 _ rfl; (with_reducible repeat (first | refine Z22 ?_ _ | refine Z23 ?_ | refine Z24 ?_ _)); refine Z26 (cs := #[.slice none 0 0, .slice none 0 0, .slice none 0 0, .slice none 0 0]) ?_ 0 _ rfl; (with_reducible repeat (first | refine Z22 ?_ _ | refine Z23 ?_ | refine Z24 ?_ _)); refine blk_far ?_ NB396_397.out _; (with_reducible repeat (first | refine Z22 ?_ _ | refine Z23 ?_ | refine Z24 ?_ _)); exact BK396.out) Try.underlying27 rfl (by kernel_rfl)) rfl ?_
 exact ⟨_, _, _, _, Q2, by (with_reducible repeat (first | apply Z8 | apply Z9 | apply Z10)); exact Z11 (Z12 (p := ⟨gb396, 3, none⟩) (Z12 (p := ⟨gb396, 2, none⟩) (Z12 (p := ⟨gb396, 1, none⟩) (Z12 (p := ⟨gb396, 0, none⟩) (Z12 (p := ⟨gb397, 3, none⟩) (Z14 (Z14 HO400.out BK397.out (by decide)) BK396.out (by decide)) (fun _ hk => hk.1.2) (.slice Ao26 t407.length co26)) (fun _ hk => hk.2) (.slice Ao13 t398.length co13)) (fun _ hk => hk.2) (.slice Ao18 t401.length co18)) (fun _ hk => hk.2) (.slice Ao22 t404.length co22)) (fun _ hk => hk.2) (.slice Ao26 t407.length co26)) (fun _ hk => ⟨hk.1.1.1.2, hk.1.1.2⟩), by (with_reducible repeat (first | apply Z8 | apply Z9 | apply Z10)); exact Z11 (Z12 (p := ⟨gb396, 3, none⟩) (Z12 (p := ⟨gb396, 2, none⟩) (Z12 (p := ⟨gb396, 1, none⟩) (Z12 (p := ⟨gb396, 0, none⟩) (Z12 (p := ⟨gb397, 3, none⟩) (Z14 (Z14 HO403.out BK397.out (by decide)) BK396.out (by decide)) (fun _ hk => hk.1.2) (.slice Ao26 t407.length co26)) (fun _ hk => hk.2) (.slice Ao13 t398.length co13)) (fun _ hk => hk.2) (.slice Ao18 t401.length co18)) (fun _ hk => hk.2) (.slice Ao22 t404.length co22)) (fun _ hk => hk.2) (.slice Ao26 t407.length co26)) (fun _ hk => ⟨hk.1.1.1.2, hk.1.1.2⟩), by (with_reducible repeat (first | apply Z8 | apply Z9 | apply Z10)); exact Z11 (Z12 (p := ⟨gb396, 3, none⟩) (Z12 (p := ⟨gb396, 2, none⟩) (Z12 (p := ⟨gb396, 1, none⟩) (Z12 (p := ⟨gb396, 0, none⟩) (Z12 (p := ⟨gb397, 3, none⟩) (Z14 (Z14 HO406.out BK397.out (by decide)) BK396.out (by decide)) (fun _ hk => hk.1.2) (.slice Ao26 t407.length co26)) (fun _ hk => hk.2) (.slice Ao13 t398.length co13)) (fun _ hk => hk.2) (.slice Ao18 t401.length co18)) (fun _ hk => hk.2) (.slice Ao22 t404.length co22)) (fun _ hk => hk.2) (.slice Ao26 t407.length co26)) (fun _ hk => trivial), by (with_reducible repeat (first | apply Z8 | apply Z9 | apply Z10)); exact Z11 (Z12 (p := ⟨gb396, 3, none⟩) (Z12 (p := ⟨gb396, 2, none⟩) (Z12 (p := ⟨gb396, 1, none⟩) (Z12 (p := ⟨gb396, 0, none⟩) (Z12 (p := ⟨gb397, 3, none⟩) (Z14 (Z14 HO409.out BK397.out (by decide)) BK396.out (by decide)) (fun _ hk => hk.1.2) (.slice Ao26 t407.length co26)) (fun _ hk => hk.2) (.slice Ao13 t398.length co13)) (fun _ hk => hk.2) (.slice Ao18 t401.length co18)) (fun _ hk => hk.2) (.slice Ao22 t404.length co22)) (fun _ hk => hk.2) (.slice Ao26 t407.length co26)) (fun _ hk => ⟨hk.1.1.1.2, hk.1.1.2⟩), Q12⟩
def laws_toSwapper.f (k : Nat) (l0_0 : List Int) (l0_1 : List Int) (l0_2 : List Bool) (l0_3 : List Int) (l0_4 : List Int) (l0_5 : List Int) : Option (List Int × List Int × List Bool × List Int × List Int × List Int) := (laws_toFocus.f k l0_0 l0_1 l0_2 l0_3).bind fun bt413 => ((laws_toIntS.f k l0_4).bind fun t425 => ((laws_toIntS.f k l0_5).bind fun t428 => (some (bt413.1, bt413.2.1, bt413.2.2.1, bt413.2.2.2, t425, t428))))
theorem laws_toSwapper.mono : ∀ a0 a1 a2 a3 a4 a5 k, LeO (laws_toSwapper.f k a0 a1 a2 a3 a4 a5) (laws_toSwapper.f (k + 1) a0 a1 a2 a3 a4 a5) := by
 intro a0 a1 a2 a3 a4 a5 k
 unfold laws_toSwapper.f
 repeat' first
   | (with_reducible exact laws_toFocus.mono _ _ _ _ _)
   | (with_reducible exact laws_toIntS.mono _ _)
   | (with_reducible exact LeO.refl _)
   | (with_reducible exact LeO.none _)
   | (with_reducible refine LeO.ite ?_ ?_)
   | (with_reducible refine LeO.bind ?_ (fun _ => ?_))
   | exact laws_toFocus.mono _ _ _ _ _
   | exact laws_toIntS.mono _ _
   | exact LeO.none _
   | refine LeO.ite ?_ ?_
   | refine LeO.bind ?_ (fun _ => ?_)
set_option maxHeartbeats 8000000 in
set_option maxRecDepth 100000 in
theorem laws_toSwapper.calls (k : Nat) (A0_0 : Option Addr) (c0_0 : Nat) (l0_0 : List Int) (A0_1 : Option Addr) (c0_1 : Nat) (l0_1 : List Int) (A0_2 : Option Addr) (c0_2 : Nat) (l0_2 : List Bool) (A0_3 : Option Addr) (c0_3 : Nat) (l0_3 : List Int) (A0_4 : Option Addr) (c0_4 : Nat) (l0_4 : List Int) (A0_5 : Option Addr) (c0_5 : Nat) (l0_5 : List Int) (r1 : List Int) (r2 : List Int) (r3 : List Bool) (r4 : List Int) (r5 : List Int) (r6 : List Int) (w : World) (hr0_0 : Kd.C (Kd.int .i64) w A0_0 l0_0.length l0_0) (hc0_0 : l0_0.length ≤ c0_0) (hr0_1 : Kd.C (Kd.int .i64) w A0_1 l0_1.length l0_1) (hc0_1 : l0_1.length ≤ c0_1) (hr0_2 : Kd.C Kd.bool w A0_2 l0_2.length l0_2) (hc0_2 : l0_2.length ≤ c0_2) (hr0_3 : Kd.C (Kd.int .i64) w A0_3 l0_3.length l0_3) (hc0_3 : l0_3.length ≤ c0_3) (hr0_4 : Kd.C (Kd.int .i64) w A0_4 l0_4.length l0_4) (hc0_4 : l0_4.length ≤ c0_4) (hr0_5 : Kd.C (Kd.int .i64) w A0_5 l0_5.length l0_5) (hc0_5 : l0_5.length ≤ c0_5) (h : laws_toSwapper.f k l0_0 l0_1 l0_2 l0_3 l0_4 l0_5 = some (r1, r2, r3, r4, r5, r6)) :
  Calls Try.prog 22 #[.agg #[.slice A0_0 l0_0.length c0_0, .slice A0_1 l0_1.length c0_1, .slice A0_2 l0_2.length c0_2, .slice A0_3 l0_3.length c0_3, .slice A0_4 l0_4.length c0_4, .slice A0_5 l0_5.length c0_5]] w fun e w' => ∃ v0_ v1_ v2_ v3_ v4_ v5_ : Value, e = .returned (.agg #[v0_, v1_, v2_, v3_, v4_, v5_]) ∧ Kd.R (Kd.int .i64) 3 w' w.heap.size (fun k_ => some k_ ≠ (v1_ : Value).ownBlock ∧ some k_ ≠ (v3_ : Value).ownBlock ∧ some k_ ≠ (v4_ : Value).ownBlock ∧ some k_ ≠ (v5_ : Value).ownBlock) v0_ r1 ∧ Kd.R (Kd.int .i64) 3 w' w.heap.size (fun k_ => some k_ ≠ (v0_ : Value).ownBlock ∧ some k_ ≠ (v3_ : Value).ownBlock ∧ some k_ ≠ (v4_ : Value).ownBlock ∧ some k_ ≠ (v5_ : Value).ownBlock) v1_ r2 ∧ Kd.R Kd.bool 4 w' w.heap.size (fun _ => True) v2_ r3 ∧ Kd.R (Kd.int .i64) 3 w' w.heap.size (fun k_ => some k_ ≠ (v0_ : Value).ownBlock ∧ some k_ ≠ (v1_ : Value).ownBlock ∧ some k_ ≠ (v4_ : Value).ownBlock ∧ some k_ ≠ (v5_ : Value).ownBlock) v3_ r4 ∧ Kd.R (Kd.int .i64) 3 w' w.heap.size (fun k_ => some k_ ≠ (v0_ : Value).ownBlock ∧ some k_ ≠ (v1_ : Value).ownBlock ∧ some k_ ≠ (v3_ : Value).ownBlock ∧ some k_ ≠ (v5_ : Value).ownBlock) v4_ r5 ∧ Kd.R (Kd.int .i64) 3 w' w.heap.size (fun k_ => some k_ ≠ (v0_ : Value).ownBlock ∧ some k_ ≠ (v1_ : Value).ownBlock ∧ some k_ ≠ (v3_ : Value).ownBlock ∧ some k_ ≠ (v4_ : Value).ownBlock) v5_ r6 ∧ Below w.heap.size w w' := by
 have hu42 := Try.underlying42
 have hu35 := Try.underlying35
 have hu25 := Try.underlying25
 have hu27 := Try.underlying27
 have HR0_0 := Ya hr0_0
 have HC0_0 := Ya hc0_0
 clear hr0_0 hc0_0
 have HR0_1 := Ya hr0_1
 have HC0_1 := Ya hc0_1
 clear hr0_1 hc0_1
 have HR0_2 := Ya hr0_2
 have HC0_2 := Ya hc0_2
 clear hr0_2 hc0_2
 have HR0_3 := Ya hr0_3
 have HC0_3 := Ya hc0_3
 clear hr0_3 hc0_3
 have HR0_4 := Ya hr0_4
 have HC0_4 := Ya hc0_4
 clear hr0_4 hc0_4
 have HR0_5 := Ya hr0_5
 have HC0_5 := Ya hc0_5
 clear hr0_5 hc0_5
 have HB := Ya (Below.refl w.heap.size w)
 have H : ((laws_toFocus.f k l0_0 l0_1 l0_2 l0_3).bind fun bt413 => ((laws_toIntS.f k l0_4).bind fun t425 => ((laws_toIntS.f k l0_5).bind fun t428 => (some (bt413.1, bt413.2.1, bt413.2.2.1, bt413.2.2.2, t425, t428))))) = some (r1, r2, r3, r4, r5, r6) := h
 clear h
 replace H := Z33.mp H
 obtain ⟨⟨t413, t416, t419, t422⟩, A20, H⟩ := H
 replace H : ((laws_toIntS.f k l0_4).bind fun t425 => ((laws_toIntS.f k l0_5).bind fun t428 => (some (t413, t416, t419, t422, t425, t428)))) = some (r1, r2, r3, r4, r5, r6) := H
 have A2 := Ya A20
 clear A20
 replace H := Z33.mp H
 obtain ⟨t425, A30, H⟩ := H
 replace H : ((laws_toIntS.f k l0_5).bind fun t428 => (some (t413, t416, t419, t422, t425, t428))) = some (r1, r2, r3, r4, r5, r6) := H
 have A3 := Ya A30
 clear A30
 replace H := Z33.mp H
 obtain ⟨t428, A40, H⟩ := H
 replace H : (some (t413, t416, t419, t422, t425, t428)) = some (r1, r2, r3, r4, r5, r6) := H
 have A4 := Ya A40
 clear A40
 simp only [Option.some.injEq, Prod.mk.injEq] at H
 obtain ⟨rfl, rfl, rfl, rfl, rfl, rfl⟩ := H
 go_enter Try.func22, Try.ntmps22
 go_wp2_with (first | ((with_reducible refine gate_dst (N := 1) rfl ?_); refine Yx 1 #[.slice A0_0 l0_0.length c0_0, .slice A0_1 l0_1.length c0_1, .slice A0_2 l0_2.length c0_2, .slice A0_3 l0_3.length c0_3, .slice A0_4 l0_4.length c0_4, .slice A0_5 l0_5.length c0_5] 42 ?_; intro gb410 hg w5 hbox hb; have BK410 := Ya hbox; have GE410 := Yg hg; replace HB := Yh hb; clear hb hbox hg) | ((with_reducible refine gate_dst (N := 2) rfl ?_); refine Yx 2 #[.slice none 0 0, .slice none 0 0, .slice none 0 0, .slice none 0 0, .slice none 0 0, .slice none 0 0] 35 ?_; intro gb411 hg w6 hbox hb; have BK411 := Ya hbox; have GE411 := Yg hg; replace HB := Yh hb; have NB410_411 := Yn BK410 hg; have NB411_410 := Ym BK410 hg; replace BK410 := Yb BK410 hb; clear hb hbox hg) | ((with_reducible refine gate_dst (N := 3) rfl ?_); refine Yx 3 #[.slice none 0 0, .slice none 0 0, .slice none 0 0, .slice none 0 0, .slice none 0 0, .slice none 0 0] 35 ?_; intro gb412 hg w7 hbox hb; have BK412 := Ya hbox; have GE412 := Yg hg; replace HB := Yh hb; have NB410_412 := Yn BK410 hg; have NB412_410 := Ym BK410 hg; replace BK410 := Yb BK410 hb; have NB411_412 := Yn BK411 hg; have NB412_411 := Ym BK411 hg; replace BK411 := Yb BK411 hb; clear hb hbox hg; have hnb8 := NB410_411.out; have hnc8 := NB411_410.out; have hnb9 := NB410_412.out; have hnc9 := NB412_410.out; have hz10 := Y6 BK410.out) | ((with_reducible refine gate_callee (f := 10) rfl ?_); refine Yz 6 Try.func10 #[.agg #[.slice A0_0 l0_0.length c0_0, .slice A0_1 l0_1.length c0_1, .slice A0_2 l0_2.length c0_2, .slice A0_3 l0_3.length c0_3]] ?_; (with_reducible refine (laws_toFocus.calls k _ _ l0_0 _ _ l0_1 _ _ l0_2 _ _ l0_3 t413 t416 t419 t422 _ (Yc (Z19 HR0_0.out HB.out)) HC0_0.out (Yc (Z19 HR0_1.out HB.out)) HC0_1.out (Yc (Z19 HR0_2.out HB.out)) HC0_2.out (Yc (Z19 HR0_3.out HB.out)) HC0_3.out A2.out).mono ?_); rintro e w11 ⟨v414, v417, v420, v423, rfl, ho0, ho1, ho2, ho3, hb⟩; refine ⟨_, rfl, ?_⟩; have HO415 := Yl ho0; have HO418 := Yl ho1; have HO421 := Yl ho2; have HO424 := Yl ho3; replace BK410 := Yb BK410 hb; replace BK411 := Yb BK411 hb; replace BK412 := Yb BK412 hb; replace HB := Yh hb; (try clear hb ho0 ho1 ho2 ho3); obtain ⟨Ao12, co12, rfl⟩ := Z18 HO415.out; have hnb13 := NB412_411.out; have hnc13 := NB411_412.out; have hz14 := Y6 BK412.out; obtain ⟨Ao15, co15, rfl⟩ := Z18 HO418.out; obtain ⟨Ao16, co16, rfl⟩ := Z18 HO421.out; obtain ⟨Ao17, co17, rfl⟩ := Z18 HO424.out; have hz18 := Y6 BK410.out) | ((with_reducible refine gate_callee (f := 32) rfl ?_); refine Yz 10 Try.func32 #[.slice A0_4 l0_4.length c0_4] ?_; (with_reducible refine (laws_toIntS.calls k _ _ l0_4 t425 _ ?side1 HC0_4.out A3.out).mono ?_); (case side1 => exact Z19 HR0_4.out Q0); rintro e w19 ⟨v426, rfl, ho0, hb⟩; refine ⟨_, rfl, ?_⟩; replace HO421 := Ya (Z13 (by (with_reducible repeat (first | apply Z8 | apply Z9 | apply Z10)); exact (Z11 (Yf4 HO421.out BK412.out) (fun _ h_ => h_.1))) hb); have HO427 := Yl (Kd.R_new' (Kd.R_new' (Kd.R_new' ho0 (Z17 Q83)) (Z17 Q82)) (Z17 Q81)); replace HO415 := Ya (Kd.R_elder' Q83 (Kd.R_base ho0) hb); replace HO418 := Ya (Kd.R_elder' Q82 (Kd.R_base ho0) hb); replace HO424 := Ya (Kd.R_elder' Q81 (Kd.R_base ho0) hb); replace BK410 := Yb ⟨Yo4 BK410.out NB410_412.out⟩ hb; replace BK411 := Yb ⟨Yo4 BK411.out NB411_412.out⟩ hb; replace BK412 := Yb ⟨Yv4x6 BK412.out⟩ hb; replace HB := Yh hb; (try clear hb ho0); obtain ⟨Ao20, co20, rfl⟩ := Z18 HO427.out; have hz21 := Y6 BK412.out; have hz22 := Y6 BK410.out) | ((with_reducible refine gate_callee (f := 32) rfl ?_); refine Yz 14 Try.func32 #[.slice A0_5 l0_5.length c0_5] ?_; (with_reducible refine (laws_toIntS.calls k _ _ l0_5 t428 _ ?side1 HC0_5.out A4.out).mono ?_); (case side1 => exact Z19 HR0_5.out Q0); rintro e w23 ⟨v429, rfl, ho0, hb⟩; refine ⟨_, rfl, ?_⟩; replace HO421 := Ya (Z13 (by (with_reducible repeat (first | apply Z8 | apply Z9 | apply Z10)); exact (Z11 (Z12 (p := ⟨gb412, 4, none⟩) (Z14 HO421.out BK412.out (by decide)) (fun _ hk => hk.2) (.slice Ao20 t425.length co20)) (fun _ h_ => h_.1))) hb); have HO430 := Yl (Kd.R_new' (Kd.R_new' (Kd.R_new' (Kd.R_new' ho0 (Z17 Q58)) (Z17 Q57)) (Z17 Q56)) (Z17 Q55)); replace HO415 := Ya (Kd.R_elder' Q58 (Kd.R_base ho0) hb); replace HO418 := Ya (Kd.R_elder' Q57 (Kd.R_base ho0) hb); replace HO424 := Ya (Kd.R_elder' Q56 (Kd.R_base ho0) hb); replace HO427 := Ya (Kd.R_elder' Q55 (Kd.R_base ho0) hb); replace BK410 := Ya (Z25 (g := gb410) (o := .cells #[.slice A0_0 l0_0.length c0_0, .slice A0_1 l0_1.length c0_1, .slice A0_2 l0_2.length c0_2, .slice A0_3 l0_3.length c0_3, .slice A0_4 l0_4.length c0_4, .slice A0_5 l0_5.length c0_5] 42 (0, 0)) (by (with_reducible repeat (first | refine Z22 ?_ _ | refine Z23 ?_ | refine Z24 ?_ _)); refine blk_far ?_ NB410_412.out _; (with_reducible repeat (first | refine Z22 ?_ _ | refine Z23 ?_ | refine Z24 ?_ _)); exact BK410.out) hb); replace BK411 := Ya (Z25 (g := gb411) (o := .cells #[.slice none 0 0, .slice none 0 0, .slice none 0 0, .slice none 0 0, .slice none 0 0, .slice none 0 0] 35 (0, 0)) (by (with_reducible repeat (first | refine Z22 ?_ _ | refine Z23 ?_ | refine Z24 ?_ _)); refine blk_far ?_ NB411_412.out _; (with_reducible repeat (first | refine Z22 ?_ _ | refine Z23 ?_ | refine Z24 ?_ _)); exact BK411.out) hb); replace BK412 := Ya (Z25 (g := gb412) (o := .cells #[.slice Ao12 t413.length co12, .slice Ao15 t416.length co15, .slice Ao16 t419.length co16, .slice Ao17 t422.length co17, .slice Ao20 t425.length co20, .slice none 0 0] 35 (0, 0)) (by (with_reducible repeat (first | refine Z22 ?_ _ | refine Z23 ?_ | refine Z24 ?_ _)); refine Z26 (cs := #[.slice Ao12 t413.length co12, .slice Ao15 t416.length co15, .slice Ao16 t419.length co16, .slice Ao17 t422.length co17, .slice none 0 0, .slice none 0 0]) ?_ 4 _ rfl; (with_reducible repeat (first | refine Z22 ?_ _ | refine Z23 ?_ | refine Z24 ?_ _)); exact BK412.out) hb); replace HB := Yh hb; (try clear hb ho0); obtain ⟨Ao24, co24, rfl⟩ := Z18 HO430.out; obtain ⟨hcz25_0, hcz25_1, hcz25_2, hcz25_3, hcz25_4, hcz25_5, hfz25_0, hfz25_1, hfz25_2, hfz25_3, hfz25_4, hfz25_5⟩ := Y6 BK412.out; have hz26 := Y6 BK411.out))
 refine bodyPost_ret (results_cell_row rfl _ _ gb411 35 #[.slice Ao12 t413.length co12, .slice Ao15 t416.length co15, .slice Ao16 t419.length co16, .slice Ao17 t422.length co17, .slice Ao20 t425.length co20, .slice Ao24 t428.length co24] (0, 0) _ rfl (by (with_reducible repeat (first | refine Z22 ?_ _ | refine Z23 ?_ | refine Z24 ?_ _)); refine Z26 (cs := #[.slice Ao12 t413.length co12, .slice Ao15 t416.length co15, .slice Ao16 t419.length co16, .slice Ao17 t422.length co17, .slice Ao20 t425.length co20, .slice none 0 0]) ?_ 5 _ rfl; (with_reducible repeat (first | refine Z22 ?_ _ | refine Z23 ?_ | refine Z24 ?_ _)); refine Z26 (cs := #[.slice Ao12 t413.length co12, .slice Ao15 t416.length co15, .slice Ao16 t419.length co16, .slice Ao17 t422.length co17, .slice none 0 0, .slice none 0 0]) ?_ 4 _ rfl; (with_reducible repeat (first | refine Z22 ?_ _ | refine Z23 ?_ | refine Z24 ?_ _)); refine Z26 (cs := #[.slice Ao12 t413.length co12, .slice Ao15 t416.length co15, .slice Ao16 t419.length co16, .slice none 0 0, .slice none 0 0, .slice none 0 0]) ?_ 3 _ rfl; (with_reducible repeat (first | refine Z22 ?_ _ | refine Z23 ?_ | refine Z24 ?_ _)); refine Z26 (cs := #[.slice Ao12 t413.length co12, .slice Ao15 t416.length co15, .slice none 0 0, .slice none 0 0, .slice none 0 0, .slice none 0 0]) ?_ 2 _ rfl; (with_reducible repeat (first | refine Z22 ?_ _ | refine Z23 ?_ | refine Z24 ?_ _)); refine Z26 (cs := #[.slice Ao12 t413.length co12, .slice none 0 0, .slice none 0 0, .slice none 0 0, .slice none 0 0, .slice none 0 0]) ?_ 1 _ rfl; (with_reducible repeat (first | refine Z22 ?_ _ | refine Z23 ?_ | refine Z24 ?_ _)); refine Z26 (cs := #[.slice none 0 0, .slice none 0 0, .slice none 0 0, .slice none 0 0, .slice none 0 0, .slice none 0 0]) ?_ 0 _ rfl; (with_reducible repeat (first | refine Z22 ?_ _ | refine Z23 ?_ | refine Z24 ?_ _)); refine blk_far ?_ NB411_412.out _; (with_reducible repeat (first | refine Z22 ?_ _ | refine Z23 ?_ | refine Z24 ?_ _)); exact BK411.out) Try.underlying35 rfl (by kernel_rfl)) rfl ?_
 exact ⟨_, _, _, _, _, _, Q2, by (with_reducible repeat (first | apply Z8 | apply Z9 | apply Z10)); exact Z11 (Z12 (p := ⟨gb411, 5, none⟩) (Z12 (p := ⟨gb411, 4, none⟩) (Z12 (p := ⟨gb411, 3, none⟩) (Z12 (p := ⟨gb411, 2, none⟩) (Z12 (p := ⟨gb411, 1, none⟩) (Z12 (p := ⟨gb411, 0, none⟩) (Z12 (p := ⟨gb412, 5, none⟩) (Z14 (Z14 HO415.out BK412.out (by decide)) BK411.out (by decide)) (fun _ hk => hk.1.2) (.slice Ao24 t428.length co24)) (fun _ hk => hk.2) (.slice Ao12 t413.length co12)) (fun _ hk => hk.2) (.slice Ao15 t416.length co15)) (fun _ hk => hk.2) (.slice Ao16 t419.length co16)) (fun _ hk => hk.2) (.slice Ao17 t422.length co17)) (fun _ hk => hk.2) (.slice Ao20 t425.length co20)) (fun _ hk => hk.2) (.slice Ao24 t428.length co24)) (fun _ hk => ⟨hk.1.1.1.1.1, ⟨hk.1.1.1.1.2, ⟨hk.1.1.1.2, hk.1.1.2⟩⟩⟩), by (with_reducible repeat (first | apply Z8 | apply Z9 | apply Z10)); exact Z11 (Z12 (p := ⟨gb411, 5, none⟩) (Z12 (p := ⟨gb411, 4, none⟩) (Z12 (p := ⟨gb411, 3, none⟩) (Z12 (p := ⟨gb411, 2, none⟩) (Z12 (p := ⟨gb411, 1, none⟩) (Z12 (p := ⟨gb411, 0, none⟩) (Z12 (p := ⟨gb412, 5, none⟩) (Z14 (Z14 HO418.out BK412.out (by decide)) BK411.out (by decide)) (fun _ hk => hk.1.2) (.slice Ao24 t428.length co24)) (fun _ hk => hk.2) (.slice Ao12 t413.length co12)) (fun _ hk => hk.2) (.slice Ao15 t416.length co15)) (fun _ hk => hk.2) (.slice Ao16 t419.length co16)) (fun _ hk => hk.2) (.slice Ao17 t422.length co17)) (fun _ hk => hk.2) (.slice Ao20 t425.length co20)) (fun _ hk => hk.2) (.slice Ao24 t428.length co24)) (fun _ hk => ⟨hk.1.1.1.1.1, ⟨hk.1.1.1.1.2, ⟨hk.1.1.1.2, hk.1.1.2⟩⟩⟩), by (with_reducible repeat (first | apply Z8 | apply Z9 | apply Z10)); exact Z11 (Z12 (p := ⟨gb411, 5, none⟩) (Z12 (p := ⟨gb411, 4, none⟩) (Z12 (p := ⟨gb411, 3, none⟩) (Z12 (p := ⟨gb411, 2, none⟩) (Z12 (p := ⟨gb411, 1, none⟩) (Z12 (p := ⟨gb411, 0, none⟩) (Z12 (p := ⟨gb412, 5, none⟩) (Z14 (Z14 HO421.out BK412.out (by decide)) BK411.out (by decide)) (fun _ hk => hk.1.2) (.slice Ao24 t428.length co24)) (fun _ hk => hk.2) (.slice Ao12 t413.length co12)) (fun _ hk => hk.2) (.slice Ao15 t416.length co15)) (fun _ hk => hk.2) (.slice Ao16 t419.length co16)) (fun _ hk => hk.2) (.slice Ao17 t422.length co17)) (fun _ hk => hk.2) (.slice Ao20 t425.length co20)) (fun _ hk => hk.2) (.slice Ao24 t428.length co24)) (fun _ hk => trivial), by (with_reducible repeat (first | apply Z8 | apply Z9 | apply Z10)); exact Z11 (Z12 (p := ⟨gb411, 5, none⟩) (Z12 (p := ⟨gb411, 4, none⟩) (Z12 (p := ⟨gb411, 3, none⟩) (Z12 (p := ⟨gb411, 2, none⟩) (Z12 (p := ⟨gb411, 1, none⟩) (Z12 (p := ⟨gb411, 0, none⟩) (Z12 (p := ⟨gb412, 5, none⟩) (Z14 (Z14 HO424.out BK412.out (by decide)) BK411.out (by decide)) (fun _ hk => hk.1.2) (.slice Ao24 t428.length co24)) (fun _ hk => hk.2) (.slice Ao12 t413.length co12)) (fun _ hk => hk.2) (.slice Ao15 t416.length co15)) (fun _ hk => hk.2) (.slice Ao16 t419.length co16)) (fun _ hk => hk.2) (.slice Ao17 t422.length co17)) (fun _ hk => hk.2) (.slice Ao20 t425.length co20)) (fun _ hk => hk.2) (.slice Ao24 t428.length co24)) (fun _ hk => ⟨hk.1.1.1.1.1, ⟨hk.1.1.1.1.2, ⟨hk.1.1.1.2, hk.1.1.2⟩⟩⟩), by (with_reducible repeat (first | apply Z8 | apply Z9 | apply Z10)); exact Z11 (Z12 (p := ⟨gb411, 5, none⟩) (Z12 (p := ⟨gb411, 4, none⟩) (Z12 (p := ⟨gb411, 3, none⟩) (Z12 (p := ⟨gb411, 2, none⟩) (Z12 (p := ⟨gb411, 1, none⟩) (Z12 (p := ⟨gb411, 0, none⟩) (Z12 (p := ⟨gb412, 5, none⟩) (Z14 (Z14 HO427.out BK412.out (by decide)) BK411.out (by decide)) (fun _ hk => hk.1.2) (.slice Ao24 t428.length co24)) (fun _ hk => hk.2) (.slice Ao12 t413.length co12)) (fun _ hk => hk.2) (.slice Ao15 t416.length co15)) (fun _ hk => hk.2) (.slice Ao16 t419.length co16)) (fun _ hk => hk.2) (.slice Ao17 t422.length co17)) (fun _ hk => hk.2) (.slice Ao20 t425.length co20)) (fun _ hk => hk.2) (.slice Ao24 t428.length co24)) (fun _ hk => ⟨hk.1.1.1.1.1.2, ⟨hk.1.1.1.1.2, ⟨hk.1.1.1.2, hk.1.1.2⟩⟩⟩), by (with_reducible repeat (first | apply Z8 | apply Z9 | apply Z10)); exact Z11 (Z12 (p := ⟨gb411, 5, none⟩) (Z12 (p := ⟨gb411, 4, none⟩) (Z12 (p := ⟨gb411, 3, none⟩) (Z12 (p := ⟨gb411, 2, none⟩) (Z12 (p := ⟨gb411, 1, none⟩) (Z12 (p := ⟨gb411, 0, none⟩) (Z12 (p := ⟨gb412, 5, none⟩) (Z14 (Z14 HO430.out BK412.out (by decide)) BK411.out (by decide)) (fun _ hk => hk.1.2) (.slice Ao24 t428.length co24)) (fun _ hk => hk.2) (.slice Ao12 t413.length co12)) (fun _ hk => hk.2) (.slice Ao15 t416.length co15)) (fun _ hk => hk.2) (.slice Ao16 t419.length co16)) (fun _ hk => hk.2) (.slice Ao17 t422.length co17)) (fun _ hk => hk.2) (.slice Ao20 t425.length co20)) (fun _ hk => hk.2) (.slice Ao24 t428.length co24)) (fun _ hk => ⟨hk.1.1.1.1.1.2, ⟨hk.1.1.1.1.2, ⟨hk.1.1.1.2, hk.1.1.2⟩⟩⟩), Q12⟩
end Go.Proofs.Ytpfakdhfffehaaa.MFnExactIsSwapper
