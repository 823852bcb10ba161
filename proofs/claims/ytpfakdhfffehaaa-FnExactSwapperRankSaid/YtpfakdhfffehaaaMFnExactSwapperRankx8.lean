import Derived.Test.YtpfakdhfffehaaaMFnExactSwapperRankx0
import Derived.Test.YtpfakdhfffehaaaMFnExactSwapperRankx4
import Derived.Test.YtpfakdhfffehaaaMFnExactSwapperRankx5
import Derived.Test.YtpfakdhfffehaaaMFnExactSwapperRankx7
namespace Go.Proofs.Ytpfakdhfffehaaa.MFnExactSwapperRank
open Go.RowKit Go.Proofs.YtpfakdhfffehaaaW.PrintWords Go.Proofs.YtpfakdhfffehaaaW.PrintLast Go.Proofs.YtpfakdhfffehaaaW.PrintMore
attribute [local go_sem] max2_int min2_int max_two min_two max_three min_three max_four min_four   
set_option linter.unusedVariables false
set_option linter.unusedSimpArgs false
def spec_foRank.j0 : Nat → Bool → List Int → List Int → List Bool → List Int → List Int → List Int → Option (Int)
 | 0, _, _, _, _, _, _, _ => none
 | k + 1, x22, x402000, x402001, x402002, x402003, x402004, x402005 => if x22 = true then (some (-1)) else ((spec_gcMixedRank.f k x402000 x402001).bind fun t405 => ((spec_foSwapperAt.f k (x402004.length : Int) t405).bind fun bt406 => (if bt406.2.2.2.2.2.2 = true then ((spec_foSame.f k x402000 x402001 x402002 x402003 bt406.1 bt406.2.1 bt406.2.2.1 bt406.2.2.2.1).bind fun t426 => (if t426 = true then ((spec_l1Same.f k x402004 bt406.2.2.2.2.1).bind fun t427 => (if t427 = true then ((spec_l1Same.f k x402005 bt406.2.2.2.2.2.1).bind fun t428 => (if t428 = true then (some t405) else (some (-1)))) else (some (-1)))) else (some (-1)))) else (some (-1)))))
def spec_foRank.f (k : Nat) (l0_0 : List Int) (l0_1 : List Int) (l0_2 : List Bool) (l0_3 : List Int) (l0_4 : List Int) (l0_5 : List Int) : Option (Int) := (spec_foSize.f (l0_4.length : Int)).bind fun t402 => (if t402 = true then ((spec_raPermutation.f k l0_4).bind fun t403 => (if t403 = true then ((spec_foGood.f k l0_0 l0_1 l0_2 l0_3).bind fun t404 => (spec_foRank.j0 k (!t404) l0_0 l0_1 l0_2 l0_3 l0_4 l0_5)) else (spec_foRank.j0 k true l0_0 l0_1 l0_2 l0_3 l0_4 l0_5))) else (spec_foRank.j0 k true l0_0 l0_1 l0_2 l0_3 l0_4 l0_5))
theorem spec_foRank.mono_l : ∀ k, (∀ y0 y1 y2 y3 y4 y5 y6, LeO (spec_foRank.j0 k y0 y1 y2 y3 y4 y5 y6) (spec_foRank.j0 (k + 1) y0 y1 y2 y3 y4 y5 y6))
 | 0 => fun _ _ _ _ _ _ _ r h => by simp [spec_foRank.j0] at h
 | k + 1 => by
  have ih0 := spec_foRank.mono_l k
  ·intro y0 y1 y2 y3 y4 y5 y6
   unfold spec_foRank.j0
   repeat' first
   | (with_reducible exact ih0 _ _ _ _ _ _ _)
   | (with_reducible exact spec_foGood.mono _ _ _ _ _)
   | (with_reducible exact spec_foSame.mono _ _ _ _ _ _ _ _ _)
   | (with_reducible exact spec_foSwapperAt.mono _ _ _)
   | (with_reducible exact spec_gcMixedRank.mono _ _ _)
   | (with_reducible exact spec_l1Same.mono _ _ _)
   | (with_reducible exact spec_raPermutation.mono _ _)
   | (with_reducible exact LeO.refl _)
   | (with_reducible exact LeO.none _)
   | (with_reducible refine LeO.ite ?_ ?_)
   | (with_reducible refine LeO.bind ?_ (fun _ => ?_))
   | exact ih0 _ _ _ _ _ _ _
   | exact spec_foGood.mono _ _ _ _ _
   | exact spec_foSame.mono _ _ _ _ _ _ _ _ _
   | exact spec_foSwapperAt.mono _ _ _
   | exact spec_gcMixedRank.mono _ _ _
   | exact spec_l1Same.mono _ _ _
   | exact spec_raPermutation.mono _ _
   | exact LeO.none _
   | refine LeO.ite ?_ ?_
   | refine LeO.bind ?_ (fun _ => ?_)
theorem spec_foRank.mono : ∀ a0 a1 a2 a3 a4 a5 k, LeO (spec_foRank.f k a0 a1 a2 a3 a4 a5) (spec_foRank.f (k + 1) a0 a1 a2 a3 a4 a5) := by
 intro a0 a1 a2 a3 a4 a5 k
 have ih0 := spec_foRank.mono_l k
 unfold spec_foRank.f
 repeat' first
   | (with_reducible exact ih0 _ _ _ _ _ _ _)
   | (with_reducible exact spec_foGood.mono _ _ _ _ _)
   | (with_reducible exact spec_foSame.mono _ _ _ _ _ _ _ _ _)
   | (with_reducible exact spec_foSwapperAt.mono _ _ _)
   | (with_reducible exact spec_gcMixedRank.mono _ _ _)
   | (with_reducible exact spec_l1Same.mono _ _ _)
   | (with_reducible exact spec_raPermutation.mono _ _)
   | (with_reducible exact LeO.refl _)
   | (with_reducible exact LeO.none _)
   | (with_reducible refine LeO.ite ?_ ?_)
   | (with_reducible refine LeO.bind ?_ (fun _ => ?_))
   | exact ih0 _ _ _ _ _ _ _
   | exact spec_foGood.mono _ _ _ _ _
   | exact spec_foSame.mono _ _ _ _ _ _ _ _ _
   | exact spec_foSwapperAt.mono _ _ _
   | exact spec_gcMixedRank.mono _ _ _
   | exact spec_l1Same.mono _ _ _
   | exact spec_raPermutation.mono _ _
   | exact LeO.none _
   | refine LeO.ite ?_ ?_
   | refine LeO.bind ?_ (fun _ => ?_)
set_option maxHeartbeats 8000000 in
set_option maxRecDepth 100000 in
theorem spec_foRank.calls (k : Nat) (A0_0 : Option Addr) (c0_0 : Nat) (l0_0 : List Int) (A0_1 : Option Addr) (c0_1 : Nat) (l0_1 : List Int) (A0_2 : Option Addr) (c0_2 : Nat) (l0_2 : List Bool) (A0_3 : Option Addr) (c0_3 : Nat) (l0_3 : List Int) (A0_4 : Option Addr) (c0_4 : Nat) (l0_4 : List Int) (A0_5 : Option Addr) (c0_5 : Nat) (l0_5 : List Int) (r : Int) (w : World) (hr0_0 : Kd.C (Kd.int .i64) w A0_0 l0_0.length l0_0) (hc0_0 : l0_0.length ≤ c0_0) (hr0_1 : Kd.C (Kd.int .i64) w A0_1 l0_1.length l0_1) (hc0_1 : l0_1.length ≤ c0_1) (hr0_2 : Kd.C Kd.bool w A0_2 l0_2.length l0_2) (hc0_2 : l0_2.length ≤ c0_2) (hr0_3 : Kd.C (Kd.int .i64) w A0_3 l0_3.length l0_3) (hc0_3 : l0_3.length ≤ c0_3) (hr0_4 : Kd.C (Kd.int .i64) w A0_4 l0_4.length l0_4) (hc0_4 : l0_4.length ≤ c0_4) (hr0_5 : Kd.C (Kd.int .i64) w A0_5 l0_5.length l0_5) (hc0_5 : l0_5.length ≤ c0_5) (h : spec_foRank.f k l0_0 l0_1 l0_2 l0_3 l0_4 l0_5 = some r) :
  Calls Try.prog 51 #[.agg #[.slice A0_0 l0_0.length c0_0, .slice A0_1 l0_1.length c0_1, .slice A0_2 l0_2.length c0_2, .slice A0_3 l0_3.length c0_3, .slice A0_4 l0_4.length c0_4, .slice A0_5 l0_5.length c0_5]] w fun e w' => e = .returned (.int .i64 r) ∧ Below w.heap.size w w' := by
 have hu35 := Try.underlying35
 have hu27 := Try.underlying27
 have HR0_0 := Ya hr0_0
 have HC0_0 := Ya hc0_0
 clear hr0_0 hc0_0
 have HR0_1 := Ya hr0_1
 have HC0_1 := Ya hc0_1
 clear hr0_1 hc0_1
 have HR0_2 := Ya hr0_2
 have HC0_2 := Ya hc0_2
 clear hr0_2 hc0_2
 have HR0_3 := Ya hr0_3
 have HC0_3 := Ya hc0_3
 clear hr0_3 hc0_3
 have HR0_4 := Ya hr0_4
 have HC0_4 := Ya hc0_4
 clear hr0_4 hc0_4
 have HR0_5 := Ya hr0_5
 have HC0_5 := Ya hc0_5
 clear hr0_5 hc0_5
 have HB := Ya (Below.refl w.heap.size w)
 have H : ((spec_foSize.f (l0_4.length : Int)).bind fun t402 => (if t402 = true then ((spec_raPermutation.f k l0_4).bind fun t403 => (if t403 = true then ((spec_foGood.f k l0_0 l0_1 l0_2 l0_3).bind fun t404 => (spec_foRank.j0 k (!t404) l0_0 l0_1 l0_2 l0_3 l0_4 l0_5)) else (spec_foRank.j0 k true l0_0 l0_1 l0_2 l0_3 l0_4 l0_5))) else (spec_foRank.j0 k true l0_0 l0_1 l0_2 l0_3 l0_4 l0_5))) = some r := h
 clear h
 have HC2 := Ya H
 clear H
 go_enter Try.func51, Try.ntmps51
 go_upto_region 1 with (first | ((with_reducible refine gate_dst (N := 1) rfl ?_); refine Yx 1 #[.slice A0_0 l0_0.length c0_0, .slice A0_1 l0_1.length c0_1, .slice A0_2 l0_2.length c0_2, .slice A0_3 l0_3.length c0_3, .slice A0_4 l0_4.length c0_4, .slice A0_5 l0_5.length c0_5] 35 ?_; intro gb401 hg w3 hbox hb; have BK401 := Ya hbox; have GE401 := Yg hg; replace HB := Yh hb; clear hb hbox hg))
 (try simp only [Act.put, Z0, Z1, Z2])
 go_cut [22] (fun v22 wc => ∃ (kq : Nat) (x22_1 : Bool), v22 = .bool x22_1 ∧ Aside0 (spec_foRank.j0 kq x22_1 l0_0 l0_1 l0_2 l0_3 l0_4 l0_5 = some r) ∧ Aside0 (kq ≤ k) ∧ Aside0 (wc.heap[gb401]? = some (.cells #[(.slice A0_0 l0_0.length c0_0), (.slice A0_1 l0_1.length c0_1), (.slice A0_2 l0_2.length c0_2), (.slice A0_3 l0_3.length c0_3), (.slice A0_4 l0_4.length c0_4), (.slice A0_5 l0_5.length c0_5)] 35 (0, 0))) ∧ Aside0 (Below w.heap.size w wc))
 case first =>
  have H := HC2.out
  clear HC2
  replace H := Z33.mp H
  obtain ⟨t402, A40, H⟩ := H
  replace H : (if t402 = true then ((spec_raPermutation.f k l0_4).bind fun t403 => (if t403 = true then ((spec_foGood.f k l0_0 l0_1 l0_2 l0_3).bind fun t404 => (spec_foRank.j0 k (!t404) l0_0 l0_1 l0_2 l0_3 l0_4 l0_5)) else (spec_foRank.j0 k true l0_0 l0_1 l0_2 l0_3 l0_4 l0_5))) else (spec_foRank.j0 k true l0_0 l0_1 l0_2 l0_3 l0_4 l0_5)) = some r := H
  have A4 := Ya A40
  clear A40
  by_cases c5 : t402 = true
  ·subst c5
   have H1 : ((spec_raPermutation.f k l0_4).bind fun t403 => (if t403 = true then ((spec_foGood.f k l0_0 l0_1 l0_2 l0_3).bind fun t404 => (spec_foRank.j0 k (!t404) l0_0 l0_1 l0_2 l0_3 l0_4 l0_5)) else (spec_foRank.j0 k true l0_0 l0_1 l0_2 l0_3 l0_4 l0_5))) = some r := by rw [if_pos rfl] at H; exact H
   clear H
   have H := H1
   clear H1
   replace H := Z33.mp H
   obtain ⟨t403, A60, H⟩ := H
   replace H : (if t403 = true then ((spec_foGood.f k l0_0 l0_1 l0_2 l0_3).bind fun t404 => (spec_foRank.j0 k (!t404) l0_0 l0_1 l0_2 l0_3 l0_4 l0_5)) else (spec_foRank.j0 k true l0_0 l0_1 l0_2 l0_3 l0_4 l0_5)) = some r := H
   have A6 := Ya A60
   clear A60
   by_cases c7 : t403 = true
   ·subst c7
    have H1 : ((spec_foGood.f k l0_0 l0_1 l0_2 l0_3).bind fun t404 => (spec_foRank.j0 k (!t404) l0_0 l0_1 l0_2 l0_3 l0_4 l0_5)) = some r := by rw [if_pos rfl] at H; exact H
    clear H
    have H := H1
    clear H1
    replace H := Z33.mp H
    obtain ⟨t404, A80, H⟩ := H
    replace H : (spec_foRank.j0 k (!t404) l0_0 l0_1 l0_2 l0_3 l0_4 l0_5) = some r := H
    have A8 := Ya A80
    clear A80
    have H' := Ya H
    clear H
    obtain ⟨hcz9_0, hcz9_1, hcz9_2, hcz9_3, hcz9_4, hcz9_5, hfz9_0, hfz9_1, hfz9_2, hfz9_3, hfz9_4, hfz9_5⟩ := Y6 BK401.out
    go_wp2_with (first | ((with_reducible refine gate_callee (f := 43) rfl ?_); refine Yz 9 Try.func43 #[.int .i64 (l0_4.length : Int)] ?_; (with_reducible refine (spec_foSize.calls (l0_4.length : Int) true _ A4.out).mono ?_); rintro e w' ⟨rfl, ⟨nd, rfl⟩⟩; refine ⟨_, rfl, ?_⟩) | (go_at_call 69; (with_reducible refine (spec_raPermutation.calls k _ _ l0_4 true _ ?side1 HC0_4.out A6.out).mono ?_); (case side1 => exact Yc (Z19 HR0_4.out Q0)); rintro e w' ⟨rfl, ⟨nd, rfl⟩⟩) | (go_at_call 30; (with_reducible refine (spec_foGood.calls k _ _ l0_0 _ _ l0_1 _ _ l0_2 _ _ l0_3 t404 _ ?side1 HC0_0.out ?side3 HC0_1.out ?side5 HC0_2.out ?side7 HC0_3.out A8.out).mono ?_); (case side1 => exact Yc (Z19 HR0_0.out Q0)); (case side3 => exact Yc (Z19 HR0_1.out Q0)); (case side5 => exact Yc (Z19 HR0_2.out Q0)); (case side7 => exact Yc (Z19 HR0_3.out Q0)); rintro e w10 ⟨rfl, hb⟩; replace BK401 := Yb BK401 hb; replace HB := Yh hb; (try clear hb)))
    go_meet
    case rel => exact ⟨_, (!t404), Q7, H', ⟨Q34⟩, ⟨Q53⟩, ⟨Q12⟩⟩
   ·replace c7 := Bool.eq_false_iff.mpr c7
    subst c7
    have H1 : (spec_foRank.j0 k true l0_0 l0_1 l0_2 l0_3 l0_4 l0_5) = some r := by rw [if_neg (show ¬ (false = true) by decide)] at H; exact H
    clear H
    have H := H1
    clear H1
    have H' := Ya H
    clear H
    obtain ⟨hcz11_0, hcz11_1, hcz11_2, hcz11_3, hcz11_4, hcz11_5, hfz11_0, hfz11_1, hfz11_2, hfz11_3, hfz11_4, hfz11_5⟩ := Y6 BK401.out
    go_wp2_with (first | ((with_reducible refine gate_callee (f := 43) rfl ?_); refine Yz 9 Try.func43 #[.int .i64 (l0_4.length : Int)] ?_; (with_reducible refine (spec_foSize.calls (l0_4.length : Int) true _ A4.out).mono ?_); rintro e w' ⟨rfl, ⟨nd, rfl⟩⟩; refine ⟨_, rfl, ?_⟩) | (go_at_call 69; (with_reducible refine (spec_raPermutation.calls k _ _ l0_4 false _ ?side1 HC0_4.out A6.out).mono ?_); (case side1 => exact Yc (Z19 HR0_4.out Q0)); rintro e w' ⟨rfl, ⟨nd, rfl⟩⟩))
    go_meet
    case rel => exact ⟨_, (true), Q7, H', ⟨Q34⟩, ⟨Q53⟩, ⟨Q12⟩⟩
  ·replace c5 := Bool.eq_false_iff.mpr c5
   subst c5
   have H1 : (spec_foRank.j0 k true l0_0 l0_1 l0_2 l0_3 l0_4 l0_5) = some r := by rw [if_neg (show ¬ (false = true) by decide)] at H; exact H
   clear H
   have H := H1
   clear H1
   have H' := Ya H
   clear H
   obtain ⟨hcz12_0, hcz12_1, hcz12_2, hcz12_3, hcz12_4, hcz12_5, hfz12_0, hfz12_1, hfz12_2, hfz12_3, hfz12_4, hfz12_5⟩ := Y6 BK401.out
   go_wp2_with (first | ((with_reducible refine gate_callee (f := 43) rfl ?_); refine Yz 9 Try.func43 #[.int .i64 (l0_4.length : Int)] ?_; (with_reducible refine (spec_foSize.calls (l0_4.length : Int) false _ A4.out).mono ?_); rintro e w' ⟨rfl, ⟨nd, rfl⟩⟩; refine ⟨_, rfl, ?_⟩))
   go_meet
   case rel => exact ⟨_, (true), Q7, H', ⟨Q34⟩, ⟨Q53⟩, ⟨Q12⟩⟩
 case rest =>
  clear HC2
  try clear p2
  try clear c4
  try clear c5
  try clear c7
  try clear hcz11_0
  try clear hcz11_1
  try clear hcz11_2
  try clear hcz11_3
  try clear hcz11_4
  try clear hcz11_5
  try clear hcz12_0
  try clear hcz12_1
  try clear hcz12_2
  try clear hcz12_3
  try clear hcz12_4
  try clear hcz12_5
  try clear hcz9_0
  try clear hcz9_1
  try clear hcz9_2
  try clear hcz9_3
  try clear hcz9_4
  try clear hcz9_5
  try clear hfz11_0
  try clear hfz11_1
  try clear hfz11_2
  try clear hfz11_3
  try clear hfz11_4
  try clear hfz11_5
  try clear hfz12_0
  try clear hfz12_1
  try clear hfz12_2
  try clear hfz12_3
  try clear hfz12_4
  try clear hfz12_5
  try clear hfz9_0
  try clear hfz9_1
  try clear hfz9_2
  try clear hfz9_3
  try clear hfz9_4
  try clear hfz9_5
  obtain ⟨kq, x22_1, rfl, HA, HJ1, BK401, HB⟩ := hcut
  cases kq with
  | zero => exact absurd HA.out (by simp [spec_foRank.j0])
  | succ kj1 =>
   have H := HA.out
   clear HA
   simp only [spec_foRank.j0] at H
   by_cases c13 : x22_1 = true
   ·subst c13
    have H1 : (some (-1)) = some r := by rw [if_pos rfl] at H; exact H
    clear H
    have H := H1
    clear H1
    obtain rfl := Option.some.inj H
    go_wp2
    go_ret
    exact ⟨Q2, Q12⟩
   ·replace c13 := Bool.eq_false_iff.mpr c13
    subst c13
    have H1 : ((spec_gcMixedRank.f kj1 l0_0 l0_1).bind fun t405 => ((spec_foSwapperAt.f kj1 (l0_4.length : Int) t405).bind fun bt406 => (if bt406.2.2.2.2.2.2 = true then ((spec_foSame.f kj1 l0_0 l0_1 l0_2 l0_3 bt406.1 bt406.2.1 bt406.2.2.1 bt406.2.2.2.1).bind fun t426 => (if t426 = true then ((spec_l1Same.f kj1 l0_4 bt406.2.2.2.2.1).bind fun t427 => (if t427 = true then ((spec_l1Same.f kj1 l0_5 bt406.2.2.2.2.2.1).bind fun t428 => (if t428 = true then (some t405) else (some (-1)))) else (some (-1)))) else (some (-1)))) else (some (-1))))) = some r := by rw [if_neg (show ¬ (false = true) by decide)] at H; exact H
    clear H
    have H := H1
    clear H1
    replace H := Z33.mp H
    obtain ⟨t405, A140, H⟩ := H
    replace H : ((spec_foSwapperAt.f kj1 (l0_4.length : Int) t405).bind fun bt406 => (if bt406.2.2.2.2.2.2 = true then ((spec_foSame.f kj1 l0_0 l0_1 l0_2 l0_3 bt406.1 bt406.2.1 bt406.2.2.1 bt406.2.2.2.1).bind fun t426 => (if t426 = true then ((spec_l1Same.f kj1 l0_4 bt406.2.2.2.2.1).bind fun t427 => (if t427 = true then ((spec_l1Same.f kj1 l0_5 bt406.2.2.2.2.2.1).bind fun t428 => (if t428 = true then (some t405) else (some (-1)))) else (some (-1)))) else (some (-1)))) else (some (-1)))) = some r := H
    have A14 := Ya A140
    clear A140
    replace H := Z33.mp H
    obtain ⟨⟨t406, t409, t412, t415, t418, t421, t424⟩, A150, H⟩ := H
    replace H : (if t424 = true then ((spec_foSame.f kj1 l0_0 l0_1 l0_2 l0_3 t406 t409 t412 t415).bind fun t426 => (if t426 = true then ((spec_l1Same.f kj1 l0_4 t418).bind fun t427 => (if t427 = true then ((spec_l1Same.f kj1 l0_5 t421).bind fun t428 => (if t428 = true then (some t405) else (some (-1)))) else (some (-1)))) else (some (-1)))) else (some (-1))) = some r := H
    have A15 := Ya A150
    clear A150
    by_cases c16 : t424 = true
    ·subst c16
     have H1 : ((spec_foSame.f kj1 l0_0 l0_1 l0_2 l0_3 t406 t409 t412 t415).bind fun t426 => (if t426 = true then ((spec_l1Same.f kj1 l0_4 t418).bind fun t427 => (if t427 = true then ((spec_l1Same.f kj1 l0_5 t421).bind fun t428 => (if t428 = true then (some t405) else (some (-1)))) else (some (-1)))) else (some (-1)))) = some r := by rw [if_pos rfl] at H; exact H
     clear H
     have H := H1
     clear H1
     replace H := Z33.mp H
     obtain ⟨t426, A170, H⟩ := H
     replace H : (if t426 = true then ((spec_l1Same.f kj1 l0_4 t418).bind fun t427 => (if t427 = true then ((spec_l1Same.f kj1 l0_5 t421).bind fun t428 => (if t428 = true then (some t405) else (some (-1)))) else (some (-1)))) else (some (-1))) = some r := H
     have A17 := Ya A170
     clear A170
     by_cases c18 : t426 = true
     ·subst c18
      have H1 : ((spec_l1Same.f kj1 l0_4 t418).bind fun t427 => (if t427 = true then ((spec_l1Same.f kj1 l0_5 t421).bind fun t428 => (if t428 = true then (some t405) else (some (-1)))) else (some (-1)))) = some r := by rw [if_pos rfl] at H; exact H
      clear H
      have H := H1
      clear H1
      replace H := Z33.mp H
      obtain ⟨t427, A190, H⟩ := H
      replace H : (if t427 = true then ((spec_l1Same.f kj1 l0_5 t421).bind fun t428 => (if t428 = true then (some t405) else (some (-1)))) else (some (-1))) = some r := H
      have A19 := Ya A190
      clear A190
      by_cases c20 : t427 = true
      ·subst c20
       have H1 : ((spec_l1Same.f kj1 l0_5 t421).bind fun t428 => (if t428 = true then (some t405) else (some (-1)))) = some r := by rw [if_pos rfl] at H; exact H
       clear H
       have H := H1
       clear H1
       replace H := Z33.mp H
       obtain ⟨t428, A210, H⟩ := H
       replace H : (if t428 = true then (some t405) else (some (-1))) = some r := H
       have A21 := Ya A210
       clear A210
       by_cases c22 : t428 = true
       ·subst c22
        have H1 : (some t405) = some r := by rw [if_pos rfl] at H; exact H
        clear H
        have H := H1
        clear H1
        obtain rfl := Option.some.inj H
        have hz23 := Y6 BK401.out
        go_wp2_with (first | ((with_reducible refine gate_callee (f := 61) rfl ?_); refine Yz 29 Try.func61 #[.slice A0_0 l0_0.length c0_0, .slice A0_1 l0_1.length c0_1] ?_; (with_reducible refine (spec_gcMixedRank.calls kj1 _ _ l0_0 _ _ l0_1 t405 _ (Yc (Z19 HR0_0.out HB.out)) HC0_0.out (Yc (Z19 HR0_1.out HB.out)) HC0_1.out A14.out).mono ?_); rintro e w24 ⟨rfl, hb⟩; refine ⟨_, rfl, ?_⟩; replace BK401 := Yb BK401 hb; replace HB := Yh hb; (try clear hb); have hz25 := Y6 BK401.out) | ((with_reducible refine gate_callee (f := 46) rfl ?_); refine Yz 35 Try.func46 #[.int .i64 (l0_4.length : Int), .int .i64 t405] ?_; (with_reducible refine (spec_foSwapperAt.calls kj1 (l0_4.length : Int) t405 t406 t409 t412 t415 t418 t421 true _ A15.out).mono ?_); rintro e w26 ⟨v407, v410, v413, v416, v419, v422, rfl, ho0, ho1, ho2, ho3, ho4, ho5, hb⟩; refine ⟨_, rfl, ?_⟩; have HO408 := Yl ho0; have HO411 := Yl ho1; have HO414 := Yl ho2; have HO417 := Yl ho3; have HO420 := Yl ho4; have HO423 := Yl ho5; replace BK401 := Yb BK401 hb; replace HB := Yh hb; (try clear hb ho0 ho1 ho2 ho3 ho4 ho5)) | ((with_reducible refine gate_dst (N := 4) rfl ?_); refine Yx 4 #[.slice none 0 0, .slice none 0 0, .slice none 0 0, .slice none 0 0, .slice none 0 0, .slice none 0 0] 35 ?_; intro gb425 hg w27 hbox hb; replace HO408 := Yw HO408 hb; replace HO411 := Yw HO411 hb; replace HO414 := Yw HO414 hb; replace HO417 := Yw HO417 hb; replace HO420 := Yw HO420 hb; replace HO423 := Yw HO423 hb; have BK425 := Ya hbox; have GE425 := Yg hg; replace HB := Yh hb; have NB401_425 := Yn BK401 hg; have NB425_401 := Ym BK401 hg; replace BK401 := Yb BK401 hb; clear hb hbox hg; obtain ⟨Ao28, co28, rfl⟩ := Z18 HO408.out; have hnb29 := NB425_401.out; have hnc29 := NB401_425.out; have hz30 := Y6 BK425.out; obtain ⟨Ao31, co31, rfl⟩ := Z18 HO411.out; obtain ⟨Ao32, co32, rfl⟩ := Z18 HO414.out; obtain ⟨Ao33, co33, rfl⟩ := Z18 HO417.out; obtain ⟨Ao34, co34, rfl⟩ := Z18 HO420.out; obtain ⟨Ao35, co35, rfl⟩ := Z18 HO423.out; have hz36 := Y6 BK401.out) | (go_at_call 62; (with_reducible refine (spec_foSame.calls kj1 _ _ l0_0 _ _ l0_1 _ _ l0_2 _ _ l0_3 _ _ t406 _ _ t409 _ _ t412 _ _ t415 true _ ?side1 HC0_0.out ?side3 HC0_1.out ?side5 HC0_2.out ?side7 HC0_3.out ?side9 ((Kd.R_reads' HO408.out).2.1) ?side11 ((Kd.R_reads' HO411.out).2.1) ?side13 ((Kd.R_reads' HO414.out).2.1) ?side15 ((Kd.R_reads' HO417.out).2.1) A17.out).mono ?_); (case side1 => exact Z19 HR0_0.out Q0); (case side3 => exact Z19 HR0_1.out Q0); (case side5 => exact Z19 HR0_2.out Q0); (case side7 => exact Z19 HR0_3.out Q0); (case side9 => refine (Kd.R_reads' (e := 3) (base := w.heap.size) (ok := fun k_ => (some k_ ≠ (.slice Ao31 t409.length co31 : Value).ownBlock ∧ (some k_ ≠ (.slice Ao33 t415.length co33 : Value).ownBlock ∧ (some k_ ≠ (.slice Ao34 t418.length co34 : Value).ownBlock ∧ some k_ ≠ (.slice Ao35 t421.length co35 : Value).ownBlock)))) (n := t406.length) (c := co28) ?_).2.2; exact Q18); (case side11 => refine (Kd.R_reads' (e := 3) (base := w.heap.size) (ok := fun k_ => (some k_ ≠ (.slice Ao28 t406.length co28 : Value).ownBlock ∧ (some k_ ≠ (.slice Ao33 t415.length co33 : Value).ownBlock ∧ (some k_ ≠ (.slice Ao34 t418.length co34 : Value).ownBlock ∧ some k_ ≠ (.slice Ao35 t421.length co35 : Value).ownBlock)))) (n := t409.length) (c := co31) ?_).2.2; exact Q17); (case side13 => refine (Kd.R_reads' (e := 4) (base := w.heap.size) (ok := fun k_ => True) (n := t412.length) (c := co32) ?_).2.2; exact Q16); (case side15 => refine (Kd.R_reads' (e := 3) (base := w.heap.size) (ok := fun k_ => (some k_ ≠ (.slice Ao28 t406.length co28 : Value).ownBlock ∧ (some k_ ≠ (.slice Ao31 t409.length co31 : Value).ownBlock ∧ (some k_ ≠ (.slice Ao34 t418.length co34 : Value).ownBlock ∧ some k_ ≠ (.slice Ao35 t421.length co35 : Value).ownBlock)))) (n := t415.length) (c := co33) ?_).2.2; exact Q15); rintro e w37 ⟨rfl, hb⟩; replace HO408 := Ya (Z13 Q18 hb); replace HO411 := Ya (Z13 Q17 hb); replace HO414 := Ya (Z13 Q16 hb); replace HO417 := Ya (Z13 Q15 hb); replace HO420 := Ya (Z13 Q37 hb); replace HO423 := Ya (Z13 Q36 hb); replace BK401 := Yb ⟨Yo6 BK401.out NB401_425.out⟩ hb; replace BK425 := Yb ⟨Yv6 BK425.out⟩ hb; replace HB := Yh hb; (try clear hb); have hz38 := Y6 BK401.out; have hz39 := Y6 BK425.out) | (go_at_call 70; (with_reducible refine (spec_l1Same.calls kj1 _ _ l0_4 _ _ t418 true _ (Yc (Z19 HR0_4.out HB.out)) HC0_4.out (Yc (Kd.R_reads' HO420.out).2.2) ((Kd.R_reads' HO420.out).2.1) A19.out).mono ?_); rintro e w' ⟨rfl, ⟨nd, rfl⟩⟩) | (go_at_call 70; (with_reducible refine (spec_l1Same.calls kj1 _ _ l0_5 _ _ t421 true _ ?side1 HC0_5.out (Yc (Kd.R_reads' HO423.out).2.2) ((Kd.R_reads' HO423.out).2.1) A21.out).mono ?_); (case side1 => exact Yc (Z19 HR0_5.out Q0)); rintro e w' ⟨rfl, ⟨nd, rfl⟩⟩))
        go_ret
        exact ⟨Q2, Q12⟩
       ·replace c22 := Bool.eq_false_iff.mpr c22
        subst c22
        have H1 : (some (-1)) = some r := by rw [if_neg (show ¬ (false = true) by decide)] at H; exact H
        clear H
        have H := H1
        clear H1
        obtain rfl := Option.some.inj H
        have hz40 := Y6 BK401.out
        go_wp2_with (first | ((with_reducible refine gate_callee (f := 61) rfl ?_); refine Yz 29 Try.func61 #[.slice A0_0 l0_0.length c0_0, .slice A0_1 l0_1.length c0_1] ?_; (with_reducible refine (spec_gcMixedRank.calls kj1 _ _ l0_0 _ _ l0_1 t405 _ (Yc (Z19 HR0_0.out HB.out)) HC0_0.out (Yc (Z19 HR0_1.out HB.out)) HC0_1.out A14.out).mono ?_); rintro e w41 ⟨rfl, hb⟩; refine ⟨_, rfl, ?_⟩; replace BK401 := Yb BK401 hb; replace HB := Yh hb; (try clear hb); have hz42 := Y6 BK401.out) | ((with_reducible refine gate_callee (f := 46) rfl ?_); refine Yz 35 Try.func46 #[.int .i64 (l0_4.length : Int), .int .i64 t405] ?_; (with_reducible refine (spec_foSwapperAt.calls kj1 (l0_4.length : Int) t405 t406 t409 t412 t415 t418 t421 true _ A15.out).mono ?_); rintro e w43 ⟨v407, v410, v413, v416, v419, v422, rfl, ho0, ho1, ho2, ho3, ho4, ho5, hb⟩; refine ⟨_, rfl, ?_⟩; have HO408 := Yl ho0; have HO411 := Yl ho1; have HO414 := Yl ho2; have HO417 := Yl ho3; have HO420 := Yl ho4; have HO423 := Yl ho5; replace BK401 := Yb BK401 hb; replace HB := Yh hb; (try clear hb ho0 ho1 ho2 ho3 ho4 ho5)) | ((with_reducible refine gate_dst (N := 4) rfl ?_); refine Yx 4 #[.slice none 0 0, .slice none 0 0, .slice none 0 0, .slice none 0 0, .slice none 0 0, .slice none 0 0] 35 ?_; intro gb425 hg w44 hbox hb; replace HO408 := Yw HO408 hb; replace HO411 := Yw HO411 hb; replace HO414 := Yw HO414 hb; replace HO417 := Yw HO417 hb; replace HO420 := Yw HO420 hb; replace HO423 := Yw HO423 hb; have BK425 := Ya hbox; have GE425 := Yg hg; replace HB := Yh hb; have NB401_425 := Yn BK401 hg; have NB425_401 := Ym BK401 hg; replace BK401 := Yb BK401 hb; clear hb hbox hg; obtain ⟨Ao45, co45, rfl⟩ := Z18 HO408.out; have hnb46 := NB425_401.out; have hnc46 := NB401_425.out; have hz47 := Y6 BK425.out; obtain ⟨Ao48, co48, rfl⟩ := Z18 HO411.out; obtain ⟨Ao49, co49, rfl⟩ := Z18 HO414.out; obtain ⟨Ao50, co50, rfl⟩ := Z18 HO417.out; obtain ⟨Ao51, co51, rfl⟩ := Z18 HO420.out; obtain ⟨Ao52, co52, rfl⟩ := Z18 HO423.out; have hz53 := Y6 BK401.out) | (go_at_call 62; (with_reducible refine (spec_foSame.calls kj1 _ _ l0_0 _ _ l0_1 _ _ l0_2 _ _ l0_3 _ _ t406 _ _ t409 _ _ t412 _ _ t415 true _ ?side1 HC0_0.out ?side3 HC0_1.out ?side5 HC0_2.out ?side7 HC0_3.out ?side9 ((Kd.R_reads' HO408.out).2.1) ?side11 ((Kd.R_reads' HO411.out).2.1) ?side13 ((Kd.R_reads' HO414.out).2.1) ?side15 ((Kd.R_reads' HO417.out).2.1) A17.out).mono ?_); (case side1 => exact Z19 HR0_0.out Q0); (case side3 => exact Z19 HR0_1.out Q0); (case side5 => exact Z19 HR0_2.out Q0); (case side7 => exact Z19 HR0_3.out Q0); (case side9 => refine (Kd.R_reads' (e := 3) (base := w.heap.size) (ok := fun k_ => (some k_ ≠ (.slice Ao48 t409.length co48 : Value).ownBlock ∧ (some k_ ≠ (.slice Ao50 t415.length co50 : Value).ownBlock ∧ (some k_ ≠ (.slice Ao51 t418.length co51 : Value).ownBlock ∧ some k_ ≠ (.slice Ao52 t421.length co52 : Value).ownBlock)))) (n := t406.length) (c := co45) ?_).2.2; exact Q18); (case side11 => refine (Kd.R_reads' (e := 3) (base := w.heap.size) (ok := fun k_ => (some k_ ≠ (.slice Ao45 t406.length co45 : Value).ownBlock ∧ (some k_ ≠ (.slice Ao50 t415.length co50 : Value).ownBlock ∧ (some k_ ≠ (.slice Ao51 t418.length co51 : Value).ownBlock ∧ some k_ ≠ (.slice Ao52 t421.length co52 : Value).ownBlock)))) (n := t409.length) (c := co48) ?_).2.2; exact Q17); (case side13 => refine (Kd.R_reads' (e := 4) (base := w.heap.size) (ok := fun k_ => True) (n := t412.length) (c := co49) ?_).2.2; exact Q16); (case side15 => refine (Kd.R_reads' (e := 3) (base := w.heap.size) (ok := fun k_ => (some k_ ≠ (.slice Ao45 t406.length co45 : Value).ownBlock ∧ (some k_ ≠ (.slice Ao48 t409.length co48 : Value).ownBlock ∧ (some k_ ≠ (.slice Ao51 t418.length co51 : Value).ownBlock ∧ some k_ ≠ (.slice Ao52 t421.length co52 : Value).ownBlock)))) (n := t415.length) (c := co50) ?_).2.2; exact Q15); rintro e w54 ⟨rfl, hb⟩; replace HO408 := Ya (Z13 Q18 hb); replace HO411 := Ya (Z13 Q17 hb); replace HO414 := Ya (Z13 Q16 hb); replace HO417 := Ya (Z13 Q15 hb); replace HO420 := Ya (Z13 Q37 hb); replace HO423 := Ya (Z13 Q36 hb); replace BK401 := Yb ⟨Yo6 BK401.out NB401_425.out⟩ hb; replace BK425 := Yb ⟨Yv6 BK425.out⟩ hb; replace HB := Yh hb; (try clear hb); have hz55 := Y6 BK401.out; have hz56 := Y6 BK425.out) | (go_at_call 70; (with_reducible refine (spec_l1Same.calls kj1 _ _ l0_4 _ _ t418 true _ (Yc (Z19 HR0_4.out HB.out)) HC0_4.out (Yc (Kd.R_reads' HO420.out).2.2) ((Kd.R_reads' HO420.out).2.1) A19.out).mono ?_); rintro e w' ⟨rfl, ⟨nd, rfl⟩⟩) | (go_at_call 70; (with_reducible refine (spec_l1Same.calls kj1 _ _ l0_5 _ _ t421 false _ ?side1 HC0_5.out (Yc (Kd.R_reads' HO423.out).2.2) ((Kd.R_reads' HO423.out).2.1) A21.out).mono ?_); (case side1 => exact Yc (Z19 HR0_5.out Q0)); rintro e w' ⟨rfl, ⟨nd, rfl⟩⟩))
        go_ret
        exact ⟨Q2, Q12⟩
      ·replace c20 := Bool.eq_false_iff.mpr c20
       subst c20
       have H1 : (some (-1)) = some r := by rw [if_neg (show ¬ (false = true) by decide)] at H; exact H
       clear H
       have H := H1
       clear H1
       obtain rfl := Option.some.inj H
       have hz57 := Y6 BK401.out
       go_wp2_with (first | ((with_reducible refine gate_callee (f := 61) rfl ?_); refine Yz 29 Try.func61 #[.slice A0_0 l0_0.length c0_0, .slice A0_1 l0_1.length c0_1] ?_; (with_reducible refine (spec_gcMixedRank.calls kj1 _ _ l0_0 _ _ l0_1 t405 _ (Yc (Z19 HR0_0.out HB.out)) HC0_0.out (Yc (Z19 HR0_1.out HB.out)) HC0_1.out A14.out).mono ?_); rintro e w58 ⟨rfl, hb⟩; refine ⟨_, rfl, ?_⟩; replace BK401 := Yb BK401 hb; replace HB := Yh hb; (try clear hb); have hz59 := Y6 BK401.out) | ((with_reducible refine gate_callee (f := 46) rfl ?_); refine Yz 35 Try.func46 #[.int .i64 (l0_4.length : Int), .int .i64 t405] ?_; (with_reducible refine (spec_foSwapperAt.calls kj1 (l0_4.length : Int) t405 t406 t409 t412 t415 t418 t421 true _ A15.out).mono ?_); rintro e w60 ⟨v407, v410, v413, v416, v419, v422, rfl, ho0, ho1, ho2, ho3, ho4, ho5, hb⟩; refine ⟨_, rfl, ?_⟩; have HO408 := Yl ho0; have HO411 := Yl ho1; have HO414 := Yl ho2; have HO417 := Yl ho3; have HO420 := Yl ho4; have HO423 := Yl ho5; replace BK401 := Yb BK401 hb; replace HB := Yh hb; (try clear hb ho0 ho1 ho2 ho3 ho4 ho5)) | ((with_reducible refine gate_dst (N := 4) rfl ?_); refine Yx 4 #[.slice none 0 0, .slice none 0 0, .slice none 0 0, .slice none 0 0, .slice none 0 0, .slice none 0 0] 35 ?_; intro gb425 hg w61 hbox hb; replace HO408 := Yw HO408 hb; replace HO411 := Yw HO411 hb; replace HO414 := Yw HO414 hb; replace HO417 := Yw HO417 hb; replace HO420 := Yw HO420 hb; replace HO423 := Yw HO423 hb; have BK425 := Ya hbox; have GE425 := Yg hg; replace HB := Yh hb; have NB401_425 := Yn BK401 hg; have NB425_401 := Ym BK401 hg; replace BK401 := Yb BK401 hb; clear hb hbox hg; obtain ⟨Ao62, co62, rfl⟩ := Z18 HO408.out; have hnb63 := NB425_401.out; have hnc63 := NB401_425.out; have hz64 := Y6 BK425.out; obtain ⟨Ao65, co65, rfl⟩ := Z18 HO411.out; obtain ⟨Ao66, co66, rfl⟩ := Z18 HO414.out; obtain ⟨Ao67, co67, rfl⟩ := Z18 HO417.out; obtain ⟨Ao68, co68, rfl⟩ := Z18 HO420.out; obtain ⟨Ao69, co69, rfl⟩ := Z18 HO423.out; have hz70 := Y6 BK401.out) | (go_at_call 62; (with_reducible refine (spec_foSame.calls kj1 _ _ l0_0 _ _ l0_1 _ _ l0_2 _ _ l0_3 _ _ t406 _ _ t409 _ _ t412 _ _ t415 true _ ?side1 HC0_0.out ?side3 HC0_1.out ?side5 HC0_2.out ?side7 HC0_3.out ?side9 ((Kd.R_reads' HO408.out).2.1) ?side11 ((Kd.R_reads' HO411.out).2.1) ?side13 ((Kd.R_reads' HO414.out).2.1) ?side15 ((Kd.R_reads' HO417.out).2.1) A17.out).mono ?_); (case side1 => exact Z19 HR0_0.out Q0); (case side3 => exact Z19 HR0_1.out Q0); (case side5 => exact Z19 HR0_2.out Q0); (case side7 => exact Z19 HR0_3.out Q0); (case side9 => refine (Kd.R_reads' (e := 3) (base := w.heap.size) (ok := fun k_ => (some k_ ≠ (.slice Ao65 t409.length co65 : Value).ownBlock ∧ (some k_ ≠ (.slice Ao67 t415.length co67 : Value).ownBlock ∧ (some k_ ≠ (.slice Ao68 t418.length co68 : Value).ownBlock ∧ some k_ ≠ (.slice Ao69 t421.length co69 : Value).ownBlock)))) (n := t406.length) (c := co62) ?_).2.2; exact Q18); (case side11 => refine (Kd.R_reads' (e := 3) (base := w.heap.size) (ok := fun k_ => (some k_ ≠ (.slice Ao62 t406.length co62 : Value).ownBlock ∧ (some k_ ≠ (.slice Ao67 t415.length co67 : Value).ownBlock ∧ (some k_ ≠ (.slice Ao68 t418.length co68 : Value).ownBlock ∧ some k_ ≠ (.slice Ao69 t421.length co69 : Value).ownBlock)))) (n := t409.length) (c := co65) ?_).2.2; exact Q17); (case side13 => refine (Kd.R_reads' (e := 4) (base := w.heap.size) (ok := fun k_ => True) (n := t412.length) (c := co66) ?_).2.2; exact Q16); (case side15 => refine (Kd.R_reads' (e := 3) (base := w.heap.size) (ok := fun k_ => (some k_ ≠ (.slice Ao62 t406.length co62 : Value).ownBlock ∧ (some k_ ≠ (.slice Ao65 t409.length co65 : Value).ownBlock ∧ (some k_ ≠ (.slice Ao68 t418.length co68 : Value).ownBlock ∧ some k_ ≠ (.slice Ao69 t421.length co69 : Value).ownBlock)))) (n := t415.length) (c := co67) ?_).2.2; exact Q15); rintro e w71 ⟨rfl, hb⟩; replace HO408 := Ya (Z13 Q18 hb); replace HO411 := Ya (Z13 Q17 hb); replace HO414 := Ya (Z13 Q16 hb); replace HO417 := Ya (Z13 Q15 hb); replace HO420 := Ya (Z13 Q37 hb); replace HO423 := Ya (Z13 Q36 hb); replace BK401 := Yb ⟨Yo6 BK401.out NB401_425.out⟩ hb; replace BK425 := Yb ⟨Yv6 BK425.out⟩ hb; replace HB := Yh hb; (try clear hb); have hz72 := Y6 BK401.out; have hz73 := Y6 BK425.out) | (go_at_call 70; (with_reducible refine (spec_l1Same.calls kj1 _ _ l0_4 _ _ t418 false _ (Yc (Z19 HR0_4.out HB.out)) HC0_4.out (Yc (Kd.R_reads' HO420.out).2.2) ((Kd.R_reads' HO420.out).2.1) A19.out).mono ?_); rintro e w' ⟨rfl, ⟨nd, rfl⟩⟩))
       go_ret
       exact ⟨Q2, Q12⟩
     ·replace c18 := Bool.eq_false_iff.mpr c18
      subst c18
      have H1 : (some (-1)) = some r := by rw [if_neg (show ¬ (false = true) by decide)] at H; exact H
      clear H
      have H := H1
      clear H1
      obtain rfl := Option.some.inj H
      have hz74 := Y6 BK401.out
      go_wp2_with (first | ((with_reducible refine gate_callee (f := 61) rfl ?_); refine Yz 29 Try.func61 #[.slice A0_0 l0_0.length c0_0, .slice A0_1 l0_1.length c0_1] ?_; (with_reducible refine (spec_gcMixedRank.calls kj1 _ _ l0_0 _ _ l0_1 t405 _ (Yc (Z19 HR0_0.out HB.out)) HC0_0.out (Yc (Z19 HR0_1.out HB.out)) HC0_1.out A14.out).mono ?_); rintro e w75 ⟨rfl, hb⟩; refine ⟨_, rfl, ?_⟩; replace BK401 := Yb BK401 hb; replace HB := Yh hb; (try clear hb); have hz76 := Y6 BK401.out) | ((with_reducible refine gate_callee (f := 46) rfl ?_); refine Yz 35 Try.func46 #[.int .i64 (l0_4.length : Int), .int .i64 t405] ?_; (with_reducible refine (spec_foSwapperAt.calls kj1 (l0_4.length : Int) t405 t406 t409 t412 t415 t418 t421 true _ A15.out).mono ?_); rintro e w77 ⟨v407, v410, v413, v416, v419, v422, rfl, ho0, ho1, ho2, ho3, ho4, ho5, hb⟩; refine ⟨_, rfl, ?_⟩; have HO408 := Yl ho0; have HO411 := Yl ho1; have HO414 := Yl ho2; have HO417 := Yl ho3; have HO420 := Yl ho4; have HO423 := Yl ho5; replace BK401 := Yb BK401 hb; replace HB := Yh hb; (try clear hb ho0 ho1 ho2 ho3 ho4 ho5)) | ((with_reducible refine gate_dst (N := 4) rfl ?_); refine Yx 4 #[.slice none 0 0, .slice none 0 0, .slice none 0 0, .slice none 0 0, .slice none 0 0, .slice none 0 0] 35 ?_; intro gb425 hg w78 hbox hb; replace HO408 := Yw HO408 hb; replace HO411 := Yw HO411 hb; replace HO414 := Yw HO414 hb; replace HO417 := Yw HO417 hb; replace HO420 := Yw HO420 hb; replace HO423 := Yw HO423 hb; have BK425 := Ya hbox; have GE425 := Yg hg; replace HB := Yh hb; have NB401_425 := Yn BK401 hg; have NB425_401 := Ym BK401 hg; replace BK401 := Yb BK401 hb; clear hb hbox hg; obtain ⟨Ao79, co79, rfl⟩ := Z18 HO408.out; have hnb80 := NB425_401.out; have hnc80 := NB401_425.out; have hz81 := Y6 BK425.out; obtain ⟨Ao82, co82, rfl⟩ := Z18 HO411.out; obtain ⟨Ao83, co83, rfl⟩ := Z18 HO414.out; obtain ⟨Ao84, co84, rfl⟩ := Z18 HO417.out; obtain ⟨Ao85, co85, rfl⟩ := Z18 HO420.out; obtain ⟨Ao86, co86, rfl⟩ := Z18 HO423.out; have hz87 := Y6 BK401.out) | (go_at_call 62; (with_reducible refine (spec_foSame.calls kj1 _ _ l0_0 _ _ l0_1 _ _ l0_2 _ _ l0_3 _ _ t406 _ _ t409 _ _ t412 _ _ t415 false _ ?side1 HC0_0.out ?side3 HC0_1.out ?side5 HC0_2.out ?side7 HC0_3.out ?side9 ((Kd.R_reads' HO408.out).2.1) ?side11 ((Kd.R_reads' HO411.out).2.1) ?side13 ((Kd.R_reads' HO414.out).2.1) ?side15 ((Kd.R_reads' HO417.out).2.1) A17.out).mono ?_); (case side1 => exact Z19 HR0_0.out Q0); (case side3 => exact Z19 HR0_1.out Q0); (case side5 => exact Z19 HR0_2.out Q0); (case side7 => exact Z19 HR0_3.out Q0); (case side9 => refine (Kd.R_reads' (e := 3) (base := w.heap.size) (ok := fun k_ => (some k_ ≠ (.slice Ao82 t409.length co82 : Value).ownBlock ∧ (some k_ ≠ (.slice Ao84 t415.length co84 : Value).ownBlock ∧ (some k_ ≠ (.slice Ao85 t418.length co85 : Value).ownBlock ∧ some k_ ≠ (.slice Ao86 t421.length co86 : Value).ownBlock)))) (n := t406.length) (c := co79) ?_).2.2; exact Q18); (case side11 => refine (Kd.R_reads' (e := 3) (base := w.heap.size) (ok := fun k_ => (some k_ ≠ (.slice Ao79 t406.length co79 : Value).ownBlock ∧ (some k_ ≠ (.slice Ao84 t415.length co84 : Value).ownBlock ∧ (some k_ ≠ (.slice Ao85 t418.length co85 : Value).ownBlock ∧ some k_ ≠ (.slice Ao86 t421.length co86 : Value).ownBlock)))) (n := t409.length) (c := co82) ?_).2.2; exact Q17); (case side13 => refine (Kd.R_reads' (e := 4) (base := w.heap.size) (ok := fun k_ => True) (n := t412.length) (c := co83) ?_).2.2; exact Q16); (case side15 => refine (Kd.R_reads' (e := 3) (base := w.heap.size) (ok := fun k_ => (some k_ ≠ (.slice Ao79 t406.length co79 : Value).ownBlock ∧ (some k_ ≠ (.slice Ao82 t409.length co82 : Value).ownBlock ∧ (some k_ ≠ (.slice Ao85 t418.length co85 : Value).ownBlock ∧ some k_ ≠ (.slice Ao86 t421.length co86 : Value).ownBlock)))) (n := t415.length) (c := co84) ?_).2.2; exact Q15); rintro e w88 ⟨rfl, hb⟩; replace HO408 := Ya (Z13 Q18 hb); replace HO411 := Ya (Z13 Q17 hb); replace HO414 := Ya (Z13 Q16 hb); replace HO417 := Ya (Z13 Q15 hb); replace HO420 := Ya (Z13 Q37 hb); replace HO423 := Ya (Z13 Q36 hb); replace BK401 := Yb ⟨Yo6 BK401.out NB401_425.out⟩ hb; replace BK425 := Yb ⟨Yv6 BK425.out⟩ hb; replace HB := Yh hb; (try clear hb)))
      go_ret
      exact ⟨Q2, Q12⟩
    ·replace c16 := Bool.eq_false_iff.mpr c16
     subst c16
     have H1 : (some (-1)) = some r := by rw [if_neg (show ¬ (false = true) by decide)] at H; exact H
     clear H
     have H := H1
     clear H1
     obtain rfl := Option.some.inj H
     have hz89 := Y6 BK401.out
     go_wp2_with (first | ((with_reducible refine gate_callee (f := 61) rfl ?_); refine Yz 29 Try.func61 #[.slice A0_0 l0_0.length c0_0, .slice A0_1 l0_1.length c0_1] ?_; (with_reducible refine (spec_gcMixedRank.calls kj1 _ _ l0_0 _ _ l0_1 t405 _ (Yc (Z19 HR0_0.out HB.out)) HC0_0.out (Yc (Z19 HR0_1.out HB.out)) HC0_1.out A14.out).mono ?_); rintro e w90 ⟨rfl, hb⟩; refine ⟨_, rfl, ?_⟩; replace BK401 := Yb BK401 hb; replace HB := Yh hb; (try clear hb); have hz91 := Y6 BK401.out) | ((with_reducible refine gate_callee (f := 46) rfl ?_); refine Yz 35 Try.func46 #[.int .i64 (l0_4.length : Int), .int .i64 t405] ?_; (with_reducible refine (spec_foSwapperAt.calls kj1 (l0_4.length : Int) t405 t406 t409 t412 t415 t418 t421 false _ A15.out).mono ?_); rintro e w92 ⟨v407, v410, v413, v416, v419, v422, rfl, ho0, ho1, ho2, ho3, ho4, ho5, hb⟩; refine ⟨_, rfl, ?_⟩; have HO408 := Yl ho0; have HO411 := Yl ho1; have HO414 := Yl ho2; have HO417 := Yl ho3; have HO420 := Yl ho4; have HO423 := Yl ho5; replace BK401 := Yb BK401 hb; replace HB := Yh hb; (try clear hb ho0 ho1 ho2 ho3 ho4 ho5)) | ((with_reducible refine gate_dst (N := 4) rfl ?_); refine Yx 4 #[.slice none 0 0, .slice none 0 0, .slice none 0 0, .slice none 0 0, .slice none 0 0, .slice none 0 0] 35 ?_; intro gb425 hg w93 hbox hb; replace HO408 := Yw HO408 hb; replace HO411 := Yw HO411 hb; replace HO414 := Yw HO414 hb; replace HO417 := Yw HO417 hb; replace HO420 := Yw HO420 hb; replace HO423 := Yw HO423 hb; have BK425 := Ya hbox; have GE425 := Yg hg; replace HB := Yh hb; have NB401_425 := Yn BK401 hg; have NB425_401 := Ym BK401 hg; replace BK401 := Yb BK401 hb; clear hb hbox hg; obtain ⟨Ao94, co94, rfl⟩ := Z18 HO408.out; have hnb95 := NB425_401.out; have hnc95 := NB401_425.out; have hz96 := Y6 BK425.out; obtain ⟨Ao97, co97, rfl⟩ := Z18 HO411.out; obtain ⟨Ao98, co98, rfl⟩ := Z18 HO414.out; obtain ⟨Ao99, co99, rfl⟩ := Z18 HO417.out; obtain ⟨Ao100, co100, rfl⟩ := Z18 HO420.out; obtain ⟨Ao101, co101, rfl⟩ := Z18 HO423.out))
     go_ret
     exact ⟨Q2, Q12⟩
def spec_SwapperRank.f (k : Nat) (l0_0 : List Int) (l0_1 : List Int) (l0_2 : List Bool) (l0_3 : List Int) (l0_4 : List Int) (l0_5 : List Int) : Option (Int × Bool) := (spec_foRank.f k l0_0 l0_1 l0_2 l0_3 l0_4 l0_5).bind fun t430 => (if t430 < 0 then (some (0, false)) else (some (t430, true)))
theorem spec_SwapperRank.mono : ∀ a0 a1 a2 a3 a4 a5 k, LeO (spec_SwapperRank.f k a0 a1 a2 a3 a4 a5) (spec_SwapperRank.f (k + 1) a0 a1 a2 a3 a4 a5) := by
 intro a0 a1 a2 a3 a4 a5 k
 unfold spec_SwapperRank.f
 repeat' first
   | (with_reducible exact spec_foRank.mono _ _ _ _ _ _ _)
   | (with_reducible exact LeO.refl _)
   | (with_reducible exact LeO.none _)
   | (with_reducible refine LeO.ite ?_ ?_)
   | (with_reducible refine LeO.bind ?_ (fun _ => ?_))
   | exact spec_foRank.mono _ _ _ _ _ _ _
   | exact LeO.none _
   | refine LeO.ite ?_ ?_
   | refine LeO.bind ?_ (fun _ => ?_)
set_option maxHeartbeats 8000000 in
set_option maxRecDepth 100000 in
theorem spec_SwapperRank.calls (k : Nat) (A0_0 : Option Addr) (c0_0 : Nat) (l0_0 : List Int) (A0_1 : Option Addr) (c0_1 : Nat) (l0_1 : List Int) (A0_2 : Option Addr) (c0_2 : Nat) (l0_2 : List Bool) (A0_3 : Option Addr) (c0_3 : Nat) (l0_3 : List Int) (A0_4 : Option Addr) (c0_4 : Nat) (l0_4 : List Int) (A0_5 : Option Addr) (c0_5 : Nat) (l0_5 : List Int) (r1 : Int) (r2 : Bool) (w : World) (hr0_0 : Kd.C (Kd.int .i64) w A0_0 l0_0.length l0_0) (hc0_0 : l0_0.length ≤ c0_0) (hr0_1 : Kd.C (Kd.int .i64) w A0_1 l0_1.length l0_1) (hc0_1 : l0_1.length ≤ c0_1) (hr0_2 : Kd.C Kd.bool w A0_2 l0_2.length l0_2) (hc0_2 : l0_2.length ≤ c0_2) (hr0_3 : Kd.C (Kd.int .i64) w A0_3 l0_3.length l0_3) (hc0_3 : l0_3.length ≤ c0_3) (hr0_4 : Kd.C (Kd.int .i64) w A0_4 l0_4.length l0_4) (hc0_4 : l0_4.length ≤ c0_4) (hr0_5 : Kd.C (Kd.int .i64) w A0_5 l0_5.length l0_5) (hc0_5 : l0_5.length ≤ c0_5) (h : spec_SwapperRank.f k l0_0 l0_1 l0_2 l0_3 l0_4 l0_5 = some (r1, r2)) :
  Calls Try.prog 24 #[.agg #[.slice A0_0 l0_0.length c0_0, .slice A0_1 l0_1.length c0_1, .slice A0_2 l0_2.length c0_2, .slice A0_3 l0_3.length c0_3, .slice A0_4 l0_4.length c0_4, .slice A0_5 l0_5.length c0_5]] w fun e w' => e = .returned (.tuple #[.int .i64 r1, .bool r2]) ∧ Below w.heap.size w w' := by
 have hu35 := Try.underlying35
 have HR0_0 := Ya hr0_0
 have HC0_0 := Ya hc0_0
 clear hr0_0 hc0_0
 have HR0_1 := Ya hr0_1
 have HC0_1 := Ya hc0_1
 clear hr0_1 hc0_1
 have HR0_2 := Ya hr0_2
 have HC0_2 := Ya hc0_2
 clear hr0_2 hc0_2
 have HR0_3 := Ya hr0_3
 have HC0_3 := Ya hc0_3
 clear hr0_3 hc0_3
 have HR0_4 := Ya hr0_4
 have HC0_4 := Ya hc0_4
 clear hr0_4 hc0_4
 have HR0_5 := Ya hr0_5
 have HC0_5 := Ya hc0_5
 clear hr0_5 hc0_5
 have HB := Ya (Below.refl w.heap.size w)
 have H : ((spec_foRank.f k l0_0 l0_1 l0_2 l0_3 l0_4 l0_5).bind fun t430 => (if t430 < 0 then (some (0, false)) else (some (t430, true)))) = some (r1, r2) := h
 clear h
 replace H := Z33.mp H
 obtain ⟨t430, A20, H⟩ := H
 replace H : (if t430 < 0 then (some (0, false)) else (some (t430, true))) = some (r1, r2) := H
 have A2 := Ya A20
 clear A20
 by_cases c3 : t430 < 0
 ·rw [if_pos c3] at H
  have c3b0 : decide (t430 < 0) = true := Z35 c3
  clear c3
  simp only [Option.some.injEq, Prod.mk.injEq] at H
  obtain ⟨rfl, rfl⟩ := H
  go_enter Try.func24, Try.ntmps24
  go_wp2_with (first | ((with_reducible refine gate_dst (N := 1) rfl ?_); refine Yx 1 #[.slice A0_0 l0_0.length c0_0, .slice A0_1 l0_1.length c0_1, .slice A0_2 l0_2.length c0_2, .slice A0_3 l0_3.length c0_3, .slice A0_4 l0_4.length c0_4, .slice A0_5 l0_5.length c0_5] 35 ?_; intro gb429 hg w4 hbox hb; have BK429 := Ya hbox; have GE429 := Yg hg; replace HB := Yh hb; clear hb hbox hg; have hz5 := Y6 BK429.out) | ((with_reducible refine gate_callee (f := 51) rfl ?_); refine Yz 6 Try.func51 #[.agg #[.slice A0_0 l0_0.length c0_0, .slice A0_1 l0_1.length c0_1, .slice A0_2 l0_2.length c0_2, .slice A0_3 l0_3.length c0_3, .slice A0_4 l0_4.length c0_4, .slice A0_5 l0_5.length c0_5]] ?_; (with_reducible refine (spec_foRank.calls k _ _ l0_0 _ _ l0_1 _ _ l0_2 _ _ l0_3 _ _ l0_4 _ _ l0_5 t430 _ (Yc (Z19 HR0_0.out HB.out)) HC0_0.out (Yc (Z19 HR0_1.out HB.out)) HC0_1.out (Yc (Z19 HR0_2.out HB.out)) HC0_2.out (Yc (Z19 HR0_3.out HB.out)) HC0_3.out (Yc (Z19 HR0_4.out HB.out)) HC0_4.out (Yc (Z19 HR0_5.out HB.out)) HC0_5.out A2.out).mono ?_); rintro e w6 ⟨rfl, hb⟩; refine ⟨_, rfl, ?_⟩; replace BK429 := Yb BK429 hb; replace HB := Yh hb; (try clear hb)))
  go_ret2
  exact ⟨Q2, Q12⟩
 ·rw [if_neg c3] at H
  have c3b0 : decide (t430 < 0) = false := Z34 c3
  clear c3
  simp only [Option.some.injEq, Prod.mk.injEq] at H
  obtain ⟨rfl, rfl⟩ := H
  go_enter Try.func24, Try.ntmps24
  go_wp2_with (first | ((with_reducible refine gate_dst (N := 1) rfl ?_); refine Yx 1 #[.slice A0_0 l0_0.length c0_0, .slice A0_1 l0_1.length c0_1, .slice A0_2 l0_2.length c0_2, .slice A0_3 l0_3.length c0_3, .slice A0_4 l0_4.length c0_4, .slice A0_5 l0_5.length c0_5] 35 ?_; intro gb429 hg w7 hbox hb; have BK429 := Ya hbox; have GE429 := Yg hg; replace HB := Yh hb; clear hb hbox hg; have hz8 := Y6 BK429.out) | ((with_reducible refine gate_callee (f := 51) rfl ?_); refine Yz 6 Try.func51 #[.agg #[.slice A0_0 l0_0.length c0_0, .slice A0_1 l0_1.length c0_1, .slice A0_2 l0_2.length c0_2, .slice A0_3 l0_3.length c0_3, .slice A0_4 l0_4.length c0_4, .slice A0_5 l0_5.length c0_5]] ?_; (with_reducible refine (spec_foRank.calls k _ _ l0_0 _ _ l0_1 _ _ l0_2 _ _ l0_3 _ _ l0_4 _ _ l0_5 t430 _ (Yc (Z19 HR0_0.out HB.out)) HC0_0.out (Yc (Z19 HR0_1.out HB.out)) HC0_1.out (Yc (Z19 HR0_2.out HB.out)) HC0_2.out (Yc (Z19 HR0_3.out HB.out)) HC0_3.out (Yc (Z19 HR0_4.out HB.out)) HC0_4.out (Yc (Z19 HR0_5.out HB.out)) HC0_5.out A2.out).mono ?_); rintro e w9 ⟨rfl, hb⟩; refine ⟨_, rfl, ?_⟩; replace BK429 := Yb BK429 hb; replace HB := Yh hb; (try clear hb)))
  go_ret2
  exact ⟨Q2, Q12⟩
def impl_size.l0 : Nat → Int → List Int → Int → Int → Option (Int)
 | 0, _, _, _, _ => none
 | k + 1, x3, x6, x7, x8 => if x8 < x7 then (if 0 ≤ x8 then (if x8 < (x6.length : Int) then (impl_size.l0 k (mn (wrap64 (x3 * (rd x6 x8))) 1000001) x6 x7 (wrap64 (x8 + 1))) else (none)) else (none)) else (some x3)
def impl_size.f (k : Nat) (l0 : List Int) : Option (Int) := impl_size.l0 k 1 l0 (l0.length : Int) 0
theorem impl_size.mono_l : ∀ k, (∀ y0 y1 y2 y3, LeO (impl_size.l0 k y0 y1 y2 y3) (impl_size.l0 (k + 1) y0 y1 y2 y3))
 | 0 => fun _ _ _ _ r h => by simp [impl_size.l0] at h
 | k + 1 => by
  have ih0 := impl_size.mono_l k
  ·intro y0 y1 y2 y3
   unfold impl_size.l0
   repeat' first
   | (with_reducible exact ih0 _ _ _ _)
   | (with_reducible exact LeO.refl _)
   | (with_reducible exact LeO.none _)
   | (with_reducible refine LeO.ite ?_ ?_)
   | (with_reducible refine LeO.bind ?_ (fun _ => ?_))
   | exact ih0 _ _ _ _
   | exact LeO.none _
   | refine LeO.ite ?_ ?_
   | refine LeO.bind ?_ (fun _ => ?_)
theorem impl_size.mono : ∀ a0 k, LeO (impl_size.f k a0) (impl_size.f (k + 1) a0) := by
 intro a0 k
 have ih0 := impl_size.mono_l k
 unfold impl_size.f
 repeat' first
   | (with_reducible exact ih0 _ _ _ _)
   | (with_reducible exact LeO.refl _)
   | (with_reducible exact LeO.none _)
   | (with_reducible refine LeO.ite ?_ ?_)
   | (with_reducible refine LeO.bind ?_ (fun _ => ?_))
   | exact ih0 _ _ _ _
   | exact LeO.none _
   | refine LeO.ite ?_ ?_
   | refine LeO.bind ?_ (fun _ => ?_)
set_option maxHeartbeats 8000000 in
set_option maxRecDepth 100000 in
theorem impl_size.calls (k : Nat) (A0 : Option Addr) (c0 : Nat) (l0 : List Int) (r : Int) (w : World) (hr0 : Kd.C (Kd.int .i64) w A0 l0.length l0) (hc0 : l0.length ≤ c0) (h : impl_size.f k l0 = some r) :
  Calls Try.prog 73 #[.slice A0 l0.length c0] w fun e w' => e = .returned (.int .i64 r) ∧ Below w.heap.size w w' := by
 have HR0 := Ya hr0
 have HC0 := Ya hc0
 clear hr0 hc0
 have HB := Ya (Below.refl w.heap.size w)
 have H : (impl_size.l0 k 1 l0 (l0.length : Int) 0) = some r := h
 clear h
 have H' := Ya H
 clear H
 go_enter Try.func73, Try.ntmps73
 go_wp2
 go_loopg [3, 8] k (fun kq v3 v8 w' => ∃ (x3_1 : Int) (x8_1 : Int), v3 = .int .i64 x3_1 ∧ v8 = .int .i64 x8_1 ∧ Aside0 (impl_size.l0 kq x3_1 l0 (l0.length : Int) x8_1 = some r) ∧ Aside0 (kq ≤ k) ∧ Aside0 (Below w.heap.size w w'))
 case atStart => exact ⟨(1), (0), Q7, Q7, H', ⟨Nat.le_refl _⟩, ⟨Q12⟩⟩
 case round =>
  clear H'
  obtain ⟨x3_1, x8_1, rfl, rfl, HA, HK1, HB⟩ := hrel
  cases gk with
  | zero => exact absurd HA.out (by simp [impl_size.l0])
  | succ k1 =>
   have H := HA.out
   clear HA
   simp only [impl_size.l0] at H
   by_cases c2 : x8_1 < (l0.length : Int)
   ·rw [if_pos c2] at H
    have c2b0 : decide (x8_1 < (l0.length : Int)) = true := Z35 c2
    clear c2
    by_cases c3 : 0 ≤ x8_1
    ·rw [if_pos c3] at H
     have c3b0 : decide (0 ≤ x8_1) = true := Z35 c3
     clear c3
     by_cases c4 : x8_1 < (l0.length : Int)
     ·rw [if_pos c4] at H
      have c4b0 : decide (x8_1 < (l0.length : Int)) = true := Z35 c4
      clear c4
      obtain ⟨ji5, hji5⟩ : ∃ j_ : Int, (mn (wrap64 (x3_1 * (rd l0 x8_1))) 1000001) = j_ := ⟨_, rfl⟩
      replace H : (impl_size.l0 k1 ji5 l0 (l0.length : Int) (wrap64 (x8_1 + 1))) = some r := by first | (rw [hji5] at H; exact H) | (simp only [hji5] at H ⊢; exact H)
      have hji5_ : (if 1000001 < (wrap64 (x3_1 * (rd l0 x8_1))) then 1000001 else (wrap64 (x3_1 * (rd l0 x8_1)))) = ji5 := hji5
      have H' := Ya H
      clear H
      have p431 : 0 ≤ (x8_1 : Int) := Z27 Q1
      have q431 : x8_1 < (l0.length : Int) := Z27 Q1
      obtain ⟨ad431, e431, hx431_0⟩ := Kd.at_int HR0.out x8_1 p431 q431
      cases e431
      try replace hx431_0 := (HB.out.cell (World.block_lt_of_cell? w _ hx431_0)).trans hx431_0
      replace p431 := eq_true p431
      replace q431 := eq_true q431
      go_wp2
      go_roundg k1
      case measure => have := HK1.out; omega
      case rel => exact ⟨(ji5), (wrap64 (x8_1 + 1)), (by first | rfl | (simp; done) | (simp only [← hji5] <;> (first | rfl | simp)) | (simp [*]; done)), Q7, H', ⟨Q24⟩, ⟨Q12⟩⟩
     ·rw [if_neg c4] at H
      exact absurd H (by simp)
    ·rw [if_neg c3] at H
     exact absurd H (by simp)
   ·rw [if_neg c2] at H
    have c2b0 : decide (x8_1 < (l0.length : Int)) = false := Z34 c2
    clear c2
    obtain rfl := Option.some.inj H
    go_wp2
    go_ret
    exact ⟨Q2, Q12⟩
def impl_mixedRank.f : Nat → List Int → List Int → Option (Int)
 | 0, _, _ => none
 | k + 1, l0, l1 => if (l1.length : Int) = 0 then (some 0) else (if 1 ≤ (l0.length : Int) then ((impl_size.f k (l0.drop 1)).bind fun t433 => (if 1 ≤ (l1.length : Int) then ((impl_mixedRank.f k (l0.drop 1) (l1.drop 1)).bind fun t436 => (if 0 < (l1.length : Int) then (if (Int.tmod (rd l1 0) 2) = 1 then (some (wrap64 ((wrap64 ((rd l1 0) * t433)) + (wrap64 ((wrap64 (t433 - 1)) - t436))))) else (some (wrap64 ((wrap64 ((rd l1 0) * t433)) + t436)))) else (none))) else (none))) else (none))
theorem impl_mixedRank.mono_l : ∀ k, (∀ y0 y1, LeO (impl_mixedRank.f k y0 y1) (impl_mixedRank.f (k + 1) y0 y1))
 | 0 => fun _ _ r h => by simp [impl_mixedRank.f] at h
 | k + 1 => by
  have ih0 := impl_mixedRank.mono_l k
  ·intro y0 y1
   unfold impl_mixedRank.f
   repeat' first
   | (with_reducible exact ih0 _ _)
   | (with_reducible exact impl_size.mono _ _)
   | (with_reducible exact LeO.refl _)
   | (with_reducible exact LeO.none _)
   | (with_reducible refine LeO.ite ?_ ?_)
   | (with_reducible refine LeO.bind ?_ (fun _ => ?_))
   | exact ih0 _ _
   | exact impl_size.mono _ _
   | exact LeO.none _
   | refine LeO.ite ?_ ?_
   | refine LeO.bind ?_ (fun _ => ?_)
theorem impl_mixedRank.mono : ∀ a0 a1 k, LeO (impl_mixedRank.f k a0 a1) (impl_mixedRank.f (k + 1) a0 a1) := by
 intro a0 a1 k
 have ih0 := impl_mixedRank.mono_l k
 exact ih0 a0 a1
def impl_mixedRank.T3 : Bool × List (List Nat × List Nat) := (true, [([], []), ([0], [0]), ([1], [1]), ([], []), ([3], [3]), ([], []), ([5], [5]), ([4, 6, 2], [4, 6]), ([2, 7, 0, 1, 2], [2]), ([7, 8, 0, 1, 2, 3, 4, 5, 6, 7, 8], [7])])
def impl_mixedRank.B3 : List Nat := [0, 1, 3, 0, 8, 0, 32, 127, 255, 511]
theorem impl_mixedRank.tab3 : rtab .any (opsOf Try.f54 3) = impl_mixedRank.T3 := by kernel_rfl
theorem impl_mixedRank.bits3 : waitsOk impl_mixedRank.T3.2 impl_mixedRank.B3 = true := by kernel_rfl
set_option maxHeartbeats 8000000 in
set_option maxRecDepth 100000 in
theorem impl_mixedRank.calls (k : Nat) : ∀ (A0 : Option Addr) (c0 : Nat) (l0 : List Int) (A1 : Option Addr) (c1 : Nat) (l1 : List Int) (r : Int) (w : World) (hr0 : Kd.C (Kd.int .i64) w A0 l0.length l0) (hc0 : l0.length ≤ c0) (hr1 : Kd.C (Kd.int .i64) w A1 l1.length l1) (hc1 : l1.length ≤ c1) (h : impl_mixedRank.f k l0 l1 = some r),
  Calls Try.prog 54 #[.slice A0 l0.length c0, .slice A1 l1.length c1] w fun e w' => e = .returned (.int .i64 r) ∧ Below w.heap.size w w' := by
 induction k using Nat.strongRecOn with
 | _ k ih =>
 intro A0 c0 l0 A1 c1 l1 r w hr0 hc0 hr1 hc1 h
 cases k with
 | zero => exact absurd h (by simp [impl_mixedRank.f])
 | succ k =>
 simp only [impl_mixedRank.f] at h
 have HR0 := Ya hr0
 have HC0 := Ya hc0
 clear hr0 hc0
 have HR1 := Ya hr1
 have HC1 := Ya hc1
 clear hr1 hc1
 have HB := Ya (Below.refl w.heap.size w)
 have H : (if (l1.length : Int) = 0 then (some 0) else (if 1 ≤ (l0.length : Int) then ((impl_size.f k (l0.drop 1)).bind fun t433 => (if 1 ≤ (l1.length : Int) then ((impl_mixedRank.f k (l0.drop 1) (l1.drop 1)).bind fun t436 => (if 0 < (l1.length : Int) then (if (Int.tmod (rd l1 0) 2) = 1 then (some (wrap64 ((wrap64 ((rd l1 0) * t433)) + (wrap64 ((wrap64 (t433 - 1)) - t436))))) else (some (wrap64 ((wrap64 ((rd l1 0) * t433)) + t436)))) else (none))) else (none))) else (none))) = some r := h
 clear h
 by_cases c3 : (l1.length : Int) = 0
 ·rw [if_pos c3] at H
  have c3b0 : ((l1.length : Int) == 0) = true := beq_iff_eq.mpr c3
  have c3b1 : ((l1.length : Int) != 0) = false := bne_eq_false_iff_eq.mpr c3
  clear c3
  obtain rfl := Option.some.inj H
  go_enter Try.func54, Try.ntmps54
  go_wp2
  go_ret
  exact ⟨Q2, Q12⟩
 ·rw [if_neg c3] at H
  have c3b0 : ((l1.length : Int) == 0) = false := beq_eq_false_iff_ne.mpr c3
  have c3b1 : ((l1.length : Int) != 0) = true := bne_iff_ne.mpr c3
  have c3b2 : ¬ (l1 = []) := fun h_ => c3 (by rw [h_]; rfl)
  by_cases c4 : 1 ≤ (l0.length : Int)
  ·rw [if_pos c4] at H
   have c4b0 := eq_true c4
   have c4b1 : decide (1 ≤ (l0.length : Int)) = true := Z35 c4
   have HLEc4 := Ya c4
   clear c4
   replace H := Z33.mp H
   obtain ⟨t433, A50, H⟩ := H
   replace H : (if 1 ≤ (l1.length : Int) then ((impl_mixedRank.f k (l0.drop 1) (l1.drop 1)).bind fun t436 => (if 0 < (l1.length : Int) then (if (Int.tmod (rd l1 0) 2) = 1 then (some (wrap64 ((wrap64 ((rd l1 0) * t433)) + (wrap64 ((wrap64 (t433 - 1)) - t436))))) else (some (wrap64 ((wrap64 ((rd l1 0) * t433)) + t436)))) else (none))) else (none)) = some r := H
   have A5 := Ya A50
   clear A50
   have c6b0 := eq_true (Z27 Q1 : 1 ≤ (l0.length : Int))
   by_cases c7 : 1 ≤ (l1.length : Int)
   ·rw [if_pos c7] at H
    have c7b0 := eq_true c7
    have c7b1 : decide (1 ≤ (l1.length : Int)) = true := Z35 c7
    have HLEc7 := Ya c7
    clear c7
    replace H := Z33.mp H
    obtain ⟨t436, A80, H⟩ := H
    replace H : (if 0 < (l1.length : Int) then (if (Int.tmod (rd l1 0) 2) = 1 then (some (wrap64 ((wrap64 ((rd l1 0) * t433)) + (wrap64 ((wrap64 (t433 - 1)) - t436))))) else (some (wrap64 ((wrap64 ((rd l1 0) * t433)) + t436)))) else (none)) = some r := H
    have A8 := Ya A80
    clear A80
    by_cases c9 : 0 < (l1.length : Int)
    ·rw [if_pos c9] at H
     have c9b0 : decide (0 < (l1.length : Int)) = true := Z35 c9
     have c9b1 : decide (0 < l1.length) = true := Z35 (by omega)
     clear c9
     by_cases c10 : (Int.tmod (rd l1 0) 2) = 1
     ·rw [if_pos c10] at H
      have c10b0 : ((Int.tmod (rd l1 0) 2) == 1) = true := beq_iff_eq.mpr c10
      have c10b1 : ((Int.tmod (rd l1 0) 2) != 1) = false := bne_eq_false_iff_eq.mpr c10
      clear c10
      obtain rfl := Option.some.inj H
      go_enter Try.func54, Try.ntmps54
      try go_wp2
      replace HB := Ya (Z4 HB.out)
      obtain ⟨i012, hi012, _, hsz12, _⟩ := info_parts info3
      obtain ⟨A12, hcut12, hA12, hC12⟩ := print_drop_of (P := Try.prog) (Value.int .i64) 0 22 3 .i64 Try.underlying22 hi012 hsz12 A0 c0 l0 1 (by omega) (Z27 Q1) HC0.out
      have HR432 := Ya (Kd.C_of_reads (h1 := fun _ => rfl) (hA12 _ (Kd.reads_of_C HR0.out)))
      have HC432 := Ya hC12
      clear hA12 hC12 hi012 hsz12
      have HR434 := HR432
      have HC434 := HC432
      obtain ⟨i014, hi014, _, hsz14, _⟩ := info_parts info3
      obtain ⟨A14, hcut14, hA14, hC14⟩ := print_drop_of (P := Try.prog) (Value.int .i64) 0 22 3 .i64 Try.underlying22 hi014 hsz14 A1 c1 l1 1 (by omega) (Z27 Q1) HC1.out
      have HR435 := Ya (Kd.C_of_reads (h1 := fun _ => rfl) (hA14 _ (Kd.reads_of_C HR1.out)))
      have HC435 := Ya hC14
      clear hA14 hC14 hi014 hsz14
      refine start_ (n := 10) (S := fun w' => True) (ds := []) (YA 10 0) (by kernel_rfl) rfl rfl trivial (fun hHeld => ?_); refine with_tabW impl_mixedRank.tab3 impl_mixedRank.bits3 (fun HT_ HW_ => ?_)
      generalize w.drew = w11 at HB HR432 HR434 HR435 hHeld ⊢
      refine Yp 0 (some 10) (YA 10 1) rfl HT_.out ?_
      refine Yp 1 (some 11) (YA 10 3) rfl HT_.out ?_
      refine Yp 3 (some 13) (YA 10 11) rfl HT_.out ?_
      refine Yp 4 (some 14) (YA 10 27) rfl HT_.out ?_
      refine Yp 5 (some 15) (YA 10 59) rfl HT_.out ?_
      refine Yp 6 (some 16) (YA 10 123) rfl HT_.out ?_
      refine one_ (i := 2) (N := some 12) (YA 10 127) rfl rfl (one_of HT_.out (by kernel_rfl)) (by decide) (fun K hK => ?_)
      refine goes_ Try.func73 (by kernel_rfl) rfl #[.slice A12 (l0.drop 1).length (c0 - 1)] (by rfl) rfl rfl Q31 ?_
      with_reducible refine (impl_size.calls k _ _ (l0.drop 1) t433 _ ?side1 ?side2 A5.out).mono ?_
      (case side1 => exact Yc (Z19 HR432.out HB.out))
      (case side2 => exact HC432.out)
      rintro e w15 ⟨rfl, hb⟩
      refine ⟨_, rfl, ?_⟩
      replace HB := Yh hb
      (try clear hb)
      refine hK.out _ _ trivial (fun hHeld => ?_)
      clear hK K
      refine norm_ (a' := ?_) ?_ ?_
      rotate_left
      ·show Act.put _ (some 12) _ = _
       simp only [Act.put, Z0, Z1, Z2, i64_w, i32_w]
       rfl
      refine one_ (i := 7) (N := some 17) (YA 10 255) rfl rfl (one_of HT_.out (by kernel_rfl)) (by decide) (fun K hK => ?_)
      refine goes_ Try.func54 (by kernel_rfl) rfl #[.slice A12 (l0.drop 1).length (c0 - 1), .slice A14 (l1.drop 1).length (c1 - 1)] (by rfl) rfl rfl Q20 ?_
      with_reducible refine (ih k (by omega) _ _ (l0.drop 1) _ _ (l1.drop 1) t436 _ ?side1 ?side2 ?side3 ?side4 A8.out).mono ?_
      (case side1 => exact Yc (Z19 HR434.out HB.out))
      (case side2 => exact HC434.out)
      (case side3 => exact Yc (Z19 HR435.out HB.out))
      (case side4 => exact HC435.out)
      rintro e w16 ⟨rfl, hb⟩
      refine ⟨_, rfl, ?_⟩
      replace HB := Yh hb
      (try clear hb)
      refine hK.out _ _ trivial (fun hHeld => ?_)
      clear hK K
      refine norm_ (a' := ?_) ?_ ?_
      rotate_left
      ·show Act.put _ (some 17) _ = _
       simp only [Act.put, Z0, Z1, Z2, i64_w, i32_w]
       rfl
      refine Yp 8 (some 5) (YA 10 511) rfl HT_.out ?_
      refine Yp 9 (some 6) (YA 10 1023) rfl HT_.out ?_
      refine done_ (done_of HT_.out (by kernel_rfl)) ?_
      have p437 : 0 ≤ (0 : Int) := (by omega)
      have q437 : 0 < (l1.length : Int) := Z27 Q1
      obtain ⟨ad437, e437, hx437_0⟩ := Kd.at_int HR1.out 0 p437 q437
      cases e437
      have qi437 : (0 < l1.length) = True := eq_true (by omega)
      (try rw [show ((0 : Int)).toNat = 0 from rfl] at hx437_0)
      (try rw [Addr.add_zero'] at hx437_0)
      try replace hx437_0 := (HB.out.cell (World.block_lt_of_cell? w _ hx437_0)).trans hx437_0
      replace p437 := eq_true p437
      replace q437 := eq_true q437
      have p438 : 0 ≤ (0 : Int) := (by omega)
      have q438 : 0 < (l1.length : Int) := Z27 Q1
      obtain ⟨ad438, e438, hx438_0⟩ := Kd.at_int HR1.out 0 p438 q438
      obtain rfl : ad437 = ad438 := (by injection e438)
      have qi438 : (0 < l1.length) = True := eq_true (by omega)
      (try rw [show ((0 : Int)).toNat = 0 from rfl] at hx438_0)
      (try rw [Addr.add_zero'] at hx438_0)
      try replace hx438_0 := (HB.out.cell (World.block_lt_of_cell? w _ hx438_0)).trans hx438_0
      replace p438 := eq_true p438
      replace q438 := eq_true q438
      try go_wp2
      go_ret
      exact ⟨Q2, Q12⟩
     ·rw [if_neg c10] at H
      have c10b0 : ((Int.tmod (rd l1 0) 2) == 1) = false := beq_eq_false_iff_ne.mpr c10
      have c10b1 : ((Int.tmod (rd l1 0) 2) != 1) = true := bne_iff_ne.mpr c10
      obtain rfl := Option.some.inj H
      go_enter Try.func54, Try.ntmps54
      try go_wp2
      replace HB := Ya (Z4 HB.out)
      obtain ⟨i018, hi018, _, hsz18, _⟩ := info_parts info3
      obtain ⟨A18, hcut18, hA18, hC18⟩ := print_drop_of (P := Try.prog) (Value.int .i64) 0 22 3 .i64 Try.underlying22 hi018 hsz18 A0 c0 l0 1 (by omega) (Z27 Q1) HC0.out
      have HR432 := Ya (Kd.C_of_reads (h1 := fun _ => rfl) (hA18 _ (Kd.reads_of_C HR0.out)))
      have HC432 := Ya hC18
      clear hA18 hC18 hi018 hsz18
      have HR434 := HR432
      have HC434 := HC432
      obtain ⟨i020, hi020, _, hsz20, _⟩ := info_parts info3
      obtain ⟨A20, hcut20, hA20, hC20⟩ := print_drop_of (P := Try.prog) (Value.int .i64) 0 22 3 .i64 Try.underlying22 hi020 hsz20 A1 c1 l1 1 (by omega) (Z27 Q1) HC1.out
      have HR435 := Ya (Kd.C_of_reads (h1 := fun _ => rfl) (hA20 _ (Kd.reads_of_C HR1.out)))
      have HC435 := Ya hC20
      clear hA20 hC20 hi020 hsz20
      refine start_ (n := 10) (S := fun w' => True) (ds := []) (YA 10 0) (by kernel_rfl) rfl rfl trivial (fun hHeld => ?_); refine with_tabW impl_mixedRank.tab3 impl_mixedRank.bits3 (fun HT_ HW_ => ?_)
      generalize w.drew = w17 at HB HR432 HR434 HR435 hHeld ⊢
      refine Yp 0 (some 10) (YA 10 1) rfl HT_.out ?_
      refine Yp 1 (some 11) (YA 10 3) rfl HT_.out ?_
      refine Yp 3 (some 13) (YA 10 11) rfl HT_.out ?_
      refine Yp 4 (some 14) (YA 10 27) rfl HT_.out ?_
      refine Yp 5 (some 15) (YA 10 59) rfl HT_.out ?_
      refine Yp 6 (some 16) (YA 10 123) rfl HT_.out ?_
      refine one_ (i := 2) (N := some 12) (YA 10 127) rfl rfl (one_of HT_.out (by kernel_rfl)) (by decide) (fun K hK => ?_)
      refine goes_ Try.func73 (by kernel_rfl) rfl #[.slice A18 (l0.drop 1).length (c0 - 1)] (by rfl) rfl rfl Q31 ?_
      with_reducible refine (impl_size.calls k _ _ (l0.drop 1) t433 _ ?side1 ?side2 A5.out).mono ?_
      (case side1 => exact Yc (Z19 HR432.out HB.out))
      (case side2 => exact HC432.out)
      rintro e w21 ⟨rfl, hb⟩
      refine ⟨_, rfl, ?_⟩
      replace HB := Yh hb
      (try clear hb)
      refine hK.out _ _ trivial (fun hHeld => ?_)
      clear hK K
      refine norm_ (a' := ?_) ?_ ?_
      rotate_left
      ·show Act.put _ (some 12) _ = _
       simp only [Act.put, Z0, Z1, Z2, i64_w, i32_w]
       rfl
      refine one_ (i := 7) (N := some 17) (YA 10 255) rfl rfl (one_of HT_.out (by kernel_rfl)) (by decide) (fun K hK => ?_)
      refine goes_ Try.func54 (by kernel_rfl) rfl #[.slice A18 (l0.drop 1).length (c0 - 1), .slice A20 (l1.drop 1).length (c1 - 1)] (by rfl) rfl rfl Q20 ?_
      with_reducible refine (ih k (by omega) _ _ (l0.drop 1) _ _ (l1.drop 1) t436 _ ?side1 ?side2 ?side3 ?side4 A8.out).mono ?_
      (case side1 => exact Yc (Z19 HR434.out HB.out))
      (case side2 => exact HC434.out)
      (case side3 => exact Yc (Z19 HR435.out HB.out))
      (case side4 => exact HC435.out)
      rintro e w22 ⟨rfl, hb⟩
      refine ⟨_, rfl, ?_⟩
      replace HB := Yh hb
      (try clear hb)
      refine hK.out _ _ trivial (fun hHeld => ?_)
      clear hK K
      refine norm_ (a' := ?_) ?_ ?_
      rotate_left
      ·show Act.put _ (some 17) _ = _
       simp only [Act.put, Z0, Z1, Z2, i64_w, i32_w]
       rfl
      refine Yp 8 (some 5) (YA 10 511) rfl HT_.out ?_
      refine Yp 9 (some 6) (YA 10 1023) rfl HT_.out ?_
      refine done_ (done_of HT_.out (by kernel_rfl)) ?_
      have p437 : 0 ≤ (0 : Int) := (by omega)
      have q437 : 0 < (l1.length : Int) := Z27 Q1
      obtain ⟨ad437, e437, hx437_0⟩ := Kd.at_int HR1.out 0 p437 q437
      cases e437
      have qi437 : (0 < l1.length) = True := eq_true (by omega)
      (try rw [show ((0 : Int)).toNat = 0 from rfl] at hx437_0)
      (try rw [Addr.add_zero'] at hx437_0)
      try replace hx437_0 := (HB.out.cell (World.block_lt_of_cell? w _ hx437_0)).trans hx437_0
      replace p437 := eq_true p437
      replace q437 := eq_true q437
      have p439 : 0 ≤ (0 : Int) := (by omega)
      have q439 : 0 < (l1.length : Int) := Z27 Q1
      obtain ⟨ad439, e439, hx439_0⟩ := Kd.at_int HR1.out 0 p439 q439
      obtain rfl : ad437 = ad439 := (by injection e439)
      have qi439 : (0 < l1.length) = True := eq_true (by omega)
      (try rw [show ((0 : Int)).toNat = 0 from rfl] at hx439_0)
      (try rw [Addr.add_zero'] at hx439_0)
      try replace hx439_0 := (HB.out.cell (World.block_lt_of_cell? w _ hx439_0)).trans hx439_0
      replace p439 := eq_true p439
      replace q439 := eq_true q439
      try go_wp2
      go_ret
      exact ⟨Q2, Q12⟩
    ·rw [if_neg c9] at H
     exact absurd H (by simp)
   ·rw [if_neg c7] at H
    exact absurd H (by simp)
  ·rw [if_neg c4] at H
   exact absurd H (by simp)
def impl_within.f (a0 : Int) (a1 : Int) (a2 : Int) : Option (Bool) := if a0 ≥ a1 then (some (decide (a0 ≤ a2))) else (some false)
set_option maxHeartbeats 8000000 in
set_option maxRecDepth 100000 in
theorem impl_within.calls (a0 : Int) (a1 : Int) (a2 : Int) (r : Bool) (w : World) (h : impl_within.f a0 a1 a2 = some r) :
  Calls Try.prog 48 #[.int .i64 a0, .int .i64 a1, .int .i64 a2] w fun e w' => e = .returned (.bool r) ∧ Drawn0 w w' := by
 have H : (if a0 ≥ a1 then (some (decide (a0 ≤ a2))) else (some false)) = some r := h
 clear h
 by_cases c4 : a0 ≥ a1
 ·rw [if_pos c4] at H
  have c4b0 : decide (a1 ≤ a0) = true := Z35 c4
  clear c4
  obtain rfl := Option.some.inj H
  go_enter Try.func48, Try.ntmps48
  go_wp2
  go_ret
  exact ⟨Q13, Q5⟩
 ·rw [if_neg c4] at H
  have c4b0 : decide (a1 ≤ a0) = false := Z34 c4
  clear c4
  obtain rfl := Option.some.inj H
  go_enter Try.func48, Try.ntmps48
  go_wp2
  go_ret
  exact ⟨Q13, Q5⟩
def impl_allWithin.l0 : Nat → Int → Int → List Int → Int → Int → Option (Bool)
 | 0, _, _, _, _, _ => none
 | k + 1, x1, x2, x9, x10, x11 => if x11 < x10 then (if 0 ≤ x11 then (if x11 < (x9.length : Int) then ((impl_within.f (rd x9 x11) x1 x2).bind fun t441 => (if t441 = true then (impl_allWithin.l0 k x1 x2 x9 x10 (wrap64 (x11 + 1))) else (some false))) else (none)) else (none)) else (some true)
def impl_allWithin.f (k : Nat) (l0 : List Int) (a1 : Int) (a2 : Int) : Option (Bool) := impl_allWithin.l0 k a1 a2 l0 (l0.length : Int) 0
theorem impl_allWithin.mono_l : ∀ k, (∀ y0 y1 y2 y3 y4, LeO (impl_allWithin.l0 k y0 y1 y2 y3 y4) (impl_allWithin.l0 (k + 1) y0 y1 y2 y3 y4))
 | 0 => fun _ _ _ _ _ r h => by simp [impl_allWithin.l0] at h
 | k + 1 => by
  have ih0 := impl_allWithin.mono_l k
  ·intro y0 y1 y2 y3 y4
   unfold impl_allWithin.l0
   repeat' first
   | (with_reducible exact ih0 _ _ _ _ _)
   | (with_reducible exact LeO.refl _)
   | (with_reducible exact LeO.none _)
   | (with_reducible refine LeO.ite ?_ ?_)
   | (with_reducible refine LeO.bind ?_ (fun _ => ?_))
   | exact ih0 _ _ _ _ _
   | exact LeO.none _
   | refine LeO.ite ?_ ?_
   | refine LeO.bind ?_ (fun _ => ?_)
theorem impl_allWithin.mono : ∀ a0 a1 a2 k, LeO (impl_allWithin.f k a0 a1 a2) (impl_allWithin.f (k + 1) a0 a1 a2) := by
 intro a0 a1 a2 k
 have ih0 := impl_allWithin.mono_l k
 unfold impl_allWithin.f
 repeat' first
   | (with_reducible exact ih0 _ _ _ _ _)
   | (with_reducible exact LeO.refl _)
   | (with_reducible exact LeO.none _)
   | (with_reducible refine LeO.ite ?_ ?_)
   | (with_reducible refine LeO.bind ?_ (fun _ => ?_))
   | exact ih0 _ _ _ _ _
   | exact LeO.none _
   | refine LeO.ite ?_ ?_
   | refine LeO.bind ?_ (fun _ => ?_)
set_option maxHeartbeats 8000000 in
set_option maxRecDepth 100000 in
theorem impl_allWithin.calls (k : Nat) (A0 : Option Addr) (c0 : Nat) (l0 : List Int) (a1 : Int) (a2 : Int) (r : Bool) (w : World) (hr0 : Kd.C (Kd.int .i64) w A0 l0.length l0) (hc0 : l0.length ≤ c0) (h : impl_allWithin.f k l0 a1 a2 = some r) :
  Calls Try.prog 85 #[.slice A0 l0.length c0, .int .i64 a1, .int .i64 a2] w fun e w' => e = .returned (.bool r) ∧ Drawn0 w w' := by
 have HR0 := Ya hr0
 have HC0 := Ya hc0
 clear hr0 hc0
 have H : (impl_allWithin.l0 k a1 a2 l0 (l0.length : Int) 0) = some r := h
 clear h
 have H' := Ya H
 clear H
 go_enter Try.func85, Try.ntmps85
 go_wp2
 go_loopg [11] k (fun kq v11 w' => ∃ (x11_1 : Int), v11 = .int .i64 x11_1 ∧ Aside0 (impl_allWithin.l0 kq a1 a2 l0 (l0.length : Int) x11_1 = some r) ∧ Aside0 (kq ≤ k) ∧ Drawn0 w w')
 case atStart => exact ⟨(0), Q7, H', ⟨Nat.le_refl _⟩, Q5⟩
 case round =>
  clear H'
  try clear p2
  obtain ⟨x11_1, rfl, HA, HK1, ⟨m1, rfl⟩⟩ := hrel
  cases gk with
  | zero => exact absurd HA.out (by simp [impl_allWithin.l0])
  | succ k1 =>
   have H := HA.out
   clear HA
   simp only [impl_allWithin.l0] at H
   by_cases c4 : x11_1 < (l0.length : Int)
   ·rw [if_pos c4] at H
    have c4b0 : decide (x11_1 < (l0.length : Int)) = true := Z35 c4
    clear c4
    by_cases c5 : 0 ≤ x11_1
    ·rw [if_pos c5] at H
     have c5b0 : decide (0 ≤ x11_1) = true := Z35 c5
     clear c5
     by_cases c6 : x11_1 < (l0.length : Int)
     ·rw [if_pos c6] at H
      have c6b0 : decide (x11_1 < (l0.length : Int)) = true := Z35 c6
      clear c6
      replace H := Z33.mp H
      obtain ⟨t441, A70, H⟩ := H
      replace H : (if t441 = true then (impl_allWithin.l0 k1 a1 a2 l0 (l0.length : Int) (wrap64 (x11_1 + 1))) else (some false)) = some r := H
      have A7 := Ya A70
      clear A70
      by_cases c8 : t441 = true
      ·subst c8
       have H1 : (impl_allWithin.l0 k1 a1 a2 l0 (l0.length : Int) (wrap64 (x11_1 + 1))) = some r := by rw [if_pos rfl] at H; exact H
       clear H
       have H := H1
       clear H1
       have H' := Ya H
       clear H
       have p440 : 0 ≤ (x11_1 : Int) := Z27 Q1
       have q440 : x11_1 < (l0.length : Int) := Z27 Q1
       obtain ⟨ad440, e440, hx440_0⟩ := Kd.at_int HR0.out x11_1 p440 q440
       cases e440
       replace p440 := eq_true p440
       replace q440 := eq_true q440
       go_wp2_with (first | ((with_reducible refine gate_callee (f := 48) rfl ?_); refine Yz 18 Try.func48 #[.int .i64 (rd l0 x11_1), .int .i64 a1, .int .i64 a2] ?_; (with_reducible refine (impl_within.calls (rd l0 x11_1) a1 a2 true _ A7.out).mono ?_); rintro e w' ⟨rfl, ⟨nd, rfl⟩⟩; refine ⟨_, rfl, ?_⟩))
       go_roundg k1
       case measure => have := HK1.out; omega
       case rel => exact ⟨(wrap64 (x11_1 + 1)), Q7, H', ⟨Q24⟩, Q5⟩
      ·replace c8 := Bool.eq_false_iff.mpr c8
       subst c8
       have H1 : (some false) = some r := by rw [if_neg (show ¬ (false = true) by decide)] at H; exact H
       clear H
       have H := H1
       clear H1
       obtain rfl := Option.some.inj H
       have p440 : 0 ≤ (x11_1 : Int) := Z27 Q1
       have q440 : x11_1 < (l0.length : Int) := Z27 Q1
       obtain ⟨ad440, e440, hx440_0⟩ := Kd.at_int HR0.out x11_1 p440 q440
       cases e440
       replace p440 := eq_true p440
       replace q440 := eq_true q440
       go_wp2_with (first | ((with_reducible refine gate_callee (f := 48) rfl ?_); refine Yz 18 Try.func48 #[.int .i64 (rd l0 x11_1), .int .i64 a1, .int .i64 a2] ?_; (with_reducible refine (impl_within.calls (rd l0 x11_1) a1 a2 false _ A7.out).mono ?_); rintro e w' ⟨rfl, ⟨nd, rfl⟩⟩; refine ⟨_, rfl, ?_⟩))
       go_ret
       exact ⟨Q13, Q5⟩
     ·rw [if_neg c6] at H
      exact absurd H (by simp)
    ·rw [if_neg c5] at H
     exact absurd H (by simp)
   ·rw [if_neg c4] at H
    have c4b0 : decide (x11_1 < (l0.length : Int)) = false := Z34 c4
    clear c4
    obtain rfl := Option.some.inj H
    go_wp2
    go_ret
    exact ⟨Q13, Q5⟩
def impl_areBases.f (k : Nat) (l0 : List Int) : Option (Bool) := if (l0.length : Int) ≤ 12 then ((impl_allWithin.f k l0 2 12).bind fun t442 => (if t442 = true then ((impl_size.f k l0).bind fun t443 => (some (decide (t443 ≤ 1000000)))) else (some false))) else (some false)
theorem impl_areBases.mono : ∀ a0 k, LeO (impl_areBases.f k a0) (impl_areBases.f (k + 1) a0) := by
 intro a0 k
 unfold impl_areBases.f
 repeat' first
   | (with_reducible exact impl_allWithin.mono _ _ _ _)
   | (with_reducible exact impl_size.mono _ _)
   | (with_reducible exact LeO.refl _)
   | (with_reducible exact LeO.none _)
   | (with_reducible refine LeO.ite ?_ ?_)
   | (with_reducible refine LeO.bind ?_ (fun _ => ?_))
   | exact impl_allWithin.mono _ _ _ _
   | exact impl_size.mono _ _
   | exact LeO.none _
   | refine LeO.ite ?_ ?_
   | refine LeO.bind ?_ (fun _ => ?_)
set_option maxHeartbeats 8000000 in
set_option maxRecDepth 100000 in
theorem impl_areBases.calls (k : Nat) (A0 : Option Addr) (c0 : Nat) (l0 : List Int) (r : Bool) (w : World) (hr0 : Kd.C (Kd.int .i64) w A0 l0.length l0) (hc0 : l0.length ≤ c0) (h : impl_areBases.f k l0 = some r) :
  Calls Try.prog 80 #[.slice A0 l0.length c0] w fun e w' => e = .returned (.bool r) ∧ Below w.heap.size w w' := by
 have HR0 := Ya hr0
 have HC0 := Ya hc0
 clear hr0 hc0
 have HB := Ya (Below.refl w.heap.size w)
 have H : (if (l0.length : Int) ≤ 12 then ((impl_allWithin.f k l0 2 12).bind fun t442 => (if t442 = true then ((impl_size.f k l0).bind fun t443 => (some (decide (t443 ≤ 1000000)))) else (some false))) else (some false)) = some r := h
 clear h
 by_cases c2 : (l0.length : Int) ≤ 12
 ·rw [if_pos c2] at H
  have c2b0 : decide ((l0.length : Int) ≤ 12) = true := Z35 c2
  have c2b1 : decide (l0.length ≤ 12) = true := Z35 (by omega)
  clear c2
  replace H := Z33.mp H
  obtain ⟨t442, A30, H⟩ := H
  replace H : (if t442 = true then ((impl_size.f k l0).bind fun t443 => (some (decide (t443 ≤ 1000000)))) else (some false)) = some r := H
  have A3 := Ya A30
  clear A30
  by_cases c4 : t442 = true
  ·subst c4
   have H1 : ((impl_size.f k l0).bind fun t443 => (some (decide (t443 ≤ 1000000)))) = some r := by rw [if_pos rfl] at H; exact H
   clear H
   have H := H1
   clear H1
   replace H := Z33.mp H
   obtain ⟨t443, A50, H⟩ := H
   replace H : (some (decide (t443 ≤ 1000000))) = some r := H
   have A5 := Ya A50
   clear A50
   obtain rfl := Option.some.inj H
   go_enter Try.func80, Try.ntmps80
   go_wp2_with (first | (go_at_call 85; (with_reducible refine (impl_allWithin.calls k _ _ l0 2 12 true _ (Yc HR0.out) HC0.out A3.out).mono ?_); rintro e w' ⟨rfl, ⟨nd, rfl⟩⟩) | (go_at_call 73; (with_reducible refine (impl_size.calls k _ _ l0 t443 _ (Yc HR0.out) HC0.out A5.out).mono ?_); rintro e w6 ⟨rfl, hb⟩; replace HB := Yh hb; (try clear hb)))
   go_ret
   exact ⟨Q2, Q12⟩
  ·replace c4 := Bool.eq_false_iff.mpr c4
   subst c4
   have H1 : (some false) = some r := by rw [if_neg (show ¬ (false = true) by decide)] at H; exact H
   clear H
   have H := H1
   clear H1
   obtain rfl := Option.some.inj H
   go_enter Try.func80, Try.ntmps80
   go_wp2_with (first | (go_at_call 85; (with_reducible refine (impl_allWithin.calls k _ _ l0 2 12 false _ (Yc HR0.out) HC0.out A3.out).mono ?_); rintro e w' ⟨rfl, ⟨nd, rfl⟩⟩))
   go_ret
   exact ⟨Q2, Q12⟩
 ·rw [if_neg c2] at H
  have c2b0 : decide ((l0.length : Int) ≤ 12) = false := Z34 c2
  have c2b1 : decide (l0.length ≤ 12) = false := Z34 (by omega)
  clear c2
  obtain rfl := Option.some.inj H
  go_enter Try.func80, Try.ntmps80
  go_wp2
  go_ret
  exact ⟨Q2, Q12⟩
def impl_areFocusBases.f (k : Nat) (l0 : List Int) : Option (Bool) := (impl_areBases.f k l0).bind fun t444 => (if t444 = true then ((impl_size.f k l0).bind fun t445 => (some (decide (t445 ≤ 5040)))) else (some false))
theorem impl_areFocusBases.mono : ∀ a0 k, LeO (impl_areFocusBases.f k a0) (impl_areFocusBases.f (k + 1) a0) := by
 intro a0 k
 unfold impl_areFocusBases.f
 repeat' first
   | (with_reducible exact impl_areBases.mono _ _)
   | (with_reducible exact impl_size.mono _ _)
   | (with_reducible exact LeO.refl _)
   | (with_reducible exact LeO.none _)
   | (with_reducible refine LeO.ite ?_ ?_)
   | (with_reducible refine LeO.bind ?_ (fun _ => ?_))
   | exact impl_areBases.mono _ _
   | exact impl_size.mono _ _
   | exact LeO.none _
   | refine LeO.ite ?_ ?_
   | refine LeO.bind ?_ (fun _ => ?_)
set_option maxHeartbeats 8000000 in
set_option maxRecDepth 100000 in
theorem impl_areFocusBases.calls (k : Nat) (A0 : Option Addr) (c0 : Nat) (l0 : List Int) (r : Bool) (w : World) (hr0 : Kd.C (Kd.int .i64) w A0 l0.length l0) (hc0 : l0.length ≤ c0) (h : impl_areFocusBases.f k l0 = some r) :
  Calls Try.prog 64 #[.slice A0 l0.length c0] w fun e w' => e = .returned (.bool r) ∧ Below w.heap.size w w' := by
 have HR0 := Ya hr0
 have HC0 := Ya hc0
 clear hr0 hc0
 have HB := Ya (Below.refl w.heap.size w)
 have H : ((impl_areBases.f k l0).bind fun t444 => (if t444 = true then ((impl_size.f k l0).bind fun t445 => (some (decide (t445 ≤ 5040)))) else (some false))) = some r := h
 clear h
 replace H := Z33.mp H
 obtain ⟨t444, A20, H⟩ := H
 replace H : (if t444 = true then ((impl_size.f k l0).bind fun t445 => (some (decide (t445 ≤ 5040)))) else (some false)) = some r := H
 have A2 := Ya A20
 clear A20
 by_cases c3 : t444 = true
 ·subst c3
  have H1 : ((impl_size.f k l0).bind fun t445 => (some (decide (t445 ≤ 5040)))) = some r := by rw [if_pos rfl] at H; exact H
  clear H
  have H := H1
  clear H1
  replace H := Z33.mp H
  obtain ⟨t445, A40, H⟩ := H
  replace H : (some (decide (t445 ≤ 5040))) = some r := H
  have A4 := Ya A40
  clear A40
  obtain rfl := Option.some.inj H
  go_enter Try.func64, Try.ntmps64
  go_wp2_with (first | ((with_reducible refine gate_callee (f := 80) rfl ?_); refine Yz 4 Try.func80 #[.slice A0 l0.length c0] ?_; (with_reducible refine (impl_areBases.calls k _ _ l0 true _ (Yc HR0.out) HC0.out A2.out).mono ?_); rintro e w5 ⟨rfl, hb⟩; refine ⟨_, rfl, ?_⟩; replace HB := Yh hb; (try clear hb)) | (go_at_call 73; (with_reducible refine (impl_size.calls k _ _ l0 t445 _ (Yc (Z19 HR0.out HB.out)) HC0.out A4.out).mono ?_); rintro e w6 ⟨rfl, hb⟩; replace HB := Yh hb; (try clear hb)))
  go_ret
  exact ⟨Q2, Q12⟩
 ·replace c3 := Bool.eq_false_iff.mpr c3
  subst c3
  have H1 : (some false) = some r := by rw [if_neg (show ¬ (false = true) by decide)] at H; exact H
  clear H
  have H := H1
  clear H1
  obtain rfl := Option.some.inj H
  go_enter Try.func64, Try.ntmps64
  go_wp2_with (first | ((with_reducible refine gate_callee (f := 80) rfl ?_); refine Yz 4 Try.func80 #[.slice A0 l0.length c0] ?_; (with_reducible refine (impl_areBases.calls k _ _ l0 false _ (Yc HR0.out) HC0.out A2.out).mono ?_); rintro e w7 ⟨rfl, hb⟩; refine ⟨_, rfl, ?_⟩; replace HB := Yh hb; (try clear hb)))
  go_ret
  exact ⟨Q2, Q12⟩
def impl_areDigits.l0 : Nat → List Int → List Int → List Int → Int → Int → Option (Bool)
 | 0, _, _, _, _, _ => none
 | k + 1, x0, x1, x7, x8, x9 => if x9 < x8 then (if 0 ≤ x9 then (if x9 < (x7.length : Int) then (if x9 ≥ (x0.length : Int) then (some false) else (if x9 < (x0.length : Int) then ((impl_within.f (rd x7 x9) 0 (wrap64 ((rd x0 x9) - 1))).bind fun t448 => (if t448 = true then (impl_areDigits.l0 k x0 x1 x7 x8 (wrap64 (x9 + 1))) else (some false))) else (none))) else (none)) else (none)) else (some ((x1.length : Int) == (x0.length : Int)))
def impl_areDigits.f (k : Nat) (l0 : List Int) (l1 : List Int) : Option (Bool) := impl_areDigits.l0 k l0 l1 l1 (l1.length : Int) 0
theorem impl_areDigits.mono_l : ∀ k, (∀ y0 y1 y2 y3 y4, LeO (impl_areDigits.l0 k y0 y1 y2 y3 y4) (impl_areDigits.l0 (k + 1) y0 y1 y2 y3 y4))
 | 0 => fun _ _ _ _ _ r h => by simp [impl_areDigits.l0] at h
 | k + 1 => by
  have ih0 := impl_areDigits.mono_l k
  ·intro y0 y1 y2 y3 y4
   unfold impl_areDigits.l0
   repeat' first
   | (with_reducible exact ih0 _ _ _ _ _)
   | (with_reducible exact LeO.refl _)
   | (with_reducible exact LeO.none _)
   | (with_reducible refine LeO.ite ?_ ?_)
   | (with_reducible refine LeO.bind ?_ (fun _ => ?_))
   | exact ih0 _ _ _ _ _
   | exact LeO.none _
   | refine LeO.ite ?_ ?_
   | refine LeO.bind ?_ (fun _ => ?_)
theorem impl_areDigits.mono : ∀ a0 a1 k, LeO (impl_areDigits.f k a0 a1) (impl_areDigits.f (k + 1) a0 a1) := by
 intro a0 a1 k
 have ih0 := impl_areDigits.mono_l k
 unfold impl_areDigits.f
 repeat' first
   | (with_reducible exact ih0 _ _ _ _ _)
   | (with_reducible exact LeO.refl _)
   | (with_reducible exact LeO.none _)
   | (with_reducible refine LeO.ite ?_ ?_)
   | (with_reducible refine LeO.bind ?_ (fun _ => ?_))
   | exact ih0 _ _ _ _ _
   | exact LeO.none _
   | refine LeO.ite ?_ ?_
   | refine LeO.bind ?_ (fun _ => ?_)
set_option maxHeartbeats 8000000 in
set_option maxRecDepth 100000 in
theorem impl_areDigits.calls (k : Nat) (A0 : Option Addr) (c0 : Nat) (l0 : List Int) (A1 : Option Addr) (c1 : Nat) (l1 : List Int) (r : Bool) (w : World) (hr0 : Kd.C (Kd.int .i64) w A0 l0.length l0) (hc0 : l0.length ≤ c0) (hr1 : Kd.C (Kd.int .i64) w A1 l1.length l1) (hc1 : l1.length ≤ c1) (h : impl_areDigits.f k l0 l1 = some r) :
  Calls Try.prog 65 #[.slice A0 l0.length c0, .slice A1 l1.length c1] w fun e w' => e = .returned (.bool r) ∧ Drawn0 w w' := by
 have HR0 := Ya hr0
 have HC0 := Ya hc0
 clear hr0 hc0
 have HR1 := Ya hr1
 have HC1 := Ya hc1
 clear hr1 hc1
 have H : (impl_areDigits.l0 k l0 l1 l1 (l1.length : Int) 0) = some r := h
 clear h
 have H' := Ya H
 clear H
 go_enter Try.func65, Try.ntmps65
 go_wp2
 go_loopg [9] k (fun kq v9 w' => ∃ (x9_1 : Int), v9 = .int .i64 x9_1 ∧ Aside0 (impl_areDigits.l0 kq l0 l1 l1 (l1.length : Int) x9_1 = some r) ∧ Aside0 (kq ≤ k) ∧ Drawn0 w w')
 case atStart => exact ⟨(0), Q7, H', ⟨Nat.le_refl _⟩, Q5⟩
 case round =>
  clear H'
  try clear c1
  try clear p2
  obtain ⟨x9_1, rfl, HA, HK1, ⟨m1, rfl⟩⟩ := hrel
  cases gk with
  | zero => exact absurd HA.out (by simp [impl_areDigits.l0])
  | succ k1 =>
   have H := HA.out
   clear HA
   simp only [impl_areDigits.l0] at H
   by_cases c3 : x9_1 < (l1.length : Int)
   ·rw [if_pos c3] at H
    have c3b0 : decide (x9_1 < (l1.length : Int)) = true := Z35 c3
    clear c3
    by_cases c4 : 0 ≤ x9_1
    ·rw [if_pos c4] at H
     have c4b0 : decide (0 ≤ x9_1) = true := Z35 c4
     clear c4
     by_cases c5 : x9_1 < (l1.length : Int)
     ·rw [if_pos c5] at H
      have c5b0 : decide (x9_1 < (l1.length : Int)) = true := Z35 c5
      clear c5
      by_cases c6 : x9_1 ≥ (l0.length : Int)
      ·rw [if_pos c6] at H
       have c6b0 : decide ((l0.length : Int) ≤ x9_1) = true := Z35 c6
       clear c6
       obtain rfl := Option.some.inj H
       have p446 : 0 ≤ (x9_1 : Int) := Z27 Q1
       have q446 : x9_1 < (l1.length : Int) := Z27 Q1
       obtain ⟨ad446, e446, hx446_0⟩ := Kd.at_int HR1.out x9_1 p446 q446
       cases e446
       replace p446 := eq_true p446
       replace q446 := eq_true q446
       go_wp2
       go_ret
       exact ⟨Q13, Q5⟩
      ·rw [if_neg c6] at H
       have c6b0 : decide ((l0.length : Int) ≤ x9_1) = false := Z34 c6
       clear c6
       by_cases c7 : x9_1 < (l0.length : Int)
       ·rw [if_pos c7] at H
        have c7b0 : decide (x9_1 < (l0.length : Int)) = true := Z35 c7
        clear c7
        replace H := Z33.mp H
        obtain ⟨t448, A80, H⟩ := H
        replace H : (if t448 = true then (impl_areDigits.l0 k1 l0 l1 l1 (l1.length : Int) (wrap64 (x9_1 + 1))) else (some false)) = some r := H
        have A8 := Ya A80
        clear A80
        by_cases c9 : t448 = true
        ·subst c9
         have H1 : (impl_areDigits.l0 k1 l0 l1 l1 (l1.length : Int) (wrap64 (x9_1 + 1))) = some r := by rw [if_pos rfl] at H; exact H
         clear H
         have H := H1
         clear H1
         have H' := Ya H
         clear H
         have p446 : 0 ≤ (x9_1 : Int) := Z27 Q1
         have q446 : x9_1 < (l1.length : Int) := Z27 Q1
         obtain ⟨ad446, e446, hx446_0⟩ := Kd.at_int HR1.out x9_1 p446 q446
         cases e446
         replace p446 := eq_true p446
         replace q446 := eq_true q446
         have p447 : 0 ≤ (x9_1 : Int) := Z27 Q1
         have q447 : x9_1 < (l0.length : Int) := Z27 Q1
         obtain ⟨ad447, e447, hx447_0⟩ := Kd.at_int HR0.out x9_1 p447 q447
         cases e447
         replace p447 := eq_true p447
         replace q447 := eq_true q447
         go_wp2_with (first | (go_at_call 48; (with_reducible refine (impl_within.calls (rd l1 x9_1) 0 (wrap64 ((rd l0 x9_1) - 1)) true _ A8.out).mono ?_); rintro e w' ⟨rfl, ⟨nd, rfl⟩⟩))
         go_roundg k1
         case measure => have := HK1.out; omega
         case rel => exact ⟨(wrap64 (x9_1 + 1)), Q7, H', ⟨Q24⟩, Q5⟩
        ·replace c9 := Bool.eq_false_iff.mpr c9
         subst c9
         have H1 : (some false) = some r := by rw [if_neg (show ¬ (false = true) by decide)] at H; exact H
         clear H
         have H := H1
         clear H1
         obtain rfl := Option.some.inj H
         have p446 : 0 ≤ (x9_1 : Int) := Z27 Q1
         have q446 : x9_1 < (l1.length : Int) := Z27 Q1
         obtain ⟨ad446, e446, hx446_0⟩ := Kd.at_int HR1.out x9_1 p446 q446
         cases e446
         replace p446 := eq_true p446
         replace q446 := eq_true q446
         have p447 : 0 ≤ (x9_1 : Int) := Z27 Q1
         have q447 : x9_1 < (l0.length : Int) := Z27 Q1
         obtain ⟨ad447, e447, hx447_0⟩ := Kd.at_int HR0.out x9_1 p447 q447
         cases e447
         replace p447 := eq_true p447
         replace q447 := eq_true q447
         go_wp2_with (first | (go_at_call 48; (with_reducible refine (impl_within.calls (rd l1 x9_1) 0 (wrap64 ((rd l0 x9_1) - 1)) false _ A8.out).mono ?_); rintro e w' ⟨rfl, ⟨nd, rfl⟩⟩))
         go_ret
         exact ⟨Q13, Q5⟩
       ·rw [if_neg c7] at H
        exact absurd H (by simp)
     ·rw [if_neg c5] at H
      exact absurd H (by simp)
    ·rw [if_neg c4] at H
     exact absurd H (by simp)
   ·rw [if_neg c3] at H
    have c3b0 : decide (x9_1 < (l1.length : Int)) = false := Z34 c3
    clear c3
    obtain rfl := Option.some.inj H
    go_wp2
    go_ret
    exact ⟨Q13, Q5⟩
end Go.Proofs.Ytpfakdhfffehaaa.MFnExactSwapperRank
