import Derived.Test.YtpfakdhfffehaaaMFnExactStepFocusx0
import Derived.Test.YtpfakdhfffehaaaMFnExactStepFocusx1
import Derived.Test.YtpfakdhfffehaaaMFnExactStepFocusx5
import Derived.Test.YtpfakdhfffehaaaMFnExactStepFocusx6
namespace Go.Proofs.Ytpfakdhfffehaaa.MFnExactStepFocus
open Go.RowKit Go.Proofs.YtpfakdhfffehaaaW.PrintWords Go.Proofs.YtpfakdhfffehaaaW.PrintLast Go.Proofs.YtpfakdhfffehaaaW.PrintMore
attribute [local go_sem] max2_int min2_int max_two min_two max_three min_three max_four min_four   
set_option linter.unusedVariables false
set_option linter.unusedSimpArgs false
def spec_foGood.j0 : Nat → Bool → List Int → List Int → List Bool → List Int → Option (Bool)
 | 0, _, _, _, _, _ => none
 | k + 1, x16, x202000, x202001, x202002, x202003 => if x16 = true then (some false) else ((spec_gcMixedRank.f k x202000 x202001).bind fun t204 => ((spec_foAt.f k x202000 t204).bind fun bt205 => (if bt205.2.2.2.2 = true then ((spec_foSame.f k x202000 x202001 x202002 x202003 bt205.1 bt205.2.1 bt205.2.2.1 bt205.2.2.2.1).bind fun t219 => (some t219)) else (some false))))
def spec_foGood.f (k : Nat) (l0_0 : List Int) (l0_1 : List Int) (l0_2 : List Bool) (l0_3 : List Int) : Option (Bool) := (spec_foBases.f k l0_0).bind fun t202 => (if t202 = true then ((spec_raAreDigits.f k l0_0 l0_1).bind fun t203 => (spec_foGood.j0 k (!t203) l0_0 l0_1 l0_2 l0_3)) else (spec_foGood.j0 k true l0_0 l0_1 l0_2 l0_3))
theorem spec_foGood.mono_l : ∀ k, (∀ y0 y1 y2 y3 y4, LeO (spec_foGood.j0 k y0 y1 y2 y3 y4) (spec_foGood.j0 (k + 1) y0 y1 y2 y3 y4))
 | 0 => fun _ _ _ _ _ r h => by simp [spec_foGood.j0] at h
 | k + 1 => by
  have ih0 := spec_foGood.mono_l k
  ·intro y0 y1 y2 y3 y4
   unfold spec_foGood.j0
   repeat' first
   | (with_reducible exact ih0 _ _ _ _ _)
   | (with_reducible exact spec_foAt.mono _ _ _)
   | (with_reducible exact spec_foBases.mono _ _)
   | (with_reducible exact spec_foSame.mono _ _ _ _ _ _ _ _ _)
   | (with_reducible exact spec_gcMixedRank.mono _ _ _)
   | (with_reducible exact spec_raAreDigits.mono _ _ _)
   | (with_reducible exact LeO.refl _)
   | (with_reducible exact LeO.none _)
   | (with_reducible refine LeO.ite ?_ ?_)
   | (with_reducible refine LeO.bind ?_ (fun _ => ?_))
   | exact ih0 _ _ _ _ _
   | exact spec_foAt.mono _ _ _
   | exact spec_foBases.mono _ _
   | exact spec_foSame.mono _ _ _ _ _ _ _ _ _
   | exact spec_gcMixedRank.mono _ _ _
   | exact spec_raAreDigits.mono _ _ _
   | exact LeO.none _
   | refine LeO.ite ?_ ?_
   | refine LeO.bind ?_ (fun _ => ?_)
theorem spec_foGood.mono : ∀ a0 a1 a2 a3 k, LeO (spec_foGood.f k a0 a1 a2 a3) (spec_foGood.f (k + 1) a0 a1 a2 a3) := by
 intro a0 a1 a2 a3 k
 have ih0 := spec_foGood.mono_l k
 unfold spec_foGood.f
 repeat' first
   | (with_reducible exact ih0 _ _ _ _ _)
   | (with_reducible exact spec_foAt.mono _ _ _)
   | (with_reducible exact spec_foBases.mono _ _)
   | (with_reducible exact spec_foSame.mono _ _ _ _ _ _ _ _ _)
   | (with_reducible exact spec_gcMixedRank.mono _ _ _)
   | (with_reducible exact spec_raAreDigits.mono _ _ _)
   | (with_reducible exact LeO.refl _)
   | (with_reducible exact LeO.none _)
   | (with_reducible refine LeO.ite ?_ ?_)
   | (with_reducible refine LeO.bind ?_ (fun _ => ?_))
   | exact ih0 _ _ _ _ _
   | exact spec_foAt.mono _ _ _
   | exact spec_foBases.mono _ _
   | exact spec_foSame.mono _ _ _ _ _ _ _ _ _
   | exact spec_gcMixedRank.mono _ _ _
   | exact spec_raAreDigits.mono _ _ _
   | exact LeO.none _
   | refine LeO.ite ?_ ?_
   | refine LeO.bind ?_ (fun _ => ?_)
def spec_foGood.T3 : Bool × List (List Nat × List Nat) := (true, [([], []), ([0], [0]), ([], []), ([2], [2]), ([], []), ([4], [4]), ([3, 5], [3, 5]), ([1, 6, 6], [1, 6]), ([7], [7]), ([8], [8]), ([8], [8]), ([], []), ([11, 9, 7, 0, 1, 2, 3, 4, 5, 6, 7, 8, 9, 11], [9, 11]), ([10, 12, 0, 1, 2, 3, 4, 5, 6, 7, 8, 9, 10, 11, 12], [10])])
def spec_foGood.B3 : List Nat := [0, 1, 0, 4, 0, 16, 60, 127, 255, 511, 511, 0, 3071, 8191]
theorem spec_foGood.tab3 : rtab .any (opsOf Try.f30 3) = spec_foGood.T3 := by kernel_rfl
theorem spec_foGood.bits3 : waitsOk spec_foGood.T3.2 spec_foGood.B3 = true := by kernel_rfl
set_option maxHeartbeats 8000000 in
set_option maxRecDepth 100000 in
theorem spec_foGood.calls (k : Nat) (A0_0 : Option Addr) (c0_0 : Nat) (l0_0 : List Int) (A0_1 : Option Addr) (c0_1 : Nat) (l0_1 : List Int) (A0_2 : Option Addr) (c0_2 : Nat) (l0_2 : List Bool) (A0_3 : Option Addr) (c0_3 : Nat) (l0_3 : List Int) (r : Bool) (w : World) (hr0_0 : Kd.C (Kd.int .i64) w A0_0 l0_0.length l0_0) (hc0_0 : l0_0.length ≤ c0_0) (hr0_1 : Kd.C (Kd.int .i64) w A0_1 l0_1.length l0_1) (hc0_1 : l0_1.length ≤ c0_1) (hr0_2 : Kd.C Kd.bool w A0_2 l0_2.length l0_2) (hc0_2 : l0_2.length ≤ c0_2) (hr0_3 : Kd.C (Kd.int .i64) w A0_3 l0_3.length l0_3) (hc0_3 : l0_3.length ≤ c0_3) (h : spec_foGood.f k l0_0 l0_1 l0_2 l0_3 = some r) :
  Calls Try.prog 30 #[.agg #[.slice A0_0 l0_0.length c0_0, .slice A0_1 l0_1.length c0_1, .slice A0_2 l0_2.length c0_2, .slice A0_3 l0_3.length c0_3]] w fun e w' => e = .returned (.bool r) ∧ Below w.heap.size w w' := by
 have hu27 := Try.underlying27
 have HR0_0 := Ya hr0_0
 have HC0_0 := Ya hc0_0
 clear hr0_0 hc0_0
 have HR0_1 := Ya hr0_1
 have HC0_1 := Ya hc0_1
 clear hr0_1 hc0_1
 have HR0_2 := Ya hr0_2
 have HC0_2 := Ya hc0_2
 clear hr0_2 hc0_2
 have HR0_3 := Ya hr0_3
 have HC0_3 := Ya hc0_3
 clear hr0_3 hc0_3
 have HB := Ya (Below.refl w.heap.size w)
 have H : ((spec_foBases.f k l0_0).bind fun t202 => (if t202 = true then ((spec_raAreDigits.f k l0_0 l0_1).bind fun t203 => (spec_foGood.j0 k (!t203) l0_0 l0_1 l0_2 l0_3)) else (spec_foGood.j0 k true l0_0 l0_1 l0_2 l0_3))) = some r := h
 clear h
 have HC2 := Ya H
 clear H
 go_enter Try.func30, Try.ntmps30
 go_upto_region 1 with (first | ((with_reducible refine gate_dst (N := 1) rfl ?_); refine Yx 1 #[.slice A0_0 l0_0.length c0_0, .slice A0_1 l0_1.length c0_1, .slice A0_2 l0_2.length c0_2, .slice A0_3 l0_3.length c0_3] 27 ?_; intro gb201 hg w3 hbox hb; have BK201 := Ya hbox; have GW201 := Yg hg; have GE201 := GW201; replace HB := Yh hb; clear hb hbox hg))
 (try simp only [Act.put, Z0, Z1, Z2])
 go_cut [16] (fun v16 wc => ∃ (kq : Nat) (x16_1 : Bool), v16 = .bool x16_1 ∧ Aside0 (spec_foGood.j0 kq x16_1 l0_0 l0_1 l0_2 l0_3 = some r) ∧ Aside0 (kq ≤ k) ∧ Aside0 (wc.heap[gb201]? = some (.cells #[(.slice A0_0 l0_0.length c0_0), (.slice A0_1 l0_1.length c0_1), (.slice A0_2 l0_2.length c0_2), (.slice A0_3 l0_3.length c0_3)] 27 (0, 0))) ∧ Aside0 (Below w.heap.size w wc))
 case first =>
  have H := HC2.out
  clear HC2
  replace H := Z36.mp H
  obtain ⟨t202, A40, H⟩ := H
  replace H : (if t202 = true then ((spec_raAreDigits.f k l0_0 l0_1).bind fun t203 => (spec_foGood.j0 k (!t203) l0_0 l0_1 l0_2 l0_3)) else (spec_foGood.j0 k true l0_0 l0_1 l0_2 l0_3)) = some r := H
  have A4 := Ya A40
  clear A40
  by_cases c5 : t202 = true
  ·subst c5
   have H1 : ((spec_raAreDigits.f k l0_0 l0_1).bind fun t203 => (spec_foGood.j0 k (!t203) l0_0 l0_1 l0_2 l0_3)) = some r := by rw [if_pos rfl] at H; exact H
   clear H
   have H := H1
   clear H1
   replace H := Z36.mp H
   obtain ⟨t203, A60, H⟩ := H
   replace H : (spec_foGood.j0 k (!t203) l0_0 l0_1 l0_2 l0_3) = some r := H
   have A6 := Ya A60
   clear A60
   have H' := Ya H
   clear H
   obtain ⟨hcz7_0, hcz7_1, hcz7_2, hcz7_3, hfz7_0, hfz7_1, hfz7_2, hfz7_3⟩ := Y4 BK201.out
   go_wp2_with (first | ((with_reducible refine gate_callee (f := 58) rfl ?_); refine Yz 7 Try.func58 #[.slice A0_0 l0_0.length c0_0] ?_; (with_reducible refine (spec_foBases.calls k _ _ l0_0 true _ (Yc (Z22 HR0_0.out HB.out)) HC0_0.out A4.out).mono ?_); rintro e w' ⟨rfl, ⟨nd, rfl⟩⟩; refine ⟨_, rfl, ?_⟩) | (go_at_call 59; (with_reducible refine (spec_raAreDigits.calls k _ _ l0_0 _ _ l0_1 t203 _ ?side1 HC0_0.out ?side3 HC0_1.out A6.out).mono ?_); (case side1 => exact Yc (Z22 HR0_0.out Q0)); (case side3 => exact Yc (Z22 HR0_1.out Q0)); rintro e w' ⟨rfl, ⟨nd, rfl⟩⟩))
   go_meet
   case rel => exact ⟨_, (!t203), Q7, H', ⟨Q112⟩, ⟨by (with_reducible repeat (first | refine Z25 ?_ _ | refine Z26 ?_ | refine Z27 ?_ _)); exact BK201.out⟩, ⟨Q12⟩⟩
  ·replace c5 := Bool.eq_false_iff.mpr c5
   subst c5
   have H1 : (spec_foGood.j0 k true l0_0 l0_1 l0_2 l0_3) = some r := by rw [if_neg (show ¬ (false = true) by decide)] at H; exact H
   clear H
   have H := H1
   clear H1
   have H' := Ya H
   clear H
   obtain ⟨hcz8_0, hcz8_1, hcz8_2, hcz8_3, hfz8_0, hfz8_1, hfz8_2, hfz8_3⟩ := Y4 BK201.out
   go_wp2_with (first | ((with_reducible refine gate_callee (f := 58) rfl ?_); refine Yz 7 Try.func58 #[.slice A0_0 l0_0.length c0_0] ?_; (with_reducible refine (spec_foBases.calls k _ _ l0_0 false _ (Yc (Z22 HR0_0.out HB.out)) HC0_0.out A4.out).mono ?_); rintro e w' ⟨rfl, ⟨nd, rfl⟩⟩; refine ⟨_, rfl, ?_⟩))
   go_meet
   case rel => exact ⟨_, (true), Q7, H', ⟨Q112⟩, ⟨by (with_reducible repeat (first | refine Z25 ?_ _ | refine Z26 ?_ | refine Z27 ?_ _)); exact BK201.out⟩, ⟨Q12⟩⟩
 case rest =>
  clear HC2
  try clear p2
  try clear c3
  try clear c5
  try clear hcz7_0
  try clear hcz7_1
  try clear hcz7_2
  try clear hcz7_3
  try clear hcz8_0
  try clear hcz8_1
  try clear hcz8_2
  try clear hcz8_3
  try clear hfz7_0
  try clear hfz7_1
  try clear hfz7_2
  try clear hfz7_3
  try clear hfz8_0
  try clear hfz8_1
  try clear hfz8_2
  try clear hfz8_3
  obtain ⟨kq, x16_1, rfl, HA, HJ1, BK201, HB⟩ := hcut
  cases kq with
  | zero => exact absurd HA.out (by simp [spec_foGood.j0])
  | succ kj1 =>
   have H := HA.out
   clear HA
   simp only [spec_foGood.j0] at H
   by_cases c9 : x16_1 = true
   ·subst c9
    have H1 : (some false) = some r := by rw [if_pos rfl] at H; exact H
    clear H
    have H := H1
    clear H1
    obtain rfl := Option.some.inj H
    go_wp2
    go_ret
    exact ⟨Q2, Q12⟩
   ·replace c9 := Bool.eq_false_iff.mpr c9
    subst c9
    have H1 : ((spec_gcMixedRank.f kj1 l0_0 l0_1).bind fun t204 => ((spec_foAt.f kj1 l0_0 t204).bind fun bt205 => (if bt205.2.2.2.2 = true then ((spec_foSame.f kj1 l0_0 l0_1 l0_2 l0_3 bt205.1 bt205.2.1 bt205.2.2.1 bt205.2.2.2.1).bind fun t219 => (some t219)) else (some false)))) = some r := by rw [if_neg (show ¬ (false = true) by decide)] at H; exact H
    clear H
    have H := H1
    clear H1
    replace H := Z36.mp H
    obtain ⟨t204, A100, H⟩ := H
    replace H : ((spec_foAt.f kj1 l0_0 t204).bind fun bt205 => (if bt205.2.2.2.2 = true then ((spec_foSame.f kj1 l0_0 l0_1 l0_2 l0_3 bt205.1 bt205.2.1 bt205.2.2.1 bt205.2.2.2.1).bind fun t219 => (some t219)) else (some false))) = some r := H
    have A10 := Ya A100
    clear A100
    replace H := Z36.mp H
    obtain ⟨⟨t205, t208, t211, t214, t217⟩, A110, H⟩ := H
    replace H : (if t217 = true then ((spec_foSame.f kj1 l0_0 l0_1 l0_2 l0_3 t205 t208 t211 t214).bind fun t219 => (some t219)) else (some false)) = some r := H
    have A11 := Ya A110
    clear A110
    by_cases c12 : t217 = true
    ·subst c12
     have H1 : ((spec_foSame.f kj1 l0_0 l0_1 l0_2 l0_3 t205 t208 t211 t214).bind fun t219 => (some t219)) = some r := by rw [if_pos rfl] at H; exact H
     clear H
     have H := H1
     clear H1
     replace H := Z36.mp H
     obtain ⟨t219, A130, H⟩ := H
     replace H : (some t219) = some r := H
     have A13 := Ya A130
     clear A130
     obtain rfl := Option.some.inj H
     try go_wp2
     replace BK201 := Ya (Z26 BK201.out)
     replace HB := Ya (Z4 HB.out)
     refine start_ (n := 14) (S := fun w' => w'.cell? ⟨gb201, 0, none⟩ = some (.slice A0_0 l0_0.length c0_0) ∧ w'.cell? ⟨gb201, 1, none⟩ = some (.slice A0_1 l0_1.length c0_1) ∧ w'.cell? ⟨gb201, 2, none⟩ = some (.slice A0_2 l0_2.length c0_2) ∧ w'.cell? ⟨gb201, 3, none⟩ = some (.slice A0_3 l0_3.length c0_3)) (ds := []) (YA 14 0) (by kernel_rfl) rfl rfl ⟨(Z23 BK201.out 0).trans rfl, (Z23 BK201.out 1).trans rfl, (Z23 BK201.out 2).trans rfl, (Z23 BK201.out 3).trans rfl⟩ (fun hHeld => ?_); refine with_tabW spec_foGood.tab3 spec_foGood.bits3 (fun HT_ HW_ => ?_)
     generalize wc.drew = w14 at BK201 HB hHeld ⊢
     refine Yp 0 (some 18) (YA 14 1) rfl HT_.out ?_
     refine Yp 2 (some 20) (YA 14 5) rfl HT_.out ?_
     refine Yp 4 (some 22) (YA 14 21) rfl HT_.out ?_
     refine Yt 1 (some 19) (YA 14 23) rfl HT_.out HW_.out hHeld Q6 ?_
     refine Yt 3 (some 21) (YA 14 31) rfl HT_.out HW_.out hHeld Q6 ?_
     refine Yt 5 (some 23) (YA 14 63) rfl HT_.out HW_.out hHeld Q6 ?_
     refine join_ (σ := Value × Value × Value × Value × Nat) 2 (YA 14 4095) (fun s_ => [(24, .int .i64 t204), (25, .tuple #[.agg #[s_.1, s_.2.1, s_.2.2.1, s_.2.2.2.1], .bool true]), (3, .pointer (some ⟨s_.2.2.2.2, 0, none⟩)), (17, .tuple #[.agg #[s_.1, s_.2.1, s_.2.2.1, s_.2.2.2.1], .bool true]), (26, .agg #[s_.1, s_.2.1, s_.2.2.1, s_.2.2.2.1]), (27, .bool true)]) (fun s_ w' => (w'.cell? ⟨gb201, 0, none⟩ = some (.slice A0_0 l0_0.length c0_0) ∧ w'.cell? ⟨gb201, 1, none⟩ = some (.slice A0_1 l0_1.length c0_1) ∧ w'.cell? ⟨gb201, 2, none⟩ = some (.slice A0_2 l0_2.length c0_2) ∧ w'.cell? ⟨gb201, 3, none⟩ = some (.slice A0_3 l0_3.length c0_3)) ∧ (Kd.R (Kd.int .i64) 3 w' w.heap.size (fun k_ => some k_ ≠ (s_.2.1 : Value).ownBlock ∧ some k_ ≠ (s_.2.2.2.1 : Value).ownBlock) s_.1 t205) ∧ (Kd.R (Kd.int .i64) 3 w' w.heap.size (fun k_ => some k_ ≠ (s_.1 : Value).ownBlock ∧ some k_ ≠ (s_.2.2.2.1 : Value).ownBlock) s_.2.1 t208) ∧ (Kd.R Kd.bool 4 w' w.heap.size (fun _ => True) s_.2.2.1 t211) ∧ (Kd.R (Kd.int .i64) 3 w' w.heap.size (fun k_ => some k_ ≠ (s_.1 : Value).ownBlock ∧ some k_ ≠ (s_.2.1 : Value).ownBlock) s_.2.2.2.1 t214) ∧ (w'.heap[gb201]? = some (.cells #[.slice A0_0 l0_0.length c0_0, .slice A0_1 l0_1.length c0_1, .slice A0_2 l0_2.length c0_2, .slice A0_3 l0_3.length c0_3] 27 (0, 0))) ∧ (w'.heap[s_.2.2.2.2]? = some (.cells #[.slice none 0 0, .slice none 0 0, .slice none 0 0, .slice none 0 0] 27 (0, 0))) ∧ (w.heap.size ≤ s_.2.2.2.2) ∧ (w.heap.size ≤ s_.2.2.2.2) ∧ (gb201 ≠ s_.2.2.2.2) ∧ (s_.2.2.2.2 ≠ gb201) ∧ (Below w.heap.size w w')) ?_ ?_
     rotate_left
     ·intro hCont
      refine two_ (i := 6) (j := 11) (Ni := some 24) (Nj := some 3) (YA 14 127) (YA 14 2111) rfl rfl rfl rfl (two_of HT_.out (by kernel_rfl)) (by decide) (by decide) (fun K hK => ?_) (fun K hK => ?_)
      ·skip
       refine goes_ Try.func61 (by kernel_rfl) rfl #[.slice A0_0 l0_0.length c0_0, .slice A0_1 l0_1.length c0_1] (by rfl) rfl rfl Q4 ?_
       with_reducible refine (spec_gcMixedRank.calls kj1 _ _ l0_0 _ _ l0_1 t204 _ ?side1 ?side2 ?side3 ?side4 A10.out).mono ?_
       (case side1 => exact Yc (Z22 HR0_0.out HB.out))
       (case side2 => exact HC0_0.out)
       (case side3 => exact Yc (Z22 HR0_1.out HB.out))
       (case side4 => exact HC0_1.out)
       rintro e w15 ⟨rfl, hb⟩
       refine ⟨_, rfl, ?_⟩
       replace BK201 := Yb BK201 hb
       replace HB := Yh hb
       (try clear hb)
       refine hK.out _ _ ⟨(Z23 BK201.out 0).trans rfl, (Z23 BK201.out 1).trans rfl, (Z23 BK201.out 2).trans rfl, (Z23 BK201.out 3).trans rfl⟩ (fun hHeld => ?_)
       clear hK K
       refine norm_ (a' := ?_) ?_ ?_
       rotate_left
       ·show Act.put _ (some 24) _ = _
        simp only [Act.put, Z0, Z1, Z2, i64_w, i32_w]
        rfl
       refine two_ (i := 7) (j := 11) (Ni := some 25) (Nj := some 3) (YA 14 255) (YA 14 2175) rfl rfl rfl rfl (two_of HT_.out (by kernel_rfl)) (by decide) (by decide) (fun K hK => ?_) (fun K hK => ?_)
       ·skip
        refine goes_ Try.func60 (by kernel_rfl) rfl #[.slice A0_0 l0_0.length c0_0, .int .i64 t204] (by rfl) rfl rfl Q4 ?_
        with_reducible refine (spec_foAt.calls kj1 _ _ l0_0 t204 t205 t208 t211 t214 true _ ?side1 ?side2 A11.out).mono ?_
        (case side1 => exact Yc (Z22 HR0_0.out HB.out))
        (case side2 => exact HC0_0.out)
        rintro e w16 ⟨v206, v209, v212, v215, rfl, ho0, ho1, ho2, ho3, hb⟩
        refine ⟨_, rfl, ?_⟩
        have HO207 := Yl ho0
        have HO210 := Yl ho1
        have HO213 := Yl ho2
        have HO216 := Yl ho3
        replace BK201 := Yb BK201 hb
        replace HB := Yh hb
        (try clear hb ho0 ho1 ho2 ho3)
        refine hK.out _ _ ⟨(Z23 BK201.out 0).trans rfl, (Z23 BK201.out 1).trans rfl, (Z23 BK201.out 2).trans rfl, (Z23 BK201.out 3).trans rfl⟩ (fun hHeld => ?_)
        clear hK K
        refine norm_ (a' := ?_) ?_ ?_
        rotate_left
        ·show Act.put _ (some 25) _ = _
         simp only [Act.put, Z0, Z1, Z2, i64_w, i32_w]
         rfl
        refine Yp 8 (some 17) (YA 14 511) rfl HT_.out ?_
        refine Yp 9 (some 26) (YA 14 1023) rfl HT_.out ?_
        refine Yp 10 (some 27) (YA 14 2047) rfl HT_.out ?_
        refine one_ (i := 11) (N := some 3) (YA 14 4095) rfl rfl (one_of HT_.out (by kernel_rfl)) (by decide) (fun K hK => ?_)
        refine Yy 3 #[.slice none 0 0, .slice none 0 0, .slice none 0 0, .slice none 0 0] 27 ?_
        intro gb218 hg w17 hbox hb
        replace HO207 := Yw HO207 hb
        replace HO210 := Yw HO210 hb
        replace HO213 := Yw HO213 hb
        replace HO216 := Yw HO216 hb
        have BK218 := Ya hbox
        have GW218 := Yg hg
        have GE218 := GW218
        replace HB := Yh hb
        have NB201_218 := Yn BK201 hg
        have NB218_201 := Ym BK201 hg
        replace BK201 := Yb BK201 hb
        clear hb hbox hg
        refine hK.out _ _ ⟨(Z23 BK201.out 0).trans rfl, (Z23 BK201.out 1).trans rfl, (Z23 BK201.out 2).trans rfl, (Z23 BK201.out 3).trans rfl⟩ (fun hHeld => ?_)
        clear hK K
        refine norm_ (a' := ?_) ?_ ?_
        rotate_left
        ·show Act.put _ (some 3) _ = _
         simp only [Act.put, Z0, Z1, Z2, i64_w, i32_w]
         rfl
        exact norm_ Q89 (hCont (v206, v209, v212, v215, gb218) _ ⟨hHeld, (Yr HO207.out), (Yr HO210.out), (Yr HO213.out), (Yr HO216.out), (Yk BK201.out), (Yk BK218.out), GW218.out, GE218.out, NB201_218.out, NB218_201.out, Q0⟩)
       ·skip
        refine Yy 3 #[.slice none 0 0, .slice none 0 0, .slice none 0 0, .slice none 0 0] 27 ?_
        intro gb218 hg w16 hbox hb
        have BK218 := Ya hbox
        have GW218 := Yg hg
        have GE218 := GW218
        replace HB := Yh hb
        have NB201_218 := Yn BK201 hg
        have NB218_201 := Ym BK201 hg
        replace BK201 := Yb BK201 hb
        clear hb hbox hg
        refine hK.out _ _ ⟨(Z23 BK201.out 0).trans rfl, (Z23 BK201.out 1).trans rfl, (Z23 BK201.out 2).trans rfl, (Z23 BK201.out 3).trans rfl⟩ (fun hHeld => ?_)
        clear hK K
        refine norm_ (a' := ?_) ?_ ?_
        rotate_left
        ·show Act.put _ (some 3) _ = _
         simp only [Act.put, Z0, Z1, Z2, i64_w, i32_w]
         rfl
        refine one_ (i := 7) (N := some 25) (YA 14 2303) rfl rfl (one_of HT_.out (by kernel_rfl)) (by decide) (fun K hK => ?_)
        refine goes_ Try.func60 (by kernel_rfl) rfl #[.slice A0_0 l0_0.length c0_0, .int .i64 t204] (by rfl) rfl rfl Q4 ?_
        with_reducible refine (spec_foAt.calls kj1 _ _ l0_0 t204 t205 t208 t211 t214 true _ ?side1 ?side2 A11.out).mono ?_
        (case side1 => exact Yc (Z22 HR0_0.out HB.out))
        (case side2 => exact HC0_0.out)
        rintro e w17 ⟨v206, v209, v212, v215, rfl, ho0, ho1, ho2, ho3, hb⟩
        refine ⟨_, rfl, ?_⟩
        have HO207 := Yl ho0
        have HO210 := Yl ho1
        have HO213 := Yl ho2
        have HO216 := Yl ho3
        replace BK201 := Yb BK201 hb
        replace BK218 := Yb BK218 hb
        replace HB := Yh hb
        (try clear hb ho0 ho1 ho2 ho3)
        refine hK.out _ _ ⟨(Z23 BK201.out 0).trans rfl, (Z23 BK201.out 1).trans rfl, (Z23 BK201.out 2).trans rfl, (Z23 BK201.out 3).trans rfl⟩ (fun hHeld => ?_)
        clear hK K
        refine norm_ (a' := ?_) ?_ ?_
        rotate_left
        ·show Act.put _ (some 25) _ = _
         simp only [Act.put, Z0, Z1, Z2, i64_w, i32_w]
         rfl
        refine Yp 8 (some 17) (YA 14 2559) rfl HT_.out ?_
        refine Yp 9 (some 26) (YA 14 3071) rfl HT_.out ?_
        refine Yp 10 (some 27) (YA 14 4095) rfl HT_.out ?_
        exact norm_ Q89 (hCont (v206, v209, v212, v215, gb218) _ ⟨hHeld, (Yr HO207.out), (Yr HO210.out), (Yr HO213.out), (Yr HO216.out), (Yk BK201.out), (Yk BK218.out), GW218.out, GE218.out, NB201_218.out, NB218_201.out, Q0⟩)
      ·skip
       refine Yy 3 #[.slice none 0 0, .slice none 0 0, .slice none 0 0, .slice none 0 0] 27 ?_
       intro gb218 hg w15 hbox hb
       have BK218 := Ya hbox
       have GW218 := Yg hg
       have GE218 := GW218
       replace HB := Yh hb
       have NB201_218 := Yn BK201 hg
       have NB218_201 := Ym BK201 hg
       replace BK201 := Yb BK201 hb
       clear hb hbox hg
       refine hK.out _ _ ⟨(Z23 BK201.out 0).trans rfl, (Z23 BK201.out 1).trans rfl, (Z23 BK201.out 2).trans rfl, (Z23 BK201.out 3).trans rfl⟩ (fun hHeld => ?_)
       clear hK K
       refine norm_ (a' := ?_) ?_ ?_
       rotate_left
       ·show Act.put _ (some 3) _ = _
        simp only [Act.put, Z0, Z1, Z2, i64_w, i32_w]
        rfl
       refine one_ (i := 6) (N := some 24) (YA 14 2175) rfl rfl (one_of HT_.out (by kernel_rfl)) (by decide) (fun K hK => ?_)
       refine goes_ Try.func61 (by kernel_rfl) rfl #[.slice A0_0 l0_0.length c0_0, .slice A0_1 l0_1.length c0_1] (by rfl) rfl rfl Q4 ?_
       with_reducible refine (spec_gcMixedRank.calls kj1 _ _ l0_0 _ _ l0_1 t204 _ ?side1 ?side2 ?side3 ?side4 A10.out).mono ?_
       (case side1 => exact Yc (Z22 HR0_0.out HB.out))
       (case side2 => exact HC0_0.out)
       (case side3 => exact Yc (Z22 HR0_1.out HB.out))
       (case side4 => exact HC0_1.out)
       rintro e w16 ⟨rfl, hb⟩
       refine ⟨_, rfl, ?_⟩
       replace BK201 := Yb BK201 hb
       replace BK218 := Yb BK218 hb
       replace HB := Yh hb
       (try clear hb)
       refine hK.out _ _ ⟨(Z23 BK201.out 0).trans rfl, (Z23 BK201.out 1).trans rfl, (Z23 BK201.out 2).trans rfl, (Z23 BK201.out 3).trans rfl⟩ (fun hHeld => ?_)
       clear hK K
       refine norm_ (a' := ?_) ?_ ?_
       rotate_left
       ·show Act.put _ (some 24) _ = _
        simp only [Act.put, Z0, Z1, Z2, i64_w, i32_w]
        rfl
       refine one_ (i := 7) (N := some 25) (YA 14 2303) rfl rfl (one_of HT_.out (by kernel_rfl)) (by decide) (fun K hK => ?_)
       refine goes_ Try.func60 (by kernel_rfl) rfl #[.slice A0_0 l0_0.length c0_0, .int .i64 t204] (by rfl) rfl rfl Q4 ?_
       with_reducible refine (spec_foAt.calls kj1 _ _ l0_0 t204 t205 t208 t211 t214 true _ ?side1 ?side2 A11.out).mono ?_
       (case side1 => exact Yc (Z22 HR0_0.out HB.out))
       (case side2 => exact HC0_0.out)
       rintro e w17 ⟨v206, v209, v212, v215, rfl, ho0, ho1, ho2, ho3, hb⟩
       refine ⟨_, rfl, ?_⟩
       have HO207 := Yl ho0
       have HO210 := Yl ho1
       have HO213 := Yl ho2
       have HO216 := Yl ho3
       replace BK201 := Yb BK201 hb
       replace BK218 := Yb BK218 hb
       replace HB := Yh hb
       (try clear hb ho0 ho1 ho2 ho3)
       refine hK.out _ _ ⟨(Z23 BK201.out 0).trans rfl, (Z23 BK201.out 1).trans rfl, (Z23 BK201.out 2).trans rfl, (Z23 BK201.out 3).trans rfl⟩ (fun hHeld => ?_)
       clear hK K
       refine norm_ (a' := ?_) ?_ ?_
       rotate_left
       ·show Act.put _ (some 25) _ = _
        simp only [Act.put, Z0, Z1, Z2, i64_w, i32_w]
        rfl
       refine Yp 8 (some 17) (YA 14 2559) rfl HT_.out ?_
       refine Yp 9 (some 26) (YA 14 3071) rfl HT_.out ?_
       refine Yp 10 (some 27) (YA 14 4095) rfl HT_.out ?_
       exact norm_ Q89 (hCont (v206, v209, v212, v215, gb218) _ ⟨hHeld, (Yr HO207.out), (Yr HO210.out), (Yr HO213.out), (Yr HO216.out), (Yk BK201.out), (Yk BK218.out), GW218.out, GE218.out, NB201_218.out, NB218_201.out, Q0⟩)
     rintro ⟨v206, v209, v212, v215, gb218⟩ w18 ⟨hS_, h0_, h1_, h2_, h3_, h4_, h5_, h6_, h7_, h8_, h9_, h10_⟩
     have HO207 : Aside0 (Kd.R (Kd.int .i64) 3 w18 w.heap.size (fun k_ => some k_ ≠ (v209 : Value).ownBlock ∧ some k_ ≠ (v215 : Value).ownBlock) v206 t205) := ⟨h0_⟩
     have HO210 : Aside0 (Kd.R (Kd.int .i64) 3 w18 w.heap.size (fun k_ => some k_ ≠ (v206 : Value).ownBlock ∧ some k_ ≠ (v215 : Value).ownBlock) v209 t208) := ⟨h1_⟩
     have HO213 : Aside0 (Kd.R Kd.bool 4 w18 w.heap.size (fun _ => True) v212 t211) := ⟨h2_⟩
     have HO216 : Aside0 (Kd.R (Kd.int .i64) 3 w18 w.heap.size (fun k_ => some k_ ≠ (v206 : Value).ownBlock ∧ some k_ ≠ (v209 : Value).ownBlock) v215 t214) := ⟨h3_⟩
     replace BK201 : Aside0 (w18.heap[gb201]? = some (.cells #[.slice A0_0 l0_0.length c0_0, .slice A0_1 l0_1.length c0_1, .slice A0_2 l0_2.length c0_2, .slice A0_3 l0_3.length c0_3] 27 (0, 0))) := ⟨h4_⟩
     have BK218 : Aside0 (w18.heap[gb218]? = some (.cells #[.slice none 0 0, .slice none 0 0, .slice none 0 0, .slice none 0 0] 27 (0, 0))) := ⟨h5_⟩
     have GW218 : Aside0 (w.heap.size ≤ gb218) := ⟨h6_⟩
     have GE218 : Aside0 (w.heap.size ≤ gb218) := ⟨h7_⟩
     have NB201_218 : Aside0 (gb201 ≠ gb218) := ⟨h8_⟩
     have NB218_201 : Aside0 (gb218 ≠ gb201) := ⟨h9_⟩
     replace HB : Aside0 (Below w.heap.size w w18) := ⟨h10_⟩
     clear h0_ h1_ h2_ h3_ h4_ h5_ h6_ h7_ h8_ h9_ h10_
     have hHeld : w18.cell? ⟨gb201, 0, none⟩ = some (.slice A0_0 l0_0.length c0_0) ∧ w18.cell? ⟨gb201, 1, none⟩ = some (.slice A0_1 l0_1.length c0_1) ∧ w18.cell? ⟨gb201, 2, none⟩ = some (.slice A0_2 l0_2.length c0_2) ∧ w18.cell? ⟨gb201, 3, none⟩ = some (.slice A0_3 l0_3.length c0_3) := hS_
     obtain ⟨Ao19, co19, eo19⟩ := Z18 HO207.out
     (first | subst eo19 | (injection eo19 with f1_ f2_ f3_; have f4_ := f1_.symm; have f5_ := f3_.symm; clear f1_ f2_ f3_; subst f4_; subst f5_))
     obtain ⟨Ao21, co21, eo21⟩ := Z18 HO210.out
     (first | subst eo21 | (injection eo21 with f1_ f2_ f3_; have f4_ := f1_.symm; have f5_ := f3_.symm; clear f1_ f2_ f3_; subst f4_; subst f5_))
     obtain ⟨Ao23, co23, eo23⟩ := Z18 HO213.out
     (first | subst eo23 | (injection eo23 with f1_ f2_ f3_; have f4_ := f1_.symm; have f5_ := f3_.symm; clear f1_ f2_ f3_; subst f4_; subst f5_))
     obtain ⟨Ao25, co25, eo25⟩ := Z18 HO216.out
     (first | subst eo25 | (injection eo25 with f1_ f2_ f3_; have f4_ := f1_.symm; have f5_ := f3_.symm; clear f1_ f2_ f3_; subst f4_; subst f5_))
     refine norm_ (a' := ?_) ?_ ?_
     rotate_left
     ·simp only [putAll, Act.put, Z0, Z1, Z2]
      rfl
     refine one_ (i := 12) (N := none) (YA 14 8191) rfl rfl (one_of HT_.out (by kernel_rfl)) (by decide) (fun K hK => ?_)
     have hs20 : w18.cell? ⟨gb218, 0, none⟩ = some (.slice none 0 0) := (Z23 BK218.out 0).trans rfl
     have hfs20 := Z24 BK218.out 0
     have hns20_0 := NB201_218.out
     have hms20_0 := NB218_201.out
     have hs22 : w18.cell? ⟨gb218, 1, none⟩ = some (.slice none 0 0) := (Z23 BK218.out 1).trans rfl
     have hfs22 := Z24 BK218.out 1
     have hns22_0 := NB201_218.out
     have hms22_0 := NB218_201.out
     have hs24 : w18.cell? ⟨gb218, 2, none⟩ = some (.slice none 0 0) := (Z23 BK218.out 2).trans rfl
     have hfs24 := Z24 BK218.out 2
     have hns24_0 := NB201_218.out
     have hms24_0 := NB218_201.out
     have hs26 : w18.cell? ⟨gb218, 3, none⟩ = some (.slice none 0 0) := (Z23 BK218.out 3).trans rfl
     have hfs26 := Z24 BK218.out 3
     have hns26_0 := NB201_218.out
     have hms26_0 := NB218_201.out
     refine skip_ (w1 := ?_) (by rfl) rfl ?_ ?_
     rotate_left
     ·go_simp
      rfl
     refine hK.out _ _ ⟨((cell_far (p := ⟨gb218, _, none⟩) NB201_218.out _).trans (((cell_far (p := ⟨gb218, _, none⟩) NB201_218.out _).trans (((cell_far (p := ⟨gb218, _, none⟩) NB201_218.out _).trans (((cell_far (p := ⟨gb218, _, none⟩) NB201_218.out _).trans (hHeld.1)))))))), ((cell_far (p := ⟨gb218, _, none⟩) NB201_218.out _).trans (((cell_far (p := ⟨gb218, _, none⟩) NB201_218.out _).trans (((cell_far (p := ⟨gb218, _, none⟩) NB201_218.out _).trans (((cell_far (p := ⟨gb218, _, none⟩) NB201_218.out _).trans (hHeld.2.1)))))))), ((cell_far (p := ⟨gb218, _, none⟩) NB201_218.out _).trans (((cell_far (p := ⟨gb218, _, none⟩) NB201_218.out _).trans (((cell_far (p := ⟨gb218, _, none⟩) NB201_218.out _).trans (((cell_far (p := ⟨gb218, _, none⟩) NB201_218.out _).trans (hHeld.2.2.1)))))))), ((cell_far (p := ⟨gb218, _, none⟩) NB201_218.out _).trans (((cell_far (p := ⟨gb218, _, none⟩) NB201_218.out _).trans (((cell_far (p := ⟨gb218, _, none⟩) NB201_218.out _).trans (((cell_far (p := ⟨gb218, _, none⟩) NB201_218.out _).trans (hHeld.2.2.2))))))))⟩ (fun hHeld => ?_)
     clear hK K
     refine Yp 13 (some 4) (YA 14 16383) rfl HT_.out ?_
     refine done_ (done_of HT_.out (by kernel_rfl)) ?_
     have hnb27 := NB201_218.out
     have hnc27 := NB218_201.out
     have hz28 := Y4 BK201.out
     have hz29 := Y4 BK218.out
     try go_wp2_with (first | (go_at_call 62; (with_reducible refine (spec_foSame.calls kj1 _ _ l0_0 _ _ l0_1 _ _ l0_2 _ _ l0_3 _ _ t205 _ _ t208 _ _ t211 _ _ t214 t219 _ ?side1 HC0_0.out ?side3 HC0_1.out ?side5 HC0_2.out ?side7 HC0_3.out ?side9 ((Kd.R_reads' HO207.out).2.1) ?side11 ((Kd.R_reads' HO210.out).2.1) ?side13 ((Kd.R_reads' HO213.out).2.1) ?side15 ((Kd.R_reads' HO216.out).2.1) A13.out).mono ?_); (case side1 => exact Z22 HR0_0.out Q0); (case side3 => exact Z22 HR0_1.out Q0); (case side5 => exact Z22 HR0_2.out Q0); (case side7 => exact Z22 HR0_3.out Q0); (case side9 => refine (Kd.R_reads' (e := 3) (base := w.heap.size) (ok := fun k_ => (some k_ ≠ (.slice Ao21 t208.length co21 : Value).ownBlock ∧ some k_ ≠ (.slice Ao25 t214.length co25 : Value).ownBlock)) (n := t205.length) (c := co19) ?_).2.2; exact Q158); (case side11 => refine (Kd.R_reads' (e := 3) (base := w.heap.size) (ok := fun k_ => (some k_ ≠ (.slice Ao19 t205.length co19 : Value).ownBlock ∧ some k_ ≠ (.slice Ao25 t214.length co25 : Value).ownBlock)) (n := t208.length) (c := co21) ?_).2.2; exact Q157); (case side13 => refine (Kd.R_reads' (e := 4) (base := w.heap.size) (ok := fun k_ => True) (n := t211.length) (c := co23) ?_).2.2; exact Q156); (case side15 => refine (Kd.R_reads' (e := 3) (base := w.heap.size) (ok := fun k_ => (some k_ ≠ (.slice Ao19 t205.length co19 : Value).ownBlock ∧ some k_ ≠ (.slice Ao21 t208.length co21 : Value).ownBlock)) (n := t214.length) (c := co25) ?_).2.2; exact Q155); rintro e w30 ⟨rfl, hb⟩; replace HO207 := Ya (Z13 Q158 hb); replace HO210 := Ya (Z13 Q157 hb); replace HO213 := Ya (Z13 Q156 hb); replace HO216 := Ya (Z13 Q155 hb); replace BK201 := Yb ⟨Yo4 BK201.out NB201_218.out⟩ hb; replace BK218 := Yb ⟨Yv4 BK218.out⟩ hb; replace HB := Yh hb; (try clear hb)))
     go_ret
     exact ⟨Q2, Q12⟩
    ·replace c12 := Bool.eq_false_iff.mpr c12
     subst c12
     have H1 : (some false) = some r := by rw [if_neg (show ¬ (false = true) by decide)] at H; exact H
     clear H
     have H := H1
     clear H1
     obtain rfl := Option.some.inj H
     try go_wp2
     replace BK201 := Ya (Z26 BK201.out)
     replace HB := Ya (Z4 HB.out)
     refine start_ (n := 14) (S := fun w' => w'.cell? ⟨gb201, 0, none⟩ = some (.slice A0_0 l0_0.length c0_0) ∧ w'.cell? ⟨gb201, 1, none⟩ = some (.slice A0_1 l0_1.length c0_1) ∧ w'.cell? ⟨gb201, 2, none⟩ = some (.slice A0_2 l0_2.length c0_2) ∧ w'.cell? ⟨gb201, 3, none⟩ = some (.slice A0_3 l0_3.length c0_3)) (ds := []) (YA 14 0) (by kernel_rfl) rfl rfl ⟨(Z23 BK201.out 0).trans rfl, (Z23 BK201.out 1).trans rfl, (Z23 BK201.out 2).trans rfl, (Z23 BK201.out 3).trans rfl⟩ (fun hHeld => ?_); refine with_tabW spec_foGood.tab3 spec_foGood.bits3 (fun HT_ HW_ => ?_)
     generalize wc.drew = w31 at BK201 HB hHeld ⊢
     refine Yp 0 (some 18) (YA 14 1) rfl HT_.out ?_
     refine Yp 2 (some 20) (YA 14 5) rfl HT_.out ?_
     refine Yp 4 (some 22) (YA 14 21) rfl HT_.out ?_
     refine Yt 1 (some 19) (YA 14 23) rfl HT_.out HW_.out hHeld Q6 ?_
     refine Yt 3 (some 21) (YA 14 31) rfl HT_.out HW_.out hHeld Q6 ?_
     refine Yt 5 (some 23) (YA 14 63) rfl HT_.out HW_.out hHeld Q6 ?_
     refine join_ (σ := Value × Value × Value × Value × Nat) 2 (YA 14 4095) (fun s_ => [(24, .int .i64 t204), (25, .tuple #[.agg #[s_.1, s_.2.1, s_.2.2.1, s_.2.2.2.1], .bool false]), (3, .pointer (some ⟨s_.2.2.2.2, 0, none⟩)), (17, .tuple #[.agg #[s_.1, s_.2.1, s_.2.2.1, s_.2.2.2.1], .bool false]), (26, .agg #[s_.1, s_.2.1, s_.2.2.1, s_.2.2.2.1]), (27, .bool false)]) (fun s_ w' => (w'.cell? ⟨gb201, 0, none⟩ = some (.slice A0_0 l0_0.length c0_0) ∧ w'.cell? ⟨gb201, 1, none⟩ = some (.slice A0_1 l0_1.length c0_1) ∧ w'.cell? ⟨gb201, 2, none⟩ = some (.slice A0_2 l0_2.length c0_2) ∧ w'.cell? ⟨gb201, 3, none⟩ = some (.slice A0_3 l0_3.length c0_3)) ∧ (Kd.R (Kd.int .i64) 3 w' w.heap.size (fun k_ => some k_ ≠ (s_.2.1 : Value).ownBlock ∧ some k_ ≠ (s_.2.2.2.1 : Value).ownBlock) s_.1 t205) ∧ (Kd.R (Kd.int .i64) 3 w' w.heap.size (fun k_ => some k_ ≠ (s_.1 : Value).ownBlock ∧ some k_ ≠ (s_.2.2.2.1 : Value).ownBlock) s_.2.1 t208) ∧ (Kd.R Kd.bool 4 w' w.heap.size (fun _ => True) s_.2.2.1 t211) ∧ (Kd.R (Kd.int .i64) 3 w' w.heap.size (fun k_ => some k_ ≠ (s_.1 : Value).ownBlock ∧ some k_ ≠ (s_.2.1 : Value).ownBlock) s_.2.2.2.1 t214) ∧ (w'.heap[gb201]? = some (.cells #[.slice A0_0 l0_0.length c0_0, .slice A0_1 l0_1.length c0_1, .slice A0_2 l0_2.length c0_2, .slice A0_3 l0_3.length c0_3] 27 (0, 0))) ∧ (w'.heap[s_.2.2.2.2]? = some (.cells #[.slice none 0 0, .slice none 0 0, .slice none 0 0, .slice none 0 0] 27 (0, 0))) ∧ (w.heap.size ≤ s_.2.2.2.2) ∧ (w.heap.size ≤ s_.2.2.2.2) ∧ (gb201 ≠ s_.2.2.2.2) ∧ (s_.2.2.2.2 ≠ gb201) ∧ (Below w.heap.size w w')) ?_ ?_
     rotate_left
     ·intro hCont
      refine two_ (i := 6) (j := 11) (Ni := some 24) (Nj := some 3) (YA 14 127) (YA 14 2111) rfl rfl rfl rfl (two_of HT_.out (by kernel_rfl)) (by decide) (by decide) (fun K hK => ?_) (fun K hK => ?_)
      ·skip
       refine goes_ Try.func61 (by kernel_rfl) rfl #[.slice A0_0 l0_0.length c0_0, .slice A0_1 l0_1.length c0_1] (by rfl) rfl rfl Q4 ?_
       with_reducible refine (spec_gcMixedRank.calls kj1 _ _ l0_0 _ _ l0_1 t204 _ ?side1 ?side2 ?side3 ?side4 A10.out).mono ?_
       (case side1 => exact Yc (Z22 HR0_0.out HB.out))
       (case side2 => exact HC0_0.out)
       (case side3 => exact Yc (Z22 HR0_1.out HB.out))
       (case side4 => exact HC0_1.out)
       rintro e w32 ⟨rfl, hb⟩
       refine ⟨_, rfl, ?_⟩
       replace BK201 := Yb BK201 hb
       replace HB := Yh hb
       (try clear hb)
       refine hK.out _ _ ⟨(Z23 BK201.out 0).trans rfl, (Z23 BK201.out 1).trans rfl, (Z23 BK201.out 2).trans rfl, (Z23 BK201.out 3).trans rfl⟩ (fun hHeld => ?_)
       clear hK K
       refine norm_ (a' := ?_) ?_ ?_
       rotate_left
       ·show Act.put _ (some 24) _ = _
        simp only [Act.put, Z0, Z1, Z2, i64_w, i32_w]
        rfl
       refine two_ (i := 7) (j := 11) (Ni := some 25) (Nj := some 3) (YA 14 255) (YA 14 2175) rfl rfl rfl rfl (two_of HT_.out (by kernel_rfl)) (by decide) (by decide) (fun K hK => ?_) (fun K hK => ?_)
       ·skip
        refine goes_ Try.func60 (by kernel_rfl) rfl #[.slice A0_0 l0_0.length c0_0, .int .i64 t204] (by rfl) rfl rfl Q4 ?_
        with_reducible refine (spec_foAt.calls kj1 _ _ l0_0 t204 t205 t208 t211 t214 false _ ?side1 ?side2 A11.out).mono ?_
        (case side1 => exact Yc (Z22 HR0_0.out HB.out))
        (case side2 => exact HC0_0.out)
        rintro e w33 ⟨v206, v209, v212, v215, rfl, ho0, ho1, ho2, ho3, hb⟩
        refine ⟨_, rfl, ?_⟩
        have HO207 := Yl ho0
        have HO210 := Yl ho1
        have HO213 := Yl ho2
        have HO216 := Yl ho3
        replace BK201 := Yb BK201 hb
        replace HB := Yh hb
        (try clear hb ho0 ho1 ho2 ho3)
        refine hK.out _ _ ⟨(Z23 BK201.out 0).trans rfl, (Z23 BK201.out 1).trans rfl, (Z23 BK201.out 2).trans rfl, (Z23 BK201.out 3).trans rfl⟩ (fun hHeld => ?_)
        clear hK K
        refine norm_ (a' := ?_) ?_ ?_
        rotate_left
        ·show Act.put _ (some 25) _ = _
         simp only [Act.put, Z0, Z1, Z2, i64_w, i32_w]
         rfl
        refine Yp 8 (some 17) (YA 14 511) rfl HT_.out ?_
        refine Yp 9 (some 26) (YA 14 1023) rfl HT_.out ?_
        refine Yp 10 (some 27) (YA 14 2047) rfl HT_.out ?_
        refine one_ (i := 11) (N := some 3) (YA 14 4095) rfl rfl (one_of HT_.out (by kernel_rfl)) (by decide) (fun K hK => ?_)
        refine Yy 3 #[.slice none 0 0, .slice none 0 0, .slice none 0 0, .slice none 0 0] 27 ?_
        intro gb218 hg w34 hbox hb
        replace HO207 := Yw HO207 hb
        replace HO210 := Yw HO210 hb
        replace HO213 := Yw HO213 hb
        replace HO216 := Yw HO216 hb
        have BK218 := Ya hbox
        have GW218 := Yg hg
        have GE218 := GW218
        replace HB := Yh hb
        have NB201_218 := Yn BK201 hg
        have NB218_201 := Ym BK201 hg
        replace BK201 := Yb BK201 hb
        clear hb hbox hg
        refine hK.out _ _ ⟨(Z23 BK201.out 0).trans rfl, (Z23 BK201.out 1).trans rfl, (Z23 BK201.out 2).trans rfl, (Z23 BK201.out 3).trans rfl⟩ (fun hHeld => ?_)
        clear hK K
        refine norm_ (a' := ?_) ?_ ?_
        rotate_left
        ·show Act.put _ (some 3) _ = _
         simp only [Act.put, Z0, Z1, Z2, i64_w, i32_w]
         rfl
        exact norm_ Q89 (hCont (v206, v209, v212, v215, gb218) _ ⟨hHeld, (Yr HO207.out), (Yr HO210.out), (Yr HO213.out), (Yr HO216.out), (Yk BK201.out), (Yk BK218.out), GW218.out, GE218.out, NB201_218.out, NB218_201.out, Q0⟩)
       ·skip
        refine Yy 3 #[.slice none 0 0, .slice none 0 0, .slice none 0 0, .slice none 0 0] 27 ?_
        intro gb218 hg w33 hbox hb
        have BK218 := Ya hbox
        have GW218 := Yg hg
        have GE218 := GW218
        replace HB := Yh hb
        have NB201_218 := Yn BK201 hg
        have NB218_201 := Ym BK201 hg
        replace BK201 := Yb BK201 hb
        clear hb hbox hg
        refine hK.out _ _ ⟨(Z23 BK201.out 0).trans rfl, (Z23 BK201.out 1).trans rfl, (Z23 BK201.out 2).trans rfl, (Z23 BK201.out 3).trans rfl⟩ (fun hHeld => ?_)
        clear hK K
        refine norm_ (a' := ?_) ?_ ?_
        rotate_left
        ·show Act.put _ (some 3) _ = _
         simp only [Act.put, Z0, Z1, Z2, i64_w, i32_w]
         rfl
        refine one_ (i := 7) (N := some 25) (YA 14 2303) rfl rfl (one_of HT_.out (by kernel_rfl)) (by decide) (fun K hK => ?_)
        refine goes_ Try.func60 (by kernel_rfl) rfl #[.slice A0_0 l0_0.length c0_0, .int .i64 t204] (by rfl) rfl rfl Q4 ?_
        with_reducible refine (spec_foAt.calls kj1 _ _ l0_0 t204 t205 t208 t211 t214 false _ ?side1 ?side2 A11.out).mono ?_
        (case side1 => exact Yc (Z22 HR0_0.out HB.out))
        (case side2 => exact HC0_0.out)
        rintro e w34 ⟨v206, v209, v212, v215, rfl, ho0, ho1, ho2, ho3, hb⟩
        refine ⟨_, rfl, ?_⟩
        have HO207 := Yl ho0
        have HO210 := Yl ho1
        have HO213 := Yl ho2
        have HO216 := Yl ho3
        replace BK201 := Yb BK201 hb
        replace BK218 := Yb BK218 hb
        replace HB := Yh hb
        (try clear hb ho0 ho1 ho2 ho3)
        refine hK.out _ _ ⟨(Z23 BK201.out 0).trans rfl, (Z23 BK201.out 1).trans rfl, (Z23 BK201.out 2).trans rfl, (Z23 BK201.out 3).trans rfl⟩ (fun hHeld => ?_)
        clear hK K
        refine norm_ (a' := ?_) ?_ ?_
        rotate_left
        ·show Act.put _ (some 25) _ = _
         simp only [Act.put, Z0, Z1, Z2, i64_w, i32_w]
         rfl
        refine Yp 8 (some 17) (YA 14 2559) rfl HT_.out ?_
        refine Yp 9 (some 26) (YA 14 3071) rfl HT_.out ?_
        refine Yp 10 (some 27) (YA 14 4095) rfl HT_.out ?_
        exact norm_ Q89 (hCont (v206, v209, v212, v215, gb218) _ ⟨hHeld, (Yr HO207.out), (Yr HO210.out), (Yr HO213.out), (Yr HO216.out), (Yk BK201.out), (Yk BK218.out), GW218.out, GE218.out, NB201_218.out, NB218_201.out, Q0⟩)
      ·skip
       refine Yy 3 #[.slice none 0 0, .slice none 0 0, .slice none 0 0, .slice none 0 0] 27 ?_
       intro gb218 hg w32 hbox hb
       have BK218 := Ya hbox
       have GW218 := Yg hg
       have GE218 := GW218
       replace HB := Yh hb
       have NB201_218 := Yn BK201 hg
       have NB218_201 := Ym BK201 hg
       replace BK201 := Yb BK201 hb
       clear hb hbox hg
       refine hK.out _ _ ⟨(Z23 BK201.out 0).trans rfl, (Z23 BK201.out 1).trans rfl, (Z23 BK201.out 2).trans rfl, (Z23 BK201.out 3).trans rfl⟩ (fun hHeld => ?_)
       clear hK K
       refine norm_ (a' := ?_) ?_ ?_
       rotate_left
       ·show Act.put _ (some 3) _ = _
        simp only [Act.put, Z0, Z1, Z2, i64_w, i32_w]
        rfl
       refine one_ (i := 6) (N := some 24) (YA 14 2175) rfl rfl (one_of HT_.out (by kernel_rfl)) (by decide) (fun K hK => ?_)
       refine goes_ Try.func61 (by kernel_rfl) rfl #[.slice A0_0 l0_0.length c0_0, .slice A0_1 l0_1.length c0_1] (by rfl) rfl rfl Q4 ?_
       with_reducible refine (spec_gcMixedRank.calls kj1 _ _ l0_0 _ _ l0_1 t204 _ ?side1 ?side2 ?side3 ?side4 A10.out).mono ?_
       (case side1 => exact Yc (Z22 HR0_0.out HB.out))
       (case side2 => exact HC0_0.out)
       (case side3 => exact Yc (Z22 HR0_1.out HB.out))
       (case side4 => exact HC0_1.out)
       rintro e w33 ⟨rfl, hb⟩
       refine ⟨_, rfl, ?_⟩
       replace BK201 := Yb BK201 hb
       replace BK218 := Yb BK218 hb
       replace HB := Yh hb
       (try clear hb)
       refine hK.out _ _ ⟨(Z23 BK201.out 0).trans rfl, (Z23 BK201.out 1).trans rfl, (Z23 BK201.out 2).trans rfl, (Z23 BK201.out 3).trans rfl⟩ (fun hHeld => ?_)
       clear hK K
       refine norm_ (a' := ?_) ?_ ?_
       rotate_left
       ·show Act.put _ (some 24) _ = _
        simp only [Act.put, Z0, Z1, Z2, i64_w, i32_w]
        rfl
       refine one_ (i := 7) (N := some 25) (YA 14 2303) rfl rfl (one_of HT_.out (by kernel_rfl)) (by decide) (fun K hK => ?_)
       refine goes_ Try.func60 (by kernel_rfl) rfl #[.slice A0_0 l0_0.length c0_0, .int .i64 t204] (by rfl) rfl rfl Q4 ?_
       with_reducible refine (spec_foAt.calls kj1 _ _ l0_0 t204 t205 t208 t211 t214 false _ ?side1 ?side2 A11.out).mono ?_
       (case side1 => exact Yc (Z22 HR0_0.out HB.out))
       (case side2 => exact HC0_0.out)
       rintro e w34 ⟨v206, v209, v212, v215, rfl, ho0, ho1, ho2, ho3, hb⟩
       refine ⟨_, rfl, ?_⟩
       have HO207 := Yl ho0
       have HO210 := Yl ho1
       have HO213 := Yl ho2
       have HO216 := Yl ho3
       replace BK201 := Yb BK201 hb
       replace BK218 := Yb BK218 hb
       replace HB := Yh hb
       (try clear hb ho0 ho1 ho2 ho3)
       refine hK.out _ _ ⟨(Z23 BK201.out 0).trans rfl, (Z23 BK201.out 1).trans rfl, (Z23 BK201.out 2).trans rfl, (Z23 BK201.out 3).trans rfl⟩ (fun hHeld => ?_)
       clear hK K
       refine norm_ (a' := ?_) ?_ ?_
       rotate_left
       ·show Act.put _ (some 25) _ = _
        simp only [Act.put, Z0, Z1, Z2, i64_w, i32_w]
        rfl
       refine Yp 8 (some 17) (YA 14 2559) rfl HT_.out ?_
       refine Yp 9 (some 26) (YA 14 3071) rfl HT_.out ?_
       refine Yp 10 (some 27) (YA 14 4095) rfl HT_.out ?_
       exact norm_ Q89 (hCont (v206, v209, v212, v215, gb218) _ ⟨hHeld, (Yr HO207.out), (Yr HO210.out), (Yr HO213.out), (Yr HO216.out), (Yk BK201.out), (Yk BK218.out), GW218.out, GE218.out, NB201_218.out, NB218_201.out, Q0⟩)
     rintro ⟨v206, v209, v212, v215, gb218⟩ w35 ⟨hS_, h0_, h1_, h2_, h3_, h4_, h5_, h6_, h7_, h8_, h9_, h10_⟩
     have HO207 : Aside0 (Kd.R (Kd.int .i64) 3 w35 w.heap.size (fun k_ => some k_ ≠ (v209 : Value).ownBlock ∧ some k_ ≠ (v215 : Value).ownBlock) v206 t205) := ⟨h0_⟩
     have HO210 : Aside0 (Kd.R (Kd.int .i64) 3 w35 w.heap.size (fun k_ => some k_ ≠ (v206 : Value).ownBlock ∧ some k_ ≠ (v215 : Value).ownBlock) v209 t208) := ⟨h1_⟩
     have HO213 : Aside0 (Kd.R Kd.bool 4 w35 w.heap.size (fun _ => True) v212 t211) := ⟨h2_⟩
     have HO216 : Aside0 (Kd.R (Kd.int .i64) 3 w35 w.heap.size (fun k_ => some k_ ≠ (v206 : Value).ownBlock ∧ some k_ ≠ (v209 : Value).ownBlock) v215 t214) := ⟨h3_⟩
     replace BK201 : Aside0 (w35.heap[gb201]? = some (.cells #[.slice A0_0 l0_0.length c0_0, .slice A0_1 l0_1.length c0_1, .slice A0_2 l0_2.length c0_2, .slice A0_3 l0_3.length c0_3] 27 (0, 0))) := ⟨h4_⟩
     have BK218 : Aside0 (w35.heap[gb218]? = some (.cells #[.slice none 0 0, .slice none 0 0, .slice none 0 0, .slice none 0 0] 27 (0, 0))) := ⟨h5_⟩
     have GW218 : Aside0 (w.heap.size ≤ gb218) := ⟨h6_⟩
     have GE218 : Aside0 (w.heap.size ≤ gb218) := ⟨h7_⟩
     have NB201_218 : Aside0 (gb201 ≠ gb218) := ⟨h8_⟩
     have NB218_201 : Aside0 (gb218 ≠ gb201) := ⟨h9_⟩
     replace HB : Aside0 (Below w.heap.size w w35) := ⟨h10_⟩
     clear h0_ h1_ h2_ h3_ h4_ h5_ h6_ h7_ h8_ h9_ h10_
     have hHeld : w35.cell? ⟨gb201, 0, none⟩ = some (.slice A0_0 l0_0.length c0_0) ∧ w35.cell? ⟨gb201, 1, none⟩ = some (.slice A0_1 l0_1.length c0_1) ∧ w35.cell? ⟨gb201, 2, none⟩ = some (.slice A0_2 l0_2.length c0_2) ∧ w35.cell? ⟨gb201, 3, none⟩ = some (.slice A0_3 l0_3.length c0_3) := hS_
     obtain ⟨Ao36, co36, eo36⟩ := Z18 HO207.out
     (first | subst eo36 | (injection eo36 with f1_ f2_ f3_; have f4_ := f1_.symm; have f5_ := f3_.symm; clear f1_ f2_ f3_; subst f4_; subst f5_))
     obtain ⟨Ao38, co38, eo38⟩ := Z18 HO210.out
     (first | subst eo38 | (injection eo38 with f1_ f2_ f3_; have f4_ := f1_.symm; have f5_ := f3_.symm; clear f1_ f2_ f3_; subst f4_; subst f5_))
     obtain ⟨Ao40, co40, eo40⟩ := Z18 HO213.out
     (first | subst eo40 | (injection eo40 with f1_ f2_ f3_; have f4_ := f1_.symm; have f5_ := f3_.symm; clear f1_ f2_ f3_; subst f4_; subst f5_))
     obtain ⟨Ao42, co42, eo42⟩ := Z18 HO216.out
     (first | subst eo42 | (injection eo42 with f1_ f2_ f3_; have f4_ := f1_.symm; have f5_ := f3_.symm; clear f1_ f2_ f3_; subst f4_; subst f5_))
     refine norm_ (a' := ?_) ?_ ?_
     rotate_left
     ·simp only [putAll, Act.put, Z0, Z1, Z2]
      rfl
     refine one_ (i := 12) (N := none) (YA 14 8191) rfl rfl (one_of HT_.out (by kernel_rfl)) (by decide) (fun K hK => ?_)
     have hs37 : w35.cell? ⟨gb218, 0, none⟩ = some (.slice none 0 0) := (Z23 BK218.out 0).trans rfl
     have hfs37 := Z24 BK218.out 0
     have hns37_0 := NB201_218.out
     have hms37_0 := NB218_201.out
     have hs39 : w35.cell? ⟨gb218, 1, none⟩ = some (.slice none 0 0) := (Z23 BK218.out 1).trans rfl
     have hfs39 := Z24 BK218.out 1
     have hns39_0 := NB201_218.out
     have hms39_0 := NB218_201.out
     have hs41 : w35.cell? ⟨gb218, 2, none⟩ = some (.slice none 0 0) := (Z23 BK218.out 2).trans rfl
     have hfs41 := Z24 BK218.out 2
     have hns41_0 := NB201_218.out
     have hms41_0 := NB218_201.out
     have hs43 : w35.cell? ⟨gb218, 3, none⟩ = some (.slice none 0 0) := (Z23 BK218.out 3).trans rfl
     have hfs43 := Z24 BK218.out 3
     have hns43_0 := NB201_218.out
     have hms43_0 := NB218_201.out
     refine skip_ (w1 := ?_) (by rfl) rfl ?_ ?_
     rotate_left
     ·go_simp
      rfl
     refine hK.out _ _ ⟨((cell_far (p := ⟨gb218, _, none⟩) NB201_218.out _).trans (((cell_far (p := ⟨gb218, _, none⟩) NB201_218.out _).trans (((cell_far (p := ⟨gb218, _, none⟩) NB201_218.out _).trans (((cell_far (p := ⟨gb218, _, none⟩) NB201_218.out _).trans (hHeld.1)))))))), ((cell_far (p := ⟨gb218, _, none⟩) NB201_218.out _).trans (((cell_far (p := ⟨gb218, _, none⟩) NB201_218.out _).trans (((cell_far (p := ⟨gb218, _, none⟩) NB201_218.out _).trans (((cell_far (p := ⟨gb218, _, none⟩) NB201_218.out _).trans (hHeld.2.1)))))))), ((cell_far (p := ⟨gb218, _, none⟩) NB201_218.out _).trans (((cell_far (p := ⟨gb218, _, none⟩) NB201_218.out _).trans (((cell_far (p := ⟨gb218, _, none⟩) NB201_218.out _).trans (((cell_far (p := ⟨gb218, _, none⟩) NB201_218.out _).trans (hHeld.2.2.1)))))))), ((cell_far (p := ⟨gb218, _, none⟩) NB201_218.out _).trans (((cell_far (p := ⟨gb218, _, none⟩) NB201_218.out _).trans (((cell_far (p := ⟨gb218, _, none⟩) NB201_218.out _).trans (((cell_far (p := ⟨gb218, _, none⟩) NB201_218.out _).trans (hHeld.2.2.2))))))))⟩ (fun hHeld => ?_)
     clear hK K
     refine Yp 13 (some 4) (YA 14 16383) rfl HT_.out ?_
     refine done_ (done_of HT_.out (by kernel_rfl)) ?_
     try go_wp2
     go_ret
     exact ⟨Q2, Q12⟩
end Go.Proofs.Ytpfakdhfffehaaa.MFnExactStepFocus
