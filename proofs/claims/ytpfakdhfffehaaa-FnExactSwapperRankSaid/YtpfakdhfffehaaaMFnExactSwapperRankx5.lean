import Derived.Test.YtpfakdhfffehaaaMFnExactSwapperRankx0
import Derived.Test.YtpfakdhfffehaaaMFnExactSwapperRankx2
import Derived.Test.YtpfakdhfffehaaaMFnExactSwapperRankx4
namespace Go.Proofs.Ytpfakdhfffehaaa.MFnExactSwapperRank
open Go.RowKit Go.Proofs.YtpfakdhfffehaaaW.PrintWords Go.Proofs.YtpfakdhfffehaaaW.PrintLast Go.Proofs.YtpfakdhfffehaaaW.PrintMore
attribute [local go_sem] max2_int min2_int max_two min_two max_three min_three max_four min_four   
set_option linter.unusedVariables false
set_option linter.unusedSimpArgs false
def spec_foGood.j0 : Nat → Bool → List Int → List Int → List Bool → List Int → Option (Bool)
 | 0, _, _, _, _, _ => none
 | k + 1, x16, x267000, x267001, x267002, x267003 => if x16 = true then (some false) else ((spec_gcMixedRank.f k x267000 x267001).bind fun t269 => ((spec_foAt.f k x267000 t269).bind fun bt270 => (if bt270.2.2.2.2 = true then ((spec_foSame.f k x267000 x267001 x267002 x267003 bt270.1 bt270.2.1 bt270.2.2.1 bt270.2.2.2.1).bind fun t284 => (some t284)) else (some false))))
def spec_foGood.f (k : Nat) (l0_0 : List Int) (l0_1 : List Int) (l0_2 : List Bool) (l0_3 : List Int) : Option (Bool) := (spec_foBases.f k l0_0).bind fun t267 => (if t267 = true then ((spec_raAreDigits.f k l0_0 l0_1).bind fun t268 => (spec_foGood.j0 k (!t268) l0_0 l0_1 l0_2 l0_3)) else (spec_foGood.j0 k true l0_0 l0_1 l0_2 l0_3))
theorem spec_foGood.mono_l : ∀ k, (∀ y0 y1 y2 y3 y4, LeO (spec_foGood.j0 k y0 y1 y2 y3 y4) (spec_foGood.j0 (k + 1) y0 y1 y2 y3 y4))
 | 0 => fun _ _ _ _ _ r h => by simp [spec_foGood.j0] at h
 | k + 1 => by
  have ih0 := spec_foGood.mono_l k
  ·intro y0 y1 y2 y3 y4
   unfold spec_foGood.j0
   repeat' first
   | (with_reducible exact ih0 _ _ _ _ _)
   | (with_reducible exact spec_foAt.mono _ _ _)
   | (with_reducible exact spec_foBases.mono _ _)
   | (with_reducible exact spec_foSame.mono _ _ _ _ _ _ _ _ _)
   | (with_reducible exact spec_gcMixedRank.mono _ _ _)
   | (with_reducible exact spec_raAreDigits.mono _ _ _)
   | (with_reducible exact LeO.refl _)
   | (with_reducible exact LeO.none _)
   | (with_reducible refine LeO.ite ?_ ?_)
   | (with_reducible refine LeO.bind ?_ (fun _ => ?_))
   | exact ih0 _ _ _ _ _
   | exact spec_foAt.mono _ _ _
   | exact spec_foBases.mono _ _
   | exact spec_foSame.mono _ _ _ _ _ _ _ _ _
   | exact spec_gcMixedRank.mono _ _ _
   | exact spec_raAreDigits.mono _ _ _
   | exact LeO.none _
   | refine LeO.ite ?_ ?_
   | refine LeO.bind ?_ (fun _ => ?_)
theorem spec_foGood.mono : ∀ a0 a1 a2 a3 k, LeO (spec_foGood.f k a0 a1 a2 a3) (spec_foGood.f (k + 1) a0 a1 a2 a3) := by
 intro a0 a1 a2 a3 k
 have ih0 := spec_foGood.mono_l k
 unfold spec_foGood.f
 repeat' first
   | (with_reducible exact ih0 _ _ _ _ _)
   | (with_reducible exact spec_foAt.mono _ _ _)
   | (with_reducible exact spec_foBases.mono _ _)
   | (with_reducible exact spec_foSame.mono _ _ _ _ _ _ _ _ _)
   | (with_reducible exact spec_gcMixedRank.mono _ _ _)
   | (with_reducible exact spec_raAreDigits.mono _ _ _)
   | (with_reducible exact LeO.refl _)
   | (with_reducible exact LeO.none _)
   | (with_reducible refine LeO.ite ?_ ?_)
   | (with_reducible refine LeO.bind ?_ (fun _ => ?_))
   | exact ih0 _ _ _ _ _
   | exact spec_foAt.mono _ _ _
   | exact spec_foBases.mono _ _
   | exact spec_foSame.mono _ _ _ _ _ _ _ _ _
   | exact spec_gcMixedRank.mono _ _ _
   | exact spec_raAreDigits.mono _ _ _
   | exact LeO.none _
   | refine LeO.ite ?_ ?_
   | refine LeO.bind ?_ (fun _ => ?_)
def spec_foGood.T3 : Bool × List (List Nat × List Nat) := (true, [([], []), ([0], [0]), ([], []), ([2], [2]), ([], []), ([4], [4]), ([3, 5], [3, 5]), ([1, 6, 6], [1, 6]), ([7], [7]), ([8], [8]), ([8], [8]), ([], []), ([11, 9, 7, 0, 1, 2, 3, 4, 5, 6, 7, 8, 9, 11], [9, 11]), ([10, 12, 0, 1, 2, 3, 4, 5, 6, 7, 8, 9, 10, 11, 12], [10])])
def spec_foGood.B3 : List Nat := [0, 1, 0, 4, 0, 16, 60, 127, 255, 511, 511, 0, 3071, 8191]
theorem spec_foGood.tab3 : rtab .any (opsOf Try.f30 3) = spec_foGood.T3 := by kernel_rfl
theorem spec_foGood.bits3 : waitsOk spec_foGood.T3.2 spec_foGood.B3 = true := by kernel_rfl
set_option maxHeartbeats 8000000 in
set_option maxRecDepth 100000 in
theorem spec_foGood.calls (k : Nat) (A0_0 : Option Addr) (c0_0 : Nat) (l0_0 : List Int) (A0_1 : Option Addr) (c0_1 : Nat) (l0_1 : List Int) (A0_2 : Option Addr) (c0_2 : Nat) (l0_2 : List Bool) (A0_3 : Option Addr) (c0_3 : Nat) (l0_3 : List Int) (r : Bool) (w : World) (hr0_0 : Kd.C (Kd.int .i64) w A0_0 l0_0.length l0_0) (hc0_0 : l0_0.length ≤ c0_0) (hr0_1 : Kd.C (Kd.int .i64) w A0_1 l0_1.length l0_1) (hc0_1 : l0_1.length ≤ c0_1) (hr0_2 : Kd.C Kd.bool w A0_2 l0_2.length l0_2) (hc0_2 : l0_2.length ≤ c0_2) (hr0_3 : Kd.C (Kd.int .i64) w A0_3 l0_3.length l0_3) (hc0_3 : l0_3.length ≤ c0_3) (h : spec_foGood.f k l0_0 l0_1 l0_2 l0_3 = some r) :
  Calls Try.prog 30 #[.agg #[.slice A0_0 l0_0.length c0_0, .slice A0_1 l0_1.length c0_1, .slice A0_2 l0_2.length c0_2, .slice A0_3 l0_3.length c0_3]] w fun e w' => e = .returned (.bool r) ∧ Below w.heap.size w w' := by
 have hu27 := Try.underlying27
 have HR0_0 := Ya hr0_0
 have HC0_0 := Ya hc0_0
 clear hr0_0 hc0_0
 have HR0_1 := Ya hr0_1
 have HC0_1 := Ya hc0_1
 clear hr0_1 hc0_1
 have HR0_2 := Ya hr0_2
 have HC0_2 := Ya hc0_2
 clear hr0_2 hc0_2
 have HR0_3 := Ya hr0_3
 have HC0_3 := Ya hc0_3
 clear hr0_3 hc0_3
 have HB := Ya (Below.refl w.heap.size w)
 have H : ((spec_foBases.f k l0_0).bind fun t267 => (if t267 = true then ((spec_raAreDigits.f k l0_0 l0_1).bind fun t268 => (spec_foGood.j0 k (!t268) l0_0 l0_1 l0_2 l0_3)) else (spec_foGood.j0 k true l0_0 l0_1 l0_2 l0_3))) = some r := h
 clear h
 have HC2 := Ya H
 clear H
 go_enter Try.func30, Try.ntmps30
 go_upto_region 1 with (first | ((with_reducible refine gate_dst (N := 1) rfl ?_); refine Yx 1 #[.slice A0_0 l0_0.length c0_0, .slice A0_1 l0_1.length c0_1, .slice A0_2 l0_2.length c0_2, .slice A0_3 l0_3.length c0_3] 27 ?_; intro gb266 hg w3 hbox hb; have BK266 := Ya hbox; have GW266 := Yg hg; have GE266 := GW266; replace HB := Yh hb; clear hb hbox hg))
 (try simp only [Act.put, Z0, Z1, Z2])
 go_cut [16] (fun v16 wc => ∃ (kq : Nat) (x16_1 : Bool), v16 = .bool x16_1 ∧ Aside0 (spec_foGood.j0 kq x16_1 l0_0 l0_1 l0_2 l0_3 = some r) ∧ Aside0 (kq ≤ k) ∧ Aside0 (wc.heap[gb266]? = some (.cells #[(.slice A0_0 l0_0.length c0_0), (.slice A0_1 l0_1.length c0_1), (.slice A0_2 l0_2.length c0_2), (.slice A0_3 l0_3.length c0_3)] 27 (0, 0))) ∧ Aside0 (Below w.heap.size w wc))
 case first =>
  have H := HC2.out
  clear HC2
  replace H := Z33.mp H
  obtain ⟨t267, A40, H⟩ := H
  replace H : (if t267 = true then ((spec_raAreDigits.f k l0_0 l0_1).bind fun t268 => (spec_foGood.j0 k (!t268) l0_0 l0_1 l0_2 l0_3)) else (spec_foGood.j0 k true l0_0 l0_1 l0_2 l0_3)) = some r := H
  have A4 := Ya A40
  clear A40
  by_cases c5 : t267 = true
  ·subst c5
   have H1 : ((spec_raAreDigits.f k l0_0 l0_1).bind fun t268 => (spec_foGood.j0 k (!t268) l0_0 l0_1 l0_2 l0_3)) = some r := by rw [if_pos rfl] at H; exact H
   clear H
   have H := H1
   clear H1
   replace H := Z33.mp H
   obtain ⟨t268, A60, H⟩ := H
   replace H : (spec_foGood.j0 k (!t268) l0_0 l0_1 l0_2 l0_3) = some r := H
   have A6 := Ya A60
   clear A60
   have H' := Ya H
   clear H
   obtain ⟨hcz7_0, hcz7_1, hcz7_2, hcz7_3, hfz7_0, hfz7_1, hfz7_2, hfz7_3⟩ := Y4 BK266.out
   go_wp2_with (first | ((with_reducible refine gate_callee (f := 58) rfl ?_); refine Yz 7 Try.func58 #[.slice A0_0 l0_0.length c0_0] ?_; (with_reducible refine (spec_foBases.calls k _ _ l0_0 true _ (Yc (Z19 HR0_0.out HB.out)) HC0_0.out A4.out).mono ?_); rintro e w' ⟨rfl, ⟨nd, rfl⟩⟩; refine ⟨_, rfl, ?_⟩) | (go_at_call 59; (with_reducible refine (spec_raAreDigits.calls k _ _ l0_0 _ _ l0_1 t268 _ ?side1 HC0_0.out ?side3 HC0_1.out A6.out).mono ?_); (case side1 => exact Yc (Z19 HR0_0.out Q0)); (case side3 => exact Yc (Z19 HR0_1.out Q0)); rintro e w' ⟨rfl, ⟨nd, rfl⟩⟩))
   go_meet
   case rel => exact ⟨_, (!t268), Q7, H', ⟨Q34⟩, ⟨by (with_reducible repeat (first | refine Z22 ?_ _ | refine Z23 ?_ | refine Z24 ?_ _)); exact BK266.out⟩, ⟨Q12⟩⟩
  ·replace c5 := Bool.eq_false_iff.mpr c5
   subst c5
   have H1 : (spec_foGood.j0 k true l0_0 l0_1 l0_2 l0_3) = some r := by rw [if_neg (show ¬ (false = true) by decide)] at H; exact H
   clear H
   have H := H1
   clear H1
   have H' := Ya H
   clear H
   obtain ⟨hcz8_0, hcz8_1, hcz8_2, hcz8_3, hfz8_0, hfz8_1, hfz8_2, hfz8_3⟩ := Y4 BK266.out
   go_wp2_with (first | ((with_reducible refine gate_callee (f := 58) rfl ?_); refine Yz 7 Try.func58 #[.slice A0_0 l0_0.length c0_0] ?_; (with_reducible refine (spec_foBases.calls k _ _ l0_0 false _ (Yc (Z19 HR0_0.out HB.out)) HC0_0.out A4.out).mono ?_); rintro e w' ⟨rfl, ⟨nd, rfl⟩⟩; refine ⟨_, rfl, ?_⟩))
   go_meet
   case rel => exact ⟨_, (true), Q7, H', ⟨Q34⟩, ⟨by (with_reducible repeat (first | refine Z22 ?_ _ | refine Z23 ?_ | refine Z24 ?_ _)); exact BK266.out⟩, ⟨Q12⟩⟩
 case rest =>
  clear HC2
  try clear p2
  try clear c3
  try clear c5
  try clear hcz7_0
  try clear hcz7_1
  try clear hcz7_2
  try clear hcz7_3
  try clear hcz8_0
  try clear hcz8_1
  try clear hcz8_2
  try clear hcz8_3
  try clear hfz7_0
  try clear hfz7_1
  try clear hfz7_2
  try clear hfz7_3
  try clear hfz8_0
  try clear hfz8_1
  try clear hfz8_2
  try clear hfz8_3
  obtain ⟨kq, x16_1, rfl, HA, HJ1, BK266, HB⟩ := hcut
  cases kq with
  | zero => exact absurd HA.out (by simp [spec_foGood.j0])
  | succ kj1 =>
   have H := HA.out
   clear HA
   simp only [spec_foGood.j0] at H
   by_cases c9 : x16_1 = true
   ·subst c9
    have H1 : (some false) = some r := by rw [if_pos rfl] at H; exact H
    clear H
    have H := H1
    clear H1
    obtain rfl := Option.some.inj H
    go_wp2
    go_ret
    exact ⟨Q2, Q12⟩
   ·replace c9 := Bool.eq_false_iff.mpr c9
    subst c9
    have H1 : ((spec_gcMixedRank.f kj1 l0_0 l0_1).bind fun t269 => ((spec_foAt.f kj1 l0_0 t269).bind fun bt270 => (if bt270.2.2.2.2 = true then ((spec_foSame.f kj1 l0_0 l0_1 l0_2 l0_3 bt270.1 bt270.2.1 bt270.2.2.1 bt270.2.2.2.1).bind fun t284 => (some t284)) else (some false)))) = some r := by rw [if_neg (show ¬ (false = true) by decide)] at H; exact H
    clear H
    have H := H1
    clear H1
    replace H := Z33.mp H
    obtain ⟨t269, A100, H⟩ := H
    replace H : ((spec_foAt.f kj1 l0_0 t269).bind fun bt270 => (if bt270.2.2.2.2 = true then ((spec_foSame.f kj1 l0_0 l0_1 l0_2 l0_3 bt270.1 bt270.2.1 bt270.2.2.1 bt270.2.2.2.1).bind fun t284 => (some t284)) else (some false))) = some r := H
    have A10 := Ya A100
    clear A100
    replace H := Z33.mp H
    obtain ⟨⟨t270, t273, t276, t279, t282⟩, A110, H⟩ := H
    replace H : (if t282 = true then ((spec_foSame.f kj1 l0_0 l0_1 l0_2 l0_3 t270 t273 t276 t279).bind fun t284 => (some t284)) else (some false)) = some r := H
    have A11 := Ya A110
    clear A110
    by_cases c12 : t282 = true
    ·subst c12
     have H1 : ((spec_foSame.f kj1 l0_0 l0_1 l0_2 l0_3 t270 t273 t276 t279).bind fun t284 => (some t284)) = some r := by rw [if_pos rfl] at H; exact H
     clear H
     have H := H1
     clear H1
     replace H := Z33.mp H
     obtain ⟨t284, A130, H⟩ := H
     replace H : (some t284) = some r := H
     have A13 := Ya A130
     clear A130
     obtain rfl := Option.some.inj H
     try go_wp2
     replace BK266 := Ya (Z23 BK266.out)
     replace HB := Ya (Z4 HB.out)
     refine start_ (n := 14) (S := fun w' => w'.cell? ⟨gb266, 0, none⟩ = some (.slice A0_0 l0_0.length c0_0) ∧ w'.cell? ⟨gb266, 1, none⟩ = some (.slice A0_1 l0_1.length c0_1) ∧ w'.cell? ⟨gb266, 2, none⟩ = some (.slice A0_2 l0_2.length c0_2) ∧ w'.cell? ⟨gb266, 3, none⟩ = some (.slice A0_3 l0_3.length c0_3)) (ds := []) (YA 14 0) (by kernel_rfl) rfl rfl ⟨(Z20 BK266.out 0).trans rfl, (Z20 BK266.out 1).trans rfl, (Z20 BK266.out 2).trans rfl, (Z20 BK266.out 3).trans rfl⟩ (fun hHeld => ?_); refine with_tabW spec_foGood.tab3 spec_foGood.bits3 (fun HT_ HW_ => ?_)
     generalize wc.drew = w14 at BK266 HB hHeld ⊢
     refine Yp 0 (some 18) (YA 14 1) rfl HT_.out ?_
     refine Yp 2 (some 20) (YA 14 5) rfl HT_.out ?_
     refine Yp 4 (some 22) (YA 14 21) rfl HT_.out ?_
     refine Yt 1 (some 19) (YA 14 23) rfl HT_.out HW_.out hHeld Q3 ?_
     refine Yt 3 (some 21) (YA 14 31) rfl HT_.out HW_.out hHeld Q3 ?_
     refine Yt 5 (some 23) (YA 14 63) rfl HT_.out HW_.out hHeld Q3 ?_
     refine join_ (σ := Value × Value × Value × Value × Nat) 2 (YA 14 4095) (fun s_ => [(24, .int .i64 t269), (25, .tuple #[.agg #[s_.1, s_.2.1, s_.2.2.1, s_.2.2.2.1], .bool true]), (3, .pointer (some ⟨s_.2.2.2.2, 0, none⟩)), (17, .tuple #[.agg #[s_.1, s_.2.1, s_.2.2.1, s_.2.2.2.1], .bool true]), (26, .agg #[s_.1, s_.2.1, s_.2.2.1, s_.2.2.2.1]), (27, .bool true)]) (fun s_ w' => (w'.cell? ⟨gb266, 0, none⟩ = some (.slice A0_0 l0_0.length c0_0) ∧ w'.cell? ⟨gb266, 1, none⟩ = some (.slice A0_1 l0_1.length c0_1) ∧ w'.cell? ⟨gb266, 2, none⟩ = some (.slice A0_2 l0_2.length c0_2) ∧ w'.cell? ⟨gb266, 3, none⟩ = some (.slice A0_3 l0_3.length c0_3)) ∧ (Kd.R (Kd.int .i64) 3 w' w.heap.size (fun k_ => some k_ ≠ (s_.2.1 : Value).ownBlock ∧ some k_ ≠ (s_.2.2.2.1 : Value).ownBlock) s_.1 t270) ∧ (Kd.R (Kd.int .i64) 3 w' w.heap.size (fun k_ => some k_ ≠ (s_.1 : Value).ownBlock ∧ some k_ ≠ (s_.2.2.2.1 : Value).ownBlock) s_.2.1 t273) ∧ (Kd.R Kd.bool 4 w' w.heap.size (fun _ => True) s_.2.2.1 t276) ∧ (Kd.R (Kd.int .i64) 3 w' w.heap.size (fun k_ => some k_ ≠ (s_.1 : Value).ownBlock ∧ some k_ ≠ (s_.2.1 : Value).ownBlock) s_.2.2.2.1 t279) ∧ (w'.heap[gb266]? = some (.cells #[.slice A0_0 l0_0.length c0_0, .slice A0_1 l0_1.length c0_1, .slice A0_2 l0_2.length c0_2, .slice A0_3 l0_3.length c0_3] 27 (0, 0))) ∧ (w'.heap[s_.2.2.2.2]? = some (.cells #[.slice none 0 0, .slice none 0 0, .slice none 0 0, .slice none 0 0] 27 (0, 0))) ∧ (w.heap.size ≤ s_.2.2.2.2) ∧ (w.heap.size ≤ s_.2.2.2.2) ∧ (gb266 ≠ s_.2.2.2.2) ∧ (s_.2.2.2.2 ≠ gb266) ∧ (Below w.heap.size w w')) ?_ ?_
     rotate_left
     ·intro hCont
      refine two_ (i := 6) (j := 11) (Ni := some 24) (Nj := some 3) (YA 14 127) (YA 14 2111) rfl rfl rfl rfl (two_of HT_.out (by kernel_rfl)) (by decide) (by decide) (fun K hK => ?_) (fun K hK => ?_)
      ·skip
       refine goes_ Try.func61 (by kernel_rfl) rfl #[.slice A0_0 l0_0.length c0_0, .slice A0_1 l0_1.length c0_1] (by rfl) rfl rfl Q6 ?_
       with_reducible refine (spec_gcMixedRank.calls kj1 _ _ l0_0 _ _ l0_1 t269 _ ?side1 ?side2 ?side3 ?side4 A10.out).mono ?_
       (case side1 => exact Yc (Z19 HR0_0.out HB.out))
       (case side2 => exact HC0_0.out)
       (case side3 => exact Yc (Z19 HR0_1.out HB.out))
       (case side4 => exact HC0_1.out)
       rintro e w15 ⟨rfl, hb⟩
       refine ⟨_, rfl, ?_⟩
       replace BK266 := Yb BK266 hb
       replace HB := Yh hb
       (try clear hb)
       refine hK.out _ _ ⟨(Z20 BK266.out 0).trans rfl, (Z20 BK266.out 1).trans rfl, (Z20 BK266.out 2).trans rfl, (Z20 BK266.out 3).trans rfl⟩ (fun hHeld => ?_)
       clear hK K
       refine norm_ (a' := ?_) ?_ ?_
       rotate_left
       ·show Act.put _ (some 24) _ = _
        simp only [Act.put, Z0, Z1, Z2, i64_w, i32_w]
        rfl
       refine two_ (i := 7) (j := 11) (Ni := some 25) (Nj := some 3) (YA 14 255) (YA 14 2175) rfl rfl rfl rfl (two_of HT_.out (by kernel_rfl)) (by decide) (by decide) (fun K hK => ?_) (fun K hK => ?_)
       ·skip
        refine goes_ Try.func60 (by kernel_rfl) rfl #[.slice A0_0 l0_0.length c0_0, .int .i64 t269] (by rfl) rfl rfl Q6 ?_
        with_reducible refine (spec_foAt.calls kj1 _ _ l0_0 t269 t270 t273 t276 t279 true _ ?side1 ?side2 A11.out).mono ?_
        (case side1 => exact Yc (Z19 HR0_0.out HB.out))
        (case side2 => exact HC0_0.out)
        rintro e w16 ⟨v271, v274, v277, v280, rfl, ho0, ho1, ho2, ho3, hb⟩
        refine ⟨_, rfl, ?_⟩
        have HO272 := Yl ho0
        have HO275 := Yl ho1
        have HO278 := Yl ho2
        have HO281 := Yl ho3
        replace BK266 := Yb BK266 hb
        replace HB := Yh hb
        (try clear hb ho0 ho1 ho2 ho3)
        refine hK.out _ _ ⟨(Z20 BK266.out 0).trans rfl, (Z20 BK266.out 1).trans rfl, (Z20 BK266.out 2).trans rfl, (Z20 BK266.out 3).trans rfl⟩ (fun hHeld => ?_)
        clear hK K
        refine norm_ (a' := ?_) ?_ ?_
        rotate_left
        ·show Act.put _ (some 25) _ = _
         simp only [Act.put, Z0, Z1, Z2, i64_w, i32_w]
         rfl
        refine Yp 8 (some 17) (YA 14 511) rfl HT_.out ?_
        refine Yp 9 (some 26) (YA 14 1023) rfl HT_.out ?_
        refine Yp 10 (some 27) (YA 14 2047) rfl HT_.out ?_
        refine one_ (i := 11) (N := some 3) (YA 14 4095) rfl rfl (one_of HT_.out (by kernel_rfl)) (by decide) (fun K hK => ?_)
        refine Yy 3 #[.slice none 0 0, .slice none 0 0, .slice none 0 0, .slice none 0 0] 27 ?_
        intro gb283 hg w17 hbox hb
        replace HO272 := Yw HO272 hb
        replace HO275 := Yw HO275 hb
        replace HO278 := Yw HO278 hb
        replace HO281 := Yw HO281 hb
        have BK283 := Ya hbox
        have GW283 := Yg hg
        have GE283 := GW283
        replace HB := Yh hb
        have NB266_283 := Yn BK266 hg
        have NB283_266 := Ym BK266 hg
        replace BK266 := Yb BK266 hb
        clear hb hbox hg
        refine hK.out _ _ ⟨(Z20 BK266.out 0).trans rfl, (Z20 BK266.out 1).trans rfl, (Z20 BK266.out 2).trans rfl, (Z20 BK266.out 3).trans rfl⟩ (fun hHeld => ?_)
        clear hK K
        refine norm_ (a' := ?_) ?_ ?_
        rotate_left
        ·show Act.put _ (some 3) _ = _
         simp only [Act.put, Z0, Z1, Z2, i64_w, i32_w]
         rfl
        exact norm_ Q38 (hCont (v271, v274, v277, v280, gb283) _ ⟨hHeld, (Yr HO272.out), (Yr HO275.out), (Yr HO278.out), (Yr HO281.out), (Yk BK266.out), (Yk BK283.out), GW283.out, GE283.out, NB266_283.out, NB283_266.out, Q0⟩)
       ·skip
        refine Yy 3 #[.slice none 0 0, .slice none 0 0, .slice none 0 0, .slice none 0 0] 27 ?_
        intro gb283 hg w16 hbox hb
        have BK283 := Ya hbox
        have GW283 := Yg hg
        have GE283 := GW283
        replace HB := Yh hb
        have NB266_283 := Yn BK266 hg
        have NB283_266 := Ym BK266 hg
        replace BK266 := Yb BK266 hb
        clear hb hbox hg
        refine hK.out _ _ ⟨(Z20 BK266.out 0).trans rfl, (Z20 BK266.out 1).trans rfl, (Z20 BK266.out 2).trans rfl, (Z20 BK266.out 3).trans rfl⟩ (fun hHeld => ?_)
        clear hK K
        refine norm_ (a' := ?_) ?_ ?_
        rotate_left
        ·show Act.put _ (some 3) _ = _
         simp only [Act.put, Z0, Z1, Z2, i64_w, i32_w]
         rfl
        refine one_ (i := 7) (N := some 25) (YA 14 2303) rfl rfl (one_of HT_.out (by kernel_rfl)) (by decide) (fun K hK => ?_)
        refine goes_ Try.func60 (by kernel_rfl) rfl #[.slice A0_0 l0_0.length c0_0, .int .i64 t269] (by rfl) rfl rfl Q6 ?_
        with_reducible refine (spec_foAt.calls kj1 _ _ l0_0 t269 t270 t273 t276 t279 true _ ?side1 ?side2 A11.out).mono ?_
        (case side1 => exact Yc (Z19 HR0_0.out HB.out))
        (case side2 => exact HC0_0.out)
        rintro e w17 ⟨v271, v274, v277, v280, rfl, ho0, ho1, ho2, ho3, hb⟩
        refine ⟨_, rfl, ?_⟩
        have HO272 := Yl ho0
        have HO275 := Yl ho1
        have HO278 := Yl ho2
        have HO281 := Yl ho3
        replace BK266 := Yb BK266 hb
        replace BK283 := Yb BK283 hb
        replace HB := Yh hb
        (try clear hb ho0 ho1 ho2 ho3)
        refine hK.out _ _ ⟨(Z20 BK266.out 0).trans rfl, (Z20 BK266.out 1).trans rfl, (Z20 BK266.out 2).trans rfl, (Z20 BK266.out 3).trans rfl⟩ (fun hHeld => ?_)
        clear hK K
        refine norm_ (a' := ?_) ?_ ?_
        rotate_left
        ·show Act.put _ (some 25) _ = _
         simp only [Act.put, Z0, Z1, Z2, i64_w, i32_w]
         rfl
        refine Yp 8 (some 17) (YA 14 2559) rfl HT_.out ?_
        refine Yp 9 (some 26) (YA 14 3071) rfl HT_.out ?_
        refine Yp 10 (some 27) (YA 14 4095) rfl HT_.out ?_
        exact norm_ Q38 (hCont (v271, v274, v277, v280, gb283) _ ⟨hHeld, (Yr HO272.out), (Yr HO275.out), (Yr HO278.out), (Yr HO281.out), (Yk BK266.out), (Yk BK283.out), GW283.out, GE283.out, NB266_283.out, NB283_266.out, Q0⟩)
      ·skip
       refine Yy 3 #[.slice none 0 0, .slice none 0 0, .slice none 0 0, .slice none 0 0] 27 ?_
       intro gb283 hg w15 hbox hb
       have BK283 := Ya hbox
       have GW283 := Yg hg
       have GE283 := GW283
       replace HB := Yh hb
       have NB266_283 := Yn BK266 hg
       have NB283_266 := Ym BK266 hg
       replace BK266 := Yb BK266 hb
       clear hb hbox hg
       refine hK.out _ _ ⟨(Z20 BK266.out 0).trans rfl, (Z20 BK266.out 1).trans rfl, (Z20 BK266.out 2).trans rfl, (Z20 BK266.out 3).trans rfl⟩ (fun hHeld => ?_)
       clear hK K
       refine norm_ (a' := ?_) ?_ ?_
       rotate_left
       ·show Act.put _ (some 3) _ = _
        simp only [Act.put, Z0, Z1, Z2, i64_w, i32_w]
        rfl
       refine one_ (i := 6) (N := some 24) (YA 14 2175) rfl rfl (one_of HT_.out (by kernel_rfl)) (by decide) (fun K hK => ?_)
       refine goes_ Try.func61 (by kernel_rfl) rfl #[.slice A0_0 l0_0.length c0_0, .slice A0_1 l0_1.length c0_1] (by rfl) rfl rfl Q6 ?_
       with_reducible refine (spec_gcMixedRank.calls kj1 _ _ l0_0 _ _ l0_1 t269 _ ?side1 ?side2 ?side3 ?side4 A10.out).mono ?_
       (case side1 => exact Yc (Z19 HR0_0.out HB.out))
       (case side2 => exact HC0_0.out)
       (case side3 => exact Yc (Z19 HR0_1.out HB.out))
       (case side4 => exact HC0_1.out)
       rintro e w16 ⟨rfl, hb⟩
       refine ⟨_, rfl, ?_⟩
       replace BK266 := Yb BK266 hb
       replace BK283 := Yb BK283 hb
       replace HB := Yh hb
       (try clear hb)
       refine hK.out _ _ ⟨(Z20 BK266.out 0).trans rfl, (Z20 BK266.out 1).trans rfl, (Z20 BK266.out 2).trans rfl, (Z20 BK266.out 3).trans rfl⟩ (fun hHeld => ?_)
       clear hK K
       refine norm_ (a' := ?_) ?_ ?_
       rotate_left
       ·show Act.put _ (some 24) _ = _
        simp only [Act.put, Z0, Z1, Z2, i64_w, i32_w]
        rfl
       refine one_ (i := 7) (N := some 25) (YA 14 2303) rfl rfl (one_of HT_.out (by kernel_rfl)) (by decide) (fun K hK => ?_)
       refine goes_ Try.func60 (by kernel_rfl) rfl #[.slice A0_0 l0_0.length c0_0, .int .i64 t269] (by rfl) rfl rfl Q6 ?_
       with_reducible refine (spec_foAt.calls kj1 _ _ l0_0 t269 t270 t273 t276 t279 true _ ?side1 ?side2 A11.out).mono ?_
       (case side1 => exact Yc (Z19 HR0_0.out HB.out))
       (case side2 => exact HC0_0.out)
       rintro e w17 ⟨v271, v274, v277, v280, rfl, ho0, ho1, ho2, ho3, hb⟩
       refine ⟨_, rfl, ?_⟩
       have HO272 := Yl ho0
       have HO275 := Yl ho1
       have HO278 := Yl ho2
       have HO281 := Yl ho3
       replace BK266 := Yb BK266 hb
       replace BK283 := Yb BK283 hb
       replace HB := Yh hb
       (try clear hb ho0 ho1 ho2 ho3)
       refine hK.out _ _ ⟨(Z20 BK266.out 0).trans rfl, (Z20 BK266.out 1).trans rfl, (Z20 BK266.out 2).trans rfl, (Z20 BK266.out 3).trans rfl⟩ (fun hHeld => ?_)
       clear hK K
       refine norm_ (a' := ?_) ?_ ?_
       rotate_left
       ·show Act.put _ (some 25) _ = _
        simp only [Act.put, Z0, Z1, Z2, i64_w, i32_w]
        rfl
       refine Yp 8 (some 17) (YA 14 2559) rfl HT_.out ?_
       refine Yp 9 (some 26) (YA 14 3071) rfl HT_.out ?_
       refine Yp 10 (some 27) (YA 14 4095) rfl HT_.out ?_
       exact norm_ Q38 (hCont (v271, v274, v277, v280, gb283) _ ⟨hHeld, (Yr HO272.out), (Yr HO275.out), (Yr HO278.out), (Yr HO281.out), (Yk BK266.out), (Yk BK283.out), GW283.out, GE283.out, NB266_283.out, NB283_266.out, Q0⟩)
     rintro ⟨v271, v274, v277, v280, gb283⟩ w18 ⟨hS_, h0_, h1_, h2_, h3_, h4_, h5_, h6_, h7_, h8_, h9_, h10_⟩
     have HO272 : Aside0 (Kd.R (Kd.int .i64) 3 w18 w.heap.size (fun k_ => some k_ ≠ (v274 : Value).ownBlock ∧ some k_ ≠ (v280 : Value).ownBlock) v271 t270) := ⟨h0_⟩
     have HO275 : Aside0 (Kd.R (Kd.int .i64) 3 w18 w.heap.size (fun k_ => some k_ ≠ (v271 : Value).ownBlock ∧ some k_ ≠ (v280 : Value).ownBlock) v274 t273) := ⟨h1_⟩
     have HO278 : Aside0 (Kd.R Kd.bool 4 w18 w.heap.size (fun _ => True) v277 t276) := ⟨h2_⟩
     have HO281 : Aside0 (Kd.R (Kd.int .i64) 3 w18 w.heap.size (fun k_ => some k_ ≠ (v271 : Value).ownBlock ∧ some k_ ≠ (v274 : Value).ownBlock) v280 t279) := ⟨h3_⟩
     replace BK266 : Aside0 (w18.heap[gb266]? = some (.cells #[.slice A0_0 l0_0.length c0_0, .slice A0_1 l0_1.length c0_1, .slice A0_2 l0_2.length c0_2, .slice A0_3 l0_3.length c0_3] 27 (0, 0))) := ⟨h4_⟩
     have BK283 : Aside0 (w18.heap[gb283]? = some (.cells #[.slice none 0 0, .slice none 0 0, .slice none 0 0, .slice none 0 0] 27 (0, 0))) := ⟨h5_⟩
     have GW283 : Aside0 (w.heap.size ≤ gb283) := ⟨h6_⟩
     have GE283 : Aside0 (w.heap.size ≤ gb283) := ⟨h7_⟩
     have NB266_283 : Aside0 (gb266 ≠ gb283) := ⟨h8_⟩
     have NB283_266 : Aside0 (gb283 ≠ gb266) := ⟨h9_⟩
     replace HB : Aside0 (Below w.heap.size w w18) := ⟨h10_⟩
     clear h0_ h1_ h2_ h3_ h4_ h5_ h6_ h7_ h8_ h9_ h10_
     have hHeld : w18.cell? ⟨gb266, 0, none⟩ = some (.slice A0_0 l0_0.length c0_0) ∧ w18.cell? ⟨gb266, 1, none⟩ = some (.slice A0_1 l0_1.length c0_1) ∧ w18.cell? ⟨gb266, 2, none⟩ = some (.slice A0_2 l0_2.length c0_2) ∧ w18.cell? ⟨gb266, 3, none⟩ = some (.slice A0_3 l0_3.length c0_3) := hS_
     obtain ⟨Ao19, co19, eo19⟩ := Z18 HO272.out
     (first | subst eo19 | (injection eo19 with f1_ f2_ f3_; have f4_ := f1_.symm; have f5_ := f3_.symm; clear f1_ f2_ f3_; subst f4_; subst f5_))
     obtain ⟨Ao21, co21, eo21⟩ := Z18 HO275.out
     (first | subst eo21 | (injection eo21 with f1_ f2_ f3_; have f4_ := f1_.symm; have f5_ := f3_.symm; clear f1_ f2_ f3_; subst f4_; subst f5_))
     obtain ⟨Ao23, co23, eo23⟩ := Z18 HO278.out
     (first | subst eo23 | (injection eo23 with f1_ f2_ f3_; have f4_ := f1_.symm; have f5_ := f3_.symm; clear f1_ f2_ f3_; subst f4_; subst f5_))
     obtain ⟨Ao25, co25, eo25⟩ := Z18 HO281.out
     (first | subst eo25 | (injection eo25 with f1_ f2_ f3_; have f4_ := f1_.symm; have f5_ := f3_.symm; clear f1_ f2_ f3_; subst f4_; subst f5_))
     refine norm_ (a' := ?_) ?_ ?_
     rotate_left
     ·simp only [putAll, Act.put, Z0, Z1, Z2]
      rfl
     refine one_ (i := 12) (N := none) (YA 14 8191) rfl rfl (one_of HT_.out (by kernel_rfl)) (by decide) (fun K hK => ?_)
     have hs20 : w18.cell? ⟨gb283, 0, none⟩ = some (.slice none 0 0) := (Z20 BK283.out 0).trans rfl
     have hfs20 := Z21 BK283.out 0
     have hns20_0 := NB266_283.out
     have hms20_0 := NB283_266.out
     have hs22 : w18.cell? ⟨gb283, 1, none⟩ = some (.slice none 0 0) := (Z20 BK283.out 1).trans rfl
     have hfs22 := Z21 BK283.out 1
     have hns22_0 := NB266_283.out
     have hms22_0 := NB283_266.out
     have hs24 : w18.cell? ⟨gb283, 2, none⟩ = some (.slice none 0 0) := (Z20 BK283.out 2).trans rfl
     have hfs24 := Z21 BK283.out 2
     have hns24_0 := NB266_283.out
     have hms24_0 := NB283_266.out
     have hs26 : w18.cell? ⟨gb283, 3, none⟩ = some (.slice none 0 0) := (Z20 BK283.out 3).trans rfl
     have hfs26 := Z21 BK283.out 3
     have hns26_0 := NB266_283.out
     have hms26_0 := NB283_266.out
     refine skip_ (w1 := ?_) (by rfl) rfl ?_ ?_
     rotate_left
     ·go_simp
      rfl
     refine hK.out _ _ ⟨((cell_far (p := ⟨gb283, _, none⟩) NB266_283.out _).trans (((cell_far (p := ⟨gb283, _, none⟩) NB266_283.out _).trans (((cell_far (p := ⟨gb283, _, none⟩) NB266_283.out _).trans (((cell_far (p := ⟨gb283, _, none⟩) NB266_283.out _).trans (hHeld.1)))))))), ((cell_far (p := ⟨gb283, _, none⟩) NB266_283.out _).trans (((cell_far (p := ⟨gb283, _, none⟩) NB266_283.out _).trans (((cell_far (p := ⟨gb283, _, none⟩) NB266_283.out _).trans (((cell_far (p := ⟨gb283, _, none⟩) NB266_283.out _).trans (hHeld.2.1)))))))), ((cell_far (p := ⟨gb283, _, none⟩) NB266_283.out _).trans (((cell_far (p := ⟨gb283, _, none⟩) NB266_283.out _).trans (((cell_far (p := ⟨gb283, _, none⟩) NB266_283.out _).trans (((cell_far (p := ⟨gb283, _, none⟩) NB266_283.out _).trans (hHeld.2.2.1)))))))), ((cell_far (p := ⟨gb283, _, none⟩) NB266_283.out _).trans (((cell_far (p := ⟨gb283, _, none⟩) NB266_283.out _).trans (((cell_far (p := ⟨gb283, _, none⟩) NB266_283.out _).trans (((cell_far (p := ⟨gb283, _, none⟩) NB266_283.out _).trans (hHeld.2.2.2))))))))⟩ (fun hHeld => ?_)
     clear hK K
     refine Yp 13 (some 4) (YA 14 16383) rfl HT_.out ?_
     refine done_ (done_of HT_.out (by kernel_rfl)) ?_
     have hnb27 := NB266_283.out
     have hnc27 := NB283_266.out
     have hz28 := Y4 BK266.out
     have hz29 := Y4 BK283.out
     try go_wp2_with (first | (go_at_call 62; (with_reducible refine (spec_foSame.calls kj1 _ _ l0_0 _ _ l0_1 _ _ l0_2 _ _ l0_3 _ _ t270 _ _ t273 _ _ t276 _ _ t279 t284 _ ?side1 HC0_0.out ?side3 HC0_1.out ?side5 HC0_2.out ?side7 HC0_3.out ?side9 ((Kd.R_reads' HO272.out).2.1) ?side11 ((Kd.R_reads' HO275.out).2.1) ?side13 ((Kd.R_reads' HO278.out).2.1) ?side15 ((Kd.R_reads' HO281.out).2.1) A13.out).mono ?_); (case side1 => exact Z19 HR0_0.out Q0); (case side3 => exact Z19 HR0_1.out Q0); (case side5 => exact Z19 HR0_2.out Q0); (case side7 => exact Z19 HR0_3.out Q0); (case side9 => refine (Kd.R_reads' (e := 3) (base := w.heap.size) (ok := fun k_ => (some k_ ≠ (.slice Ao21 t273.length co21 : Value).ownBlock ∧ some k_ ≠ (.slice Ao25 t279.length co25 : Value).ownBlock)) (n := t270.length) (c := co19) ?_).2.2; exact Q83); (case side11 => refine (Kd.R_reads' (e := 3) (base := w.heap.size) (ok := fun k_ => (some k_ ≠ (.slice Ao19 t270.length co19 : Value).ownBlock ∧ some k_ ≠ (.slice Ao25 t279.length co25 : Value).ownBlock)) (n := t273.length) (c := co21) ?_).2.2; exact Q82); (case side13 => refine (Kd.R_reads' (e := 4) (base := w.heap.size) (ok := fun k_ => True) (n := t276.length) (c := co23) ?_).2.2; exact Q81); (case side15 => refine (Kd.R_reads' (e := 3) (base := w.heap.size) (ok := fun k_ => (some k_ ≠ (.slice Ao19 t270.length co19 : Value).ownBlock ∧ some k_ ≠ (.slice Ao21 t273.length co21 : Value).ownBlock)) (n := t279.length) (c := co25) ?_).2.2; exact Q80); rintro e w30 ⟨rfl, hb⟩; replace HO272 := Ya (Z13 Q83 hb); replace HO275 := Ya (Z13 Q82 hb); replace HO278 := Ya (Z13 Q81 hb); replace HO281 := Ya (Z13 Q80 hb); replace BK266 := Yb ⟨Yo4 BK266.out NB266_283.out⟩ hb; replace BK283 := Yb ⟨Yv4 BK283.out⟩ hb; replace HB := Yh hb; (try clear hb)))
     go_ret
     exact ⟨Q2, Q12⟩
    ·replace c12 := Bool.eq_false_iff.mpr c12
     subst c12
     have H1 : (some false) = some r := by rw [if_neg (show ¬ (false = true) by decide)] at H; exact H
     clear H
     have H := H1
     clear H1
     obtain rfl := Option.some.inj H
     try go_wp2
     replace BK266 := Ya (Z23 BK266.out)
     replace HB := Ya (Z4 HB.out)
     refine start_ (n := 14) (S := fun w' => w'.cell? ⟨gb266, 0, none⟩ = some (.slice A0_0 l0_0.length c0_0) ∧ w'.cell? ⟨gb266, 1, none⟩ = some (.slice A0_1 l0_1.length c0_1) ∧ w'.cell? ⟨gb266, 2, none⟩ = some (.slice A0_2 l0_2.length c0_2) ∧ w'.cell? ⟨gb266, 3, none⟩ = some (.slice A0_3 l0_3.length c0_3)) (ds := []) (YA 14 0) (by kernel_rfl) rfl rfl ⟨(Z20 BK266.out 0).trans rfl, (Z20 BK266.out 1).trans rfl, (Z20 BK266.out 2).trans rfl, (Z20 BK266.out 3).trans rfl⟩ (fun hHeld => ?_); refine with_tabW spec_foGood.tab3 spec_foGood.bits3 (fun HT_ HW_ => ?_)
     generalize wc.drew = w31 at BK266 HB hHeld ⊢
     refine Yp 0 (some 18) (YA 14 1) rfl HT_.out ?_
     refine Yp 2 (some 20) (YA 14 5) rfl HT_.out ?_
     refine Yp 4 (some 22) (YA 14 21) rfl HT_.out ?_
     refine Yt 1 (some 19) (YA 14 23) rfl HT_.out HW_.out hHeld Q3 ?_
     refine Yt 3 (some 21) (YA 14 31) rfl HT_.out HW_.out hHeld Q3 ?_
     refine Yt 5 (some 23) (YA 14 63) rfl HT_.out HW_.out hHeld Q3 ?_
     refine join_ (σ := Value × Value × Value × Value × Nat) 2 (YA 14 4095) (fun s_ => [(24, .int .i64 t269), (25, .tuple #[.agg #[s_.1, s_.2.1, s_.2.2.1, s_.2.2.2.1], .bool false]), (3, .pointer (some ⟨s_.2.2.2.2, 0, none⟩)), (17, .tuple #[.agg #[s_.1, s_.2.1, s_.2.2.1, s_.2.2.2.1], .bool false]), (26, .agg #[s_.1, s_.2.1, s_.2.2.1, s_.2.2.2.1]), (27, .bool false)]) (fun s_ w' => (w'.cell? ⟨gb266, 0, none⟩ = some (.slice A0_0 l0_0.length c0_0) ∧ w'.cell? ⟨gb266, 1, none⟩ = some (.slice A0_1 l0_1.length c0_1) ∧ w'.cell? ⟨gb266, 2, none⟩ = some (.slice A0_2 l0_2.length c0_2) ∧ w'.cell? ⟨gb266, 3, none⟩ = some (.slice A0_3 l0_3.length c0_3)) ∧ (Kd.R (Kd.int .i64) 3 w' w.heap.size (fun k_ => some k_ ≠ (s_.2.1 : Value).ownBlock ∧ some k_ ≠ (s_.2.2.2.1 : Value).ownBlock) s_.1 t270) ∧ (Kd.R (Kd.int .i64) 3 w' w.heap.size (fun k_ => some k_ ≠ (s_.1 : Value).ownBlock ∧ some k_ ≠ (s_.2.2.2.1 : Value).ownBlock) s_.2.1 t273) ∧ (Kd.R Kd.bool 4 w' w.heap.size (fun _ => True) s_.2.2.1 t276) ∧ (Kd.R (Kd.int .i64) 3 w' w.heap.size (fun k_ => some k_ ≠ (s_.1 : Value).ownBlock ∧ some k_ ≠ (s_.2.1 : Value).ownBlock) s_.2.2.2.1 t279) ∧ (w'.heap[gb266]? = some (.cells #[.slice A0_0 l0_0.length c0_0, .slice A0_1 l0_1.length c0_1, .slice A0_2 l0_2.length c0_2, .slice A0_3 l0_3.length c0_3] 27 (0, 0))) ∧ (w'.heap[s_.2.2.2.2]? = some (.cells #[.slice none 0 0, .slice none 0 0, .slice none 0 0, .slice none 0 0] 27 (0, 0))) ∧ (w.heap.size ≤ s_.2.2.2.2) ∧ (w.heap.size ≤ s_.2.2.2.2) ∧ (gb266 ≠ s_.2.2.2.2) ∧ (s_.2.2.2.2 ≠ gb266) ∧ (Below w.heap.size w w')) ?_ ?_
     rotate_left
     ·intro hCont
      refine two_ (i := 6) (j := 11) (Ni := some 24) (Nj := some 3) (YA 14 127) (YA 14 2111) rfl rfl rfl rfl (two_of HT_.out (by kernel_rfl)) (by decide) (by decide) (fun K hK => ?_) (fun K hK => ?_)
      ·skip
       refine goes_ Try.func61 (by kernel_rfl) rfl #[.slice A0_0 l0_0.length c0_0, .slice A0_1 l0_1.length c0_1] (by rfl) rfl rfl Q6 ?_
       with_reducible refine (spec_gcMixedRank.calls kj1 _ _ l0_0 _ _ l0_1 t269 _ ?side1 ?side2 ?side3 ?side4 A10.out).mono ?_
       (case side1 => exact Yc (Z19 HR0_0.out HB.out))
       (case side2 => exact HC0_0.out)
       (case side3 => exact Yc (Z19 HR0_1.out HB.out))
       (case side4 => exact HC0_1.out)
       rintro e w32 ⟨rfl, hb⟩
       refine ⟨_, rfl, ?_⟩
       replace BK266 := Yb BK266 hb
       replace HB := Yh hb
       (try clear hb)
       refine hK.out _ _ ⟨(Z20 BK266.out 0).trans rfl, (Z20 BK266.out 1).trans rfl, (Z20 BK266.out 2).trans rfl, (Z20 BK266.out 3).trans rfl⟩ (fun hHeld => ?_)
       clear hK K
       refine norm_ (a' := ?_) ?_ ?_
       rotate_left
       ·show Act.put _ (some 24) _ = _
        simp only [Act.put, Z0, Z1, Z2, i64_w, i32_w]
        rfl
       refine two_ (i := 7) (j := 11) (Ni := some 25) (Nj := some 3) (YA 14 255) (YA 14 2175) rfl rfl rfl rfl (two_of HT_.out (by kernel_rfl)) (by decide) (by decide) (fun K hK => ?_) (fun K hK => ?_)
       ·skip
        refine goes_ Try.func60 (by kernel_rfl) rfl #[.slice A0_0 l0_0.length c0_0, .int .i64 t269] (by rfl) rfl rfl Q6 ?_
        with_reducible refine (spec_foAt.calls kj1 _ _ l0_0 t269 t270 t273 t276 t279 false _ ?side1 ?side2 A11.out).mono ?_
        (case side1 => exact Yc (Z19 HR0_0.out HB.out))
        (case side2 => exact HC0_0.out)
        rintro e w33 ⟨v271, v274, v277, v280, rfl, ho0, ho1, ho2, ho3, hb⟩
        refine ⟨_, rfl, ?_⟩
        have HO272 := Yl ho0
        have HO275 := Yl ho1
        have HO278 := Yl ho2
        have HO281 := Yl ho3
        replace BK266 := Yb BK266 hb
        replace HB := Yh hb
        (try clear hb ho0 ho1 ho2 ho3)
        refine hK.out _ _ ⟨(Z20 BK266.out 0).trans rfl, (Z20 BK266.out 1).trans rfl, (Z20 BK266.out 2).trans rfl, (Z20 BK266.out 3).trans rfl⟩ (fun hHeld => ?_)
        clear hK K
        refine norm_ (a' := ?_) ?_ ?_
        rotate_left
        ·show Act.put _ (some 25) _ = _
         simp only [Act.put, Z0, Z1, Z2, i64_w, i32_w]
         rfl
        refine Yp 8 (some 17) (YA 14 511) rfl HT_.out ?_
        refine Yp 9 (some 26) (YA 14 1023) rfl HT_.out ?_
        refine Yp 10 (some 27) (YA 14 2047) rfl HT_.out ?_
        refine one_ (i := 11) (N := some 3) (YA 14 4095) rfl rfl (one_of HT_.out (by kernel_rfl)) (by decide) (fun K hK => ?_)
        refine Yy 3 #[.slice none 0 0, .slice none 0 0, .slice none 0 0, .slice none 0 0] 27 ?_
        intro gb283 hg w34 hbox hb
        replace HO272 := Yw HO272 hb
        replace HO275 := Yw HO275 hb
        replace HO278 := Yw HO278 hb
        replace HO281 := Yw HO281 hb
        have BK283 := Ya hbox
        have GW283 := Yg hg
        have GE283 := GW283
        replace HB := Yh hb
        have NB266_283 := Yn BK266 hg
        have NB283_266 := Ym BK266 hg
        replace BK266 := Yb BK266 hb
        clear hb hbox hg
        refine hK.out _ _ ⟨(Z20 BK266.out 0).trans rfl, (Z20 BK266.out 1).trans rfl, (Z20 BK266.out 2).trans rfl, (Z20 BK266.out 3).trans rfl⟩ (fun hHeld => ?_)
        clear hK K
        refine norm_ (a' := ?_) ?_ ?_
        rotate_left
        ·show Act.put _ (some 3) _ = _
         simp only [Act.put, Z0, Z1, Z2, i64_w, i32_w]
         rfl
        exact norm_ Q38 (hCont (v271, v274, v277, v280, gb283) _ ⟨hHeld, (Yr HO272.out), (Yr HO275.out), (Yr HO278.out), (Yr HO281.out), (Yk BK266.out), (Yk BK283.out), GW283.out, GE283.out, NB266_283.out, NB283_266.out, Q0⟩)
       ·skip
        refine Yy 3 #[.slice none 0 0, .slice none 0 0, .slice none 0 0, .slice none 0 0] 27 ?_
        intro gb283 hg w33 hbox hb
        have BK283 := Ya hbox
        have GW283 := Yg hg
        have GE283 := GW283
        replace HB := Yh hb
        have NB266_283 := Yn BK266 hg
        have NB283_266 := Ym BK266 hg
        replace BK266 := Yb BK266 hb
        clear hb hbox hg
        refine hK.out _ _ ⟨(Z20 BK266.out 0).trans rfl, (Z20 BK266.out 1).trans rfl, (Z20 BK266.out 2).trans rfl, (Z20 BK266.out 3).trans rfl⟩ (fun hHeld => ?_)
        clear hK K
        refine norm_ (a' := ?_) ?_ ?_
        rotate_left
        ·show Act.put _ (some 3) _ = _
         simp only [Act.put, Z0, Z1, Z2, i64_w, i32_w]
         rfl
        refine one_ (i := 7) (N := some 25) (YA 14 2303) rfl rfl (one_of HT_.out (by kernel_rfl)) (by decide) (fun K hK => ?_)
        refine goes_ Try.func60 (by kernel_rfl) rfl #[.slice A0_0 l0_0.length c0_0, .int .i64 t269] (by rfl) rfl rfl Q6 ?_
        with_reducible refine (spec_foAt.calls kj1 _ _ l0_0 t269 t270 t273 t276 t279 false _ ?side1 ?side2 A11.out).mono ?_
        (case side1 => exact Yc (Z19 HR0_0.out HB.out))
        (case side2 => exact HC0_0.out)
        rintro e w34 ⟨v271, v274, v277, v280, rfl, ho0, ho1, ho2, ho3, hb⟩
        refine ⟨_, rfl, ?_⟩
        have HO272 := Yl ho0
        have HO275 := Yl ho1
        have HO278 := Yl ho2
        have HO281 := Yl ho3
        replace BK266 := Yb BK266 hb
        replace BK283 := Yb BK283 hb
        replace HB := Yh hb
        (try clear hb ho0 ho1 ho2 ho3)
        refine hK.out _ _ ⟨(Z20 BK266.out 0).trans rfl, (Z20 BK266.out 1).trans rfl, (Z20 BK266.out 2).trans rfl, (Z20 BK266.out 3).trans rfl⟩ (fun hHeld => ?_)
        clear hK K
        refine norm_ (a' := ?_) ?_ ?_
        rotate_left
        ·show Act.put _ (some 25) _ = _
         simp only [Act.put, Z0, Z1, Z2, i64_w, i32_w]
         rfl
        refine Yp 8 (some 17) (YA 14 2559) rfl HT_.out ?_
        refine Yp 9 (some 26) (YA 14 3071) rfl HT_.out ?_
        refine Yp 10 (some 27) (YA 14 4095) rfl HT_.out ?_
        exact norm_ Q38 (hCont (v271, v274, v277, v280, gb283) _ ⟨hHeld, (Yr HO272.out), (Yr HO275.out), (Yr HO278.out), (Yr HO281.out), (Yk BK266.out), (Yk BK283.out), GW283.out, GE283.out, NB266_283.out, NB283_266.out, Q0⟩)
      ·skip
       refine Yy 3 #[.slice none 0 0, .slice none 0 0, .slice none 0 0, .slice none 0 0] 27 ?_
       intro gb283 hg w32 hbox hb
       have BK283 := Ya hbox
       have GW283 := Yg hg
       have GE283 := GW283
       replace HB := Yh hb
       have NB266_283 := Yn BK266 hg
       have NB283_266 := Ym BK266 hg
       replace BK266 := Yb BK266 hb
       clear hb hbox hg
       refine hK.out _ _ ⟨(Z20 BK266.out 0).trans rfl, (Z20 BK266.out 1).trans rfl, (Z20 BK266.out 2).trans rfl, (Z20 BK266.out 3).trans rfl⟩ (fun hHeld => ?_)
       clear hK K
       refine norm_ (a' := ?_) ?_ ?_
       rotate_left
       ·show Act.put _ (some 3) _ = _
        simp only [Act.put, Z0, Z1, Z2, i64_w, i32_w]
        rfl
       refine one_ (i := 6) (N := some 24) (YA 14 2175) rfl rfl (one_of HT_.out (by kernel_rfl)) (by decide) (fun K hK => ?_)
       refine goes_ Try.func61 (by kernel_rfl) rfl #[.slice A0_0 l0_0.length c0_0, .slice A0_1 l0_1.length c0_1] (by rfl) rfl rfl Q6 ?_
       with_reducible refine (spec_gcMixedRank.calls kj1 _ _ l0_0 _ _ l0_1 t269 _ ?side1 ?side2 ?side3 ?side4 A10.out).mono ?_
       (case side1 => exact Yc (Z19 HR0_0.out HB.out))
       (case side2 => exact HC0_0.out)
       (case side3 => exact Yc (Z19 HR0_1.out HB.out))
       (case side4 => exact HC0_1.out)
       rintro e w33 ⟨rfl, hb⟩
       refine ⟨_, rfl, ?_⟩
       replace BK266 := Yb BK266 hb
       replace BK283 := Yb BK283 hb
       replace HB := Yh hb
       (try clear hb)
       refine hK.out _ _ ⟨(Z20 BK266.out 0).trans rfl, (Z20 BK266.out 1).trans rfl, (Z20 BK266.out 2).trans rfl, (Z20 BK266.out 3).trans rfl⟩ (fun hHeld => ?_)
       clear hK K
       refine norm_ (a' := ?_) ?_ ?_
       rotate_left
       ·show Act.put _ (some 24) _ = _
        simp only [Act.put, Z0, Z1, Z2, i64_w, i32_w]
        rfl
       refine one_ (i := 7) (N := some 25) (YA 14 2303) rfl rfl (one_of HT_.out (by kernel_rfl)) (by decide) (fun K hK => ?_)
       refine goes_ Try.func60 (by kernel_rfl) rfl #[.slice A0_0 l0_0.length c0_0, .int .i64 t269] (by rfl) rfl rfl Q6 ?_
       with_reducible refine (spec_foAt.calls kj1 _ _ l0_0 t269 t270 t273 t276 t279 false _ ?side1 ?side2 A11.out).mono ?_
       (case side1 => exact Yc (Z19 HR0_0.out HB.out))
       (case side2 => exact HC0_0.out)
       rintro e w34 ⟨v271, v274, v277, v280, rfl, ho0, ho1, ho2, ho3, hb⟩
       refine ⟨_, rfl, ?_⟩
       have HO272 := Yl ho0
       have HO275 := Yl ho1
       have HO278 := Yl ho2
       have HO281 := Yl ho3
       replace BK266 := Yb BK266 hb
       replace BK283 := Yb BK283 hb
       replace HB := Yh hb
       (try clear hb ho0 ho1 ho2 ho3)
       refine hK.out _ _ ⟨(Z20 BK266.out 0).trans rfl, (Z20 BK266.out 1).trans rfl, (Z20 BK266.out 2).trans rfl, (Z20 BK266.out 3).trans rfl⟩ (fun hHeld => ?_)
       clear hK K
       refine norm_ (a' := ?_) ?_ ?_
       rotate_left
       ·show Act.put _ (some 25) _ = _
        simp only [Act.put, Z0, Z1, Z2, i64_w, i32_w]
        rfl
       refine Yp 8 (some 17) (YA 14 2559) rfl HT_.out ?_
       refine Yp 9 (some 26) (YA 14 3071) rfl HT_.out ?_
       refine Yp 10 (some 27) (YA 14 4095) rfl HT_.out ?_
       exact norm_ Q38 (hCont (v271, v274, v277, v280, gb283) _ ⟨hHeld, (Yr HO272.out), (Yr HO275.out), (Yr HO278.out), (Yr HO281.out), (Yk BK266.out), (Yk BK283.out), GW283.out, GE283.out, NB266_283.out, NB283_266.out, Q0⟩)
     rintro ⟨v271, v274, v277, v280, gb283⟩ w35 ⟨hS_, h0_, h1_, h2_, h3_, h4_, h5_, h6_, h7_, h8_, h9_, h10_⟩
     have HO272 : Aside0 (Kd.R (Kd.int .i64) 3 w35 w.heap.size (fun k_ => some k_ ≠ (v274 : Value).ownBlock ∧ some k_ ≠ (v280 : Value).ownBlock) v271 t270) := ⟨h0_⟩
     have HO275 : Aside0 (Kd.R (Kd.int .i64) 3 w35 w.heap.size (fun k_ => some k_ ≠ (v271 : Value).ownBlock ∧ some k_ ≠ (v280 : Value).ownBlock) v274 t273) := ⟨h1_⟩
     have HO278 : Aside0 (Kd.R Kd.bool 4 w35 w.heap.size (fun _ => True) v277 t276) := ⟨h2_⟩
     have HO281 : Aside0 (Kd.R (Kd.int .i64) 3 w35 w.heap.size (fun k_ => some k_ ≠ (v271 : Value).ownBlock ∧ some k_ ≠ (v274 : Value).ownBlock) v280 t279) := ⟨h3_⟩
     replace BK266 : Aside0 (w35.heap[gb266]? = some (.cells #[.slice A0_0 l0_0.length c0_0, .slice A0_1 l0_1.length c0_1, .slice A0_2 l0_2.length c0_2, .slice A0_3 l0_3.length c0_3] 27 (0, 0))) := ⟨h4_⟩
     have BK283 : Aside0 (w35.heap[gb283]? = some (.cells #[.slice none 0 0, .slice none 0 0, .slice none 0 0, .slice none 0 0] 27 (0, 0))) := ⟨h5_⟩
     have GW283 : Aside0 (w.heap.size ≤ gb283) := ⟨h6_⟩
     have GE283 : Aside0 (w.heap.size ≤ gb283) := ⟨h7_⟩
     have NB266_283 : Aside0 (gb266 ≠ gb283) := ⟨h8_⟩
     have NB283_266 : Aside0 (gb283 ≠ gb266) := ⟨h9_⟩
     replace HB : Aside0 (Below w.heap.size w w35) := ⟨h10_⟩
     clear h0_ h1_ h2_ h3_ h4_ h5_ h6_ h7_ h8_ h9_ h10_
     have hHeld : w35.cell? ⟨gb266, 0, none⟩ = some (.slice A0_0 l0_0.length c0_0) ∧ w35.cell? ⟨gb266, 1, none⟩ = some (.slice A0_1 l0_1.length c0_1) ∧ w35.cell? ⟨gb266, 2, none⟩ = some (.slice A0_2 l0_2.length c0_2) ∧ w35.cell? ⟨gb266, 3, none⟩ = some (.slice A0_3 l0_3.length c0_3) := hS_
     obtain ⟨Ao36, co36, eo36⟩ := Z18 HO272.out
     (first | subst eo36 | (injection eo36 with f1_ f2_ f3_; have f4_ := f1_.symm; have f5_ := f3_.symm; clear f1_ f2_ f3_; subst f4_; subst f5_))
     obtain ⟨Ao38, co38, eo38⟩ := Z18 HO275.out
     (first | subst eo38 | (injection eo38 with f1_ f2_ f3_; have f4_ := f1_.symm; have f5_ := f3_.symm; clear f1_ f2_ f3_; subst f4_; subst f5_))
     obtain ⟨Ao40, co40, eo40⟩ := Z18 HO278.out
     (first | subst eo40 | (injection eo40 with f1_ f2_ f3_; have f4_ := f1_.symm; have f5_ := f3_.symm; clear f1_ f2_ f3_; subst f4_; subst f5_))
     obtain ⟨Ao42, co42, eo42⟩ := Z18 HO281.out
     (first | subst eo42 | (injection eo42 with f1_ f2_ f3_; have f4_ := f1_.symm; have f5_ := f3_.symm; clear f1_ f2_ f3_; subst f4_; subst f5_))
     refine norm_ (a' := ?_) ?_ ?_
     rotate_left
     ·simp only [putAll, Act.put, Z0, Z1, Z2]
      rfl
     refine one_ (i := 12) (N := none) (YA 14 8191) rfl rfl (one_of HT_.out (by kernel_rfl)) (by decide) (fun K hK => ?_)
     have hs37 : w35.cell? ⟨gb283, 0, none⟩ = some (.slice none 0 0) := (Z20 BK283.out 0).trans rfl
     have hfs37 := Z21 BK283.out 0
     have hns37_0 := NB266_283.out
     have hms37_0 := NB283_266.out
     have hs39 : w35.cell? ⟨gb283, 1, none⟩ = some (.slice none 0 0) := (Z20 BK283.out 1).trans rfl
     have hfs39 := Z21 BK283.out 1
     have hns39_0 := NB266_283.out
     have hms39_0 := NB283_266.out
     have hs41 : w35.cell? ⟨gb283, 2, none⟩ = some (.slice none 0 0) := (Z20 BK283.out 2).trans rfl
     have hfs41 := Z21 BK283.out 2
     have hns41_0 := NB266_283.out
     have hms41_0 := NB283_266.out
     have hs43 : w35.cell? ⟨gb283, 3, none⟩ = some (.slice none 0 0) := (Z20 BK283.out 3).trans rfl
     have hfs43 := Z21 BK283.out 3
     have hns43_0 := NB266_283.out
     have hms43_0 := NB283_266.out
     refine skip_ (w1 := ?_) (by rfl) rfl ?_ ?_
     rotate_left
     ·go_simp
      rfl
     refine hK.out _ _ ⟨((cell_far (p := ⟨gb283, _, none⟩) NB266_283.out _).trans (((cell_far (p := ⟨gb283, _, none⟩) NB266_283.out _).trans (((cell_far (p := ⟨gb283, _, none⟩) NB266_283.out _).trans (((cell_far (p := ⟨gb283, _, none⟩) NB266_283.out _).trans (hHeld.1)))))))), ((cell_far (p := ⟨gb283, _, none⟩) NB266_283.out _).trans (((cell_far (p := ⟨gb283, _, none⟩) NB266_283.out _).trans (((cell_far (p := ⟨gb283, _, none⟩) NB266_283.out _).trans (((cell_far (p := ⟨gb283, _, none⟩) NB266_283.out _).trans (hHeld.2.1)))))))), ((cell_far (p := ⟨gb283, _, none⟩) NB266_283.out _).trans (((cell_far (p := ⟨gb283, _, none⟩) NB266_283.out _).trans (((cell_far (p := ⟨gb283, _, none⟩) NB266_283.out _).trans (((cell_far (p := ⟨gb283, _, none⟩) NB266_283.out _).trans (hHeld.2.2.1)))))))), ((cell_far (p := ⟨gb283, _, none⟩) NB266_283.out _).trans (((cell_far (p := ⟨gb283, _, none⟩) NB266_283.out _).trans (((cell_far (p := ⟨gb283, _, none⟩) NB266_283.out _).trans (((cell_far (p := ⟨gb283, _, none⟩) NB266_283.out _).trans (hHeld.2.2.2))))))))⟩ (fun hHeld => ?_)
     clear hK K
     refine Yp 13 (some 4) (YA 14 16383) rfl HT_.out ?_
     refine done_ (done_of HT_.out (by kernel_rfl)) ?_
     try go_wp2
     go_ret
     exact ⟨Q2, Q12⟩
def spec_foSize.f (a0 : Int) : Option (Bool) := (spec_l1In.f a0 1 7).bind fun t285 => (some t285)
set_option maxHeartbeats 8000000 in
set_option maxRecDepth 100000 in
theorem spec_foSize.calls (a0 : Int) (r : Bool) (w : World) (h : spec_foSize.f a0 = some r) :
  Calls Try.prog 43 #[.int .i64 a0] w fun e w' => e = .returned (.bool r) ∧ Drawn0 w w' := by
 have H : ((spec_l1In.f a0 1 7).bind fun t285 => (some t285)) = some r := h
 clear h
 replace H := Z33.mp H
 obtain ⟨t285, A20, H⟩ := H
 replace H : (some t285) = some r := H
 have A2 := Ya A20
 clear A20
 obtain rfl := Option.some.inj H
 go_enter Try.func43, Try.ntmps43
 go_wp2_with (first | ((with_reducible refine gate_callee (f := 44) rfl ?_); refine Yz 4 Try.func44 #[.int .i64 a0, .int .i64 1, .int .i64 7] ?_; (with_reducible refine (spec_l1In.calls a0 1 7 t285 _ A2.out).mono ?_); rintro e w' ⟨rfl, ⟨nd, rfl⟩⟩; refine ⟨_, rfl, ?_⟩))
 go_ret
 exact ⟨Q13, Q5⟩
mutual
def spec_moApply.l0 : Nat → List Int → List Int → Int → Int → Int → Int → Option (List Int)
 | 0, _, _, _, _, _, _ => none
 | k + 1, x0, x5, x6, x287000, x287001, x287002 => if x6 < x287001 then (if 0 ≤ (wrap64 ((wrap64 (x287001 - 1)) - x6)) then (if (wrap64 ((wrap64 (x287001 - 1)) - x6)) < (x0.length : Int) then (if 0 ≤ x6 then (if x6 < (x5.length : Int) then (spec_moApply.l0 k x0 (x5.set (x6 : Int).toNat (rd x0 (wrap64 ((wrap64 (x287001 - 1)) - x6)))) (wrap64 (x6 + 1)) x287000 x287001 x287002) else (none)) else (none)) else (none)) else (none)) else (some x5)
def spec_moApply.l1 : Nat → List Int → List Int → Int → Int → Int → Int → Option (List Int)
 | 0, _, _, _, _, _, _ => none
 | k + 1, x0, x5, x7, x287000, x287001, x287002 => if x7 < x287001 then (if x287001 = 0 then (none) else (if 0 ≤ (Int.tmod (wrap64 (x7 + 1)) x287001) then (if (Int.tmod (wrap64 (x7 + 1)) x287001) < (x0.length : Int) then (if 0 ≤ x7 then (if x7 < (x5.length : Int) then (spec_moApply.l1 k x0 (x5.set (x7 : Int).toNat (rd x0 (Int.tmod (wrap64 (x7 + 1)) x287001))) (wrap64 (x7 + 1)) x287000 x287001 x287002) else (none)) else (none)) else (none)) else (none))) else (some x5)
end
def spec_moApply.f (k : Nat) (l0 : List Int) (a1_0 : Int) (a1_1 : Int) (a1_2 : Int) : Option (List Int) := (spec_l1Own.f l0).bind fun t287 => (if a1_0 = 0 then (if 0 ≤ a1_2 then (if a1_2 < (l0.length : Int) then (if 0 ≤ a1_1 then (if a1_1 < (t287.length : Int) then (if a1_1 < (l0.length : Int) then (if a1_2 < (t287.length : Int) then (some ((t287.set (a1_1 : Int).toNat (rd l0 a1_2)).set (a1_2 : Int).toNat (rd l0 a1_1))) else (none)) else (none)) else (none)) else (none)) else (none)) else (none)) else (if a1_0 = 1 then (spec_moApply.l0 k l0 t287 0 a1_0 a1_1 a1_2) else (spec_moApply.l1 k l0 t287 0 a1_0 a1_1 a1_2)))
theorem spec_moApply.mono_l : ∀ k, (∀ y0 y1 y2 y3 y4 y5, LeO (spec_moApply.l0 k y0 y1 y2 y3 y4 y5) (spec_moApply.l0 (k + 1) y0 y1 y2 y3 y4 y5)) ∧ (∀ y0 y1 y2 y3 y4 y5, LeO (spec_moApply.l1 k y0 y1 y2 y3 y4 y5) (spec_moApply.l1 (k + 1) y0 y1 y2 y3 y4 y5))
 | 0 => ⟨fun _ _ _ _ _ _ r h => by simp [spec_moApply.l0] at h, fun _ _ _ _ _ _ r h => by simp [spec_moApply.l1] at h⟩
 | k + 1 => by
  obtain ⟨ih0, ih1⟩ := spec_moApply.mono_l k
  refine ⟨?_, ?_⟩
  ·intro y0 y1 y2 y3 y4 y5
   unfold spec_moApply.l0
   repeat' first
   | (with_reducible exact ih0 _ _ _ _ _ _)
   | (with_reducible exact ih1 _ _ _ _ _ _)
   | (with_reducible exact LeO.refl _)
   | (with_reducible exact LeO.none _)
   | (with_reducible refine LeO.ite ?_ ?_)
   | (with_reducible refine LeO.bind ?_ (fun _ => ?_))
   | exact ih0 _ _ _ _ _ _
   | exact ih1 _ _ _ _ _ _
   | exact LeO.none _
   | refine LeO.ite ?_ ?_
   | refine LeO.bind ?_ (fun _ => ?_)
  ·intro y0 y1 y2 y3 y4 y5
   unfold spec_moApply.l1
   repeat' first
   | (with_reducible exact ih0 _ _ _ _ _ _)
   | (with_reducible exact ih1 _ _ _ _ _ _)
   | (with_reducible exact LeO.refl _)
   | (with_reducible exact LeO.none _)
   | (with_reducible refine LeO.ite ?_ ?_)
   | (with_reducible refine LeO.bind ?_ (fun _ => ?_))
   | exact ih0 _ _ _ _ _ _
   | exact ih1 _ _ _ _ _ _
   | exact LeO.none _
   | refine LeO.ite ?_ ?_
   | refine LeO.bind ?_ (fun _ => ?_)
theorem spec_moApply.mono : ∀ a0 a1 a2 a3 k, LeO (spec_moApply.f k a0 a1 a2 a3) (spec_moApply.f (k + 1) a0 a1 a2 a3) := by
 intro a0 a1 a2 a3 k
 obtain ⟨ih0, ih1⟩ := spec_moApply.mono_l k
 unfold spec_moApply.f
 repeat' first
   | (with_reducible exact ih0 _ _ _ _ _ _)
   | (with_reducible exact ih1 _ _ _ _ _ _)
   | (with_reducible exact LeO.refl _)
   | (with_reducible exact LeO.none _)
   | (with_reducible refine LeO.ite ?_ ?_)
   | (with_reducible refine LeO.bind ?_ (fun _ => ?_))
   | exact ih0 _ _ _ _ _ _
   | exact ih1 _ _ _ _ _ _
   | exact LeO.none _
   | refine LeO.ite ?_ ?_
   | refine LeO.bind ?_ (fun _ => ?_)
def spec_moApply.T8 : Bool × List (List Nat × List Nat) := (true, [([], []), ([], []), ([1], [1]), ([], []), ([], []), ([4], [4]), ([3, 5], [3, 5]), ([6], [6]), ([0, 2, 0, 1, 2, 3, 4, 5, 6, 7], [0, 2]), ([8, 7, 0, 1, 2, 3, 4, 5, 6, 7], [7, 8])])
def spec_moApply.B8 : List Nat := [0, 0, 2, 0, 0, 16, 56, 120, 255, 511]
theorem spec_moApply.tab8 : rtab .any (opsOf Try.f74 8) = spec_moApply.T8 := by kernel_rfl
theorem spec_moApply.bits8 : waitsOk spec_moApply.T8.2 spec_moApply.B8 = true := by kernel_rfl
def spec_moApply.T9 : Bool × List (List Nat × List Nat) := (true, [([], []), ([], []), ([1], [1]), ([], []), ([], []), ([4], [4]), ([3, 5], [3, 5]), ([6], [6]), ([0, 2, 0, 1, 2, 3, 4, 5, 6, 7], [0, 2]), ([8, 7, 0, 1, 2, 3, 4, 5, 6, 7], [7, 8])])
def spec_moApply.B9 : List Nat := [0, 0, 2, 0, 0, 16, 56, 120, 255, 511]
theorem spec_moApply.tab9 : rtab .any (opsOf Try.f74 9) = spec_moApply.T9 := by kernel_rfl
theorem spec_moApply.bits9 : waitsOk spec_moApply.T9.2 spec_moApply.B9 = true := by kernel_rfl
set_option maxHeartbeats 8000000 in
set_option maxRecDepth 100000 in
theorem spec_moApply.calls (k : Nat) (A0 : Option Addr) (c0 : Nat) (l0 : List Int) (a1_0 : Int) (a1_1 : Int) (a1_2 : Int) (r : List Int) (w : World) (hr0 : Kd.C (Kd.int .i64) w A0 l0.length l0) (hc0 : l0.length ≤ c0) (h : spec_moApply.f k l0 a1_0 a1_1 a1_2 = some r) :
  Calls Try.prog 74 #[.slice A0 l0.length c0, .agg #[.int .i64 a1_0, .int .i64 a1_1, .int .i64 a1_2]] w fun e w' => ∃ v0_ : Value, e = .returned (v0_) ∧ Kd.R (Kd.int .i64) 3 w' w.heap.size (fun _ => True) v0_ r ∧ Below w.heap.size w w' := by
 have hu82 := Try.underlying82
 have HR0 := Ya hr0
 have HC0 := Ya hc0
 clear hr0 hc0
 have HB := Ya (Below.refl w.heap.size w)
 have H : ((spec_l1Own.f l0).bind fun t287 => (if a1_0 = 0 then (if 0 ≤ a1_2 then (if a1_2 < (l0.length : Int) then (if 0 ≤ a1_1 then (if a1_1 < (t287.length : Int) then (if a1_1 < (l0.length : Int) then (if a1_2 < (t287.length : Int) then (some ((t287.set (a1_1 : Int).toNat (rd l0 a1_2)).set (a1_2 : Int).toNat (rd l0 a1_1))) else (none)) else (none)) else (none)) else (none)) else (none)) else (none)) else (if a1_0 = 1 then (spec_moApply.l0 k l0 t287 0 a1_0 a1_1 a1_2) else (spec_moApply.l1 k l0 t287 0 a1_0 a1_1 a1_2)))) = some r := h
 clear h
 replace H := Z33.mp H
 obtain ⟨t287, A30, H⟩ := H
 replace H : (if a1_0 = 0 then (if 0 ≤ a1_2 then (if a1_2 < (l0.length : Int) then (if 0 ≤ a1_1 then (if a1_1 < (t287.length : Int) then (if a1_1 < (l0.length : Int) then (if a1_2 < (t287.length : Int) then (some ((t287.set (a1_1 : Int).toNat (rd l0 a1_2)).set (a1_2 : Int).toNat (rd l0 a1_1))) else (none)) else (none)) else (none)) else (none)) else (none)) else (none)) else (if a1_0 = 1 then (spec_moApply.l0 k l0 t287 0 a1_0 a1_1 a1_2) else (spec_moApply.l1 k l0 t287 0 a1_0 a1_1 a1_2))) = some r := H
 have A3 := Ya A30
 clear A30
 by_cases c4 : a1_0 = 0
 ·rw [if_pos c4] at H
  have c4b0 : (a1_0 == 0) = true := beq_iff_eq.mpr c4
  have c4b1 : (a1_0 != 0) = false := bne_eq_false_iff_eq.mpr c4
  clear c4
  by_cases c5 : 0 ≤ a1_2
  ·rw [if_pos c5] at H
   have c5b0 : decide (0 ≤ a1_2) = true := Z35 c5
   clear c5
   by_cases c6 : a1_2 < (l0.length : Int)
   ·rw [if_pos c6] at H
    have c6b0 : decide (a1_2 < (l0.length : Int)) = true := Z35 c6
    clear c6
    by_cases c7 : 0 ≤ a1_1
    ·rw [if_pos c7] at H
     have c7b0 : decide (0 ≤ a1_1) = true := Z35 c7
     clear c7
     by_cases c8 : a1_1 < (t287.length : Int)
     ·rw [if_pos c8] at H
      have c8b0 : decide (a1_1 < (t287.length : Int)) = true := Z35 c8
      clear c8
      obtain ⟨y291, hy291⟩ : ∃ y_ : List Int, y_ = (t287.set (a1_1 : Int).toNat (rd l0 a1_2)) := ⟨_, rfl⟩
      replace H : (if a1_1 < (l0.length : Int) then (if a1_2 < (t287.length : Int) then (some (y291.set (a1_2 : Int).toNat (rd l0 a1_1))) else (none)) else (none)) = some r := by first | (rw [hy291]; with_reducible exact H) | (have H2_ := (Option.bind_some _ _).symm.trans H; rw [hy291]; with_reducible exact H2_) | (have H2_ := (Option.bind_some _ _).symm.trans H; with_reducible exact H2_) | with_reducible exact H | (rw [hy291]; exact H) | exact H
      have Ny291 := Ya hy291
      clear hy291
      by_cases c10 : a1_1 < (l0.length : Int)
      ·rw [if_pos c10] at H
       have c10b0 : decide (a1_1 < (l0.length : Int)) = true := Z35 c10
       clear c10
       by_cases c11 : a1_2 < (t287.length : Int)
       ·rw [if_pos c11] at H
        have c11b0 : decide (a1_2 < (t287.length : Int)) = true := Z35 c11
        clear c11
        obtain ⟨y293, hy293⟩ : ∃ y_ : List Int, y_ = (y291.set (a1_2 : Int).toNat (rd l0 a1_1)) := ⟨_, rfl⟩
        replace H : (some y293) = some r := by first | (rw [hy293]; with_reducible exact H) | (have H2_ := (Option.bind_some _ _).symm.trans H; rw [hy293]; with_reducible exact H2_) | (have H2_ := (Option.bind_some _ _).symm.trans H; with_reducible exact H2_) | with_reducible exact H | (rw [hy293]; exact H) | exact H
        have Ny293 := Ya hy293
        clear hy293
        obtain rfl := Option.some.inj H
        go_enter Try.func74, Try.ntmps74
        try go_wp2_with (first | ((with_reducible refine gate_dst (N := 3) rfl ?_); refine Yx 3 #[.int .i64 a1_0, .int .i64 a1_1, .int .i64 a1_2] 82 ?_; intro gb286 hg w13 hbox hb; have BK286 := Ya hbox; have GE286 := Yg hg; replace HB := Yh hb; clear hb hbox hg) | ((with_reducible refine gate_callee (f := 79) rfl ?_); refine Yz 9 Try.func79 #[.slice A0 l0.length c0] ?_; (with_reducible refine (spec_l1Own.calls _ _ l0 t287 _ (Yc (Z19 HR0.out HB.out)) HC0.out A3.out).mono ?_); rintro e w14 ⟨v288, rfl, ho0, hb⟩; refine ⟨_, rfl, ?_⟩; have HO289 := Yl ho0; replace BK286 := Yb BK286 hb; replace HB := Yh hb; (try clear hb ho0); have hcz15_0 : w14.cell? ⟨gb286, 0, none⟩ = some (.int .i64 a1_0) := (Z20 BK286.out 0).trans rfl; have hcz15_1 : w14.cell? ⟨gb286, 1, none⟩ = some (.int .i64 a1_1) := (Z20 BK286.out 1).trans rfl; have hcz15_2 : w14.cell? ⟨gb286, 2, none⟩ = some (.int .i64 a1_2) := (Z20 BK286.out 2).trans rfl; have hfz15_0 := Z21 BK286.out 0; have hfz15_1 := Z21 BK286.out 1; have hfz15_2 := Z21 BK286.out 2))
        replace HO289 := Ya (Z10 HO289.out)
        replace BK286 := Ya (Z23 BK286.out)
        replace HB := Ya (Z4 HB.out)
        have p290 : 0 ≤ (a1_2 : Int) := Z27 Q1
        have q290 : a1_2 < (l0.length : Int) := Z27 Q1
        obtain ⟨ad290, e290, hx290_0⟩ := Kd.at_int HR0.out a1_2 p290 q290
        have hw290_0 := hx290_0
        cases e290
        try replace hx290_0 := (HB.out.cell (World.block_lt_of_cell? w _ hx290_0)).trans hx290_0
        replace p290 := eq_true p290
        replace q290 := eq_true q290
        have p9 : 0 ≤ (a1_1 : Int) := Z27 Q1
        have q9 : (a1_1 : Int) < ((t287.length : Int) : Int) := Z27 Q1
        obtain ⟨go9, co9, eo9, gb9, gl9, cl9, HG9⟩ := Kd.R_form HO289.out (by omega)
        (first | cases eo9 | (injection eo9 with ea_ en_ ec_; (first | subst ea_ | (injection ea_ with ea_; subst ea_)); subst ec_; clear en_))
        have GB9 := Ya gb9
        have GG9 := Ya HG9
        clear gb9 gl9 HG9
        obtain ⟨hx9_0, hf9_0⟩ := Kd.R_celln 0 HO289.out (a1_1 : Int) p9 q9
        replace p9 := eq_true p9
        replace q9 := eq_true q9
        have HP17 := Kd.R_putn HO289.out (a1_1 : Int) (rd l0 a1_2)
        rw [← Ny291.out] at HP17
        have HQ17 := Ya HP17
        clear HP17
        refine start_ (n := 10) (S := fun w' => w'.cell? ⟨gb286, 0, none⟩ = some (.int .i64 a1_0) ∧ w'.cell? ⟨gb286, 1, none⟩ = some (.int .i64 a1_1) ∧ w'.cell? ⟨gb286, 2, none⟩ = some (.int .i64 a1_2) ∧ w'.cell? (ad290.add (a1_2).toNat) = some (.int .i64 (rd l0 a1_2))) (ds := [9]) (YA 10 0) (by kernel_rfl) rfl rfl ⟨(Z20 BK286.out 0).trans rfl, (Z20 BK286.out 1).trans rfl, (Z20 BK286.out 2).trans rfl, ((HB.out.cell (World.block_lt_of_cell? w _ hw290_0)).trans hw290_0)⟩ (fun hHeld => ?_); refine with_tabW spec_moApply.tab8 spec_moApply.bits8 (fun HT_ HW_ => ?_)
        generalize w14.drew = w16 at HO289 BK286 HB GG9 HQ17 hf9_0 hx290_0 hx9_0 hHeld ⊢
        refine Yp 0 (some 31) (YA 10 1) rfl HT_.out ?_
        refine Yp 1 (some 32) (YA 10 3) rfl HT_.out ?_
        refine Yp 3 (some 34) (YA 10 11) rfl HT_.out ?_
        refine Yp 4 (some 35) (YA 10 27) rfl HT_.out ?_
        refine Yt 2 (some 33) (YA 10 31) rfl HT_.out HW_.out hHeld Q3 ?_
        refine Yt 5 (some 36) (YA 10 63) rfl HT_.out HW_.out hHeld Q3 ?_
        refine Yp 6 (some 37) (YA 10 127) rfl HT_.out ?_
        refine Yt 7 (some 38) (YA 10 255) rfl HT_.out HW_.out hHeld Q3 ?_
        refine Yp 8 (some 39) (YA 10 511) rfl HT_.out ?_
        refine last_ (i := 9) (N := none) (YA 10 1023) rfl rfl (one_of HT_.out (by kernel_rfl)) (by decide) (fun K hK => ?_)
        refine skip_ (w1 := ?_) (by rfl) rfl ?_ ?_
        rotate_left
        ·go_simp
         rfl
        refine hK.out _ _ ?_
        clear hK K
        refine done_ (done_of HT_.out (by kernel_rfl)) ?_
        try go_wp2
        replace BK286 : Aside0 ((w16.setCell ⟨go9, (a1_1 : Int).toNat, none⟩ (.int .i64 (rd l0 a1_2))).heap[gb286]? = some (.cells #[.int .i64 a1_0, .int .i64 a1_1, .int .i64 a1_2] 82 (0, 0))) := ⟨by (with_reducible repeat (first | refine Z22 ?_ _ | refine Z23 ?_ | refine Z24 ?_ _)); refine blk_far ?_ (by have h_ := Kd.R_ne HO289.out BK286.out (by decide); intro e_; exact h_ (by rw [e_]; rfl)) _; (with_reducible repeat (first | refine Z22 ?_ _ | refine Z23 ?_ | refine Z24 ?_ _)); exact BK286.out⟩
        replace HO289 : Aside0 (Kd.R (Kd.int .i64) 3 (w16.setCell ⟨go9, (a1_1 : Int).toNat, none⟩ (.int .i64 (rd l0 a1_2))) w.heap.size (fun _ => True) (.slice (some ⟨go9, 0, none⟩) t287.length co9) y291) := ⟨by (with_reducible repeat (first | apply Z8 | apply Z9 | apply Z10)); exact HQ17.out⟩
        replace HB : Aside0 (Below w.heap.size w (w16.setCell ⟨go9, (a1_1 : Int).toNat, none⟩ (.int .i64 (rd l0 a1_2)))) := ⟨Q12⟩
        generalize (w16.setCell ⟨go9, (a1_1 : Int).toNat, none⟩ (.int .i64 (rd l0 a1_2))) = w18 at HO289 BK286 HB ⊢
        replace HO289 := Ya (Z10 HO289.out)
        replace BK286 := Ya (Z23 BK286.out)
        replace HB := Ya (Z4 HB.out)
        have p292 : 0 ≤ (a1_1 : Int) := Z27 Q1
        have q292 : a1_1 < (l0.length : Int) := Z27 Q1
        obtain ⟨ad292, e292, hx292_0⟩ := Kd.at_int HR0.out a1_1 p292 q292
        have hw292_0 := hx292_0
        obtain rfl : ad290 = ad292 := (by injection e292)
        try replace hx292_0 := (HB.out.cell (World.block_lt_of_cell? w _ hx292_0)).trans hx292_0
        replace p292 := eq_true p292
        replace q292 := eq_true q292
        have p12 : 0 ≤ (a1_2 : Int) := Z27 Q1
        have q12 : (a1_2 : Int) < ((t287.length : Int) : Int) := Z27 Q1
        obtain ⟨hx12_0, hf12_0⟩ := Kd.R_celln 0 HO289.out (a1_2 : Int) p12 q12
        replace p12 := eq_true p12
        replace q12 := eq_true q12
        have HP20 := Kd.R_putn HO289.out (a1_2 : Int) (rd l0 a1_1)
        rw [← Ny293.out] at HP20
        have HQ20 := Ya HP20
        clear HP20
        refine start_ (n := 10) (S := fun w' => w'.cell? ⟨gb286, 0, none⟩ = some (.int .i64 a1_0) ∧ w'.cell? ⟨gb286, 1, none⟩ = some (.int .i64 a1_1) ∧ w'.cell? ⟨gb286, 2, none⟩ = some (.int .i64 a1_2) ∧ w'.cell? (ad290.add (a1_1).toNat) = some (.int .i64 (rd l0 a1_1))) (ds := [9]) (YA 10 0) (by kernel_rfl) rfl rfl ⟨(Z20 BK286.out 0).trans rfl, (Z20 BK286.out 1).trans rfl, (Z20 BK286.out 2).trans rfl, ((HB.out.cell (World.block_lt_of_cell? w _ hw292_0)).trans hw292_0)⟩ (fun hHeld => ?_); refine with_tabW spec_moApply.tab9 spec_moApply.bits9 (fun HT_ HW_ => ?_)
        generalize w18.drew = w19 at HO289 BK286 HB HQ17 HQ20 hf12_0 hx12_0 hx292_0 hHeld ⊢
        refine Yp 0 (some 40) (YA 10 1) rfl HT_.out ?_
        refine Yp 1 (some 41) (YA 10 3) rfl HT_.out ?_
        refine Yp 3 (some 43) (YA 10 11) rfl HT_.out ?_
        refine Yp 4 (some 44) (YA 10 27) rfl HT_.out ?_
        refine Yt 2 (some 42) (YA 10 31) rfl HT_.out HW_.out hHeld Q3 ?_
        refine Yt 5 (some 45) (YA 10 63) rfl HT_.out HW_.out hHeld Q3 ?_
        refine Yp 6 (some 46) (YA 10 127) rfl HT_.out ?_
        refine Yt 7 (some 47) (YA 10 255) rfl HT_.out HW_.out hHeld Q3 ?_
        refine Yp 8 (some 48) (YA 10 511) rfl HT_.out ?_
        refine last_ (i := 9) (N := none) (YA 10 1023) rfl rfl (one_of HT_.out (by kernel_rfl)) (by decide) (fun K hK => ?_)
        refine skip_ (w1 := ?_) (by rfl) rfl ?_ ?_
        rotate_left
        ·go_simp
         rfl
        refine hK.out _ _ ?_
        clear hK K
        refine done_ (done_of HT_.out (by kernel_rfl)) ?_
        try go_wp2
        go_ret
        exact ⟨_, Q2, by (with_reducible repeat (first | apply Z8 | apply Z9 | apply Z10)); exact HQ20.out, Q12⟩
       ·rw [if_neg c11] at H
        exact absurd H (by simp)
      ·rw [if_neg c10] at H
       exact absurd H (by simp)
     ·rw [if_neg c8] at H
      exact absurd H (by simp)
    ·rw [if_neg c7] at H
     exact absurd H (by simp)
   ·rw [if_neg c6] at H
    exact absurd H (by simp)
  ·rw [if_neg c5] at H
   exact absurd H (by simp)
 ·rw [if_neg c4] at H
  have c4b0 : (a1_0 == 0) = false := beq_eq_false_iff_ne.mpr c4
  have c4b1 : (a1_0 != 0) = true := bne_iff_ne.mpr c4
  by_cases c21 : a1_0 = 1
  ·rw [if_pos c21] at H
   have c21b0 : (a1_0 == 1) = true := beq_iff_eq.mpr c21
   have c21b1 : (a1_0 != 1) = false := bne_eq_false_iff_eq.mpr c21
   clear c21
   have H' := Ya H
   clear H
   go_enter Try.func74, Try.ntmps74
   go_wp2_with (first | ((with_reducible refine gate_dst (N := 3) rfl ?_); refine Yx 3 #[.int .i64 a1_0, .int .i64 a1_1, .int .i64 a1_2] 82 ?_; intro gb286 hg w22 hbox hb; have BK286 := Ya hbox; have GE286 := Yg hg; replace HB := Yh hb; clear hb hbox hg) | ((with_reducible refine gate_callee (f := 79) rfl ?_); refine Yz 9 Try.func79 #[.slice A0 l0.length c0] ?_; (with_reducible refine (spec_l1Own.calls _ _ l0 t287 _ (Yc (Z19 HR0.out HB.out)) HC0.out A3.out).mono ?_); rintro e w23 ⟨v288, rfl, ho0, hb⟩; refine ⟨_, rfl, ?_⟩; have HO289 := Yl ho0; replace BK286 := Yb BK286 hb; replace HB := Yh hb; (try clear hb ho0); have hcz24_0 : w23.cell? ⟨gb286, 0, none⟩ = some (.int .i64 a1_0) := (Z20 BK286.out 0).trans rfl; have hcz24_1 : w23.cell? ⟨gb286, 1, none⟩ = some (.int .i64 a1_1) := (Z20 BK286.out 1).trans rfl; have hcz24_2 : w23.cell? ⟨gb286, 2, none⟩ = some (.int .i64 a1_2) := (Z20 BK286.out 2).trans rfl; have hfz24_0 := Z21 BK286.out 0; have hfz24_1 := Z21 BK286.out 1; have hfz24_2 := Z21 BK286.out 2))
   go_loopg [6] k (fun kq v6 w' => ∃ (x5_1 : List Int) (x6_1 : Int), v6 = .int .i64 x6_1 ∧ Aside0 (spec_moApply.l0 kq l0 x5_1 x6_1 a1_0 a1_1 a1_2 = some r) ∧ Aside0 (kq ≤ k) ∧ Aside0 (Kd.R (Kd.int .i64) 3 w' w.heap.size (fun _ => True) v288 x5_1) ∧ Aside0 (w'.heap[gb286]? = some (.cells #[.int .i64 a1_0, .int .i64 a1_1, .int .i64 a1_2] 82 (0, 0))) ∧ Aside0 (Below w.heap.size w w'))
   case atStart => exact ⟨(t287), (0), Q7, H', ⟨Nat.le_refl _⟩, ⟨by (with_reducible repeat (first | apply Z8 | apply Z9 | apply Z10)); exact HO289.out⟩, ⟨Q41⟩, ⟨Q12⟩⟩
   case round =>
    clear H'
    try clear c1
    try clear p1
    try clear q1
    try clear hx1
    try clear c2
    try clear p2
    try clear q2
    try clear hx2
    try clear c4
    try clear c4b0
    try clear c4b1
    try clear c5
    try clear c5b0
    try clear c6
    try clear c6b0
    try clear c7
    try clear c7b0
    try clear c8
    try clear c8b0
    try clear p9
    try clear q9
    try clear hx9
    try clear hf9
    try clear c10
    try clear c10b0
    try clear c11
    try clear c11b0
    try clear p12
    try clear q12
    try clear hx12
    try clear hf12
    try clear c21
    try clear c21b0
    try clear c21b1
    try clear hcz15_0
    try clear hcz15_1
    try clear hcz15_2
    try clear hcz24_0
    try clear hcz24_1
    try clear hcz24_2
    try clear hfz15_0
    try clear hfz15_1
    try clear hfz15_2
    try clear hfz24_0
    try clear hfz24_1
    try clear hfz24_2
    try clear hx12_0
    try clear hx290_0
    try clear hx292_0
    try clear hx9_0
    try clear p12
    try clear p290
    try clear p292
    try clear p9
    try clear q12
    try clear q290
    try clear q292
    try clear q9
    obtain ⟨x5_1, x6_1, rfl, HA, HK1, HO_5, BK286, HB⟩ := hrel
    cases gk with
    | zero => exact absurd HA.out (by simp [spec_moApply.l0])
    | succ k1 =>
     have H := HA.out
     clear HA
     simp only [spec_moApply.l0] at H
     by_cases c25 : x6_1 < a1_1
     ·rw [if_pos c25] at H
      have c25b0 : decide (x6_1 < a1_1) = true := Z35 c25
      clear c25
      obtain ⟨ji26, hji26⟩ : ∃ j_ : Int, (wrap64 ((wrap64 (a1_1 - 1)) - x6_1)) = j_ := ⟨_, rfl⟩
      replace H : (if 0 ≤ (ji26) then (if (ji26) < (l0.length : Int) then (if 0 ≤ x6_1 then (if x6_1 < (x5_1.length : Int) then (spec_moApply.l0 k1 l0 (x5_1.set (x6_1 : Int).toNat (rd l0 (ji26))) (wrap64 (x6_1 + 1)) a1_0 a1_1 a1_2) else (none)) else (none)) else (none)) else (none)) = some r := by first | (rw [hji26] at H; exact H) | (simp only [hji26] at H ⊢; exact H)
      have hji26w : (IntKind.i64.wrap ((wrap64 (a1_1 - 1)) - x6_1)) = ji26 := (i64_w _).trans hji26
      by_cases c27 : 0 ≤ (ji26)
      ·rw [if_pos c27] at H
       have c27b0 : decide (0 ≤ (ji26)) = true := Z35 c27
       clear c27
       by_cases c28 : (ji26) < (l0.length : Int)
       ·rw [if_pos c28] at H
        have c28b0 : decide ((ji26) < (l0.length : Int)) = true := Z35 c28
        clear c28
        by_cases c29 : 0 ≤ x6_1
        ·rw [if_pos c29] at H
         have c29b0 : decide (0 ≤ x6_1) = true := Z35 c29
         clear c29
         by_cases c30 : x6_1 < (x5_1.length : Int)
         ·rw [if_pos c30] at H
          have c30b0 : decide (x6_1 < (x5_1.length : Int)) = true := Z35 c30
          clear c30
          obtain ⟨y295, hy295⟩ : ∃ y_ : List Int, y_ = (x5_1.set (x6_1 : Int).toNat (rd l0 (ji26))) := ⟨_, rfl⟩
          replace H : (spec_moApply.l0 k1 l0 y295 (wrap64 (x6_1 + 1)) a1_0 a1_1 a1_2) = some r := by first | (rw [hy295]; with_reducible exact H) | (have H2_ := (Option.bind_some _ _).symm.trans H; rw [hy295]; with_reducible exact H2_) | (have H2_ := (Option.bind_some _ _).symm.trans H; with_reducible exact H2_) | with_reducible exact H | (rw [hy295]; exact H) | exact H
          have Ny295 := Ya hy295
          clear hy295
          have H' := Ya H
          clear H
          have hcz32_0 : wr.cell? ⟨gb286, 0, none⟩ = some (.int .i64 a1_0) := (Z20 BK286.out 0).trans rfl
          have hcz32_1 : wr.cell? ⟨gb286, 1, none⟩ = some (.int .i64 a1_1) := (Z20 BK286.out 1).trans rfl
          have hcz32_2 : wr.cell? ⟨gb286, 2, none⟩ = some (.int .i64 a1_2) := (Z20 BK286.out 2).trans rfl
          have hfz32_0 := Z21 BK286.out 0
          have hfz32_1 := Z21 BK286.out 1
          have hfz32_2 := Z21 BK286.out 2
          have p294 : 0 ≤ ((ji26) : Int) := Z27 Q1
          have q294 : (ji26) < (l0.length : Int) := Z27 Q1
          obtain ⟨ad294, e294, hx294_0⟩ := Kd.at_int HR0.out (ji26) p294 q294
          cases e294
          try replace hx294_0 := (HB.out.cell (World.block_lt_of_cell? w _ hx294_0)).trans hx294_0
          replace p294 := eq_true p294
          replace q294 := eq_true q294
          have p31 : 0 ≤ (x6_1 : Int) := Z27 Q1
          have q31 : (x6_1 : Int) < ((x5_1.length : Int) : Int) := Z27 Q1
          obtain ⟨go31, co31, eo31, gb31, gl31, cl31, HG31⟩ := Kd.R_form HO_5.out (by omega)
          (first | cases eo31 | (injection eo31 with ea_ en_ ec_; (first | subst ea_ | (injection ea_ with ea_; subst ea_)); subst ec_; clear en_))
          have GB31 := Ya gb31
          have GG31 := Ya HG31
          clear gb31 gl31 HG31
          obtain ⟨hx31_0, hf31_0⟩ := Kd.R_celln 0 HO_5.out (x6_1 : Int) p31 q31
          replace p31 := eq_true p31
          replace q31 := eq_true q31
          have HP33 := Kd.R_putg HO_5.out (x6_1 : Int) (rd l0 (ji26))
          go_wp2_with (first | ((with_reducible refine gate_store (t := 3) (p := 67) rfl ?_); refine store_event (t := 3) (p := 67) (v := ?vo_w34) (w1 := (wr.setCell ⟨go31, (x6_1 : Int).toNat, none⟩ (.int .i64 (rd l0 (ji26))))) ?hg ?ho ?hn ?hr ?_; (case ho => rfl); (case hg => rfl); (case hn => rfl); (case hr => first | (go_simp; done) | (go_simp; rfl)); intro w34 hw; have hg : wr.grownBy w34 (some go31) := (by rw [hw]; exact HP33.2); have hp_ : Kd.R (Kd.int .i64) 3 w34 w.heap.size (fun _ => True) (.slice (some ⟨go31, 0, none⟩) x5_1.length co31) y295 := (by rw [hw, Ny295.out]; exact HP33.1); clear HP33; replace BK286 := Ya (blk_grown (g := gb286) (o := .cells #[.int .i64 a1_0, .int .i64 a1_1, .int .i64 a1_2] 82 (0, 0)) (Yk BK286.out) hg (Kd.R_ne HO_5.out BK286.out (by decide))); replace HO_5 := Ya hp_; replace HB := Ya ((by rw [hw]; exact Z6 (HB.out) GB31.out : Below w.heap.size w w34)); clear hg hw hp_))
          go_roundg k1
          case measure => have := HK1.out; omega
          case rel => exact ⟨(y295), (wrap64 (x6_1 + 1)), Q7, H', ⟨Q24⟩, ⟨Q42⟩, ⟨Q41⟩, ⟨Q12⟩⟩
         ·rw [if_neg c30] at H
          exact absurd H (by simp)
        ·rw [if_neg c29] at H
         exact absurd H (by simp)
       ·rw [if_neg c28] at H
        exact absurd H (by simp)
      ·rw [if_neg c27] at H
       exact absurd H (by simp)
     ·rw [if_neg c25] at H
      have c25b0 : decide (x6_1 < a1_1) = false := Z34 c25
      clear c25
      obtain rfl := Option.some.inj H
      have hcz35_0 : wr.cell? ⟨gb286, 0, none⟩ = some (.int .i64 a1_0) := (Z20 BK286.out 0).trans rfl
      have hcz35_1 : wr.cell? ⟨gb286, 1, none⟩ = some (.int .i64 a1_1) := (Z20 BK286.out 1).trans rfl
      have hcz35_2 : wr.cell? ⟨gb286, 2, none⟩ = some (.int .i64 a1_2) := (Z20 BK286.out 2).trans rfl
      have hfz35_0 := Z21 BK286.out 0
      have hfz35_1 := Z21 BK286.out 1
      have hfz35_2 := Z21 BK286.out 2
      go_wp2
      go_ret
      exact ⟨_, Q2, Q42, Q12⟩
  ·rw [if_neg c21] at H
   have c21b0 : (a1_0 == 1) = false := beq_eq_false_iff_ne.mpr c21
   have c21b1 : (a1_0 != 1) = true := bne_iff_ne.mpr c21
   have H' := Ya H
   clear H
   go_enter Try.func74, Try.ntmps74
   go_wp2_with (first | ((with_reducible refine gate_dst (N := 3) rfl ?_); refine Yx 3 #[.int .i64 a1_0, .int .i64 a1_1, .int .i64 a1_2] 82 ?_; intro gb286 hg w36 hbox hb; have BK286 := Ya hbox; have GE286 := Yg hg; replace HB := Yh hb; clear hb hbox hg) | ((with_reducible refine gate_callee (f := 79) rfl ?_); refine Yz 9 Try.func79 #[.slice A0 l0.length c0] ?_; (with_reducible refine (spec_l1Own.calls _ _ l0 t287 _ (Yc (Z19 HR0.out HB.out)) HC0.out A3.out).mono ?_); rintro e w37 ⟨v288, rfl, ho0, hb⟩; refine ⟨_, rfl, ?_⟩; have HO289 := Yl ho0; replace BK286 := Yb BK286 hb; replace HB := Yh hb; (try clear hb ho0); have hcz38_0 : w37.cell? ⟨gb286, 0, none⟩ = some (.int .i64 a1_0) := (Z20 BK286.out 0).trans rfl; have hcz38_1 : w37.cell? ⟨gb286, 1, none⟩ = some (.int .i64 a1_1) := (Z20 BK286.out 1).trans rfl; have hcz38_2 : w37.cell? ⟨gb286, 2, none⟩ = some (.int .i64 a1_2) := (Z20 BK286.out 2).trans rfl; have hfz38_0 := Z21 BK286.out 0; have hfz38_1 := Z21 BK286.out 1; have hfz38_2 := Z21 BK286.out 2))
   go_loopg [7] k (fun kq v7 w' => ∃ (x5_1 : List Int) (x7_1 : Int), v7 = .int .i64 x7_1 ∧ Aside0 (spec_moApply.l1 kq l0 x5_1 x7_1 a1_0 a1_1 a1_2 = some r) ∧ Aside0 (kq ≤ k) ∧ Aside0 (Kd.R (Kd.int .i64) 3 w' w.heap.size (fun _ => True) v288 x5_1) ∧ Aside0 (w'.heap[gb286]? = some (.cells #[.int .i64 a1_0, .int .i64 a1_1, .int .i64 a1_2] 82 (0, 0))) ∧ Aside0 (Below w.heap.size w w'))
   case atStart => exact ⟨(t287), (0), Q7, H', ⟨Nat.le_refl _⟩, ⟨by (with_reducible repeat (first | apply Z8 | apply Z9 | apply Z10)); exact HO289.out⟩, ⟨Q41⟩, ⟨Q12⟩⟩
   case round =>
    clear H'
    try clear c1
    try clear p1
    try clear q1
    try clear hx1
    try clear c2
    try clear p2
    try clear q2
    try clear hx2
    try clear c3
    try clear p3
    try clear q3
    try clear hx3
    try clear hf3
    try clear c4
    try clear c4b0
    try clear c4b1
    try clear c5
    try clear c5b0
    try clear c6
    try clear c6b0
    try clear p6
    try clear c7
    try clear c7b0
    try clear c8
    try clear c8b0
    try clear p9
    try clear q9
    try clear hx9
    try clear hf9
    try clear c10
    try clear c10b0
    try clear c11
    try clear c11b0
    try clear p12
    try clear q12
    try clear hx12
    try clear hf12
    try clear c21
    try clear c21b0
    try clear c21b1
    try clear c25
    try clear c25b0
    try clear c27
    try clear c27b0
    try clear c28
    try clear c28b0
    try clear c29
    try clear c29b0
    try clear p29
    try clear q29
    try clear hx29
    try clear c30
    try clear c30b0
    try clear p31
    try clear q31
    try clear hx31
    try clear hf31
    try clear hcz15_0
    try clear hcz15_1
    try clear hcz15_2
    try clear hcz24_0
    try clear hcz24_1
    try clear hcz24_2
    try clear hcz32_0
    try clear hcz32_1
    try clear hcz32_2
    try clear hcz35_0
    try clear hcz35_1
    try clear hcz35_2
    try clear hcz38_0
    try clear hcz38_1
    try clear hcz38_2
    try clear hfz15_0
    try clear hfz15_1
    try clear hfz15_2
    try clear hfz24_0
    try clear hfz24_1
    try clear hfz24_2
    try clear hfz32_0
    try clear hfz32_1
    try clear hfz32_2
    try clear hfz35_0
    try clear hfz35_1
    try clear hfz35_2
    try clear hfz38_0
    try clear hfz38_1
    try clear hfz38_2
    try clear hx12_0
    try clear hx290_0
    try clear hx292_0
    try clear hx294_0
    try clear hx31_0
    try clear hx9_0
    try clear p1
    try clear p12
    try clear p2
    try clear p290
    try clear p292
    try clear p294
    try clear p31
    try clear p9
    try clear q1
    try clear q12
    try clear q2
    try clear q290
    try clear q292
    try clear q294
    try clear q31
    try clear q9
    obtain ⟨x5_1, x7_1, rfl, HA, HK1, HO_5, BK286, HB⟩ := hrel
    cases gk with
    | zero => exact absurd HA.out (by simp [spec_moApply.l1])
    | succ k1 =>
     have H := HA.out
     clear HA
     simp only [spec_moApply.l1] at H
     by_cases c39 : x7_1 < a1_1
     ·rw [if_pos c39] at H
      have c39b0 : decide (x7_1 < a1_1) = true := Z35 c39
      clear c39
      by_cases c40 : a1_1 = 0
      ·rw [if_pos c40] at H
       exact absurd H (by simp)
      ·rw [if_neg c40] at H
       have c40b0 : (a1_1 == 0) = false := beq_eq_false_iff_ne.mpr c40
       have c40b1 : (a1_1 != 0) = true := bne_iff_ne.mpr c40
       obtain ⟨ji41, hji41⟩ : ∃ j_ : Int, (Int.tmod (wrap64 (x7_1 + 1)) a1_1) = j_ := ⟨_, rfl⟩
       replace H : (if 0 ≤ (ji41) then (if (ji41) < (l0.length : Int) then (if 0 ≤ x7_1 then (if x7_1 < (x5_1.length : Int) then (spec_moApply.l1 k1 l0 (x5_1.set (x7_1 : Int).toNat (rd l0 (ji41))) (wrap64 (x7_1 + 1)) a1_0 a1_1 a1_2) else (none)) else (none)) else (none)) else (none)) = some r := by first | (rw [hji41] at H; exact H) | (simp only [hji41] at H ⊢; exact H)
       by_cases c42 : 0 ≤ (ji41)
       ·rw [if_pos c42] at H
        have c42b0 : decide (0 ≤ (ji41)) = true := Z35 c42
        clear c42
        by_cases c43 : (ji41) < (l0.length : Int)
        ·rw [if_pos c43] at H
         have c43b0 : decide ((ji41) < (l0.length : Int)) = true := Z35 c43
         clear c43
         by_cases c44 : 0 ≤ x7_1
         ·rw [if_pos c44] at H
          have c44b0 : decide (0 ≤ x7_1) = true := Z35 c44
          clear c44
          by_cases c45 : x7_1 < (x5_1.length : Int)
          ·rw [if_pos c45] at H
           have c45b0 : decide (x7_1 < (x5_1.length : Int)) = true := Z35 c45
           clear c45
           obtain ⟨y297, hy297⟩ : ∃ y_ : List Int, y_ = (x5_1.set (x7_1 : Int).toNat (rd l0 (ji41))) := ⟨_, rfl⟩
           replace H : (spec_moApply.l1 k1 l0 y297 (wrap64 (x7_1 + 1)) a1_0 a1_1 a1_2) = some r := by first | (rw [hy297]; with_reducible exact H) | (have H2_ := (Option.bind_some _ _).symm.trans H; rw [hy297]; with_reducible exact H2_) | (have H2_ := (Option.bind_some _ _).symm.trans H; with_reducible exact H2_) | with_reducible exact H | (rw [hy297]; exact H) | exact H
           have Ny297 := Ya hy297
           clear hy297
           have H' := Ya H
           clear H
           have hcz47_0 : wr.cell? ⟨gb286, 0, none⟩ = some (.int .i64 a1_0) := (Z20 BK286.out 0).trans rfl
           have hcz47_1 : wr.cell? ⟨gb286, 1, none⟩ = some (.int .i64 a1_1) := (Z20 BK286.out 1).trans rfl
           have hcz47_2 : wr.cell? ⟨gb286, 2, none⟩ = some (.int .i64 a1_2) := (Z20 BK286.out 2).trans rfl
           have hfz47_0 := Z21 BK286.out 0
           have hfz47_1 := Z21 BK286.out 1
           have hfz47_2 := Z21 BK286.out 2
           have p296 : 0 ≤ ((ji41) : Int) := Z27 Q1
           have q296 : (ji41) < (l0.length : Int) := Z27 Q1
           obtain ⟨ad296, e296, hx296_0⟩ := Kd.at_int HR0.out (ji41) p296 q296
           cases e296
           try replace hx296_0 := (HB.out.cell (World.block_lt_of_cell? w _ hx296_0)).trans hx296_0
           replace p296 := eq_true p296
           replace q296 := eq_true q296
           have p46 : 0 ≤ (x7_1 : Int) := Z27 Q1
           have q46 : (x7_1 : Int) < ((x5_1.length : Int) : Int) := Z27 Q1
           obtain ⟨go46, co46, eo46, gb46, gl46, cl46, HG46⟩ := Kd.R_form HO_5.out (by omega)
           (first | cases eo46 | (injection eo46 with ea_ en_ ec_; (first | subst ea_ | (injection ea_ with ea_; subst ea_)); subst ec_; clear en_))
           have GB46 := Ya gb46
           have GG46 := Ya HG46
           clear gb46 gl46 HG46
           obtain ⟨hx46_0, hf46_0⟩ := Kd.R_celln 0 HO_5.out (x7_1 : Int) p46 q46
           replace p46 := eq_true p46
           replace q46 := eq_true q46
           have HP48 := Kd.R_putg HO_5.out (x7_1 : Int) (rd l0 (ji41))
           go_wp2_with (first | ((with_reducible refine gate_store (t := 3) (p := 28) rfl ?_); refine store_event (t := 3) (p := 28) (v := ?vo_w49) (w1 := (wr.setCell ⟨go46, (x7_1 : Int).toNat, none⟩ (.int .i64 (rd l0 (ji41))))) ?hg ?ho ?hn ?hr ?_; (case ho => rfl); (case hg => rfl); (case hn => rfl); (case hr => first | (go_simp; done) | (go_simp; rfl)); intro w49 hw; have hg : wr.grownBy w49 (some go46) := (by rw [hw]; exact HP48.2); have hp_ : Kd.R (Kd.int .i64) 3 w49 w.heap.size (fun _ => True) (.slice (some ⟨go46, 0, none⟩) x5_1.length co46) y297 := (by rw [hw, Ny297.out]; exact HP48.1); clear HP48; replace BK286 := Ya (blk_grown (g := gb286) (o := .cells #[.int .i64 a1_0, .int .i64 a1_1, .int .i64 a1_2] 82 (0, 0)) (Yk BK286.out) hg (Kd.R_ne HO_5.out BK286.out (by decide))); replace HO_5 := Ya hp_; replace HB := Ya ((by rw [hw]; exact Z6 (HB.out) GB46.out : Below w.heap.size w w49)); clear hg hw hp_))
           go_roundg k1
           case measure => have := HK1.out; omega
           case rel => exact ⟨(y297), (wrap64 (x7_1 + 1)), Q7, H', ⟨Q24⟩, ⟨Q42⟩, ⟨Q41⟩, ⟨Q12⟩⟩
          ·rw [if_neg c45] at H
           exact absurd H (by simp)
         ·rw [if_neg c44] at H
          exact absurd H (by simp)
        ·rw [if_neg c43] at H
         exact absurd H (by simp)
       ·rw [if_neg c42] at H
        exact absurd H (by simp)
     ·rw [if_neg c39] at H
      have c39b0 : decide (x7_1 < a1_1) = false := Z34 c39
      clear c39
      obtain rfl := Option.some.inj H
      have hcz50_0 : wr.cell? ⟨gb286, 0, none⟩ = some (.int .i64 a1_0) := (Z20 BK286.out 0).trans rfl
      have hcz50_1 : wr.cell? ⟨gb286, 1, none⟩ = some (.int .i64 a1_1) := (Z20 BK286.out 1).trans rfl
      have hcz50_2 : wr.cell? ⟨gb286, 2, none⟩ = some (.int .i64 a1_2) := (Z20 BK286.out 2).trans rfl
      have hfz50_0 := Z21 BK286.out 0
      have hfz50_1 := Z21 BK286.out 1
      have hfz50_2 := Z21 BK286.out 2
      go_wp2
      go_ret
      exact ⟨_, Q2, Q42, Q12⟩
def spec_raInverse.l0 : Nat → List Int → List Int → Int → Int → Option (List Int)
 | 0, _, _, _, _ => none
 | k + 1, x3, x9, x10, x11 => if x11 < x10 then (if 0 ≤ x11 then (if x11 < (x9.length : Int) then (if 0 ≤ (rd x9 x11) then (if (rd x9 x11) < (x3.length : Int) then (spec_raInverse.l0 k (x3.set ((rd x9 x11) : Int).toNat x11) x9 x10 (wrap64 (x11 + 1))) else (none)) else (none)) else (none)) else (none)) else (some x3)
def spec_raInverse.f (k : Nat) (l0 : List Int) : Option (List Int) := if 0 ≤ (l0.length : Int) then (if ((l0.length : Int) : Int).toNat ≤ 35184372088832 then (spec_raInverse.l0 k (List.replicate ((l0.length : Int) : Int).toNat 0) l0 (l0.length : Int) 0) else (none)) else (none)
theorem spec_raInverse.mono_l : ∀ k, (∀ y0 y1 y2 y3, LeO (spec_raInverse.l0 k y0 y1 y2 y3) (spec_raInverse.l0 (k + 1) y0 y1 y2 y3))
 | 0 => fun _ _ _ _ r h => by simp [spec_raInverse.l0] at h
 | k + 1 => by
  have ih0 := spec_raInverse.mono_l k
  ·intro y0 y1 y2 y3
   unfold spec_raInverse.l0
   repeat' first
   | (with_reducible exact ih0 _ _ _ _)
   | (with_reducible exact LeO.refl _)
   | (with_reducible exact LeO.none _)
   | (with_reducible refine LeO.ite ?_ ?_)
   | (with_reducible refine LeO.bind ?_ (fun _ => ?_))
   | exact ih0 _ _ _ _
   | exact LeO.none _
   | refine LeO.ite ?_ ?_
   | refine LeO.bind ?_ (fun _ => ?_)
theorem spec_raInverse.mono : ∀ a0 k, LeO (spec_raInverse.f k a0) (spec_raInverse.f (k + 1) a0) := by
 intro a0 k
 have ih0 := spec_raInverse.mono_l k
 unfold spec_raInverse.f
 repeat' first
   | (with_reducible exact ih0 _ _ _ _)
   | (with_reducible exact LeO.refl _)
   | (with_reducible exact LeO.none _)
   | (with_reducible refine LeO.ite ?_ ?_)
   | (with_reducible refine LeO.bind ?_ (fun _ => ?_))
   | exact ih0 _ _ _ _
   | exact LeO.none _
   | refine LeO.ite ?_ ?_
   | refine LeO.bind ?_ (fun _ => ?_)
set_option maxHeartbeats 8000000 in
set_option maxRecDepth 100000 in
theorem spec_raInverse.calls (k : Nat) (A0 : Option Addr) (c0 : Nat) (l0 : List Int) (r : List Int) (w : World) (hr0 : Kd.C (Kd.int .i64) w A0 l0.length l0) (hc0 : l0.length ≤ c0) (h : spec_raInverse.f k l0 = some r) :
  Calls Try.prog 75 #[.slice A0 l0.length c0] w fun e w' => ∃ v0_ : Value, e = .returned (v0_) ∧ Kd.R (Kd.int .i64) 3 w' w.heap.size (fun _ => True) v0_ r ∧ Below w.heap.size w w' := by
 have HR0 := Ya hr0
 have HC0 := Ya hc0
 clear hr0 hc0
 have HB := Ya (Below.refl w.heap.size w)
 have H : (if 0 ≤ (l0.length : Int) then (if ((l0.length : Int) : Int).toNat ≤ 35184372088832 then (spec_raInverse.l0 k (List.replicate ((l0.length : Int) : Int).toNat 0) l0 (l0.length : Int) 0) else (none)) else (none)) = some r := h
 clear h
 by_cases c2 : 0 ≤ (l0.length : Int)
 ·rw [if_pos c2] at H
  have c2b0 := eq_true c2
  have c2b1 : decide (0 ≤ (l0.length : Int)) = true := Z35 c2
  have HLEc2 := Ya c2
  clear c2
  by_cases c3 : ((l0.length : Int) : Int).toNat ≤ 35184372088832
  ·rw [if_pos c3] at H
   have c3b0 := eq_true c3
   have c3b1 : decide (((l0.length : Int) : Int).toNat ≤ 35184372088832) = true := Z35 c3
   clear c3
   obtain ⟨y298, hy298⟩ : ∃ y_ : List Int, y_ = (List.replicate ((l0.length : Int) : Int).toNat 0) := ⟨_, rfl⟩
   replace H : (spec_raInverse.l0 k y298 l0 (l0.length : Int) 0) = some r := by first | (rw [hy298]; with_reducible exact H) | (have H2_ := (Option.bind_some _ _).symm.trans H; rw [hy298]; with_reducible exact H2_) | (have H2_ := (Option.bind_some _ _).symm.trans H; with_reducible exact H2_) | with_reducible exact H | (rw [hy298]; exact H) | exact H
   have Ny298 := Ya hy298
   clear hy298
   have H' := Ya H
   clear H
   go_enter Try.func75, Try.ntmps75
   go_wp2_with (first | ((with_reducible refine gate_dst (N := 8) rfl ?_); refine Kd.R_make (Kd.int .i64) _ 3 rfl (N := 8) rfl 22 _ _ rfl (l0.length : Int) rfl rfl Try.underlying22 (.int .i64 0) 8 info3 rfl (by decide) (by omega) 0 (ok := fun _ => True) (okp := fun _ => True) rfl (fun _ hk => hk) trivial (Z27 Q1) (Nat.le_trans (Nat.mul_le_mul_right _ (Z27 Q1 : (l0.length : Int).toNat ≤ 35184372088832)) (by omega)) (Below.refl _ _) (Nat.le_refl _) ?_; intro v299 w4 ho5 hb hg_ hnew_; clear hg_ hnew_; (first | rw [← Ny298.out] at ho5 | (simp only [Int.reduceToNat] at ho5; rw [← Ny298.out] at ho5)); have HO300 := Yl ho5; replace HB := Yh hb; clear hb ho5))
   go_loopg [11] k (fun kq v11 w' => ∃ (x3_1 : List Int) (x11_1 : Int), v11 = .int .i64 x11_1 ∧ Aside0 (spec_raInverse.l0 kq x3_1 l0 (l0.length : Int) x11_1 = some r) ∧ Aside0 (kq ≤ k) ∧ Aside0 (Kd.R (Kd.int .i64) 3 w' w.heap.size (fun _ => True) v299 x3_1) ∧ Aside0 (Below w.heap.size w w'))
   case atStart => exact ⟨(y298), (0), Q7, H', ⟨Nat.le_refl _⟩, ⟨by (with_reducible repeat (first | apply Z8 | apply Z9 | apply Z10)); exact HO300.out⟩, ⟨Q12⟩⟩
   case round =>
    clear H'
    try clear c2
    try clear c2b0
    try clear c2b1
    try clear p2
    try clear c3
    try clear c3b0
    try clear c3b1
    obtain ⟨x3_1, x11_1, rfl, HA, HK1, HO_3, HB⟩ := hrel
    cases gk with
    | zero => exact absurd HA.out (by simp [spec_raInverse.l0])
    | succ k1 =>
     have H := HA.out
     clear HA
     simp only [spec_raInverse.l0] at H
     by_cases c6 : x11_1 < (l0.length : Int)
     ·rw [if_pos c6] at H
      have c6b0 : decide (x11_1 < (l0.length : Int)) = true := Z35 c6
      clear c6
      by_cases c7 : 0 ≤ x11_1
      ·rw [if_pos c7] at H
       have c7b0 : decide (0 ≤ x11_1) = true := Z35 c7
       clear c7
       by_cases c8 : x11_1 < (l0.length : Int)
       ·rw [if_pos c8] at H
        have c8b0 : decide (x11_1 < (l0.length : Int)) = true := Z35 c8
        clear c8
        by_cases c9 : 0 ≤ (rd l0 x11_1)
        ·rw [if_pos c9] at H
         have c9b0 : decide (0 ≤ (rd l0 x11_1)) = true := Z35 c9
         clear c9
         by_cases c10 : (rd l0 x11_1) < (x3_1.length : Int)
         ·rw [if_pos c10] at H
          have c10b0 : decide ((rd l0 x11_1) < (x3_1.length : Int)) = true := Z35 c10
          clear c10
          obtain ⟨y302, hy302⟩ : ∃ y_ : List Int, y_ = (x3_1.set ((rd l0 x11_1) : Int).toNat x11_1) := ⟨_, rfl⟩
          replace H : (spec_raInverse.l0 k1 y302 l0 (l0.length : Int) (wrap64 (x11_1 + 1))) = some r := by first | (rw [hy302]; with_reducible exact H) | (have H2_ := (Option.bind_some _ _).symm.trans H; rw [hy302]; with_reducible exact H2_) | (have H2_ := (Option.bind_some _ _).symm.trans H; with_reducible exact H2_) | with_reducible exact H | (rw [hy302]; exact H) | exact H
          have Ny302 := Ya hy302
          clear hy302
          have H' := Ya H
          clear H
          have p301 : 0 ≤ (x11_1 : Int) := Z27 Q1
          have q301 : x11_1 < (l0.length : Int) := Z27 Q1
          obtain ⟨ad301, e301, hx301_0⟩ := Kd.at_int HR0.out x11_1 p301 q301
          cases e301
          try replace hx301_0 := (HB.out.cell (World.block_lt_of_cell? w _ hx301_0)).trans hx301_0
          replace p301 := eq_true p301
          replace q301 := eq_true q301
          have p11 : 0 ≤ ((rd l0 x11_1) : Int) := Z27 Q1
          have q11 : ((rd l0 x11_1) : Int) < ((x3_1.length : Int) : Int) := Z27 Q1
          obtain ⟨go11, co11, eo11, gb11, gl11, cl11, HG11⟩ := Kd.R_form HO_3.out (by omega)
          (first | cases eo11 | (injection eo11 with ea_ en_ ec_; (first | subst ea_ | (injection ea_ with ea_; subst ea_)); subst ec_; clear en_))
          have GB11 := Ya gb11
          have GG11 := Ya HG11
          clear gb11 gl11 HG11
          obtain ⟨hx11_0, hf11_0⟩ := Kd.R_celln 0 HO_3.out ((rd l0 x11_1) : Int) p11 q11
          replace p11 := eq_true p11
          replace q11 := eq_true q11
          have HP12 := Kd.R_putg HO_3.out ((rd l0 x11_1) : Int) x11_1
          go_wp2_with (first | ((with_reducible refine gate_store (t := 3) (p := 19) rfl ?_); refine store_event (t := 3) (p := 19) (v := ?vo_w13) (w1 := (wr.setCell ⟨go11, ((rd l0 x11_1) : Int).toNat, none⟩ (.int .i64 x11_1))) ?hg ?ho ?hn ?hr ?_; (case ho => rfl); (case hg => rfl); (case hn => rfl); (case hr => first | (go_simp; done) | (go_simp; rfl)); intro w13 hw; have hg : wr.grownBy w13 (some go11) := (by rw [hw]; exact HP12.2); have hp_ : Kd.R (Kd.int .i64) 3 w13 w.heap.size (fun _ => True) (.slice (some ⟨go11, 0, none⟩) x3_1.length co11) y302 := (by rw [hw, Ny302.out]; exact HP12.1); clear HP12; replace HO_3 := Ya hp_; replace HB := Ya ((by rw [hw]; exact Z6 (HB.out) GB11.out : Below w.heap.size w w13)); clear hg hw hp_))
          go_roundg k1
          case measure => have := HK1.out; omega
          case rel => exact ⟨(y302), (wrap64 (x11_1 + 1)), Q7, H', ⟨Q24⟩, ⟨Q25⟩, ⟨Q12⟩⟩
         ·rw [if_neg c10] at H
          exact absurd H (by simp)
        ·rw [if_neg c9] at H
         exact absurd H (by simp)
       ·rw [if_neg c8] at H
        exact absurd H (by simp)
      ·rw [if_neg c7] at H
       exact absurd H (by simp)
     ·rw [if_neg c6] at H
      have c6b0 : decide (x11_1 < (l0.length : Int)) = false := Z34 c6
      clear c6
      obtain rfl := Option.some.inj H
      go_wp2
      go_ret
      exact ⟨_, Q2, Q25, Q12⟩
  ·rw [if_neg c3] at H
   exact absurd H (by simp)
 ·rw [if_neg c2] at H
  exact absurd H (by simp)
end Go.Proofs.Ytpfakdhfffehaaa.MFnExactSwapperRank
