import Derived.Test.YtpfakdhfffehaaaMFnExactStepFocusx0
import Derived.Test.YtpfakdhfffehaaaMFnExactStepFocusx8
namespace Go.Proofs.Ytpfakdhfffehaaa.MFnExactStepFocus
open Go.RowKit Go.Proofs.YtpfakdhfffehaaaW.PrintWords Go.Proofs.YtpfakdhfffehaaaW.PrintLast Go.Proofs.YtpfakdhfffehaaaW.PrintMore
attribute [local go_sem] max2_int min2_int max_two min_two max_three min_three max_four min_four   
set_option linter.unusedVariables false
set_option linter.unusedSimpArgs false
def impl_mixedRank.f : Nat → List Int → List Int → Option (Int)
 | 0, _, _ => none
 | k + 1, l0, l1 => if (l1.length : Int) = 0 then (some 0) else (if 1 ≤ (l0.length : Int) then ((impl_size.f k (l0.drop 1)).bind fun t264 => (if 1 ≤ (l1.length : Int) then ((impl_mixedRank.f k (l0.drop 1) (l1.drop 1)).bind fun t267 => (if 0 < (l1.length : Int) then (if (Int.tmod (rd l1 0) 2) = 1 then (some (wrap64 ((wrap64 ((rd l1 0) * t264)) + (wrap64 ((wrap64 (t264 - 1)) - t267))))) else (some (wrap64 ((wrap64 ((rd l1 0) * t264)) + t267)))) else (none))) else (none))) else (none))
theorem impl_mixedRank.mono_l : ∀ k, (∀ y0 y1, LeO (impl_mixedRank.f k y0 y1) (impl_mixedRank.f (k + 1) y0 y1))
 | 0 => fun _ _ r h => by simp [impl_mixedRank.f] at h
 | k + 1 => by
  have ih0 := impl_mixedRank.mono_l k
  ·intro y0 y1
   unfold impl_mixedRank.f
   repeat' first
   | (with_reducible exact ih0 _ _)
   | (with_reducible exact impl_size.mono _ _)
   | (with_reducible exact LeO.refl _)
   | (with_reducible exact LeO.none _)
   | (with_reducible refine LeO.ite ?_ ?_)
   | (with_reducible refine LeO.bind ?_ (fun _ => ?_))
   | exact ih0 _ _
   | exact impl_size.mono _ _
   | exact LeO.none _
   | refine LeO.ite ?_ ?_
   | refine LeO.bind ?_ (fun _ => ?_)
theorem impl_mixedRank.mono : ∀ a0 a1 k, LeO (impl_mixedRank.f k a0 a1) (impl_mixedRank.f (k + 1) a0 a1) := by
 intro a0 a1 k
 have ih0 := impl_mixedRank.mono_l k
 exact ih0 a0 a1
def impl_mixedRank.T3 : Bool × List (List Nat × List Nat) := (true, [([], []), ([0], [0]), ([1], [1]), ([], []), ([3], [3]), ([], []), ([5], [5]), ([4, 6, 2], [4, 6]), ([2, 7, 0, 1, 2], [2]), ([7, 8, 0, 1, 2, 3, 4, 5, 6, 7, 8], [7])])
def impl_mixedRank.B3 : List Nat := [0, 1, 3, 0, 8, 0, 32, 127, 255, 511]
theorem impl_mixedRank.tab3 : rtab .any (opsOf Try.f54 3) = impl_mixedRank.T3 := by kernel_rfl
theorem impl_mixedRank.bits3 : waitsOk impl_mixedRank.T3.2 impl_mixedRank.B3 = true := by kernel_rfl
set_option maxHeartbeats 8000000 in
set_option maxRecDepth 100000 in
theorem impl_mixedRank.calls (k : Nat) : ∀ (A0 : Option Addr) (c0 : Nat) (l0 : List Int) (A1 : Option Addr) (c1 : Nat) (l1 : List Int) (r : Int) (w : World) (hr0 : Kd.C (Kd.int .i64) w A0 l0.length l0) (hc0 : l0.length ≤ c0) (hr1 : Kd.C (Kd.int .i64) w A1 l1.length l1) (hc1 : l1.length ≤ c1) (h : impl_mixedRank.f k l0 l1 = some r),
  Calls Try.prog 54 #[.slice A0 l0.length c0, .slice A1 l1.length c1] w fun e w' => e = .returned (.int .i64 r) ∧ Below w.heap.size w w' := by
 induction k using Nat.strongRecOn with
 | _ k ih =>
 intro A0 c0 l0 A1 c1 l1 r w hr0 hc0 hr1 hc1 h
 cases k with
 | zero => exact absurd h (by simp [impl_mixedRank.f])
 | succ k =>
 simp only [impl_mixedRank.f] at h
 have HR0 := Ya hr0
 have HC0 := Ya hc0
 clear hr0 hc0
 have HR1 := Ya hr1
 have HC1 := Ya hc1
 clear hr1 hc1
 have HB := Ya (Below.refl w.heap.size w)
 have H : (if (l1.length : Int) = 0 then (some 0) else (if 1 ≤ (l0.length : Int) then ((impl_size.f k (l0.drop 1)).bind fun t264 => (if 1 ≤ (l1.length : Int) then ((impl_mixedRank.f k (l0.drop 1) (l1.drop 1)).bind fun t267 => (if 0 < (l1.length : Int) then (if (Int.tmod (rd l1 0) 2) = 1 then (some (wrap64 ((wrap64 ((rd l1 0) * t264)) + (wrap64 ((wrap64 (t264 - 1)) - t267))))) else (some (wrap64 ((wrap64 ((rd l1 0) * t264)) + t267)))) else (none))) else (none))) else (none))) = some r := h
 clear h
 by_cases c3 : (l1.length : Int) = 0
 ·rw [if_pos c3] at H
  have c3b0 : ((l1.length : Int) == 0) = true := beq_iff_eq.mpr c3
  have c3b1 : ((l1.length : Int) != 0) = false := bne_eq_false_iff_eq.mpr c3
  clear c3
  obtain rfl := Option.some.inj H
  go_enter Try.func54, Try.ntmps54
  go_wp2
  go_ret
  exact ⟨Q2, Q12⟩
 ·rw [if_neg c3] at H
  have c3b0 : ((l1.length : Int) == 0) = false := beq_eq_false_iff_ne.mpr c3
  have c3b1 : ((l1.length : Int) != 0) = true := bne_iff_ne.mpr c3
  have c3b2 : ¬ (l1 = []) := fun h_ => c3 (by rw [h_]; rfl)
  by_cases c4 : 1 ≤ (l0.length : Int)
  ·rw [if_pos c4] at H
   have c4b0 := eq_true c4
   have c4b1 : decide (1 ≤ (l0.length : Int)) = true := Z38 c4
   have HLEc4 := Ya c4
   clear c4
   replace H := Z36.mp H
   obtain ⟨t264, A50, H⟩ := H
   replace H : (if 1 ≤ (l1.length : Int) then ((impl_mixedRank.f k (l0.drop 1) (l1.drop 1)).bind fun t267 => (if 0 < (l1.length : Int) then (if (Int.tmod (rd l1 0) 2) = 1 then (some (wrap64 ((wrap64 ((rd l1 0) * t264)) + (wrap64 ((wrap64 (t264 - 1)) - t267))))) else (some (wrap64 ((wrap64 ((rd l1 0) * t264)) + t267)))) else (none))) else (none)) = some r := H
   have A5 := Ya A50
   clear A50
   have c6b0 := eq_true (Z30 Q1 : 1 ≤ (l0.length : Int))
   by_cases c7 : 1 ≤ (l1.length : Int)
   ·rw [if_pos c7] at H
    have c7b0 := eq_true c7
    have c7b1 : decide (1 ≤ (l1.length : Int)) = true := Z38 c7
    have HLEc7 := Ya c7
    clear c7
    replace H := Z36.mp H
    obtain ⟨t267, A80, H⟩ := H
    replace H : (if 0 < (l1.length : Int) then (if (Int.tmod (rd l1 0) 2) = 1 then (some (wrap64 ((wrap64 ((rd l1 0) * t264)) + (wrap64 ((wrap64 (t264 - 1)) - t267))))) else (some (wrap64 ((wrap64 ((rd l1 0) * t264)) + t267)))) else (none)) = some r := H
    have A8 := Ya A80
    clear A80
    by_cases c9 : 0 < (l1.length : Int)
    ·rw [if_pos c9] at H
     have c9b0 : decide (0 < (l1.length : Int)) = true := Z38 c9
     have c9b1 : decide (0 < l1.length) = true := Z38 (by omega)
     clear c9
     by_cases c10 : (Int.tmod (rd l1 0) 2) = 1
     ·rw [if_pos c10] at H
      have c10b0 : ((Int.tmod (rd l1 0) 2) == 1) = true := beq_iff_eq.mpr c10
      have c10b1 : ((Int.tmod (rd l1 0) 2) != 1) = false := bne_eq_false_iff_eq.mpr c10
      clear c10
      obtain rfl := Option.some.inj H
      go_enter Try.func54, Try.ntmps54
      try go_wp2
      replace HB := Ya (Z4 HB.out)
      obtain ⟨i012, hi012, _, hsz12, _⟩ := info_parts info3
      obtain ⟨A12, hcut12, hA12, hC12⟩ := print_drop_of (P := Try.prog) (Value.int .i64) 0 22 3 .i64 Try.underlying22 hi012 hsz12 A0 c0 l0 1 (by omega) (Z30 Q1) HC0.out
      have HR263 := Ya (Kd.C_of_reads (h1 := fun _ => rfl) (hA12 _ (Kd.reads_of_C HR0.out)))
      have HC263 := Ya hC12
      clear hA12 hC12 hi012 hsz12
      have HR265 := HR263
      have HC265 := HC263
      obtain ⟨i014, hi014, _, hsz14, _⟩ := info_parts info3
      obtain ⟨A14, hcut14, hA14, hC14⟩ := print_drop_of (P := Try.prog) (Value.int .i64) 0 22 3 .i64 Try.underlying22 hi014 hsz14 A1 c1 l1 1 (by omega) (Z30 Q1) HC1.out
      have HR266 := Ya (Kd.C_of_reads (h1 := fun _ => rfl) (hA14 _ (Kd.reads_of_C HR1.out)))
      have HC266 := Ya hC14
      clear hA14 hC14 hi014 hsz14
      refine start_ (n := 10) (S := fun w' => True) (ds := []) (YA 10 0) (by kernel_rfl) rfl rfl trivial (fun hHeld => ?_); refine with_tabW impl_mixedRank.tab3 impl_mixedRank.bits3 (fun HT_ HW_ => ?_)
      generalize w.drew = w11 at HB HR263 HR265 HR266 hHeld ⊢
      refine Yp 0 (some 10) (YA 10 1) rfl HT_.out ?_
      refine Yp 1 (some 11) (YA 10 3) rfl HT_.out ?_
      refine Yp 3 (some 13) (YA 10 11) rfl HT_.out ?_
      refine Yp 4 (some 14) (YA 10 27) rfl HT_.out ?_
      refine Yp 5 (some 15) (YA 10 59) rfl HT_.out ?_
      refine Yp 6 (some 16) (YA 10 123) rfl HT_.out ?_
      refine one_ (i := 2) (N := some 12) (YA 10 127) rfl rfl (one_of HT_.out (by kernel_rfl)) (by decide) (fun K hK => ?_)
      refine goes_ Try.func73 (by kernel_rfl) rfl #[.slice A12 (l0.drop 1).length (c0 - 1)] (by rfl) rfl rfl Q81 ?_
      with_reducible refine (impl_size.calls k _ _ (l0.drop 1) t264 _ ?side1 ?side2 A5.out).mono ?_
      (case side1 => exact Yc (Z22 HR263.out HB.out))
      (case side2 => exact HC263.out)
      rintro e w15 ⟨rfl, hb⟩
      refine ⟨_, rfl, ?_⟩
      replace HB := Yh hb
      (try clear hb)
      refine hK.out _ _ trivial (fun hHeld => ?_)
      clear hK K
      refine norm_ (a' := ?_) ?_ ?_
      rotate_left
      ·show Act.put _ (some 12) _ = _
       simp only [Act.put, Z0, Z1, Z2, i64_w, i32_w]
       rfl
      refine one_ (i := 7) (N := some 17) (YA 10 255) rfl rfl (one_of HT_.out (by kernel_rfl)) (by decide) (fun K hK => ?_)
      refine goes_ Try.func54 (by kernel_rfl) rfl #[.slice A12 (l0.drop 1).length (c0 - 1), .slice A14 (l1.drop 1).length (c1 - 1)] (by rfl) rfl rfl Q36 ?_
      with_reducible refine (ih k (by omega) _ _ (l0.drop 1) _ _ (l1.drop 1) t267 _ ?side1 ?side2 ?side3 ?side4 A8.out).mono ?_
      (case side1 => exact Yc (Z22 HR265.out HB.out))
      (case side2 => exact HC265.out)
      (case side3 => exact Yc (Z22 HR266.out HB.out))
      (case side4 => exact HC266.out)
      rintro e w16 ⟨rfl, hb⟩
      refine ⟨_, rfl, ?_⟩
      replace HB := Yh hb
      (try clear hb)
      refine hK.out _ _ trivial (fun hHeld => ?_)
      clear hK K
      refine norm_ (a' := ?_) ?_ ?_
      rotate_left
      ·show Act.put _ (some 17) _ = _
       simp only [Act.put, Z0, Z1, Z2, i64_w, i32_w]
       rfl
      refine Yp 8 (some 5) (YA 10 511) rfl HT_.out ?_
      refine Yp 9 (some 6) (YA 10 1023) rfl HT_.out ?_
      refine done_ (done_of HT_.out (by kernel_rfl)) ?_
      have p268 : 0 ≤ (0 : Int) := (by omega)
      have q268 : 0 < (l1.length : Int) := Z30 Q1
      obtain ⟨ad268, e268, hx268_0⟩ := Kd.at_int HR1.out 0 p268 q268
      cases e268
      have qi268 : (0 < l1.length) = True := eq_true (by omega)
      (try rw [show ((0 : Int)).toNat = 0 from rfl] at hx268_0)
      (try rw [Addr.add_zero'] at hx268_0)
      try replace hx268_0 := (HB.out.cell (World.block_lt_of_cell? w _ hx268_0)).trans hx268_0
      replace p268 := eq_true p268
      replace q268 := eq_true q268
      have p269 : 0 ≤ (0 : Int) := (by omega)
      have q269 : 0 < (l1.length : Int) := Z30 Q1
      obtain ⟨ad269, e269, hx269_0⟩ := Kd.at_int HR1.out 0 p269 q269
      obtain rfl : ad268 = ad269 := (by injection e269)
      have qi269 : (0 < l1.length) = True := eq_true (by omega)
      (try rw [show ((0 : Int)).toNat = 0 from rfl] at hx269_0)
      (try rw [Addr.add_zero'] at hx269_0)
      try replace hx269_0 := (HB.out.cell (World.block_lt_of_cell? w _ hx269_0)).trans hx269_0
      replace p269 := eq_true p269
      replace q269 := eq_true q269
      try go_wp2
      go_ret
      exact ⟨Q2, Q12⟩
     ·rw [if_neg c10] at H
      have c10b0 : ((Int.tmod (rd l1 0) 2) == 1) = false := beq_eq_false_iff_ne.mpr c10
      have c10b1 : ((Int.tmod (rd l1 0) 2) != 1) = true := bne_iff_ne.mpr c10
      obtain rfl := Option.some.inj H
      go_enter Try.func54, Try.ntmps54
      try go_wp2
      replace HB := Ya (Z4 HB.out)
      obtain ⟨i018, hi018, _, hsz18, _⟩ := info_parts info3
      obtain ⟨A18, hcut18, hA18, hC18⟩ := print_drop_of (P := Try.prog) (Value.int .i64) 0 22 3 .i64 Try.underlying22 hi018 hsz18 A0 c0 l0 1 (by omega) (Z30 Q1) HC0.out
      have HR263 := Ya (Kd.C_of_reads (h1 := fun _ => rfl) (hA18 _ (Kd.reads_of_C HR0.out)))
      have HC263 := Ya hC18
      clear hA18 hC18 hi018 hsz18
      have HR265 := HR263
      have HC265 := HC263
      obtain ⟨i020, hi020, _, hsz20, _⟩ := info_parts info3
      obtain ⟨A20, hcut20, hA20, hC20⟩ := print_drop_of (P := Try.prog) (Value.int .i64) 0 22 3 .i64 Try.underlying22 hi020 hsz20 A1 c1 l1 1 (by omega) (Z30 Q1) HC1.out
      have HR266 := Ya (Kd.C_of_reads (h1 := fun _ => rfl) (hA20 _ (Kd.reads_of_C HR1.out)))
      have HC266 := Ya hC20
      clear hA20 hC20 hi020 hsz20
      refine start_ (n := 10) (S := fun w' => True) (ds := []) (YA 10 0) (by kernel_rfl) rfl rfl trivial (fun hHeld => ?_); refine with_tabW impl_mixedRank.tab3 impl_mixedRank.bits3 (fun HT_ HW_ => ?_)
      generalize w.drew = w17 at HB HR263 HR265 HR266 hHeld ⊢
      refine Yp 0 (some 10) (YA 10 1) rfl HT_.out ?_
      refine Yp 1 (some 11) (YA 10 3) rfl HT_.out ?_
      refine Yp 3 (some 13) (YA 10 11) rfl HT_.out ?_
      refine Yp 4 (some 14) (YA 10 27) rfl HT_.out ?_
      refine Yp 5 (some 15) (YA 10 59) rfl HT_.out ?_
      refine Yp 6 (some 16) (YA 10 123) rfl HT_.out ?_
      refine one_ (i := 2) (N := some 12) (YA 10 127) rfl rfl (one_of HT_.out (by kernel_rfl)) (by decide) (fun K hK => ?_)
      refine goes_ Try.func73 (by kernel_rfl) rfl #[.slice A18 (l0.drop 1).length (c0 - 1)] (by rfl) rfl rfl Q81 ?_
      with_reducible refine (impl_size.calls k _ _ (l0.drop 1) t264 _ ?side1 ?side2 A5.out).mono ?_
      (case side1 => exact Yc (Z22 HR263.out HB.out))
      (case side2 => exact HC263.out)
      rintro e w21 ⟨rfl, hb⟩
      refine ⟨_, rfl, ?_⟩
      replace HB := Yh hb
      (try clear hb)
      refine hK.out _ _ trivial (fun hHeld => ?_)
      clear hK K
      refine norm_ (a' := ?_) ?_ ?_
      rotate_left
      ·show Act.put _ (some 12) _ = _
       simp only [Act.put, Z0, Z1, Z2, i64_w, i32_w]
       rfl
      refine one_ (i := 7) (N := some 17) (YA 10 255) rfl rfl (one_of HT_.out (by kernel_rfl)) (by decide) (fun K hK => ?_)
      refine goes_ Try.func54 (by kernel_rfl) rfl #[.slice A18 (l0.drop 1).length (c0 - 1), .slice A20 (l1.drop 1).length (c1 - 1)] (by rfl) rfl rfl Q36 ?_
      with_reducible refine (ih k (by omega) _ _ (l0.drop 1) _ _ (l1.drop 1) t267 _ ?side1 ?side2 ?side3 ?side4 A8.out).mono ?_
      (case side1 => exact Yc (Z22 HR265.out HB.out))
      (case side2 => exact HC265.out)
      (case side3 => exact Yc (Z22 HR266.out HB.out))
      (case side4 => exact HC266.out)
      rintro e w22 ⟨rfl, hb⟩
      refine ⟨_, rfl, ?_⟩
      replace HB := Yh hb
      (try clear hb)
      refine hK.out _ _ trivial (fun hHeld => ?_)
      clear hK K
      refine norm_ (a' := ?_) ?_ ?_
      rotate_left
      ·show Act.put _ (some 17) _ = _
       simp only [Act.put, Z0, Z1, Z2, i64_w, i32_w]
       rfl
      refine Yp 8 (some 5) (YA 10 511) rfl HT_.out ?_
      refine Yp 9 (some 6) (YA 10 1023) rfl HT_.out ?_
      refine done_ (done_of HT_.out (by kernel_rfl)) ?_
      have p268 : 0 ≤ (0 : Int) := (by omega)
      have q268 : 0 < (l1.length : Int) := Z30 Q1
      obtain ⟨ad268, e268, hx268_0⟩ := Kd.at_int HR1.out 0 p268 q268
      cases e268
      have qi268 : (0 < l1.length) = True := eq_true (by omega)
      (try rw [show ((0 : Int)).toNat = 0 from rfl] at hx268_0)
      (try rw [Addr.add_zero'] at hx268_0)
      try replace hx268_0 := (HB.out.cell (World.block_lt_of_cell? w _ hx268_0)).trans hx268_0
      replace p268 := eq_true p268
      replace q268 := eq_true q268
      have p270 : 0 ≤ (0 : Int) := (by omega)
      have q270 : 0 < (l1.length : Int) := Z30 Q1
      obtain ⟨ad270, e270, hx270_0⟩ := Kd.at_int HR1.out 0 p270 q270
      obtain rfl : ad268 = ad270 := (by injection e270)
      have qi270 : (0 < l1.length) = True := eq_true (by omega)
      (try rw [show ((0 : Int)).toNat = 0 from rfl] at hx270_0)
      (try rw [Addr.add_zero'] at hx270_0)
      try replace hx270_0 := (HB.out.cell (World.block_lt_of_cell? w _ hx270_0)).trans hx270_0
      replace p270 := eq_true p270
      replace q270 := eq_true q270
      try go_wp2
      go_ret
      exact ⟨Q2, Q12⟩
    ·rw [if_neg c9] at H
     exact absurd H (by simp)
   ·rw [if_neg c7] at H
    exact absurd H (by simp)
  ·rw [if_neg c4] at H
   exact absurd H (by simp)
def impl_within.f (a0 : Int) (a1 : Int) (a2 : Int) : Option (Bool) := if a0 ≥ a1 then (some (decide (a0 ≤ a2))) else (some false)
set_option maxHeartbeats 8000000 in
set_option maxRecDepth 100000 in
theorem impl_within.calls (a0 : Int) (a1 : Int) (a2 : Int) (r : Bool) (w : World) (h : impl_within.f a0 a1 a2 = some r) :
  Calls Try.prog 48 #[.int .i64 a0, .int .i64 a1, .int .i64 a2] w fun e w' => e = .returned (.bool r) ∧ Drawn0 w w' := by
 have H : (if a0 ≥ a1 then (some (decide (a0 ≤ a2))) else (some false)) = some r := h
 clear h
 by_cases c4 : a0 ≥ a1
 ·rw [if_pos c4] at H
  have c4b0 : decide (a1 ≤ a0) = true := Z38 c4
  clear c4
  obtain rfl := Option.some.inj H
  go_enter Try.func48, Try.ntmps48
  go_wp2
  go_ret
  exact ⟨Q13, Q5⟩
 ·rw [if_neg c4] at H
  have c4b0 : decide (a1 ≤ a0) = false := Z37 c4
  clear c4
  obtain rfl := Option.some.inj H
  go_enter Try.func48, Try.ntmps48
  go_wp2
  go_ret
  exact ⟨Q13, Q5⟩
def impl_allWithin.l0 : Nat → Int → Int → List Int → Int → Int → Option (Bool)
 | 0, _, _, _, _, _ => none
 | k + 1, x1, x2, x9, x10, x11 => if x11 < x10 then (if 0 ≤ x11 then (if x11 < (x9.length : Int) then ((impl_within.f (rd x9 x11) x1 x2).bind fun t272 => (if t272 = true then (impl_allWithin.l0 k x1 x2 x9 x10 (wrap64 (x11 + 1))) else (some false))) else (none)) else (none)) else (some true)
def impl_allWithin.f (k : Nat) (l0 : List Int) (a1 : Int) (a2 : Int) : Option (Bool) := impl_allWithin.l0 k a1 a2 l0 (l0.length : Int) 0
theorem impl_allWithin.mono_l : ∀ k, (∀ y0 y1 y2 y3 y4, LeO (impl_allWithin.l0 k y0 y1 y2 y3 y4) (impl_allWithin.l0 (k + 1) y0 y1 y2 y3 y4))
 | 0 => fun _ _ _ _ _ r h => by simp [impl_allWithin.l0] at h
 | k + 1 => by
  have ih0 := impl_allWithin.mono_l k
  ·intro y0 y1 y2 y3 y4
   unfold impl_allWithin.l0
   repeat' first
   | (with_reducible exact ih0 _ _ _ _ _)
   | (with_reducible exact LeO.refl _)
   | (with_reducible exact LeO.none _)
   | (with_reducible refine LeO.ite ?_ ?_)
   | (with_reducible refine LeO.bind ?_ (fun _ => ?_))
   | exact ih0 _ _ _ _ _
   | exact LeO.none _
   | refine LeO.ite ?_ ?_
   | refine LeO.bind ?_ (fun _ => ?_)
theorem impl_allWithin.mono : ∀ a0 a1 a2 k, LeO (impl_allWithin.f k a0 a1 a2) (impl_allWithin.f (k + 1) a0 a1 a2) := by
 intro a0 a1 a2 k
 have ih0 := impl_allWithin.mono_l k
 unfold impl_allWithin.f
 repeat' first
   | (with_reducible exact ih0 _ _ _ _ _)
   | (with_reducible exact LeO.refl _)
   | (with_reducible exact LeO.none _)
   | (with_reducible refine LeO.ite ?_ ?_)
   | (with_reducible refine LeO.bind ?_ (fun _ => ?_))
   | exact ih0 _ _ _ _ _
   | exact LeO.none _
   | refine LeO.ite ?_ ?_
   | refine LeO.bind ?_ (fun _ => ?_)
set_option maxHeartbeats 8000000 in
set_option maxRecDepth 100000 in
theorem impl_allWithin.calls (k : Nat) (A0 : Option Addr) (c0 : Nat) (l0 : List Int) (a1 : Int) (a2 : Int) (r : Bool) (w : World) (hr0 : Kd.C (Kd.int .i64) w A0 l0.length l0) (hc0 : l0.length ≤ c0) (h : impl_allWithin.f k l0 a1 a2 = some r) :
  Calls Try.prog 85 #[.slice A0 l0.length c0, .int .i64 a1, .int .i64 a2] w fun e w' => e = .returned (.bool r) ∧ Drawn0 w w' := by
 have HR0 := Ya hr0
 have HC0 := Ya hc0
 clear hr0 hc0
 have H : (impl_allWithin.l0 k a1 a2 l0 (l0.length : Int) 0) = some r := h
 clear h
 have H' := Ya H
 clear H
 go_enter Try.func85, Try.ntmps85
 go_wp2
 go_loopg [11] k (fun kq v11 w' => ∃ (x11_1 : Int), v11 = .int .i64 x11_1 ∧ Aside0 (impl_allWithin.l0 kq a1 a2 l0 (l0.length : Int) x11_1 = some r) ∧ Aside0 (kq ≤ k) ∧ Drawn0 w w')
 case atStart => exact ⟨(0), Q7, H', ⟨Nat.le_refl _⟩, Q5⟩
 case round =>
  clear H'
  try clear p2
  obtain ⟨x11_1, rfl, HA, HK1, ⟨m1, rfl⟩⟩ := hrel
  cases gk with
  | zero => exact absurd HA.out (by simp [impl_allWithin.l0])
  | succ k1 =>
   have H := HA.out
   clear HA
   simp only [impl_allWithin.l0] at H
   by_cases c4 : x11_1 < (l0.length : Int)
   ·rw [if_pos c4] at H
    have c4b0 : decide (x11_1 < (l0.length : Int)) = true := Z38 c4
    clear c4
    by_cases c5 : 0 ≤ x11_1
    ·rw [if_pos c5] at H
     have c5b0 : decide (0 ≤ x11_1) = true := Z38 c5
     clear c5
     by_cases c6 : x11_1 < (l0.length : Int)
     ·rw [if_pos c6] at H
      have c6b0 : decide (x11_1 < (l0.length : Int)) = true := Z38 c6
      clear c6
      replace H := Z36.mp H
      obtain ⟨t272, A70, H⟩ := H
      replace H : (if t272 = true then (impl_allWithin.l0 k1 a1 a2 l0 (l0.length : Int) (wrap64 (x11_1 + 1))) else (some false)) = some r := H
      have A7 := Ya A70
      clear A70
      by_cases c8 : t272 = true
      ·subst c8
       have H1 : (impl_allWithin.l0 k1 a1 a2 l0 (l0.length : Int) (wrap64 (x11_1 + 1))) = some r := by rw [if_pos rfl] at H; exact H
       clear H
       have H := H1
       clear H1
       have H' := Ya H
       clear H
       have p271 : 0 ≤ (x11_1 : Int) := Z30 Q1
       have q271 : x11_1 < (l0.length : Int) := Z30 Q1
       obtain ⟨ad271, e271, hx271_0⟩ := Kd.at_int HR0.out x11_1 p271 q271
       cases e271
       replace p271 := eq_true p271
       replace q271 := eq_true q271
       go_wp2_with (first | ((with_reducible refine gate_callee (f := 48) rfl ?_); refine Yz 18 Try.func48 #[.int .i64 (rd l0 x11_1), .int .i64 a1, .int .i64 a2] ?_; (with_reducible refine (impl_within.calls (rd l0 x11_1) a1 a2 true _ A7.out).mono ?_); rintro e w' ⟨rfl, ⟨nd, rfl⟩⟩; refine ⟨_, rfl, ?_⟩))
       go_roundg k1
       case measure => have := HK1.out; omega
       case rel => exact ⟨(wrap64 (x11_1 + 1)), Q7, H', ⟨Q80⟩, Q5⟩
      ·replace c8 := Bool.eq_false_iff.mpr c8
       subst c8
       have H1 : (some false) = some r := by rw [if_neg (show ¬ (false = true) by decide)] at H; exact H
       clear H
       have H := H1
       clear H1
       obtain rfl := Option.some.inj H
       have p271 : 0 ≤ (x11_1 : Int) := Z30 Q1
       have q271 : x11_1 < (l0.length : Int) := Z30 Q1
       obtain ⟨ad271, e271, hx271_0⟩ := Kd.at_int HR0.out x11_1 p271 q271
       cases e271
       replace p271 := eq_true p271
       replace q271 := eq_true q271
       go_wp2_with (first | ((with_reducible refine gate_callee (f := 48) rfl ?_); refine Yz 18 Try.func48 #[.int .i64 (rd l0 x11_1), .int .i64 a1, .int .i64 a2] ?_; (with_reducible refine (impl_within.calls (rd l0 x11_1) a1 a2 false _ A7.out).mono ?_); rintro e w' ⟨rfl, ⟨nd, rfl⟩⟩; refine ⟨_, rfl, ?_⟩))
       go_ret
       exact ⟨Q13, Q5⟩
     ·rw [if_neg c6] at H
      exact absurd H (by simp)
    ·rw [if_neg c5] at H
     exact absurd H (by simp)
   ·rw [if_neg c4] at H
    have c4b0 : decide (x11_1 < (l0.length : Int)) = false := Z37 c4
    clear c4
    obtain rfl := Option.some.inj H
    go_wp2
    go_ret
    exact ⟨Q13, Q5⟩
def impl_areBases.f (k : Nat) (l0 : List Int) : Option (Bool) := if (l0.length : Int) ≤ 12 then ((impl_allWithin.f k l0 2 12).bind fun t273 => (if t273 = true then ((impl_size.f k l0).bind fun t274 => (some (decide (t274 ≤ 1000000)))) else (some false))) else (some false)
theorem impl_areBases.mono : ∀ a0 k, LeO (impl_areBases.f k a0) (impl_areBases.f (k + 1) a0) := by
 intro a0 k
 unfold impl_areBases.f
 repeat' first
   | (with_reducible exact impl_allWithin.mono _ _ _ _)
   | (with_reducible exact impl_size.mono _ _)
   | (with_reducible exact LeO.refl _)
   | (with_reducible exact LeO.none _)
   | (with_reducible refine LeO.ite ?_ ?_)
   | (with_reducible refine LeO.bind ?_ (fun _ => ?_))
   | exact impl_allWithin.mono _ _ _ _
   | exact impl_size.mono _ _
   | exact LeO.none _
   | refine LeO.ite ?_ ?_
   | refine LeO.bind ?_ (fun _ => ?_)
set_option maxHeartbeats 8000000 in
set_option maxRecDepth 100000 in
theorem impl_areBases.calls (k : Nat) (A0 : Option Addr) (c0 : Nat) (l0 : List Int) (r : Bool) (w : World) (hr0 : Kd.C (Kd.int .i64) w A0 l0.length l0) (hc0 : l0.length ≤ c0) (h : impl_areBases.f k l0 = some r) :
  Calls Try.prog 80 #[.slice A0 l0.length c0] w fun e w' => e = .returned (.bool r) ∧ Below w.heap.size w w' := by
 have HR0 := Ya hr0
 have HC0 := Ya hc0
 clear hr0 hc0
 have HB := Ya (Below.refl w.heap.size w)
 have H : (if (l0.length : Int) ≤ 12 then ((impl_allWithin.f k l0 2 12).bind fun t273 => (if t273 = true then ((impl_size.f k l0).bind fun t274 => (some (decide (t274 ≤ 1000000)))) else (some false))) else (some false)) = some r := h
 clear h
 by_cases c2 : (l0.length : Int) ≤ 12
 ·rw [if_pos c2] at H
  have c2b0 : decide ((l0.length : Int) ≤ 12) = true := Z38 c2
  have c2b1 : decide (l0.length ≤ 12) = true := Z38 (by omega)
  clear c2
  replace H := Z36.mp H
  obtain ⟨t273, A30, H⟩ := H
  replace H : (if t273 = true then ((impl_size.f k l0).bind fun t274 => (some (decide (t274 ≤ 1000000)))) else (some false)) = some r := H
  have A3 := Ya A30
  clear A30
  by_cases c4 : t273 = true
  ·subst c4
   have H1 : ((impl_size.f k l0).bind fun t274 => (some (decide (t274 ≤ 1000000)))) = some r := by rw [if_pos rfl] at H; exact H
   clear H
   have H := H1
   clear H1
   replace H := Z36.mp H
   obtain ⟨t274, A50, H⟩ := H
   replace H : (some (decide (t274 ≤ 1000000))) = some r := H
   have A5 := Ya A50
   clear A50
   obtain rfl := Option.some.inj H
   go_enter Try.func80, Try.ntmps80
   go_wp2_with (first | (go_at_call 85; (with_reducible refine (impl_allWithin.calls k _ _ l0 2 12 true _ (Yc HR0.out) HC0.out A3.out).mono ?_); rintro e w' ⟨rfl, ⟨nd, rfl⟩⟩) | (go_at_call 73; (with_reducible refine (impl_size.calls k _ _ l0 t274 _ (Yc HR0.out) HC0.out A5.out).mono ?_); rintro e w6 ⟨rfl, hb⟩; replace HB := Yh hb; (try clear hb)))
   go_ret
   exact ⟨Q2, Q12⟩
  ·replace c4 := Bool.eq_false_iff.mpr c4
   subst c4
   have H1 : (some false) = some r := by rw [if_neg (show ¬ (false = true) by decide)] at H; exact H
   clear H
   have H := H1
   clear H1
   obtain rfl := Option.some.inj H
   go_enter Try.func80, Try.ntmps80
   go_wp2_with (first | (go_at_call 85; (with_reducible refine (impl_allWithin.calls k _ _ l0 2 12 false _ (Yc HR0.out) HC0.out A3.out).mono ?_); rintro e w' ⟨rfl, ⟨nd, rfl⟩⟩))
   go_ret
   exact ⟨Q2, Q12⟩
 ·rw [if_neg c2] at H
  have c2b0 : decide ((l0.length : Int) ≤ 12) = false := Z37 c2
  have c2b1 : decide (l0.length ≤ 12) = false := Z37 (by omega)
  clear c2
  obtain rfl := Option.some.inj H
  go_enter Try.func80, Try.ntmps80
  go_wp2
  go_ret
  exact ⟨Q2, Q12⟩
def impl_areFocusBases.f (k : Nat) (l0 : List Int) : Option (Bool) := (impl_areBases.f k l0).bind fun t275 => (if t275 = true then ((impl_size.f k l0).bind fun t276 => (some (decide (t276 ≤ 5040)))) else (some false))
theorem impl_areFocusBases.mono : ∀ a0 k, LeO (impl_areFocusBases.f k a0) (impl_areFocusBases.f (k + 1) a0) := by
 intro a0 k
 unfold impl_areFocusBases.f
 repeat' first
   | (with_reducible exact impl_areBases.mono _ _)
   | (with_reducible exact impl_size.mono _ _)
   | (with_reducible exact LeO.refl _)
   | (with_reducible exact LeO.none _)
   | (with_reducible refine LeO.ite ?_ ?_)
   | (with_reducible refine LeO.bind ?_ (fun _ => ?_))
   | exact impl_areBases.mono _ _
   | exact impl_size.mono _ _
   | exact LeO.none _
   | refine LeO.ite ?_ ?_
   | refine LeO.bind ?_ (fun _ => ?_)
set_option maxHeartbeats 8000000 in
set_option maxRecDepth 100000 in
theorem impl_areFocusBases.calls (k : Nat) (A0 : Option Addr) (c0 : Nat) (l0 : List Int) (r : Bool) (w : World) (hr0 : Kd.C (Kd.int .i64) w A0 l0.length l0) (hc0 : l0.length ≤ c0) (h : impl_areFocusBases.f k l0 = some r) :
  Calls Try.prog 64 #[.slice A0 l0.length c0] w fun e w' => e = .returned (.bool r) ∧ Below w.heap.size w w' := by
 have HR0 := Ya hr0
 have HC0 := Ya hc0
 clear hr0 hc0
 have HB := Ya (Below.refl w.heap.size w)
 have H : ((impl_areBases.f k l0).bind fun t275 => (if t275 = true then ((impl_size.f k l0).bind fun t276 => (some (decide (t276 ≤ 5040)))) else (some false))) = some r := h
 clear h
 replace H := Z36.mp H
 obtain ⟨t275, A20, H⟩ := H
 replace H : (if t275 = true then ((impl_size.f k l0).bind fun t276 => (some (decide (t276 ≤ 5040)))) else (some false)) = some r := H
 have A2 := Ya A20
 clear A20
 by_cases c3 : t275 = true
 ·subst c3
  have H1 : ((impl_size.f k l0).bind fun t276 => (some (decide (t276 ≤ 5040)))) = some r := by rw [if_pos rfl] at H; exact H
  clear H
  have H := H1
  clear H1
  replace H := Z36.mp H
  obtain ⟨t276, A40, H⟩ := H
  replace H : (some (decide (t276 ≤ 5040))) = some r := H
  have A4 := Ya A40
  clear A40
  obtain rfl := Option.some.inj H
  go_enter Try.func64, Try.ntmps64
  go_wp2_with (first | ((with_reducible refine gate_callee (f := 80) rfl ?_); refine Yz 4 Try.func80 #[.slice A0 l0.length c0] ?_; (with_reducible refine (impl_areBases.calls k _ _ l0 true _ (Yc HR0.out) HC0.out A2.out).mono ?_); rintro e w5 ⟨rfl, hb⟩; refine ⟨_, rfl, ?_⟩; replace HB := Yh hb; (try clear hb)) | (go_at_call 73; (with_reducible refine (impl_size.calls k _ _ l0 t276 _ (Yc (Z22 HR0.out HB.out)) HC0.out A4.out).mono ?_); rintro e w6 ⟨rfl, hb⟩; replace HB := Yh hb; (try clear hb)))
  go_ret
  exact ⟨Q2, Q12⟩
 ·replace c3 := Bool.eq_false_iff.mpr c3
  subst c3
  have H1 : (some false) = some r := by rw [if_neg (show ¬ (false = true) by decide)] at H; exact H
  clear H
  have H := H1
  clear H1
  obtain rfl := Option.some.inj H
  go_enter Try.func64, Try.ntmps64
  go_wp2_with (first | ((with_reducible refine gate_callee (f := 80) rfl ?_); refine Yz 4 Try.func80 #[.slice A0 l0.length c0] ?_; (with_reducible refine (impl_areBases.calls k _ _ l0 false _ (Yc HR0.out) HC0.out A2.out).mono ?_); rintro e w7 ⟨rfl, hb⟩; refine ⟨_, rfl, ?_⟩; replace HB := Yh hb; (try clear hb)))
  go_ret
  exact ⟨Q2, Q12⟩
def impl_areDigits.l0 : Nat → List Int → List Int → List Int → Int → Int → Option (Bool)
 | 0, _, _, _, _, _ => none
 | k + 1, x0, x1, x7, x8, x9 => if x9 < x8 then (if 0 ≤ x9 then (if x9 < (x7.length : Int) then (if x9 ≥ (x0.length : Int) then (some false) else (if x9 < (x0.length : Int) then ((impl_within.f (rd x7 x9) 0 (wrap64 ((rd x0 x9) - 1))).bind fun t279 => (if t279 = true then (impl_areDigits.l0 k x0 x1 x7 x8 (wrap64 (x9 + 1))) else (some false))) else (none))) else (none)) else (none)) else (some ((x1.length : Int) == (x0.length : Int)))
def impl_areDigits.f (k : Nat) (l0 : List Int) (l1 : List Int) : Option (Bool) := impl_areDigits.l0 k l0 l1 l1 (l1.length : Int) 0
theorem impl_areDigits.mono_l : ∀ k, (∀ y0 y1 y2 y3 y4, LeO (impl_areDigits.l0 k y0 y1 y2 y3 y4) (impl_areDigits.l0 (k + 1) y0 y1 y2 y3 y4))
 | 0 => fun _ _ _ _ _ r h => by simp [impl_areDigits.l0] at h
 | k + 1 => by
  have ih0 := impl_areDigits.mono_l k
  ·intro y0 y1 y2 y3 y4
   unfold impl_areDigits.l0
   repeat' first
   | (with_reducible exact ih0 _ _ _ _ _)
   | (with_reducible exact LeO.refl _)
   | (with_reducible exact LeO.none _)
   | (with_reducible refine LeO.ite ?_ ?_)
   | (with_reducible refine LeO.bind ?_ (fun _ => ?_))
   | exact ih0 _ _ _ _ _
   | exact LeO.none _
   | refine LeO.ite ?_ ?_
   | refine LeO.bind ?_ (fun _ => ?_)
theorem impl_areDigits.mono : ∀ a0 a1 k, LeO (impl_areDigits.f k a0 a1) (impl_areDigits.f (k + 1) a0 a1) := by
 intro a0 a1 k
 have ih0 := impl_areDigits.mono_l k
 unfold impl_areDigits.f
 repeat' first
   | (with_reducible exact ih0 _ _ _ _ _)
   | (with_reducible exact LeO.refl _)
   | (with_reducible exact LeO.none _)
   | (with_reducible refine LeO.ite ?_ ?_)
   | (with_reducible refine LeO.bind ?_ (fun _ => ?_))
   | exact ih0 _ _ _ _ _
   | exact LeO.none _
   | refine LeO.ite ?_ ?_
   | refine LeO.bind ?_ (fun _ => ?_)
set_option maxHeartbeats 8000000 in
set_option maxRecDepth 100000 in
theorem impl_areDigits.calls (k : Nat) (A0 : Option Addr) (c0 : Nat) (l0 : List Int) (A1 : Option Addr) (c1 : Nat) (l1 : List Int) (r : Bool) (w : World) (hr0 : Kd.C (Kd.int .i64) w A0 l0.length l0) (hc0 : l0.length ≤ c0) (hr1 : Kd.C (Kd.int .i64) w A1 l1.length l1) (hc1 : l1.length ≤ c1) (h : impl_areDigits.f k l0 l1 = some r) :
  Calls Try.prog 65 #[.slice A0 l0.length c0, .slice A1 l1.length c1] w fun e w' => e = .returned (.bool r) ∧ Drawn0 w w' := by
 have HR0 := Ya hr0
 have HC0 := Ya hc0
 clear hr0 hc0
 have HR1 := Ya hr1
 have HC1 := Ya hc1
 clear hr1 hc1
 have H : (impl_areDigits.l0 k l0 l1 l1 (l1.length : Int) 0) = some r := h
 clear h
 have H' := Ya H
 clear H
 go_enter Try.func65, Try.ntmps65
 go_wp2
 go_loopg [9] k (fun kq v9 w' => ∃ (x9_1 : Int), v9 = .int .i64 x9_1 ∧ Aside0 (impl_areDigits.l0 kq l0 l1 l1 (l1.length : Int) x9_1 = some r) ∧ Aside0 (kq ≤ k) ∧ Drawn0 w w')
 case atStart => exact ⟨(0), Q7, H', ⟨Nat.le_refl _⟩, Q5⟩
 case round =>
  clear H'
  try clear c1
  try clear p2
  obtain ⟨x9_1, rfl, HA, HK1, ⟨m1, rfl⟩⟩ := hrel
  cases gk with
  | zero => exact absurd HA.out (by simp [impl_areDigits.l0])
  | succ k1 =>
   have H := HA.out
   clear HA
   simp only [impl_areDigits.l0] at H
   by_cases c3 : x9_1 < (l1.length : Int)
   ·rw [if_pos c3] at H
    have c3b0 : decide (x9_1 < (l1.length : Int)) = true := Z38 c3
    clear c3
    by_cases c4 : 0 ≤ x9_1
    ·rw [if_pos c4] at H
     have c4b0 : decide (0 ≤ x9_1) = true := Z38 c4
     clear c4
     by_cases c5 : x9_1 < (l1.length : Int)
     ·rw [if_pos c5] at H
      have c5b0 : decide (x9_1 < (l1.length : Int)) = true := Z38 c5
      clear c5
      by_cases c6 : x9_1 ≥ (l0.length : Int)
      ·rw [if_pos c6] at H
       have c6b0 : decide ((l0.length : Int) ≤ x9_1) = true := Z38 c6
       clear c6
       obtain rfl := Option.some.inj H
       have p277 : 0 ≤ (x9_1 : Int) := Z30 Q1
       have q277 : x9_1 < (l1.length : Int) := Z30 Q1
       obtain ⟨ad277, e277, hx277_0⟩ := Kd.at_int HR1.out x9_1 p277 q277
       cases e277
       replace p277 := eq_true p277
       replace q277 := eq_true q277
       go_wp2
       go_ret
       exact ⟨Q13, Q5⟩
      ·rw [if_neg c6] at H
       have c6b0 : decide ((l0.length : Int) ≤ x9_1) = false := Z37 c6
       clear c6
       by_cases c7 : x9_1 < (l0.length : Int)
       ·rw [if_pos c7] at H
        have c7b0 : decide (x9_1 < (l0.length : Int)) = true := Z38 c7
        clear c7
        replace H := Z36.mp H
        obtain ⟨t279, A80, H⟩ := H
        replace H : (if t279 = true then (impl_areDigits.l0 k1 l0 l1 l1 (l1.length : Int) (wrap64 (x9_1 + 1))) else (some false)) = some r := H
        have A8 := Ya A80
        clear A80
        by_cases c9 : t279 = true
        ·subst c9
         have H1 : (impl_areDigits.l0 k1 l0 l1 l1 (l1.length : Int) (wrap64 (x9_1 + 1))) = some r := by rw [if_pos rfl] at H; exact H
         clear H
         have H := H1
         clear H1
         have H' := Ya H
         clear H
         have p277 : 0 ≤ (x9_1 : Int) := Z30 Q1
         have q277 : x9_1 < (l1.length : Int) := Z30 Q1
         obtain ⟨ad277, e277, hx277_0⟩ := Kd.at_int HR1.out x9_1 p277 q277
         cases e277
         replace p277 := eq_true p277
         replace q277 := eq_true q277
         have p278 : 0 ≤ (x9_1 : Int) := Z30 Q1
         have q278 : x9_1 < (l0.length : Int) := Z30 Q1
         obtain ⟨ad278, e278, hx278_0⟩ := Kd.at_int HR0.out x9_1 p278 q278
         cases e278
         replace p278 := eq_true p278
         replace q278 := eq_true q278
         go_wp2_with (first | (go_at_call 48; (with_reducible refine (impl_within.calls (rd l1 x9_1) 0 (wrap64 ((rd l0 x9_1) - 1)) true _ A8.out).mono ?_); rintro e w' ⟨rfl, ⟨nd, rfl⟩⟩))
         go_roundg k1
         case measure => have := HK1.out; omega
         case rel => exact ⟨(wrap64 (x9_1 + 1)), Q7, H', ⟨Q80⟩, Q5⟩
        ·replace c9 := Bool.eq_false_iff.mpr c9
         subst c9
         have H1 : (some false) = some r := by rw [if_neg (show ¬ (false = true) by decide)] at H; exact H
         clear H
         have H := H1
         clear H1
         obtain rfl := Option.some.inj H
         have p277 : 0 ≤ (x9_1 : Int) := Z30 Q1
         have q277 : x9_1 < (l1.length : Int) := Z30 Q1
         obtain ⟨ad277, e277, hx277_0⟩ := Kd.at_int HR1.out x9_1 p277 q277
         cases e277
         replace p277 := eq_true p277
         replace q277 := eq_true q277
         have p278 : 0 ≤ (x9_1 : Int) := Z30 Q1
         have q278 : x9_1 < (l0.length : Int) := Z30 Q1
         obtain ⟨ad278, e278, hx278_0⟩ := Kd.at_int HR0.out x9_1 p278 q278
         cases e278
         replace p278 := eq_true p278
         replace q278 := eq_true q278
         go_wp2_with (first | (go_at_call 48; (with_reducible refine (impl_within.calls (rd l1 x9_1) 0 (wrap64 ((rd l0 x9_1) - 1)) false _ A8.out).mono ?_); rintro e w' ⟨rfl, ⟨nd, rfl⟩⟩))
         go_ret
         exact ⟨Q13, Q5⟩
       ·rw [if_neg c7] at H
        exact absurd H (by simp)
     ·rw [if_neg c5] at H
      exact absurd H (by simp)
    ·rw [if_neg c4] at H
     exact absurd H (by simp)
   ·rw [if_neg c3] at H
    have c3b0 : decide (x9_1 < (l1.length : Int)) = false := Z37 c3
    clear c3
    obtain rfl := Option.some.inj H
    go_wp2
    go_ret
    exact ⟨Q13, Q5⟩
end Go.Proofs.Ytpfakdhfffehaaa.MFnExactStepFocus
