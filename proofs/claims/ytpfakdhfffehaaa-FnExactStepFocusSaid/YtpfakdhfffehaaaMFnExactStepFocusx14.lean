import Derived.Test.YtpfakdhfffehaaaMFnExactStepFocusx0
import Derived.Test.YtpfakdhfffehaaaMFnExactStepFocusx10
import Derived.Test.YtpfakdhfffehaaaMFnExactStepFocusx11
import Derived.Test.YtpfakdhfffehaaaMFnExactStepFocusx13
namespace Go.Proofs.Ytpfakdhfffehaaa.MFnExactStepFocus
open Go.RowKit Go.Proofs.YtpfakdhfffehaaaW.PrintWords Go.Proofs.YtpfakdhfffehaaaW.PrintLast Go.Proofs.YtpfakdhfffehaaaW.PrintMore
attribute [local go_sem] max2_int min2_int max_two min_two max_three min_three max_four min_four   
set_option linter.unusedVariables false
set_option linter.unusedSimpArgs false
def impl_Focus_own.f (l0_0 : List Int) (l0_1 : List Int) (l0_2 : List Bool) (l0_3 : List Int) : Option (List Int × List Int × List Bool × List Int) := (impl_copied.f l0_0).bind fun t335 => ((impl_copied.f l0_1).bind fun t338 => ((some (([] : List Bool) : List Bool)).bind fun y341 => (if y341.length + l0_2.length < 140737488355328 then ((impl_copied.f l0_3).bind fun t347 => (some (t335, t338, (y341 ++ l0_2), t347))) else (none))))
def impl_Focus_own.T1 : Bool × List (List Nat × List Nat) := (true, [([], []), ([0], [0]), ([1], [1]), ([], []), ([3], [3]), ([4, 2], [4]), ([], []), ([], []), ([7], [7]), ([6, 8, 5], [6, 8]), ([], []), ([10], [10]), ([11, 9], [11]), ([2, 5, 9, 12], [2, 5, 9, 12]), ([13, 12, 0, 1, 2, 3, 4, 5, 6, 7, 8, 9, 10, 11, 12, 13], [13])])
def impl_Focus_own.B1 : List Nat := [0, 1, 3, 0, 8, 31, 0, 0, 128, 511, 0, 1024, 4095, 8191, 16383]
theorem impl_Focus_own.tab1 : rtab .any (opsOf Try.f35 1) = impl_Focus_own.T1 := by kernel_rfl
theorem impl_Focus_own.bits1 : waitsOk impl_Focus_own.T1.2 impl_Focus_own.B1 = true := by kernel_rfl
set_option maxHeartbeats 8000000 in
set_option maxRecDepth 100000 in
theorem impl_Focus_own.calls (A0_0 : Option Addr) (c0_0 : Nat) (l0_0 : List Int) (A0_1 : Option Addr) (c0_1 : Nat) (l0_1 : List Int) (A0_2 : Option Addr) (c0_2 : Nat) (l0_2 : List Bool) (A0_3 : Option Addr) (c0_3 : Nat) (l0_3 : List Int) (r1 : List Int) (r2 : List Int) (r3 : List Bool) (r4 : List Int) (w : World) (hr0_0 : Kd.C (Kd.int .i64) w A0_0 l0_0.length l0_0) (hc0_0 : l0_0.length ≤ c0_0) (hr0_1 : Kd.C (Kd.int .i64) w A0_1 l0_1.length l0_1) (hc0_1 : l0_1.length ≤ c0_1) (hr0_2 : Kd.C Kd.bool w A0_2 l0_2.length l0_2) (hc0_2 : l0_2.length ≤ c0_2) (hr0_3 : Kd.C (Kd.int .i64) w A0_3 l0_3.length l0_3) (hc0_3 : l0_3.length ≤ c0_3) (h : impl_Focus_own.f l0_0 l0_1 l0_2 l0_3 = some (r1, r2, r3, r4)) :
  Calls Try.prog 35 #[.agg #[.slice A0_0 l0_0.length c0_0, .slice A0_1 l0_1.length c0_1, .slice A0_2 l0_2.length c0_2, .slice A0_3 l0_3.length c0_3]] w fun e w' => ∃ v0_ v1_ v2_ v3_ : Value, e = .returned (.agg #[v0_, v1_, v2_, v3_]) ∧ Kd.R (Kd.int .i64) 3 w' w.heap.size (fun k_ => some k_ ≠ (v1_ : Value).ownBlock ∧ some k_ ≠ (v3_ : Value).ownBlock) v0_ r1 ∧ Kd.R (Kd.int .i64) 3 w' w.heap.size (fun k_ => some k_ ≠ (v0_ : Value).ownBlock ∧ some k_ ≠ (v3_ : Value).ownBlock) v1_ r2 ∧ Kd.R Kd.bool 4 w' w.heap.size (fun _ => True) v2_ r3 ∧ Kd.R (Kd.int .i64) 3 w' w.heap.size (fun k_ => some k_ ≠ (v0_ : Value).ownBlock ∧ some k_ ≠ (v1_ : Value).ownBlock) v3_ r4 ∧ Below w.heap.size w w' := by
 have hu27 := Try.underlying27
 have HR0_0 := Ya hr0_0
 have HC0_0 := Ya hc0_0
 clear hr0_0 hc0_0
 have HR0_1 := Ya hr0_1
 have HC0_1 := Ya hc0_1
 clear hr0_1 hc0_1
 have HR0_2 := Ya hr0_2
 have HC0_2 := Ya hc0_2
 clear hr0_2 hc0_2
 have HR0_3 := Ya hr0_3
 have HC0_3 := Ya hc0_3
 clear hr0_3 hc0_3
 have HB := Ya (Below.refl w.heap.size w)
 have H : ((impl_copied.f l0_0).bind fun t335 => ((impl_copied.f l0_1).bind fun t338 => ((some (([] : List Bool) : List Bool)).bind fun y341 => (if y341.length + l0_2.length < 140737488355328 then ((impl_copied.f l0_3).bind fun t347 => (some (t335, t338, (y341 ++ l0_2), t347))) else (none))))) = some (r1, r2, r3, r4) := h
 clear h
 replace H := Z36.mp H
 obtain ⟨t335, A20, H⟩ := H
 replace H : ((impl_copied.f l0_1).bind fun t338 => ((some (([] : List Bool) : List Bool)).bind fun y341 => (if y341.length + l0_2.length < 140737488355328 then ((impl_copied.f l0_3).bind fun t347 => (some (t335, t338, (y341 ++ l0_2), t347))) else (none)))) = some (r1, r2, r3, r4) := H
 have A2 := Ya A20
 clear A20
 replace H := Z36.mp H
 obtain ⟨t338, A30, H⟩ := H
 replace H : ((some (([] : List Bool) : List Bool)).bind fun y341 => (if y341.length + l0_2.length < 140737488355328 then ((impl_copied.f l0_3).bind fun t347 => (some (t335, t338, (y341 ++ l0_2), t347))) else (none))) = some (r1, r2, r3, r4) := H
 have A3 := Ya A30
 clear A30
 obtain ⟨y341, hy341⟩ : ∃ y_ : List Bool, y_ = (([] : List Bool)) := ⟨_, rfl⟩
 replace H : (if y341.length + l0_2.length < 140737488355328 then ((impl_copied.f l0_3).bind fun t347 => (some (t335, t338, (y341 ++ l0_2), t347))) else (none)) = some (r1, r2, r3, r4) := by first | (rw [hy341]; with_reducible exact H) | (have H2_ := (Option.bind_some _ _).symm.trans H; rw [hy341]; with_reducible exact H2_) | (have H2_ := (Option.bind_some _ _).symm.trans H; with_reducible exact H2_) | with_reducible exact H | (rw [hy341]; exact H) | exact H
 have Ny341 := Ya hy341
 clear hy341
 by_cases c4 : y341.length + l0_2.length < 140737488355328
 ·rw [if_pos c4] at H
  have LMc4 := Ya c4
  clear c4
  obtain ⟨y344, hy344⟩ : ∃ y_ : List Bool, y_ = (y341 ++ l0_2) := ⟨_, rfl⟩
  replace H : ((impl_copied.f l0_3).bind fun t347 => (some (t335, t338, y344, t347))) = some (r1, r2, r3, r4) := by first | (rw [hy344]; with_reducible exact H) | (have H2_ := (Option.bind_some _ _).symm.trans H; rw [hy344]; with_reducible exact H2_) | (have H2_ := (Option.bind_some _ _).symm.trans H; with_reducible exact H2_) | with_reducible exact H | (rw [hy344]; exact H) | exact H
  have Ny344 := Ya hy344
  clear hy344
  replace H := Z36.mp H
  obtain ⟨t347, A50, H⟩ := H
  replace H : (some (t335, t338, y344, t347)) = some (r1, r2, r3, r4) := H
  have A5 := Ya A50
  clear A50
  simp only [Option.some.injEq, Prod.mk.injEq] at H
  obtain ⟨rfl, rfl, rfl, rfl⟩ := H
  go_enter Try.func35, Try.ntmps35
  try go_wp2_with (first | ((with_reducible refine gate_dst (N := 1) rfl ?_); refine Yx 1 #[.slice A0_0 l0_0.length c0_0, .slice A0_1 l0_1.length c0_1, .slice A0_2 l0_2.length c0_2, .slice A0_3 l0_3.length c0_3] 27 ?_; intro gb333 hg w6 hbox hb; have BK333 := Ya hbox; have GE333 := Yg hg; replace HB := Yh hb; clear hb hbox hg) | ((with_reducible refine gate_dst (N := 2) rfl ?_); refine Yx 2 #[.slice none 0 0, .slice none 0 0, .slice none 0 0, .slice none 0 0] 27 ?_; intro gb334 hg w7 hbox hb; have BK334 := Ya hbox; have GE334 := Yg hg; replace HB := Yh hb; have NB333_334 := Yn BK333 hg; have NB334_333 := Ym BK333 hg; replace BK333 := Yb BK333 hb; clear hb hbox hg))
  replace BK333 := Ya (Z26 BK333.out)
  replace BK334 := Ya (Z26 BK334.out)
  replace HB := Ya (Z4 HB.out)
  refine start_ (n := 15) (S := fun w' => w'.cell? ⟨gb333, 0, none⟩ = some (.slice A0_0 l0_0.length c0_0) ∧ w'.cell? ⟨gb333, 1, none⟩ = some (.slice A0_1 l0_1.length c0_1) ∧ w'.cell? ⟨gb333, 2, none⟩ = some (.slice A0_2 l0_2.length c0_2) ∧ w'.cell? ⟨gb333, 3, none⟩ = some (.slice A0_3 l0_3.length c0_3)) (ds := []) (YA 15 0) (by kernel_rfl) rfl rfl ⟨(Z23 BK333.out 0).trans rfl, (Z23 BK333.out 1).trans rfl, (Z23 BK333.out 2).trans rfl, (Z23 BK333.out 3).trans rfl⟩ (fun hHeld => ?_); refine with_tabW impl_Focus_own.tab1 impl_Focus_own.bits1 (fun HT_ HW_ => ?_)
  generalize w7.drew = w8 at BK333 BK334 HB hHeld ⊢
  refine Yp 0 (some 3) (YA 15 1) rfl HT_.out ?_
  refine Yp 3 (some 6) (YA 15 9) rfl HT_.out ?_
  refine Yp 7 (some 10) (YA 15 137) rfl HT_.out ?_
  refine Yp 10 (some 13) (YA 15 1161) rfl HT_.out ?_
  refine Yt 1 (some 4) (YA 15 1163) rfl HT_.out HW_.out hHeld Q6 ?_
  refine Yt 4 (some 7) (YA 15 1179) rfl HT_.out HW_.out hHeld Q6 ?_
  refine Yt 8 (some 11) (YA 15 1435) rfl HT_.out HW_.out hHeld Q6 ?_
  refine Yt 11 (some 14) (YA 15 3483) rfl HT_.out HW_.out hHeld Q6 ?_
  refine join_ (σ := Value × Value × Value) 4 (YA 15 3583) (fun s_ => [(5, s_.1), (8, s_.2.1), (9, s_.2.2)]) (fun s_ w' => (w'.cell? ⟨gb333, 0, none⟩ = some (.slice A0_0 l0_0.length c0_0) ∧ w'.cell? ⟨gb333, 1, none⟩ = some (.slice A0_1 l0_1.length c0_1) ∧ w'.cell? ⟨gb333, 2, none⟩ = some (.slice A0_2 l0_2.length c0_2) ∧ w'.cell? ⟨gb333, 3, none⟩ = some (.slice A0_3 l0_3.length c0_3)) ∧ (Kd.R (Kd.int .i64) 3 w' w.heap.size (fun k_ => some k_ ≠ (s_.2.1 : Value).ownBlock) s_.1 t335) ∧ (Kd.R (Kd.int .i64) 3 w' w.heap.size (fun k_ => some k_ ≠ (s_.1 : Value).ownBlock) s_.2.1 t338) ∧ (Kd.R Kd.bool 4 w' w.heap.size (fun _ => True) s_.2.2 y341) ∧ (w'.heap[gb333]? = some (.cells #[.slice A0_0 l0_0.length c0_0, .slice A0_1 l0_1.length c0_1, .slice A0_2 l0_2.length c0_2, .slice A0_3 l0_3.length c0_3] 27 (0, 0))) ∧ (w'.heap[gb334]? = some (.cells #[.slice none 0 0, .slice none 0 0, .slice none 0 0, .slice none 0 0] 27 (0, 0))) ∧ (Below w.heap.size w w')) ?_ ?_
  rotate_left
  ·intro hCont
   refine two_ (i := 2) (j := 6) (Ni := some 5) (Nj := some 9) (YA 15 3487) (YA 15 3547) rfl rfl rfl rfl (two_of HT_.out (by kernel_rfl)) (by decide) (by decide) (fun K hK => ?_) (fun K hK => ?_)
   ·skip
    refine goes_ Try.func56 (by kernel_rfl) rfl #[.slice A0_0 l0_0.length c0_0] (by rfl) rfl rfl Q4 ?_
    with_reducible refine (impl_copied.calls _ _ l0_0 t335 _ ?side1 ?side2 A2.out).mono ?_
    (case side1 => exact Yc (Z22 HR0_0.out HB.out))
    (case side2 => exact HC0_0.out)
    rintro e w9 ⟨v336, rfl, ho0, hb⟩
    refine ⟨_, rfl, ?_⟩
    have HO337 := Yl ho0
    replace BK333 := Yb BK333 hb
    replace BK334 := Yb BK334 hb
    replace HB := Yh hb
    (try clear hb ho0)
    refine hK.out _ _ ⟨(Z23 BK333.out 0).trans rfl, (Z23 BK333.out 1).trans rfl, (Z23 BK333.out 2).trans rfl, (Z23 BK333.out 3).trans rfl⟩ (fun hHeld => ?_)
    clear hK K
    refine norm_ (a' := ?_) ?_ ?_
    rotate_left
    ·show Act.put _ (some 5) _ = _
     simp only [Act.put, Z0, Z1, Z2, i64_w, i32_w]
     rfl
    refine two_ (i := 5) (j := 6) (Ni := some 8) (Nj := some 9) (YA 15 3519) (YA 15 3551) rfl rfl rfl rfl (two_of HT_.out (by kernel_rfl)) (by decide) (by decide) (fun K hK => ?_) (fun K hK => ?_)
    ·skip
     refine goes_ Try.func56 (by kernel_rfl) rfl #[.slice A0_1 l0_1.length c0_1] (by rfl) rfl rfl Q4 ?_
     with_reducible refine (impl_copied.calls _ _ l0_1 t338 _ ?side1 ?side2 A3.out).mono ?_
     (case side1 => exact Yc (Z22 HR0_1.out HB.out))
     (case side2 => exact HC0_1.out)
     rintro e w10 ⟨v339, rfl, ho0, hb⟩
     refine ⟨_, rfl, ?_⟩
     have HO340 := Yl (Kd.R_new' ho0 (Z17 (Yr HO337.out)))
     replace HO337 := Ya (Kd.R_elder' (Yr HO337.out) (Kd.R_base ho0) hb)
     replace BK333 := Yb BK333 hb
     replace BK334 := Yb BK334 hb
     replace HB := Yh hb
     (try clear hb ho0)
     refine hK.out _ _ ⟨(Z23 BK333.out 0).trans rfl, (Z23 BK333.out 1).trans rfl, (Z23 BK333.out 2).trans rfl, (Z23 BK333.out 3).trans rfl⟩ (fun hHeld => ?_)
     clear hK K
     refine norm_ (a' := ?_) ?_ ?_
     rotate_left
     ·show Act.put _ (some 8) _ = _
      simp only [Act.put, Z0, Z1, Z2, i64_w, i32_w]
      rfl
     refine one_ (i := 6) (N := some 9) (YA 15 3583) rfl rfl (one_of HT_.out (by kernel_rfl)) (by decide) (fun K hK => ?_)
     refine Kd.R_lit_step Kd.bool _ 4 ?hg (N := 9) ?hd (xs := ([] : List Bool)) (inner := []) (ok := fun _ => True) (okp := fun _ => True) ?hr ?hp (fun _ hk => hk) trivial (Below.refl _ _) (Nat.le_refl _) (by simp) ?_; (case hd => rfl); (case hg => rfl); (case hr => first | (go_simp; done) | (go_simp; rfl)); (case hp => exact (Reps.none _ _))
     intro v342 w11 ho12 hb hg_ hnew_
     clear hg_ hnew_
     (first | rw [← Ny341.out] at ho12 | (simp only [Int.reduceToNat] at ho12; rw [← Ny341.out] at ho12))
     replace HO337 := Yw HO337 hb
     replace HO340 := Yw HO340 hb
     have HO343 := Yl ho12
     replace BK333 := Yb BK333 hb
     replace BK334 := Yb BK334 hb
     replace HB := Yh hb
     clear hb ho12
     refine hK.out _ _ ⟨(Z23 BK333.out 0).trans rfl, (Z23 BK333.out 1).trans rfl, (Z23 BK333.out 2).trans rfl, (Z23 BK333.out 3).trans rfl⟩ (fun hHeld => ?_)
     clear hK K
     refine norm_ (a' := ?_) ?_ ?_
     rotate_left
     ·show Act.put _ (some 9) _ = _
      simp only [Act.put, Z0, Z1, Z2, i64_w, i32_w]
      rfl
     exact norm_ Q89 (hCont (v336, v339, v342) _ ⟨hHeld, Q143, Q142, (Yr HO343.out), (Yk BK333.out), (Yk BK334.out), Q0⟩)
    ·skip
     refine Kd.R_lit_step Kd.bool _ 4 ?hg (N := 9) ?hd (xs := ([] : List Bool)) (inner := []) (ok := fun _ => True) (okp := fun _ => True) ?hr ?hp (fun _ hk => hk) trivial (Below.refl _ _) (Nat.le_refl _) (by simp) ?_; (case hd => rfl); (case hg => rfl); (case hr => first | (go_simp; done) | (go_simp; rfl)); (case hp => exact (Reps.none _ _))
     intro v342 w10 ho11 hb hg_ hnew_
     clear hg_ hnew_
     (first | rw [← Ny341.out] at ho11 | (simp only [Int.reduceToNat] at ho11; rw [← Ny341.out] at ho11))
     replace HO337 := Yw HO337 hb
     have HO343 := Yl ho11
     replace BK333 := Yb BK333 hb
     replace BK334 := Yb BK334 hb
     replace HB := Yh hb
     clear hb ho11
     refine hK.out _ _ ⟨(Z23 BK333.out 0).trans rfl, (Z23 BK333.out 1).trans rfl, (Z23 BK333.out 2).trans rfl, (Z23 BK333.out 3).trans rfl⟩ (fun hHeld => ?_)
     clear hK K
     refine norm_ (a' := ?_) ?_ ?_
     rotate_left
     ·show Act.put _ (some 9) _ = _
      simp only [Act.put, Z0, Z1, Z2, i64_w, i32_w]
      rfl
     refine one_ (i := 5) (N := some 8) (YA 15 3583) rfl rfl (one_of HT_.out (by kernel_rfl)) (by decide) (fun K hK => ?_)
     refine goes_ Try.func56 (by kernel_rfl) rfl #[.slice A0_1 l0_1.length c0_1] (by rfl) rfl rfl Q4 ?_
     with_reducible refine (impl_copied.calls _ _ l0_1 t338 _ ?side1 ?side2 A3.out).mono ?_
     (case side1 => exact Yc (Z22 HR0_1.out HB.out))
     (case side2 => exact HC0_1.out)
     rintro e w12 ⟨v339, rfl, ho0, hb⟩
     refine ⟨_, rfl, ?_⟩
     replace HO343 := Yw HO343 hb
     have HO340 := Yl (Kd.R_new' ho0 (Z17 (Yr HO337.out)))
     replace HO337 := Ya (Kd.R_elder' (Yr HO337.out) (Kd.R_base ho0) hb)
     replace BK333 := Yb BK333 hb
     replace BK334 := Yb BK334 hb
     replace HB := Yh hb
     (try clear hb ho0)
     refine hK.out _ _ ⟨(Z23 BK333.out 0).trans rfl, (Z23 BK333.out 1).trans rfl, (Z23 BK333.out 2).trans rfl, (Z23 BK333.out 3).trans rfl⟩ (fun hHeld => ?_)
     clear hK K
     refine norm_ (a' := ?_) ?_ ?_
     rotate_left
     ·show Act.put _ (some 8) _ = _
      simp only [Act.put, Z0, Z1, Z2, i64_w, i32_w]
      rfl
     exact norm_ Q89 (hCont (v336, v339, v342) _ ⟨hHeld, Q143, Q142, (Yr HO343.out), (Yk BK333.out), (Yk BK334.out), Q0⟩)
   ·skip
    refine Kd.R_lit_step Kd.bool _ 4 ?hg (N := 9) ?hd (xs := ([] : List Bool)) (inner := []) (ok := fun _ => True) (okp := fun _ => True) ?hr ?hp (fun _ hk => hk) trivial (Below.refl _ _) (Nat.le_refl _) (by simp) ?_; (case hd => rfl); (case hg => rfl); (case hr => first | (go_simp; done) | (go_simp; rfl)); (case hp => exact (Reps.none _ _))
    intro v342 w9 ho10 hb hg_ hnew_
    clear hg_ hnew_
    (first | rw [← Ny341.out] at ho10 | (simp only [Int.reduceToNat] at ho10; rw [← Ny341.out] at ho10))
    have HO343 := Yl ho10
    replace BK333 := Yb BK333 hb
    replace BK334 := Yb BK334 hb
    replace HB := Yh hb
    clear hb ho10
    refine hK.out _ _ ⟨(Z23 BK333.out 0).trans rfl, (Z23 BK333.out 1).trans rfl, (Z23 BK333.out 2).trans rfl, (Z23 BK333.out 3).trans rfl⟩ (fun hHeld => ?_)
    clear hK K
    refine norm_ (a' := ?_) ?_ ?_
    rotate_left
    ·show Act.put _ (some 9) _ = _
     simp only [Act.put, Z0, Z1, Z2, i64_w, i32_w]
     rfl
    refine one_ (i := 2) (N := some 5) (YA 15 3551) rfl rfl (one_of HT_.out (by kernel_rfl)) (by decide) (fun K hK => ?_)
    refine goes_ Try.func56 (by kernel_rfl) rfl #[.slice A0_0 l0_0.length c0_0] (by rfl) rfl rfl Q4 ?_
    with_reducible refine (impl_copied.calls _ _ l0_0 t335 _ ?side1 ?side2 A2.out).mono ?_
    (case side1 => exact Yc (Z22 HR0_0.out HB.out))
    (case side2 => exact HC0_0.out)
    rintro e w11 ⟨v336, rfl, ho0, hb⟩
    refine ⟨_, rfl, ?_⟩
    replace HO343 := Yw HO343 hb
    have HO337 := Yl ho0
    replace BK333 := Yb BK333 hb
    replace BK334 := Yb BK334 hb
    replace HB := Yh hb
    (try clear hb ho0)
    refine hK.out _ _ ⟨(Z23 BK333.out 0).trans rfl, (Z23 BK333.out 1).trans rfl, (Z23 BK333.out 2).trans rfl, (Z23 BK333.out 3).trans rfl⟩ (fun hHeld => ?_)
    clear hK K
    refine norm_ (a' := ?_) ?_ ?_
    rotate_left
    ·show Act.put _ (some 5) _ = _
     simp only [Act.put, Z0, Z1, Z2, i64_w, i32_w]
     rfl
    refine one_ (i := 5) (N := some 8) (YA 15 3583) rfl rfl (one_of HT_.out (by kernel_rfl)) (by decide) (fun K hK => ?_)
    refine goes_ Try.func56 (by kernel_rfl) rfl #[.slice A0_1 l0_1.length c0_1] (by rfl) rfl rfl Q4 ?_
    with_reducible refine (impl_copied.calls _ _ l0_1 t338 _ ?side1 ?side2 A3.out).mono ?_
    (case side1 => exact Yc (Z22 HR0_1.out HB.out))
    (case side2 => exact HC0_1.out)
    rintro e w12 ⟨v339, rfl, ho0, hb⟩
    refine ⟨_, rfl, ?_⟩
    replace HO343 := Yw HO343 hb
    have HO340 := Yl (Kd.R_new' ho0 (Z17 (Yr HO337.out)))
    replace HO337 := Ya (Kd.R_elder' (Yr HO337.out) (Kd.R_base ho0) hb)
    replace BK333 := Yb BK333 hb
    replace BK334 := Yb BK334 hb
    replace HB := Yh hb
    (try clear hb ho0)
    refine hK.out _ _ ⟨(Z23 BK333.out 0).trans rfl, (Z23 BK333.out 1).trans rfl, (Z23 BK333.out 2).trans rfl, (Z23 BK333.out 3).trans rfl⟩ (fun hHeld => ?_)
    clear hK K
    refine norm_ (a' := ?_) ?_ ?_
    rotate_left
    ·show Act.put _ (some 8) _ = _
     simp only [Act.put, Z0, Z1, Z2, i64_w, i32_w]
     rfl
    exact norm_ Q89 (hCont (v336, v339, v342) _ ⟨hHeld, Q143, Q142, (Yr HO343.out), (Yk BK333.out), (Yk BK334.out), Q0⟩)
  rintro ⟨v336, v339, v342⟩ w13 ⟨hS_, h0_, h1_, h2_, h3_, h4_, h5_⟩
  have HO337 : Aside0 (Kd.R (Kd.int .i64) 3 w13 w.heap.size (fun k_ => some k_ ≠ (v339 : Value).ownBlock) v336 t335) := ⟨h0_⟩
  have HO340 : Aside0 (Kd.R (Kd.int .i64) 3 w13 w.heap.size (fun k_ => some k_ ≠ (v336 : Value).ownBlock) v339 t338) := ⟨h1_⟩
  have HO343 : Aside0 (Kd.R Kd.bool 4 w13 w.heap.size (fun _ => True) v342 y341) := ⟨h2_⟩
  replace BK333 : Aside0 (w13.heap[gb333]? = some (.cells #[.slice A0_0 l0_0.length c0_0, .slice A0_1 l0_1.length c0_1, .slice A0_2 l0_2.length c0_2, .slice A0_3 l0_3.length c0_3] 27 (0, 0))) := ⟨h3_⟩
  replace BK334 : Aside0 (w13.heap[gb334]? = some (.cells #[.slice none 0 0, .slice none 0 0, .slice none 0 0, .slice none 0 0] 27 (0, 0))) := ⟨h4_⟩
  replace HB : Aside0 (Below w.heap.size w w13) := ⟨h5_⟩
  clear h0_ h1_ h2_ h3_ h4_ h5_
  have hHeld : w13.cell? ⟨gb333, 0, none⟩ = some (.slice A0_0 l0_0.length c0_0) ∧ w13.cell? ⟨gb333, 1, none⟩ = some (.slice A0_1 l0_1.length c0_1) ∧ w13.cell? ⟨gb333, 2, none⟩ = some (.slice A0_2 l0_2.length c0_2) ∧ w13.cell? ⟨gb333, 3, none⟩ = some (.slice A0_3 l0_3.length c0_3) := hS_
  refine norm_ (a' := ?_) ?_ ?_
  rotate_left
  ·simp only [putAll, Act.put, Z0, Z1, Z2]
   rfl
  refine one_ (i := 9) (N := some 12) (YA 15 4095) rfl rfl (one_of HT_.out (by kernel_rfl)) (by decide) (fun K hK => ?_)
  refine Kd.R_append_rows_step Kd.bool (w0 := w) w.heap.size (by rfl) (.tmp 9) (.tmp 11) 23 4 (.bool false) 1 rfl Try.underlying23 info4 rfl (by decide) (by omega) v342 y341 l0_2 _ _ _ (fun _ => True) (fun _ => False) rfl rfl ?aO ?aR (fun _ _ h => h) (fun _ h => h.elim) ?aF ?aB ?aS ?aL ?_
  (case aR => repeat (first | exact (Z22 HR0_2.out HB.out) | (with_reducible refine Z19 ?_ _) | (with_reducible refine Z20 ?_ _) | (with_reducible refine Z21 ?_)))
  (case aB => exact Q0)
  (case aF => exact (fun _ _ => trivial))
  (case aO => exact (Yr HO343.out))
  (case aS => exact (Z7 Q0))
  (case aL => have := LMc4.out; omega)
  intro v345 w14 ho hb hg hat
  rw [← Ny344.out] at ho
  replace BK333 := Ya (blk_grown (g := gb333) (o := .cells #[.slice A0_0 l0_0.length c0_0, .slice A0_1 l0_1.length c0_1, .slice A0_2 l0_2.length c0_2, .slice A0_3 l0_3.length c0_3] 27 (0, 0)) (Yk BK333.out) hg (Kd.R_ne HO343.out BK333.out (by decide)))
  replace BK334 := Ya (blk_grown (g := gb334) (o := .cells #[.slice none 0 0, .slice none 0 0, .slice none 0 0, .slice none 0 0] 27 (0, 0)) (Yk BK334.out) hg (Kd.R_ne HO343.out BK334.out (by decide)))
  replace HO337 := Ya (Kd.R_over' (Yr HO337.out) (Kd.R_typed (Yr HO343.out)) (by decide) hg)
  replace HO340 := Ya (Kd.R_over' (Yr HO340.out) (Kd.R_typed (Yr HO343.out)) (by decide) hg)
  replace HB := Ya hb
  have HO346 := Ya ho
  clear HO343
  clear ho hb hg hat
  refine hK.out _ _ ⟨(Z23 BK333.out 0).trans rfl, (Z23 BK333.out 1).trans rfl, (Z23 BK333.out 2).trans rfl, (Z23 BK333.out 3).trans rfl⟩ (fun hHeld => ?_)
  clear hK K
  refine norm_ (a' := ?_) ?_ ?_
  rotate_left
  ·show Act.put _ (some 12) _ = _
   simp only [Act.put, Z0, Z1, Z2, i64_w, i32_w]
   rfl
  refine one_ (i := 12) (N := some 15) (YA 15 8191) rfl rfl (one_of HT_.out (by kernel_rfl)) (by decide) (fun K hK => ?_)
  refine goes_ Try.func56 (by kernel_rfl) rfl #[.slice A0_3 l0_3.length c0_3] (by rfl) rfl rfl Q4 ?_
  with_reducible refine (impl_copied.calls _ _ l0_3 t347 _ ?side1 ?side2 A5.out).mono ?_
  (case side1 => exact Yc (Z22 HR0_3.out HB.out))
  (case side2 => exact HC0_3.out)
  rintro e w15 ⟨v348, rfl, ho0, hb⟩
  refine ⟨_, rfl, ?_⟩
  replace HO346 := Yw HO346 hb
  have HO349 := Yl (Kd.R_new' (Kd.R_new' ho0 (Z17 (Yr HO337.out))) (Z17 (Yr HO340.out)))
  replace HO337 := Ya (Kd.R_elder' (Yr HO337.out) (Kd.R_base ho0) hb)
  replace HO340 := Ya (Kd.R_elder' (Yr HO340.out) (Kd.R_base ho0) hb)
  replace BK333 := Yb BK333 hb
  replace BK334 := Yb BK334 hb
  replace HB := Yh hb
  (try clear hb ho0)
  obtain ⟨Ao16, co16, eo16⟩ := Z18 HO349.out
  (first | subst eo16 | (injection eo16 with f1_ f2_ f3_; have f4_ := f1_.symm; have f5_ := f3_.symm; clear f1_ f2_ f3_; subst f4_; subst f5_))
  obtain ⟨Ao17, co17, eo17⟩ := Z18 HO346.out
  (first | subst eo17 | (injection eo17 with f1_ f2_ f3_; have f4_ := f1_.symm; have f5_ := f3_.symm; clear f1_ f2_ f3_; subst f4_; subst f5_))
  obtain ⟨Ao18, co18, eo18⟩ := Z18 HO340.out
  (first | subst eo18 | (injection eo18 with f1_ f2_ f3_; have f4_ := f1_.symm; have f5_ := f3_.symm; clear f1_ f2_ f3_; subst f4_; subst f5_))
  obtain ⟨Ao19, co19, eo19⟩ := Z18 HO337.out
  (first | subst eo19 | (injection eo19 with f1_ f2_ f3_; have f4_ := f1_.symm; have f5_ := f3_.symm; clear f1_ f2_ f3_; subst f4_; subst f5_))
  refine hK.out _ _ ⟨(Z23 BK333.out 0).trans rfl, (Z23 BK333.out 1).trans rfl, (Z23 BK333.out 2).trans rfl, (Z23 BK333.out 3).trans rfl⟩ (fun hHeld => ?_)
  clear hK K
  refine norm_ (a' := ?_) ?_ ?_
  rotate_left
  ·show Act.put _ (some 15) _ = _
   simp only [Act.put, Z0, Z1, Z2, i64_w, i32_w]
   rfl
  refine Yp 13 (some 16) (YA 15 16383) rfl HT_.out ?_
  refine one_ (i := 14) (N := none) (YA 15 32767) rfl rfl (one_of HT_.out (by kernel_rfl)) (by decide) (fun K hK => ?_)
  have hs20 : w15.cell? ⟨gb334, 0, none⟩ = some (.slice none 0 0) := (Z23 BK334.out 0).trans rfl
  have hfs20 := Z24 BK334.out 0
  have hns20_0 := NB333_334.out
  have hms20_0 := NB334_333.out
  have hs21 : w15.cell? ⟨gb334, 1, none⟩ = some (.slice none 0 0) := (Z23 BK334.out 1).trans rfl
  have hfs21 := Z24 BK334.out 1
  have hns21_0 := NB333_334.out
  have hms21_0 := NB334_333.out
  have hs22 : w15.cell? ⟨gb334, 2, none⟩ = some (.slice none 0 0) := (Z23 BK334.out 2).trans rfl
  have hfs22 := Z24 BK334.out 2
  have hns22_0 := NB333_334.out
  have hms22_0 := NB334_333.out
  have hs23 : w15.cell? ⟨gb334, 3, none⟩ = some (.slice none 0 0) := (Z23 BK334.out 3).trans rfl
  have hfs23 := Z24 BK334.out 3
  have hns23_0 := NB333_334.out
  have hms23_0 := NB334_333.out
  refine skip_ (w1 := ?_) (by rfl) rfl ?_ ?_
  rotate_left
  ·go_simp
   rfl
  refine hK.out _ _ ⟨((cell_far (p := ⟨gb334, _, none⟩) NB333_334.out _).trans (((cell_far (p := ⟨gb334, _, none⟩) NB333_334.out _).trans (((cell_far (p := ⟨gb334, _, none⟩) NB333_334.out _).trans (((cell_far (p := ⟨gb334, _, none⟩) NB333_334.out _).trans (hHeld.1)))))))), ((cell_far (p := ⟨gb334, _, none⟩) NB333_334.out _).trans (((cell_far (p := ⟨gb334, _, none⟩) NB333_334.out _).trans (((cell_far (p := ⟨gb334, _, none⟩) NB333_334.out _).trans (((cell_far (p := ⟨gb334, _, none⟩) NB333_334.out _).trans (hHeld.2.1)))))))), ((cell_far (p := ⟨gb334, _, none⟩) NB333_334.out _).trans (((cell_far (p := ⟨gb334, _, none⟩) NB333_334.out _).trans (((cell_far (p := ⟨gb334, _, none⟩) NB333_334.out _).trans (((cell_far (p := ⟨gb334, _, none⟩) NB333_334.out _).trans (hHeld.2.2.1)))))))), ((cell_far (p := ⟨gb334, _, none⟩) NB333_334.out _).trans (((cell_far (p := ⟨gb334, _, none⟩) NB333_334.out _).trans (((cell_far (p := ⟨gb334, _, none⟩) NB333_334.out _).trans (((cell_far (p := ⟨gb334, _, none⟩) NB333_334.out _).trans (hHeld.2.2.2))))))))⟩ (fun hHeld => ?_)
  clear hK K
  refine done_ (done_of HT_.out (by kernel_rfl)) ?_
  try go_wp2
  refine bodyPost_ret (results_cell_row rfl _ _ gb334 27 #[.slice Ao19 t335.length co19, .slice Ao18 t338.length co18, .slice Ao17 y344.length co17, .slice Ao16 t347.length co16] (0, 0) _ rfl (Yk (Yv4 BK334.out)) Try.underlying27 rfl (by kernel_rfl)) rfl ?_
  exact ⟨_, _, _, _, Q2, by (with_reducible repeat (first | apply Z8 | apply Z9 | apply Z10)); exact Z11 (Yf4 HO337.out BK334.out) (fun _ hk => ⟨hk.1.1, hk.1.2⟩), by (with_reducible repeat (first | apply Z8 | apply Z9 | apply Z10)); exact Z11 (Yf4 HO340.out BK334.out) (fun _ hk => ⟨hk.1.1, hk.1.2⟩), by (with_reducible repeat (first | apply Z8 | apply Z9 | apply Z10)); exact Z11 (Yf4 HO346.out BK334.out) (fun _ hk => trivial), by (with_reducible repeat (first | apply Z8 | apply Z9 | apply Z10)); exact Z11 (Yf4 HO349.out BK334.out) (fun _ hk => ⟨hk.1.1.2, hk.1.2⟩), Q12⟩
 ·rw [if_neg c4] at H
  exact absurd H (by simp)
def impl_StepFocus.f (k : Nat) (b d : List Int) (u : List Bool) (p : List Int) : Option (List Int × List Int × List Bool × List Int × Int × Bool) :=
  (impl_IsFocus.f k b d u p).bind fun t => if t = true then (impl_Focus_own.f b d u p).bind fun o => (if 0 < o.2.2.2.length ∧ o.1.length ≤ 1000 ∧ rd o.2.2.2 0 = (o.1.length : Int) then some ([], [], [], [], 0, false) else (Go.Proofs.Ytpfakdhfffehaaa.FoW.stepF o.1 o.2.1 o.2.2.1 o.2.2.2).bind fun s => some (o.1, s.1, s.2.1, s.2.2.1, wrap64 (wrap64 ((b.length : Int) - 1) - s.2.2.2), true)) else some ([], [], [], [], 0, false)
theorem impl_StepFocus.mono : ∀ a0 a1 a2 a3 k, LeO (impl_StepFocus.f k a0 a1 a2 a3) (impl_StepFocus.f (k + 1) a0 a1 a2 a3) := by
  intro a0 a1 a2 a3 k
  unfold impl_StepFocus.f
  repeat' first
      | (with_reducible exact impl_IsFocus.mono _ _ _ _ _)
      | (with_reducible exact LeO.refl _)
      | (with_reducible exact LeO.none _)
      | (with_reducible refine LeO.ite ?_ ?_)
      | (with_reducible refine LeO.bind ?_ (fun _ => ?_))
      | exact impl_IsFocus.mono _ _ _ _ _
      | exact LeO.none _
      | refine LeO.ite ?_ ?_
      | refine LeO.bind ?_ (fun _ => ?_)
open Go.Proofs.Ytpfakdhfffehaaa.FoW in
theorem impl_StepFocus.rank {b d : List Int} {u : List Bool} {p d' : List Int} {u' : List Bool} {p' : List Int} {r : Int} (h : stepF b d u p = some (d', u', p', r)) : 0 ≤ r := by
  unfold stepF at h
  simp only at h
  obtain ⟨X, hX⟩ : ∃ X, (if rdOf false u ((b.length : Int) - 1 - rd p 0) = true then rd d ((b.length : Int) - 1 - rd p 0) + 1 else rd d ((b.length : Int) - 1 - rd p 0) - 1) = X := ⟨_, rfl⟩
  rw [hX] at h
  by_cases hc : 0 ≤ rd p 0 ∧ rd p 0 < b.length ∧ b.length ≤ 1000 ∧ d.length = b.length ∧ u.length = b.length ∧ p.length = b.length + 1 ∧ -1000 ≤ rd d ((b.length : Int) - 1 - rd p 0) ∧ rd d ((b.length : Int) - 1 - rd p 0) ≤ 1000 ∧ -1000 ≤ rd b ((b.length : Int) - 1 - rd p 0) ∧ rd b ((b.length : Int) - 1 - rd p 0) ≤ 1000
  rotate_left
  · rw [if_neg hc] at h; cases h
  rw [if_pos hc] at h
  by_cases hz : X = 0 ∨ X = rd b ((b.length : Int) - 1 - rd p 0) - 1
  · rw [if_pos hz] at h
    simp only [Option.some.injEq, Prod.mk.injEq] at h
    obtain ⟨-, -, -, rfl⟩ := h
    exact hc.1
  · rw [if_neg hz] at h
    simp only [Option.some.injEq, Prod.mk.injEq] at h
    obtain ⟨-, -, -, rfl⟩ := h
    exact hc.1
open Go.Proofs.Ytpfakdhfffehaaa.FoW in
set_option maxHeartbeats 8000000 in
set_option maxRecDepth 100000 in
theorem impl_StepFocus.calls (k : Nat) (A0 : Option Addr) (c0 : Nat) (b : List Int) (A1 : Option Addr) (c1 : Nat) (d : List Int) (A2 : Option Addr) (c2 : Nat) (u : List Bool) (A3 : Option Addr) (c3 : Nat) (p : List Int) (r1 r2 : List Int) (r3 : List Bool) (r4 : List Int) (r5 : Int) (r6 : Bool) (w : World)
    (hr0 : Kd.C (Kd.int .i64) w A0 b.length b) (hc0 : b.length ≤ c0) (hr1 : Kd.C (Kd.int .i64) w A1 d.length d) (hc1 : d.length ≤ c1) (hr2 : Kd.C Kd.bool w A2 u.length u) (hc2 : u.length ≤ c2) (hr3 : Kd.C (Kd.int .i64) w A3 p.length p) (hc3 : p.length ≤ c3) (h : impl_StepFocus.f k b d u p = some (r1, r2, r3, r4, r5, r6)) :
    Calls Try.prog 11 #[.agg #[.slice A0 b.length c0, .slice A1 d.length c1, .slice A2 u.length c2, .slice A3 p.length c3]] w fun e w' => ∃ v0_ v1_ v2_ v3_ : Value, e = .returned (.tuple #[.agg #[v0_, v1_, v2_, v3_], .int .i64 r5, .bool r6]) ∧ Kd.R (Kd.int .i64) 3 w' w.heap.size (fun k_ => some k_ ≠ (v1_ : Value).ownBlock ∧ some k_ ≠ (v3_ : Value).ownBlock) v0_ r1 ∧ Kd.R (Kd.int .i64) 3 w' w.heap.size (fun k_ => some k_ ≠ (v0_ : Value).ownBlock ∧ some k_ ≠ (v3_ : Value).ownBlock) v1_ r2 ∧ Kd.R Kd.bool 4 w' w.heap.size (fun _ => True) v2_ r3 ∧ Kd.R (Kd.int .i64) 3 w' w.heap.size (fun k_ => some k_ ≠ (v0_ : Value).ownBlock ∧ some k_ ≠ (v1_ : Value).ownBlock) v3_ r4 ∧ Below w.heap.size w w' := by
  have hu := Try.underlying27
  unfold impl_StepFocus.f at h
  obtain ⟨t, ht, h⟩ := Option.bind_eq_some_iff.mp h
  have At := Aside0.mk ht
  clear ht
  have HR0 := Aside0.mk hr0
  have HC0 := Aside0.mk hc0
  have HR1 := Aside0.mk hr1
  have HC1 := Aside0.mk hc1
  have HR2 := Aside0.mk hr2
  have HC2 := Aside0.mk hc2
  have HR3 := Aside0.mk hr3
  have HC3 := Aside0.mk hc3
  clear hr0 hc0 hr1 hc1 hr2 hc2 hr3 hc3
  have HB := Aside0.mk (Below.refl w.heap.size w)
  cases t
  · rw [if_neg (by decide)] at h
    simp only [Option.some.injEq, Prod.mk.injEq] at h
    obtain ⟨rfl, rfl, rfl, rfl, rfl, rfl⟩ := h
    go_enter Try.func11, Try.ntmps11
    go_wp2_with (first | ((with_reducible refine gate_dst (N := 1) rfl ?_); refine box_event ?hg (N := 1) ?hd (cs := #[.slice A0 b.length c0, .slice A1 d.length c1, .slice A2 u.length c2, .slice A3 p.length c3]) (t := 27) ?hr ?_; (case hd => rfl); (case hg => rfl); (case hr => first | (go_simp; done) | (go_simp; rfl)); intro gb1 hg w_1 hbox hb; have BK1 := Aside0.mk hbox; have GE1 := Aside0.mk (by rw [hg]; exact below_size (by repeat (first | (with_reducible first | exact HB.out | apply below_alloc | apply pw_below_drewN | apply below_drew1) | exact HB.out)) : w.heap.size ≤ gb1); replace HB := Aside0.mk (below_step (by repeat (first | (with_reducible first | exact HB.out | apply below_alloc | apply pw_below_drewN | apply below_drew1) | exact HB.out)) hb); clear hb hbox hg) | ((with_reducible refine gate_dst (N := 2) rfl ?_); refine box_event ?hg (N := 2) ?hd (cs := #[.slice none 0 0, .slice none 0 0, .slice none 0 0, .slice none 0 0]) (t := 27) ?hr ?_; (case hd => rfl); (case hg => rfl); (case hr => first | (go_simp; done) | (go_simp; rfl)); intro gb2 hg w_2 hbox hb; have BK2 := Aside0.mk hbox; have GE2 := Aside0.mk (by rw [hg]; exact below_size (by repeat (first | (with_reducible first | exact HB.out | apply below_alloc | apply pw_below_drewN | apply below_drew1) | exact HB.out)) : w.heap.size ≤ gb2); have N12 := Aside0.mk (by rw [hg]; exact Nat.ne_of_lt (blk_lt (by first | exact BK1.out | exact blk_drew BK1.out | exact blk_drewN BK1.out _)) : gb1 ≠ gb2); replace BK1 := Aside0.mk (blk_below (by first | exact BK1.out | exact blk_drew BK1.out | exact blk_drewN BK1.out _) hb); replace HB := Aside0.mk (below_step (by repeat (first | (with_reducible first | exact HB.out | apply below_alloc | apply pw_below_drewN | apply below_drew1) | exact HB.out)) hb); have hn1 := N12.out; have hn2 := N12.out.symm; have hca0 := (blk_cell BK1.out 0).trans rfl; have hfa0 := blk_frozen BK1.out 0; have hca1 := (blk_cell BK1.out 1).trans rfl; have hfa1 := blk_frozen BK1.out 1; have hca2 := (blk_cell BK1.out 2).trans rfl; have hfa2 := blk_frozen BK1.out 2; have hca3 := (blk_cell BK1.out 3).trans rfl; have hfa3 := blk_frozen BK1.out 3; clear hb hbox hg) | ((with_reducible refine gate_callee (f := 34) rfl ?_); refine goesL_ (some 8) rfl rfl Try.func34 (by kernel_rfl) rfl #[.agg #[.slice A0 b.length c0, .slice A1 d.length c1, .slice A2 u.length c2, .slice A3 p.length c3]] rfl (by (try simp only [List.map_toArray, List.map_cons, List.map_nil]); first | done | rfl) ?_; (with_reducible refine (impl_IsFocus.calls k _ _ b _ _ d _ _ u _ _ p false _ ?s0 HC0.out ?s1 HC1.out ?s2 HC2.out ?s3 HC3.out At.out).mono ?_); (case s0 => repeat (first | exact (Kd.C_below HR0.out HB.out) | (with_reducible refine Kd.C_alloc ?_ _) | (with_reducible refine Kd.C_drewN ?_ _) | (with_reducible refine Kd.C_drew ?_))); (case s1 => repeat (first | exact (Kd.C_below HR1.out HB.out) | (with_reducible refine Kd.C_alloc ?_ _) | (with_reducible refine Kd.C_drewN ?_ _) | (with_reducible refine Kd.C_drew ?_))); (case s2 => repeat (first | exact (Kd.C_below HR2.out HB.out) | (with_reducible refine Kd.C_alloc ?_ _) | (with_reducible refine Kd.C_drewN ?_ _) | (with_reducible refine Kd.C_drew ?_))); (case s3 => repeat (first | exact (Kd.C_below HR3.out HB.out) | (with_reducible refine Kd.C_alloc ?_ _) | (with_reducible refine Kd.C_drewN ?_ _) | (with_reducible refine Kd.C_drew ?_))); rintro e w1 ⟨rfl, hb⟩; refine ⟨_, rfl, ?_⟩; clear hca0 hfa0 hca1 hfa1 hca2 hfa2 hca3 hfa3; replace BK1 := Aside0.mk (blk_below (by first | exact BK1.out | exact blk_drew BK1.out | exact blk_drewN BK1.out _) hb); replace BK2 := Aside0.mk (blk_below (by first | exact BK2.out | exact blk_drew BK2.out | exact blk_drewN BK2.out _) hb); replace HB := Aside0.mk (below_step (by repeat (first | (with_reducible first | exact HB.out | apply below_alloc | apply pw_below_drewN | apply below_drew1) | exact HB.out)) hb); clear hb; have hcb0 := (blk_cell BK2.out 0).trans rfl; have hfb0 := blk_frozen BK2.out 0; have hcb1 := (blk_cell BK2.out 1).trans rfl; have hfb1 := blk_frozen BK2.out 1; have hcb2 := (blk_cell BK2.out 2).trans rfl; have hfb2 := blk_frozen BK2.out 2; have hcb3 := (blk_cell BK2.out 3).trans rfl; have hfb3 := blk_frozen BK2.out 3))
    refine bodyPost_ret (results_ctt rfl _ _ gb2 27 #[.slice none 0 0, .slice none 0 0, .slice none 0 0, .slice none 0 0] (0, 0) _ rfl (by have h_ := set4_at BK2.out (.slice none 0 0) (.slice none 0 0) (.slice none 0 0) (.slice none 0 0); unfold set4 at h_; exact h_) hu rfl (by kernel_rfl)) rfl ?_
    have hbb := set4_below HB.out GE2.out (.slice none 0 0) (.slice none 0 0) (.slice none 0 0) (.slice none 0 0)
    unfold set4 at hbb
    exact ⟨_, _, _, _, rfl, Kd.R_nil _ _ _ _ _, Kd.R_nil _ _ _ _ _, Kd.R_nil _ _ _ _ _, Kd.R_nil _ _ _ _ _, hbb⟩
  · rw [if_pos rfl] at h
    obtain ⟨⟨b1, d1, u1, p1⟩, ho, h⟩ := Option.bind_eq_some_iff.mp h
    dsimp only at h
    have Ao := Aside0.mk ho
    have HH := Aside0.mk h
    clear ho h
    go_enter Try.func11, Try.ntmps11
    go_upto_region 4 with (first | ((with_reducible refine gate_dst (N := 1) rfl ?_); refine box_event ?hg (N := 1) ?hd (cs := #[.slice A0 b.length c0, .slice A1 d.length c1, .slice A2 u.length c2, .slice A3 p.length c3]) (t := 27) ?hr ?_; (case hd => rfl); (case hg => rfl); (case hr => first | (go_simp; done) | (go_simp; rfl)); intro gb1 hg w_1 hbox hb; have BK1 := Aside0.mk hbox; have GE1 := Aside0.mk (by rw [hg]; exact below_size (by repeat (first | (with_reducible first | exact HB.out | apply below_alloc | apply pw_below_drewN | apply below_drew1) | exact HB.out)) : w.heap.size ≤ gb1); replace HB := Aside0.mk (below_step (by repeat (first | (with_reducible first | exact HB.out | apply below_alloc | apply pw_below_drewN | apply below_drew1) | exact HB.out)) hb); clear hb hbox hg) | ((with_reducible refine gate_dst (N := 2) rfl ?_); refine box_event ?hg (N := 2) ?hd (cs := #[.slice none 0 0, .slice none 0 0, .slice none 0 0, .slice none 0 0]) (t := 27) ?hr ?_; (case hd => rfl); (case hg => rfl); (case hr => first | (go_simp; done) | (go_simp; rfl)); intro gb2 hg w_2 hbox hb; have BK2 := Aside0.mk hbox; have GE2 := Aside0.mk (by rw [hg]; exact below_size (by repeat (first | (with_reducible first | exact HB.out | apply below_alloc | apply pw_below_drewN | apply below_drew1) | exact HB.out)) : w.heap.size ≤ gb2); have N12 := Aside0.mk (by rw [hg]; exact Nat.ne_of_lt (blk_lt (by first | exact BK1.out | exact blk_drew BK1.out | exact blk_drewN BK1.out _)) : gb1 ≠ gb2); replace BK1 := Aside0.mk (blk_below (by first | exact BK1.out | exact blk_drew BK1.out | exact blk_drewN BK1.out _) hb); replace HB := Aside0.mk (below_step (by repeat (first | (with_reducible first | exact HB.out | apply below_alloc | apply pw_below_drewN | apply below_drew1) | exact HB.out)) hb); have hn1 := N12.out; have hn2 := N12.out.symm; have hca0 := (blk_cell BK1.out 0).trans rfl; have hfa0 := blk_frozen BK1.out 0; have hca1 := (blk_cell BK1.out 1).trans rfl; have hfa1 := blk_frozen BK1.out 1; have hca2 := (blk_cell BK1.out 2).trans rfl; have hfa2 := blk_frozen BK1.out 2; have hca3 := (blk_cell BK1.out 3).trans rfl; have hfa3 := blk_frozen BK1.out 3; clear hb hbox hg) | ((with_reducible refine gate_callee (f := 34) rfl ?_); refine goesL_ (some 8) rfl rfl Try.func34 (by kernel_rfl) rfl #[.agg #[.slice A0 b.length c0, .slice A1 d.length c1, .slice A2 u.length c2, .slice A3 p.length c3]] rfl (by (try simp only [List.map_toArray, List.map_cons, List.map_nil]); first | done | rfl) ?_; (with_reducible refine (impl_IsFocus.calls k _ _ b _ _ d _ _ u _ _ p true _ ?s0 HC0.out ?s1 HC1.out ?s2 HC2.out ?s3 HC3.out At.out).mono ?_); (case s0 => repeat (first | exact (Kd.C_below HR0.out HB.out) | (with_reducible refine Kd.C_alloc ?_ _) | (with_reducible refine Kd.C_drewN ?_ _) | (with_reducible refine Kd.C_drew ?_))); (case s1 => repeat (first | exact (Kd.C_below HR1.out HB.out) | (with_reducible refine Kd.C_alloc ?_ _) | (with_reducible refine Kd.C_drewN ?_ _) | (with_reducible refine Kd.C_drew ?_))); (case s2 => repeat (first | exact (Kd.C_below HR2.out HB.out) | (with_reducible refine Kd.C_alloc ?_ _) | (with_reducible refine Kd.C_drewN ?_ _) | (with_reducible refine Kd.C_drew ?_))); (case s3 => repeat (first | exact (Kd.C_below HR3.out HB.out) | (with_reducible refine Kd.C_alloc ?_ _) | (with_reducible refine Kd.C_drewN ?_ _) | (with_reducible refine Kd.C_drew ?_))); rintro e w1 ⟨rfl, hb⟩; refine ⟨_, rfl, ?_⟩; clear hca0 hfa0 hca1 hfa1 hca2 hfa2 hca3 hfa3; replace BK1 := Aside0.mk (blk_below (by first | exact BK1.out | exact blk_drew BK1.out | exact blk_drewN BK1.out _) hb); replace BK2 := Aside0.mk (blk_below (by first | exact BK2.out | exact blk_drew BK2.out | exact blk_drewN BK2.out _) hb); replace HB := Aside0.mk (below_step (by repeat (first | (with_reducible first | exact HB.out | apply below_alloc | apply pw_below_drewN | apply below_drew1) | exact HB.out)) hb); clear hb; have hca0 := (blk_cell BK1.out 0).trans rfl; have hfa0 := blk_frozen BK1.out 0; have hca1 := (blk_cell BK1.out 1).trans rfl; have hfa1 := blk_frozen BK1.out 1; have hca2 := (blk_cell BK1.out 2).trans rfl; have hfa2 := blk_frozen BK1.out 2; have hca3 := (blk_cell BK1.out 3).trans rfl; have hfa3 := blk_frozen BK1.out 3) | ((with_reducible refine gate_callee (f := 35) rfl ?_); refine goesL_ (some 12) rfl rfl Try.func35 (by kernel_rfl) rfl #[.agg #[.slice A0 b.length c0, .slice A1 d.length c1, .slice A2 u.length c2, .slice A3 p.length c3]] rfl (by (try simp only [List.map_toArray, List.map_cons, List.map_nil]); first | done | rfl) ?_; (with_reducible refine (impl_Focus_own.calls _ _ b _ _ d _ _ u _ _ p b1 d1 u1 p1 _ ?s0 HC0.out ?s1 HC1.out ?s2 HC2.out ?s3 HC3.out Ao.out).mono ?_); (case s0 => repeat (first | exact (Kd.C_below HR0.out HB.out) | (with_reducible refine Kd.C_alloc ?_ _) | (with_reducible refine Kd.C_drewN ?_ _) | (with_reducible refine Kd.C_drew ?_))); (case s1 => repeat (first | exact (Kd.C_below HR1.out HB.out) | (with_reducible refine Kd.C_alloc ?_ _) | (with_reducible refine Kd.C_drewN ?_ _) | (with_reducible refine Kd.C_drew ?_))); (case s2 => repeat (first | exact (Kd.C_below HR2.out HB.out) | (with_reducible refine Kd.C_alloc ?_ _) | (with_reducible refine Kd.C_drewN ?_ _) | (with_reducible refine Kd.C_drew ?_))); (case s3 => repeat (first | exact (Kd.C_below HR3.out HB.out) | (with_reducible refine Kd.C_alloc ?_ _) | (with_reducible refine Kd.C_drewN ?_ _) | (with_reducible refine Kd.C_drew ?_))); rintro e w2 ⟨v0, v1, v2, v3, rfl, ho0, ho1, ho2, ho3, hb⟩; refine ⟨_, rfl, ?_⟩; clear hca0 hfa0 hca1 hfa1 hca2 hfa2 hca3 hfa3; have HV : Aside0 (FoV w2 w.heap.size v0 v1 v2 v3 b1 d1 u1 p1) := ⟨FoV.mk (Kd.R_lower ho0 (below_size (by repeat (first | (with_reducible first | exact HB.out | apply below_alloc | apply pw_below_drewN | apply below_drew1) | exact HB.out)))) (Kd.R_lower ho1 (below_size (by repeat (first | (with_reducible first | exact HB.out | apply below_alloc | apply pw_below_drewN | apply below_drew1) | exact HB.out)))) (Kd.R_lower ho2 (below_size (by repeat (first | (with_reducible first | exact HB.out | apply below_alloc | apply pw_below_drewN | apply below_drew1) | exact HB.out)))) (Kd.R_lower ho3 (below_size (by repeat (first | (with_reducible first | exact HB.out | apply below_alloc | apply pw_below_drewN | apply below_drew1) | exact HB.out))))⟩; replace BK1 := Aside0.mk (blk_below (by first | exact BK1.out | exact blk_drew BK1.out | exact blk_drewN BK1.out _) hb); replace BK2 := Aside0.mk (blk_below (by first | exact BK2.out | exact blk_drew BK2.out | exact blk_drewN BK2.out _) hb); replace HB := Aside0.mk (below_step (by repeat (first | (with_reducible first | exact HB.out | apply below_alloc | apply pw_below_drewN | apply below_drew1) | exact HB.out)) hb); clear hb ho0 ho1 ho2 ho3; obtain ⟨B0, e0, q0⟩ := Kd.R_slice HV.out.r0; obtain ⟨B1, e1, q1⟩ := Kd.R_slice HV.out.r1; obtain ⟨B2, e2, q2⟩ := Kd.R_slice HV.out.r2; obtain ⟨B3, e3, q3⟩ := Kd.R_slice HV.out.r3; subst q0 q1 q2 q3) | ((with_reducible refine gate_dst (N := 5) rfl ?_); refine box_event ?hg (N := 5) ?hd (cs := #[.slice none 0 0, .slice none 0 0, .slice none 0 0, .slice none 0 0]) (t := 27) ?hr ?_; (case hd => rfl); (case hg => rfl); (case hr => first | (go_simp; done) | (go_simp; rfl)); intro gb5 hg w_5 hbox hb; have BK5 := Aside0.mk hbox; have GE5 := Aside0.mk (by rw [hg]; exact below_size (by repeat (first | (with_reducible first | exact HB.out | apply below_alloc | apply pw_below_drewN | apply below_drew1) | exact HB.out)) : w.heap.size ≤ gb5); have N15 := Aside0.mk (by rw [hg]; exact Nat.ne_of_lt (blk_lt (by first | exact BK1.out | exact blk_drew BK1.out | exact blk_drewN BK1.out _)) : gb1 ≠ gb5); have N25 := Aside0.mk (by rw [hg]; exact Nat.ne_of_lt (blk_lt (by first | exact BK2.out | exact blk_drew BK2.out | exact blk_drewN BK2.out _)) : gb2 ≠ gb5); replace HV := Aside0.mk (FoV.below (by (with_reducible repeat (first | apply FoV.drewN | apply FoV.drew)); exact HV.out) hb); replace BK1 := Aside0.mk (blk_below (by first | exact BK1.out | exact blk_drew BK1.out | exact blk_drewN BK1.out _) hb); replace BK2 := Aside0.mk (blk_below (by first | exact BK2.out | exact blk_drew BK2.out | exact blk_drewN BK2.out _) hb); replace HB := Aside0.mk (below_step (by repeat (first | (with_reducible first | exact HB.out | apply below_alloc | apply pw_below_drewN | apply below_drew1) | exact HB.out)) hb); have hcd0 := (blk_cell BK5.out 0).trans rfl; have hfd0 := blk_frozen BK5.out 0; have hcd1 := (blk_cell BK5.out 1).trans rfl; have hfd1 := blk_frozen BK5.out 1; have hcd2 := (blk_cell BK5.out 2).trans rfl; have hfd2 := blk_frozen BK5.out 2; have hcd3 := (blk_cell BK5.out 3).trans rfl; have hfd3 := blk_frozen BK5.out 3; clear hb hbox hg))
    clear hcd0 hfd0 hcd1 hfd1 hcd2 hfd2 hcd3 hfd3
    have n0_ := Aside0.mk (set4_at BK5.out (.slice B0 b1.length e0) (.slice B1 d1.length e1) (.slice B2 u1.length e2) (.slice B3 p1.length e3))
    have n1_ := Aside0.mk (FoV.set4 HV.out BK5.out (by decide) (by decide) (.slice B0 b1.length e0) (.slice B1 d1.length e1) (.slice B2 u1.length e2) (.slice B3 p1.length e3))
    have n2_ := Aside0.mk ((set4_far _ gb5 (.slice B0 b1.length e0) (.slice B1 d1.length e1) (.slice B2 u1.length e2) (.slice B3 p1.length e3) gb1 N15.out).trans BK1.out)
    have n3_ := Aside0.mk ((set4_far _ gb5 (.slice B0 b1.length e0) (.slice B1 d1.length e1) (.slice B2 u1.length e2) (.slice B3 p1.length e3) gb2 N25.out).trans BK2.out)
    have n4_ := Aside0.mk (set4_below HB.out GE5.out (.slice B0 b1.length e0) (.slice B1 d1.length e1) (.slice B2 u1.length e2) (.slice B3 p1.length e3))
    clear BK5 HV BK1 BK2 HB
    have BK5 := n0_
    have HV := n1_
    have BK1 := n2_
    have BK2 := n3_
    have HB := n4_
    clear n0_ n1_ n2_ n3_ n4_
    unfold set4 at BK5 HV BK1 BK2 HB
    generalize ((((w_5.setCell ⟨gb5, 0, none⟩ (.slice B0 b1.length e0)).setCell ⟨gb5, 1, none⟩ (.slice B1 d1.length e1)).setCell ⟨gb5, 2, none⟩ (.slice B2 u1.length e2)).setCell ⟨gb5, 3, none⟩ (.slice B3 p1.length e3)) = w5 at BK5 HV BK1 BK2 HB ⊢
    have h := HH.out
    clear HH
    by_cases ce : 0 < p1.length ∧ b1.length ≤ 1000 ∧ rd p1 0 = (b1.length : Int)
    · rw [if_pos ce] at h
      simp only [Option.some.injEq, Prod.mk.injEq] at h
      obtain ⟨rfl, rfl, rfl, rfl, rfl, rfl⟩ := h
      obtain ⟨g3, c3', e3', _⟩ := Kd.R_form HV.out.r3 ce.1
      injection e3' with x3 _ _
      subst x3
      have HX : Aside0 (w5.cell? ⟨g3, 0, none⟩ = some (.int .i64 (b1.length : Int))) := ⟨by have h_ := (Kd.R_celln 0 HV.out.r3 0 (by decide) (by exact_mod_cast ce.1)).1; rw [show rdOf 0 p1 0 = rd p1 0 from rfl, ce.2.2] at h_; exact h_⟩
      go_wp2_with (first | ((with_reducible refine gate_callee (f := 36) rfl ?_); refine goesL_ (some 13) rfl rfl Try.func36 (by kernel_rfl) rfl #[.pointer (some ⟨gb5, 0, none⟩)] rfl (by (try simp only [List.map_toArray, List.map_cons, List.map_nil]); first | done | rfl) ?_; (with_reducible refine (impl_Focus_step.callsEnd _ _ gb5 g3 b1.length e0 p1.length e3 B0 _ rfl rfl ce.1 ce.2.1 BK5.out HX.out).mono ?_); rintro e w6 ⟨rfl, hb⟩; refine ⟨_, rfl, ?_⟩; replace BK2 := Aside0.mk (blk_below (by first | exact BK2.out | exact blk_drew BK2.out | exact blk_drewN BK2.out _) hb); replace HB := Aside0.mk (below_step (by repeat (first | (with_reducible first | exact HB.out | apply below_alloc | apply pw_below_drewN | apply below_drew1) | exact HB.out)) hb); clear hb; have hcb0 := (blk_cell BK2.out 0).trans rfl; have hfb0 := blk_frozen BK2.out 0; have hcb1 := (blk_cell BK2.out 1).trans rfl; have hfb1 := blk_frozen BK2.out 1; have hcb2 := (blk_cell BK2.out 2).trans rfl; have hfb2 := blk_frozen BK2.out 2; have hcb3 := (blk_cell BK2.out 3).trans rfl; have hfb3 := blk_frozen BK2.out 3))
      refine bodyPost_ret (results_ctt rfl _ _ gb2 27 #[.slice none 0 0, .slice none 0 0, .slice none 0 0, .slice none 0 0] (0, 0) _ rfl (by have h_ := set4_at BK2.out (.slice none 0 0) (.slice none 0 0) (.slice none 0 0) (.slice none 0 0); unfold set4 at h_; exact h_) hu rfl (by kernel_rfl)) rfl ?_
      have hbb := set4_below HB.out GE2.out (.slice none 0 0) (.slice none 0 0) (.slice none 0 0) (.slice none 0 0)
      unfold set4 at hbb
      exact ⟨_, _, _, _, rfl, Kd.R_nil _ _ _ _ _, Kd.R_nil _ _ _ _ _, Kd.R_nil _ _ _ _ _, Kd.R_nil _ _ _ _ _, hbb⟩
    · rw [if_neg ce] at h
      obtain ⟨⟨d2, u2, p2, j⟩, hs, h⟩ := Option.bind_eq_some_iff.mp h
      simp only [Option.some.injEq, Prod.mk.injEq] at h
      obtain ⟨rfl, rfl, rfl, rfl, rfl, rfl⟩ := h
      have hj : decide (j < 0) = false := decide_eq_false (by have := impl_StepFocus.rank hs; omega)
      obtain ⟨hl, hl0, hl1, hl2, hl3⟩ := stepF_len hs
      have HS := Aside0.mk hs
      have HL := Aside0.mk hl
      obtain ⟨g0, p0, g1, p1', g2, p2', g3, p3', e0', e1', e2', e3', hF⟩ := FoR.of HV.out.r0 HV.out.r1 HV.out.r2 HV.out.r3 hl0 hl1 hl2 hl3
      injection e0' with x0 _ z0
      injection e1' with x1 _ z1
      injection e2' with x2 _ z2
      injection e3' with x3 _ z3
      subst x0 z0 x1 z1 x2 z2 x3 z3
      have HF := Aside0.mk hF
      clear hs hl hl0 hl1 hl2 hl3 hF ce HV
      go_wp2_with (first | ((with_reducible refine gate_callee (f := 36) rfl ?_); refine goesL_ (some 13) rfl rfl Try.func36 (by kernel_rfl) rfl #[.pointer (some ⟨gb5, 0, none⟩)] rfl (by (try simp only [List.map_toArray, List.map_cons, List.map_nil]); first | done | rfl) ?_; (with_reducible refine (impl_Focus_step.calls w gb5 g0 e0 g1 e1 g2 e2 g3 e3 b1 d1 u1 p1 d2 u2 p2 j _ BK5.out HF.out HB.out HS.out).mono ?_); rintro e w6 ⟨rfl, hk1, hk2, hk3, hk4⟩; refine ⟨_, rfl, ?_⟩; have a2_ := FoR.apart HF.out BK2.out (by decide) (by decide); have a1_ := FoR.apart HF.out BK1.out (by decide) (by decide); replace BK2 := Aside0.mk (blk_kept BK2.out hk3 (fun e => by rcases e with e | e | e; exact a2_.2.1 e; exact a2_.2.2.1 e; exact a2_.2.2.2 e)); replace BK1 := Aside0.mk (blk_kept BK1.out hk3 (fun e => by rcases e with e | e | e; exact a1_.2.1 e; exact a1_.2.2.1 e; exact a1_.2.2.2 e)); replace BK5 := Aside0.mk (hk1.trans BK5.out); replace HF := Aside0.mk hk2; replace HB := Aside0.mk hk4; clear hk1 hk2 hk3 hk4 a1_ a2_))
      have n0_ := Aside0.mk (blk_drew BK1.out)
      have n1_ := Aside0.mk (blk_drew BK2.out)
      have n2_ := Aside0.mk (blk_drew BK5.out)
      have n3_ := Aside0.mk (FoR.drew HF.out)
      have n4_ := Aside0.mk (below_drew1 HB.out)
      clear BK1 BK2 BK5 HF HB
      have BK1 := n0_
      have BK2 := n1_
      have BK5 := n2_
      have HF := n3_
      have HB := n4_
      clear n0_ n1_ n2_ n3_ n4_
      refine start_ (n := 10) (S := fun w' => w'.cell? ⟨gb5, 0, none⟩ = some (.slice (some ⟨g0, 0, none⟩) b1.length e0) ∧ w'.cell? ⟨gb5, 1, none⟩ = some (.slice (some ⟨g1, 0, none⟩) d1.length e1) ∧ w'.cell? ⟨gb5, 2, none⟩ = some (.slice (some ⟨g2, 0, none⟩) u1.length e2) ∧ w'.cell? ⟨gb5, 3, none⟩ = some (.slice (some ⟨g3, 0, none⟩) p1.length e3) ∧ w'.cell? ⟨gb1, 0, none⟩ = some (.slice A0 b.length c0)) (ds := []) #[false, false, false, false, false, false, false, false, false, false] (by kernel_rfl) rfl rfl ⟨(blk_cell BK5.out 0).trans rfl, (blk_cell BK5.out 1).trans rfl, (blk_cell BK5.out 2).trans rfl, (blk_cell BK5.out 3).trans rfl, (blk_cell BK1.out 0).trans rfl⟩ (fun hHeld => ?_)
      generalize World.drew _ = w7 at BK1 BK2 BK5 HF HB hHeld ⊢
      have hcb0 := (blk_cell BK2.out 0).trans rfl
      have hfb0 := blk_frozen BK2.out 0
      have hcb1 := (blk_cell BK2.out 1).trans rfl
      have hfb1 := blk_frozen BK2.out 1
      have hcb2 := (blk_cell BK2.out 2).trans rfl
      have hfb2 := blk_frozen BK2.out 2
      have hcb3 := (blk_cell BK2.out 3).trans rfl
      have hfb3 := blk_frozen BK2.out 3
      have h25 := N25.out
      have h25' := N25.out.symm
      have h12 := N12.out
      have h12' := N12.out.symm
      refine pure_ (i := 1) (N := some 18) (v := ?_) (a' := ?_) #[false, true, false, false, false, false, false, false, false, false] rfl rfl (by kernel_rfl) (fun _ _ _ h => h) (Or.inl ⟨by rfl, ?_⟩) ?_ ?_
      rotate_left
      · intro w'
        go_simp
        with_reducible rfl
      rotate_left
      · simp only [Act.put, List.setIfInBounds_toArray, List.set_cons_zero, List.set_cons_succ, i64_w, i32_w]
        rfl
      refine pure_ (i := 5) (N := some 22) (v := ?_) (a' := ?_) #[false, true, false, false, false, true, false, false, false, false] rfl rfl (by kernel_rfl) (fun _ _ _ h => h) (Or.inl ⟨by rfl, ?_⟩) ?_ ?_
      rotate_left
      · intro w'
        go_simp
        with_reducible rfl
      rotate_left
      · simp only [Act.put, List.setIfInBounds_toArray, List.set_cons_zero, List.set_cons_succ, i64_w, i32_w]
        rfl
      refine take_ (i := 0) (N := some 17) (v := ?_) (a' := ?_) #[true, true, false, false, false, true, false, false, false, false] rfl rfl (by kernel_rfl) (fun _ _ _ h => h) (Or.inl ⟨by rfl, ?_⟩) hHeld ?_ ?_
      rotate_left
      · rintro w' ⟨s0, s1, s2, s3, s4⟩
        go_simp
        with_reducible rfl
      rotate_left
      · simp only [Act.put, List.setIfInBounds_toArray, List.set_cons_zero, List.set_cons_succ, i64_w, i32_w]
        rfl
      refine take_ (i := 2) (N := some 19) (v := ?_) (a' := ?_) #[true, true, true, false, false, true, false, false, false, false] rfl rfl (by kernel_rfl) (fun _ _ _ h => h) (Or.inl ⟨by rfl, ?_⟩) hHeld ?_ ?_
      rotate_left
      · rintro w' ⟨s0, s1, s2, s3, s4⟩
        go_simp
        with_reducible rfl
      rotate_left
      · simp only [Act.put, List.setIfInBounds_toArray, List.set_cons_zero, List.set_cons_succ, i64_w, i32_w]
        rfl
      refine pure_ (i := 3) (N := some 20) (v := ?_) (a' := ?_) #[true, true, true, true, false, true, false, false, false, false] rfl rfl (by kernel_rfl) (fun _ _ _ h => h) (Or.inl ⟨by rfl, ?_⟩) ?_ ?_
      rotate_left
      · intro w'
        go_simp
        with_reducible rfl
      rotate_left
      · simp only [Act.put, List.setIfInBounds_toArray, List.set_cons_zero, List.set_cons_succ, i64_w, i32_w]
        rfl
      refine pure_ (i := 4) (N := some 21) (v := ?_) (a' := ?_) #[true, true, true, true, true, true, false, false, false, false] rfl rfl (by kernel_rfl) (fun _ _ _ h => h) (Or.inl ⟨by rfl, ?_⟩) ?_ ?_
      rotate_left
      · intro w'
        go_simp
        with_reducible rfl
      rotate_left
      · simp only [Act.put, List.setIfInBounds_toArray, List.set_cons_zero, List.set_cons_succ, i64_w, i32_w]
        rfl
      refine pure_ (i := 6) (N := some 23) (v := ?_) (a' := ?_) #[true, true, true, true, true, true, true, false, false, false] rfl rfl (by kernel_rfl) (fun _ _ _ h => h) (Or.inl ⟨by rfl, ?_⟩) ?_ ?_
      rotate_left
      · intro w'
        go_simp
        with_reducible rfl
      rotate_left
      · simp only [Act.put, List.setIfInBounds_toArray, List.set_cons_zero, List.set_cons_succ, i64_w, i32_w]
        rfl
      refine one_ (i := 7) (N := none) #[true, true, true, true, true, true, true, true, false, false] rfl rfl (by kernel_rfl) (by decide) (fun K hK => ?_)
      refine skip_ (w1 := ?_) (by rfl) rfl ?_ ?_
      rotate_left
      · go_simp
        rfl
      refine hK.out _ _ ⟨(blk_cell ((set4_far w7 gb2 (.slice (some ⟨g0, 0, none⟩) b1.length e0) (.slice (some ⟨g1, 0, none⟩) d1.length e1) (.slice (some ⟨g2, 0, none⟩) u1.length e2) (.slice (some ⟨g3, 0, none⟩) p1.length e3) gb5 h25').trans BK5.out) 0).trans rfl, (blk_cell ((set4_far w7 gb2 (.slice (some ⟨g0, 0, none⟩) b1.length e0) (.slice (some ⟨g1, 0, none⟩) d1.length e1) (.slice (some ⟨g2, 0, none⟩) u1.length e2) (.slice (some ⟨g3, 0, none⟩) p1.length e3) gb5 h25').trans BK5.out) 1).trans rfl, (blk_cell ((set4_far w7 gb2 (.slice (some ⟨g0, 0, none⟩) b1.length e0) (.slice (some ⟨g1, 0, none⟩) d1.length e1) (.slice (some ⟨g2, 0, none⟩) u1.length e2) (.slice (some ⟨g3, 0, none⟩) p1.length e3) gb5 h25').trans BK5.out) 2).trans rfl, (blk_cell ((set4_far w7 gb2 (.slice (some ⟨g0, 0, none⟩) b1.length e0) (.slice (some ⟨g1, 0, none⟩) d1.length e1) (.slice (some ⟨g2, 0, none⟩) u1.length e2) (.slice (some ⟨g3, 0, none⟩) p1.length e3) gb5 h25').trans BK5.out) 3).trans rfl, (blk_cell ((set4_far w7 gb2 (.slice (some ⟨g0, 0, none⟩) b1.length e0) (.slice (some ⟨g1, 0, none⟩) d1.length e1) (.slice (some ⟨g2, 0, none⟩) u1.length e2) (.slice (some ⟨g3, 0, none⟩) p1.length e3) gb1 h12).trans BK1.out) 0).trans rfl⟩ (fun hHeld => ?_)
      clear hK K
      refine pure_ (i := 8) (N := some 3) (v := ?_) (a' := ?_) #[true, true, true, true, true, true, true, true, true, false] rfl rfl (by kernel_rfl) (fun _ _ _ h => h) (Or.inl ⟨by rfl, ?_⟩) ?_ ?_
      rotate_left
      · intro w'
        go_simp
        with_reducible rfl
      rotate_left
      · simp only [Act.put, List.setIfInBounds_toArray, List.set_cons_zero, List.set_cons_succ, i64_w, i32_w]
        rfl
      refine pure_ (i := 9) (N := some 4) (v := ?_) (a' := ?_) #[true, true, true, true, true, true, true, true, true, true] rfl rfl (by kernel_rfl) (fun _ _ _ h => h) (Or.inl ⟨by rfl, ?_⟩) ?_ ?_
      rotate_left
      · intro w'
        go_simp
        with_reducible rfl
      rotate_left
      · simp only [Act.put, List.setIfInBounds_toArray, List.set_cons_zero, List.set_cons_succ, i64_w, i32_w]
        rfl
      refine done_ (by kernel_rfl) ?_
      have hv := FoR.back HF.out
      rw [HL.out.1, HL.out.2.1, HL.out.2.2] at hv
      go_wp2
      refine bodyPost_ret (results_ctt rfl _ _ gb2 27 #[.slice (some ⟨g0, 0, none⟩) b1.length e0, .slice (some ⟨g1, 0, none⟩) d1.length e1, .slice (some ⟨g2, 0, none⟩) u1.length e2, .slice (some ⟨g3, 0, none⟩) p1.length e3] (0, 0) _ rfl (by have h_ := set4_at BK2.out (.slice (some ⟨g0, 0, none⟩) b1.length e0) (.slice (some ⟨g1, 0, none⟩) d1.length e1) (.slice (some ⟨g2, 0, none⟩) u1.length e2) (.slice (some ⟨g3, 0, none⟩) p1.length e3); unfold set4 at h_; exact h_) hu rfl (by kernel_rfl)) rfl ?_
      have hbb := set4_below HB.out GE2.out (.slice (some ⟨g0, 0, none⟩) b1.length e0) (.slice (some ⟨g1, 0, none⟩) d1.length e1) (.slice (some ⟨g2, 0, none⟩) u1.length e2) (.slice (some ⟨g3, 0, none⟩) p1.length e3)
      have hv2 := FoV.set4 (FoV.mk hv.1 hv.2.1 hv.2.2.1 hv.2.2.2) BK2.out (by decide) (by decide) (.slice (some ⟨g0, 0, none⟩) b1.length e0) (.slice (some ⟨g1, 0, none⟩) d1.length e1) (.slice (some ⟨g2, 0, none⟩) u1.length e2) (.slice (some ⟨g3, 0, none⟩) p1.length e3)
      unfold set4 at hbb hv2
      exact ⟨_, _, _, _, rfl, hv2.r0, hv2.r1, hv2.r2, hv2.r3, hbb⟩
end Go.Proofs.Ytpfakdhfffehaaa.MFnExactStepFocus
