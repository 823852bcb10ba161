import Derived.Test.YtpfakdhfffehaaaMFnExactStepFocusx0
import Derived.Test.YtpfakdhfffehaaaMFnExactStepFocusx1
namespace Go.Proofs.Ytpfakdhfffehaaa.MFnExactStepFocus
open Go.RowKit Go.Proofs.YtpfakdhfffehaaaW.PrintWords Go.Proofs.YtpfakdhfffehaaaW.PrintLast Go.Proofs.YtpfakdhfffehaaaW.PrintMore
attribute [local go_sem] max2_int min2_int max_two min_two max_three min_three max_four min_four   
set_option linter.unusedVariables false
set_option linter.unusedSimpArgs false
def spec_foOwn.f (l0_0 : List Int) (l0_1 : List Int) (l0_2 : List Bool) (l0_3 : List Int) : Option (List Int × List Int × List Bool × List Int) := (spec_l1Own.f l0_0).bind fun t124 => ((spec_l1Own.f l0_1).bind fun t127 => ((some (([] : List Bool) : List Bool)).bind fun y130 => (if y130.length + l0_2.length < 140737488355328 then ((spec_l1Own.f l0_3).bind fun t136 => (some (t124, t127, (y130 ++ l0_2), t136))) else (none))))
def spec_foOwn.T1 : Bool × List (List Nat × List Nat) := (true, [([], []), ([0], [0]), ([1], [1]), ([], []), ([3], [3]), ([4, 2], [4]), ([], []), ([], []), ([7], [7]), ([6, 8, 5], [6, 8]), ([], []), ([10], [10]), ([11, 9], [11]), ([2, 5, 9, 12], [2, 5, 9, 12]), ([13, 12, 0, 1, 2, 3, 4, 5, 6, 7, 8, 9, 10, 11, 12, 13], [13])])
def spec_foOwn.B1 : List Nat := [0, 1, 3, 0, 8, 31, 0, 0, 128, 511, 0, 1024, 4095, 8191, 16383]
theorem spec_foOwn.tab1 : rtab .any (opsOf Try.f63 1) = spec_foOwn.T1 := by kernel_rfl
theorem spec_foOwn.bits1 : waitsOk spec_foOwn.T1.2 spec_foOwn.B1 = true := by kernel_rfl
set_option maxHeartbeats 8000000 in
set_option maxRecDepth 100000 in
theorem spec_foOwn.calls (A0_0 : Option Addr) (c0_0 : Nat) (l0_0 : List Int) (A0_1 : Option Addr) (c0_1 : Nat) (l0_1 : List Int) (A0_2 : Option Addr) (c0_2 : Nat) (l0_2 : List Bool) (A0_3 : Option Addr) (c0_3 : Nat) (l0_3 : List Int) (r1 : List Int) (r2 : List Int) (r3 : List Bool) (r4 : List Int) (w : World) (hr0_0 : Kd.C (Kd.int .i64) w A0_0 l0_0.length l0_0) (hc0_0 : l0_0.length ≤ c0_0) (hr0_1 : Kd.C (Kd.int .i64) w A0_1 l0_1.length l0_1) (hc0_1 : l0_1.length ≤ c0_1) (hr0_2 : Kd.C Kd.bool w A0_2 l0_2.length l0_2) (hc0_2 : l0_2.length ≤ c0_2) (hr0_3 : Kd.C (Kd.int .i64) w A0_3 l0_3.length l0_3) (hc0_3 : l0_3.length ≤ c0_3) (h : spec_foOwn.f l0_0 l0_1 l0_2 l0_3 = some (r1, r2, r3, r4)) :
  Calls Try.prog 63 #[.agg #[.slice A0_0 l0_0.length c0_0, .slice A0_1 l0_1.length c0_1, .slice A0_2 l0_2.length c0_2, .slice A0_3 l0_3.length c0_3]] w fun e w' => ∃ v0_ v1_ v2_ v3_ : Value, e = .returned (.agg #[v0_, v1_, v2_, v3_]) ∧ Kd.R (Kd.int .i64) 3 w' w.heap.size (fun k_ => some k_ ≠ (v1_ : Value).ownBlock ∧ some k_ ≠ (v3_ : Value).ownBlock) v0_ r1 ∧ Kd.R (Kd.int .i64) 3 w' w.heap.size (fun k_ => some k_ ≠ (v0_ : Value).ownBlock ∧ some k_ ≠ (v3_ : Value).ownBlock) v1_ r2 ∧ Kd.R Kd.bool 4 w' w.heap.size (fun _ => True) v2_ r3 ∧ Kd.R (Kd.int .i64) 3 w' w.heap.size (fun k_ => some k_ ≠ (v0_ : Value).ownBlock ∧ some k_ ≠ (v1_ : Value).ownBlock) v3_ r4 ∧ Below w.heap.size w w' := by
 have hu27 := Try.underlying27
 have HR0_0 := Ya hr0_0
 have HC0_0 := Ya hc0_0
 clear hr0_0 hc0_0
 have HR0_1 := Ya hr0_1
 have HC0_1 := Ya hc0_1
 clear hr0_1 hc0_1
 have HR0_2 := Ya hr0_2
 have HC0_2 := Ya hc0_2
 clear hr0_2 hc0_2
 have HR0_3 := Ya hr0_3
 have HC0_3 := Ya hc0_3
 clear hr0_3 hc0_3
 have HB := Ya (Below.refl w.heap.size w)
 have H : ((spec_l1Own.f l0_0).bind fun t124 => ((spec_l1Own.f l0_1).bind fun t127 => ((some (([] : List Bool) : List Bool)).bind fun y130 => (if y130.length + l0_2.length < 140737488355328 then ((spec_l1Own.f l0_3).bind fun t136 => (some (t124, t127, (y130 ++ l0_2), t136))) else (none))))) = some (r1, r2, r3, r4) := h
 clear h
 replace H := Z36.mp H
 obtain ⟨t124, A20, H⟩ := H
 replace H : ((spec_l1Own.f l0_1).bind fun t127 => ((some (([] : List Bool) : List Bool)).bind fun y130 => (if y130.length + l0_2.length < 140737488355328 then ((spec_l1Own.f l0_3).bind fun t136 => (some (t124, t127, (y130 ++ l0_2), t136))) else (none)))) = some (r1, r2, r3, r4) := H
 have A2 := Ya A20
 clear A20
 replace H := Z36.mp H
 obtain ⟨t127, A30, H⟩ := H
 replace H : ((some (([] : List Bool) : List Bool)).bind fun y130 => (if y130.length + l0_2.length < 140737488355328 then ((spec_l1Own.f l0_3).bind fun t136 => (some (t124, t127, (y130 ++ l0_2), t136))) else (none))) = some (r1, r2, r3, r4) := H
 have A3 := Ya A30
 clear A30
 obtain ⟨y130, hy130⟩ : ∃ y_ : List Bool, y_ = (([] : List Bool)) := ⟨_, rfl⟩
 replace H : (if y130.length + l0_2.length < 140737488355328 then ((spec_l1Own.f l0_3).bind fun t136 => (some (t124, t127, (y130 ++ l0_2), t136))) else (none)) = some (r1, r2, r3, r4) := by first | (rw [hy130]; with_reducible exact H) | (have H2_ := (Option.bind_some _ _).symm.trans H; rw [hy130]; with_reducible exact H2_) | (have H2_ := (Option.bind_some _ _).symm.trans H; with_reducible exact H2_) | with_reducible exact H | (rw [hy130]; exact H) | exact H
 have Ny130 := Ya hy130
 clear hy130
 by_cases c4 : y130.length + l0_2.length < 140737488355328
 ·rw [if_pos c4] at H
  have LMc4 := Ya c4
  clear c4
  obtain ⟨y133, hy133⟩ : ∃ y_ : List Bool, y_ = (y130 ++ l0_2) := ⟨_, rfl⟩
  replace H : ((spec_l1Own.f l0_3).bind fun t136 => (some (t124, t127, y133, t136))) = some (r1, r2, r3, r4) := by first | (rw [hy133]; with_reducible exact H) | (have H2_ := (Option.bind_some _ _).symm.trans H; rw [hy133]; with_reducible exact H2_) | (have H2_ := (Option.bind_some _ _).symm.trans H; with_reducible exact H2_) | with_reducible exact H | (rw [hy133]; exact H) | exact H
  have Ny133 := Ya hy133
  clear hy133
  replace H := Z36.mp H
  obtain ⟨t136, A50, H⟩ := H
  replace H : (some (t124, t127, y133, t136)) = some (r1, r2, r3, r4) := H
  have A5 := Ya A50
  clear A50
  simp only [Option.some.injEq, Prod.mk.injEq] at H
  obtain ⟨rfl, rfl, rfl, rfl⟩ := H
  go_enter Try.func63, Try.ntmps63
  try go_wp2_with (first | ((with_reducible refine gate_dst (N := 1) rfl ?_); refine Yx 1 #[.slice A0_0 l0_0.length c0_0, .slice A0_1 l0_1.length c0_1, .slice A0_2 l0_2.length c0_2, .slice A0_3 l0_3.length c0_3] 27 ?_; intro gb122 hg w6 hbox hb; have BK122 := Ya hbox; have GE122 := Yg hg; replace HB := Yh hb; clear hb hbox hg) | ((with_reducible refine gate_dst (N := 2) rfl ?_); refine Yx 2 #[.slice none 0 0, .slice none 0 0, .slice none 0 0, .slice none 0 0] 27 ?_; intro gb123 hg w7 hbox hb; have BK123 := Ya hbox; have GE123 := Yg hg; replace HB := Yh hb; have NB122_123 := Yn BK122 hg; have NB123_122 := Ym BK122 hg; replace BK122 := Yb BK122 hb; clear hb hbox hg))
  replace BK122 := Ya (Z26 BK122.out)
  replace BK123 := Ya (Z26 BK123.out)
  replace HB := Ya (Z4 HB.out)
  refine start_ (n := 15) (S := fun w' => w'.cell? ⟨gb122, 0, none⟩ = some (.slice A0_0 l0_0.length c0_0) ∧ w'.cell? ⟨gb122, 1, none⟩ = some (.slice A0_1 l0_1.length c0_1) ∧ w'.cell? ⟨gb122, 2, none⟩ = some (.slice A0_2 l0_2.length c0_2) ∧ w'.cell? ⟨gb122, 3, none⟩ = some (.slice A0_3 l0_3.length c0_3)) (ds := []) (YA 15 0) (by kernel_rfl) rfl rfl ⟨(Z23 BK122.out 0).trans rfl, (Z23 BK122.out 1).trans rfl, (Z23 BK122.out 2).trans rfl, (Z23 BK122.out 3).trans rfl⟩ (fun hHeld => ?_); refine with_tabW spec_foOwn.tab1 spec_foOwn.bits1 (fun HT_ HW_ => ?_)
  generalize w7.drew = w8 at BK122 BK123 HB hHeld ⊢
  refine Yp 0 (some 3) (YA 15 1) rfl HT_.out ?_
  refine Yp 3 (some 6) (YA 15 9) rfl HT_.out ?_
  refine Yp 7 (some 10) (YA 15 137) rfl HT_.out ?_
  refine Yp 10 (some 13) (YA 15 1161) rfl HT_.out ?_
  refine Yt 1 (some 4) (YA 15 1163) rfl HT_.out HW_.out hHeld Q6 ?_
  refine Yt 4 (some 7) (YA 15 1179) rfl HT_.out HW_.out hHeld Q6 ?_
  refine Yt 8 (some 11) (YA 15 1435) rfl HT_.out HW_.out hHeld Q6 ?_
  refine Yt 11 (some 14) (YA 15 3483) rfl HT_.out HW_.out hHeld Q6 ?_
  refine join_ (σ := Value × Value × Value) 4 (YA 15 3583) (fun s_ => [(5, s_.1), (8, s_.2.1), (9, s_.2.2)]) (fun s_ w' => (w'.cell? ⟨gb122, 0, none⟩ = some (.slice A0_0 l0_0.length c0_0) ∧ w'.cell? ⟨gb122, 1, none⟩ = some (.slice A0_1 l0_1.length c0_1) ∧ w'.cell? ⟨gb122, 2, none⟩ = some (.slice A0_2 l0_2.length c0_2) ∧ w'.cell? ⟨gb122, 3, none⟩ = some (.slice A0_3 l0_3.length c0_3)) ∧ (Kd.R (Kd.int .i64) 3 w' w.heap.size (fun k_ => some k_ ≠ (s_.2.1 : Value).ownBlock) s_.1 t124) ∧ (Kd.R (Kd.int .i64) 3 w' w.heap.size (fun k_ => some k_ ≠ (s_.1 : Value).ownBlock) s_.2.1 t127) ∧ (Kd.R Kd.bool 4 w' w.heap.size (fun _ => True) s_.2.2 y130) ∧ (w'.heap[gb122]? = some (.cells #[.slice A0_0 l0_0.length c0_0, .slice A0_1 l0_1.length c0_1, .slice A0_2 l0_2.length c0_2, .slice A0_3 l0_3.length c0_3] 27 (0, 0))) ∧ (w'.heap[gb123]? = some (.cells #[.slice none 0 0, .slice none 0 0, .slice none 0 0, .slice none 0 0] 27 (0, 0))) ∧ (Below w.heap.size w w')) ?_ ?_
  rotate_left
  ·intro hCont
   refine two_ (i := 2) (j := 6) (Ni := some 5) (Nj := some 9) (YA 15 3487) (YA 15 3547) rfl rfl rfl rfl (two_of HT_.out (by kernel_rfl)) (by decide) (by decide) (fun K hK => ?_) (fun K hK => ?_)
   ·skip
    refine goes_ Try.func79 (by kernel_rfl) rfl #[.slice A0_0 l0_0.length c0_0] (by rfl) rfl rfl Q4 ?_
    with_reducible refine (spec_l1Own.calls _ _ l0_0 t124 _ ?side1 ?side2 A2.out).mono ?_
    (case side1 => exact Yc (Z22 HR0_0.out HB.out))
    (case side2 => exact HC0_0.out)
    rintro e w9 ⟨v125, rfl, ho0, hb⟩
    refine ⟨_, rfl, ?_⟩
    have HO126 := Yl ho0
    replace BK122 := Yb BK122 hb
    replace BK123 := Yb BK123 hb
    replace HB := Yh hb
    (try clear hb ho0)
    refine hK.out _ _ ⟨(Z23 BK122.out 0).trans rfl, (Z23 BK122.out 1).trans rfl, (Z23 BK122.out 2).trans rfl, (Z23 BK122.out 3).trans rfl⟩ (fun hHeld => ?_)
    clear hK K
    refine norm_ (a' := ?_) ?_ ?_
    rotate_left
    ·show Act.put _ (some 5) _ = _
     simp only [Act.put, Z0, Z1, Z2, i64_w, i32_w]
     rfl
    refine two_ (i := 5) (j := 6) (Ni := some 8) (Nj := some 9) (YA 15 3519) (YA 15 3551) rfl rfl rfl rfl (two_of HT_.out (by kernel_rfl)) (by decide) (by decide) (fun K hK => ?_) (fun K hK => ?_)
    ·skip
     refine goes_ Try.func79 (by kernel_rfl) rfl #[.slice A0_1 l0_1.length c0_1] (by rfl) rfl rfl Q4 ?_
     with_reducible refine (spec_l1Own.calls _ _ l0_1 t127 _ ?side1 ?side2 A3.out).mono ?_
     (case side1 => exact Yc (Z22 HR0_1.out HB.out))
     (case side2 => exact HC0_1.out)
     rintro e w10 ⟨v128, rfl, ho0, hb⟩
     refine ⟨_, rfl, ?_⟩
     have HO129 := Yl (Kd.R_new' ho0 (Z17 (Yr HO126.out)))
     replace HO126 := Ya (Kd.R_elder' (Yr HO126.out) (Kd.R_base ho0) hb)
     replace BK122 := Yb BK122 hb
     replace BK123 := Yb BK123 hb
     replace HB := Yh hb
     (try clear hb ho0)
     refine hK.out _ _ ⟨(Z23 BK122.out 0).trans rfl, (Z23 BK122.out 1).trans rfl, (Z23 BK122.out 2).trans rfl, (Z23 BK122.out 3).trans rfl⟩ (fun hHeld => ?_)
     clear hK K
     refine norm_ (a' := ?_) ?_ ?_
     rotate_left
     ·show Act.put _ (some 8) _ = _
      simp only [Act.put, Z0, Z1, Z2, i64_w, i32_w]
      rfl
     refine one_ (i := 6) (N := some 9) (YA 15 3583) rfl rfl (one_of HT_.out (by kernel_rfl)) (by decide) (fun K hK => ?_)
     refine Kd.R_lit_step Kd.bool _ 4 ?hg (N := 9) ?hd (xs := ([] : List Bool)) (inner := []) (ok := fun _ => True) (okp := fun _ => True) ?hr ?hp (fun _ hk => hk) trivial (Below.refl _ _) (Nat.le_refl _) (by simp) ?_; (case hd => rfl); (case hg => rfl); (case hr => first | (go_simp; done) | (go_simp; rfl)); (case hp => exact (Reps.none _ _))
     intro v131 w11 ho12 hb hg_ hnew_
     clear hg_ hnew_
     (first | rw [← Ny130.out] at ho12 | (simp only [Int.reduceToNat] at ho12; rw [← Ny130.out] at ho12))
     replace HO126 := Yw HO126 hb
     replace HO129 := Yw HO129 hb
     have HO132 := Yl ho12
     replace BK122 := Yb BK122 hb
     replace BK123 := Yb BK123 hb
     replace HB := Yh hb
     clear hb ho12
     refine hK.out _ _ ⟨(Z23 BK122.out 0).trans rfl, (Z23 BK122.out 1).trans rfl, (Z23 BK122.out 2).trans rfl, (Z23 BK122.out 3).trans rfl⟩ (fun hHeld => ?_)
     clear hK K
     refine norm_ (a' := ?_) ?_ ?_
     rotate_left
     ·show Act.put _ (some 9) _ = _
      simp only [Act.put, Z0, Z1, Z2, i64_w, i32_w]
      rfl
     exact norm_ Q89 (hCont (v125, v128, v131) _ ⟨hHeld, Q145, Q144, (Yr HO132.out), (Yk BK122.out), (Yk BK123.out), Q0⟩)
    ·skip
     refine Kd.R_lit_step Kd.bool _ 4 ?hg (N := 9) ?hd (xs := ([] : List Bool)) (inner := []) (ok := fun _ => True) (okp := fun _ => True) ?hr ?hp (fun _ hk => hk) trivial (Below.refl _ _) (Nat.le_refl _) (by simp) ?_; (case hd => rfl); (case hg => rfl); (case hr => first | (go_simp; done) | (go_simp; rfl)); (case hp => exact (Reps.none _ _))
     intro v131 w10 ho11 hb hg_ hnew_
     clear hg_ hnew_
     (first | rw [← Ny130.out] at ho11 | (simp only [Int.reduceToNat] at ho11; rw [← Ny130.out] at ho11))
     replace HO126 := Yw HO126 hb
     have HO132 := Yl ho11
     replace BK122 := Yb BK122 hb
     replace BK123 := Yb BK123 hb
     replace HB := Yh hb
     clear hb ho11
     refine hK.out _ _ ⟨(Z23 BK122.out 0).trans rfl, (Z23 BK122.out 1).trans rfl, (Z23 BK122.out 2).trans rfl, (Z23 BK122.out 3).trans rfl⟩ (fun hHeld => ?_)
     clear hK K
     refine norm_ (a' := ?_) ?_ ?_
     rotate_left
     ·show Act.put _ (some 9) _ = _
      simp only [Act.put, Z0, Z1, Z2, i64_w, i32_w]
      rfl
     refine one_ (i := 5) (N := some 8) (YA 15 3583) rfl rfl (one_of HT_.out (by kernel_rfl)) (by decide) (fun K hK => ?_)
     refine goes_ Try.func79 (by kernel_rfl) rfl #[.slice A0_1 l0_1.length c0_1] (by rfl) rfl rfl Q4 ?_
     with_reducible refine (spec_l1Own.calls _ _ l0_1 t127 _ ?side1 ?side2 A3.out).mono ?_
     (case side1 => exact Yc (Z22 HR0_1.out HB.out))
     (case side2 => exact HC0_1.out)
     rintro e w12 ⟨v128, rfl, ho0, hb⟩
     refine ⟨_, rfl, ?_⟩
     replace HO132 := Yw HO132 hb
     have HO129 := Yl (Kd.R_new' ho0 (Z17 (Yr HO126.out)))
     replace HO126 := Ya (Kd.R_elder' (Yr HO126.out) (Kd.R_base ho0) hb)
     replace BK122 := Yb BK122 hb
     replace BK123 := Yb BK123 hb
     replace HB := Yh hb
     (try clear hb ho0)
     refine hK.out _ _ ⟨(Z23 BK122.out 0).trans rfl, (Z23 BK122.out 1).trans rfl, (Z23 BK122.out 2).trans rfl, (Z23 BK122.out 3).trans rfl⟩ (fun hHeld => ?_)
     clear hK K
     refine norm_ (a' := ?_) ?_ ?_
     rotate_left
     ·show Act.put _ (some 8) _ = _
      simp only [Act.put, Z0, Z1, Z2, i64_w, i32_w]
      rfl
     exact norm_ Q89 (hCont (v125, v128, v131) _ ⟨hHeld, Q145, Q144, (Yr HO132.out), (Yk BK122.out), (Yk BK123.out), Q0⟩)
   ·skip
    refine Kd.R_lit_step Kd.bool _ 4 ?hg (N := 9) ?hd (xs := ([] : List Bool)) (inner := []) (ok := fun _ => True) (okp := fun _ => True) ?hr ?hp (fun _ hk => hk) trivial (Below.refl _ _) (Nat.le_refl _) (by simp) ?_; (case hd => rfl); (case hg => rfl); (case hr => first | (go_simp; done) | (go_simp; rfl)); (case hp => exact (Reps.none _ _))
    intro v131 w9 ho10 hb hg_ hnew_
    clear hg_ hnew_
    (first | rw [← Ny130.out] at ho10 | (simp only [Int.reduceToNat] at ho10; rw [← Ny130.out] at ho10))
    have HO132 := Yl ho10
    replace BK122 := Yb BK122 hb
    replace BK123 := Yb BK123 hb
    replace HB := Yh hb
    clear hb ho10
    refine hK.out _ _ ⟨(Z23 BK122.out 0).trans rfl, (Z23 BK122.out 1).trans rfl, (Z23 BK122.out 2).trans rfl, (Z23 BK122.out 3).trans rfl⟩ (fun hHeld => ?_)
    clear hK K
    refine norm_ (a' := ?_) ?_ ?_
    rotate_left
    ·show Act.put _ (some 9) _ = _
     simp only [Act.put, Z0, Z1, Z2, i64_w, i32_w]
     rfl
    refine one_ (i := 2) (N := some 5) (YA 15 3551) rfl rfl (one_of HT_.out (by kernel_rfl)) (by decide) (fun K hK => ?_)
    refine goes_ Try.func79 (by kernel_rfl) rfl #[.slice A0_0 l0_0.length c0_0] (by rfl) rfl rfl Q4 ?_
    with_reducible refine (spec_l1Own.calls _ _ l0_0 t124 _ ?side1 ?side2 A2.out).mono ?_
    (case side1 => exact Yc (Z22 HR0_0.out HB.out))
    (case side2 => exact HC0_0.out)
    rintro e w11 ⟨v125, rfl, ho0, hb⟩
    refine ⟨_, rfl, ?_⟩
    replace HO132 := Yw HO132 hb
    have HO126 := Yl ho0
    replace BK122 := Yb BK122 hb
    replace BK123 := Yb BK123 hb
    replace HB := Yh hb
    (try clear hb ho0)
    refine hK.out _ _ ⟨(Z23 BK122.out 0).trans rfl, (Z23 BK122.out 1).trans rfl, (Z23 BK122.out 2).trans rfl, (Z23 BK122.out 3).trans rfl⟩ (fun hHeld => ?_)
    clear hK K
    refine norm_ (a' := ?_) ?_ ?_
    rotate_left
    ·show Act.put _ (some 5) _ = _
     simp only [Act.put, Z0, Z1, Z2, i64_w, i32_w]
     rfl
    refine one_ (i := 5) (N := some 8) (YA 15 3583) rfl rfl (one_of HT_.out (by kernel_rfl)) (by decide) (fun K hK => ?_)
    refine goes_ Try.func79 (by kernel_rfl) rfl #[.slice A0_1 l0_1.length c0_1] (by rfl) rfl rfl Q4 ?_
    with_reducible refine (spec_l1Own.calls _ _ l0_1 t127 _ ?side1 ?side2 A3.out).mono ?_
    (case side1 => exact Yc (Z22 HR0_1.out HB.out))
    (case side2 => exact HC0_1.out)
    rintro e w12 ⟨v128, rfl, ho0, hb⟩
    refine ⟨_, rfl, ?_⟩
    replace HO132 := Yw HO132 hb
    have HO129 := Yl (Kd.R_new' ho0 (Z17 (Yr HO126.out)))
    replace HO126 := Ya (Kd.R_elder' (Yr HO126.out) (Kd.R_base ho0) hb)
    replace BK122 := Yb BK122 hb
    replace BK123 := Yb BK123 hb
    replace HB := Yh hb
    (try clear hb ho0)
    refine hK.out _ _ ⟨(Z23 BK122.out 0).trans rfl, (Z23 BK122.out 1).trans rfl, (Z23 BK122.out 2).trans rfl, (Z23 BK122.out 3).trans rfl⟩ (fun hHeld => ?_)
    clear hK K
    refine norm_ (a' := ?_) ?_ ?_
    rotate_left
    ·show Act.put _ (some 8) _ = _
     simp only [Act.put, Z0, Z1, Z2, i64_w, i32_w]
     rfl
    exact norm_ Q89 (hCont (v125, v128, v131) _ ⟨hHeld, Q145, Q144, (Yr HO132.out), (Yk BK122.out), (Yk BK123.out), Q0⟩)
  rintro ⟨v125, v128, v131⟩ w13 ⟨hS_, h0_, h1_, h2_, h3_, h4_, h5_⟩
  have HO126 : Aside0 (Kd.R (Kd.int .i64) 3 w13 w.heap.size (fun k_ => some k_ ≠ (v128 : Value).ownBlock) v125 t124) := ⟨h0_⟩
  have HO129 : Aside0 (Kd.R (Kd.int .i64) 3 w13 w.heap.size (fun k_ => some k_ ≠ (v125 : Value).ownBlock) v128 t127) := ⟨h1_⟩
  have HO132 : Aside0 (Kd.R Kd.bool 4 w13 w.heap.size (fun _ => True) v131 y130) := ⟨h2_⟩
  replace BK122 : Aside0 (w13.heap[gb122]? = some (.cells #[.slice A0_0 l0_0.length c0_0, .slice A0_1 l0_1.length c0_1, .slice A0_2 l0_2.length c0_2, .slice A0_3 l0_3.length c0_3] 27 (0, 0))) := ⟨h3_⟩
  replace BK123 : Aside0 (w13.heap[gb123]? = some (.cells #[.slice none 0 0, .slice none 0 0, .slice none 0 0, .slice none 0 0] 27 (0, 0))) := ⟨h4_⟩
  replace HB : Aside0 (Below w.heap.size w w13) := ⟨h5_⟩
  clear h0_ h1_ h2_ h3_ h4_ h5_
  have hHeld : w13.cell? ⟨gb122, 0, none⟩ = some (.slice A0_0 l0_0.length c0_0) ∧ w13.cell? ⟨gb122, 1, none⟩ = some (.slice A0_1 l0_1.length c0_1) ∧ w13.cell? ⟨gb122, 2, none⟩ = some (.slice A0_2 l0_2.length c0_2) ∧ w13.cell? ⟨gb122, 3, none⟩ = some (.slice A0_3 l0_3.length c0_3) := hS_
  refine norm_ (a' := ?_) ?_ ?_
  rotate_left
  ·simp only [putAll, Act.put, Z0, Z1, Z2]
   rfl
  refine one_ (i := 9) (N := some 12) (YA 15 4095) rfl rfl (one_of HT_.out (by kernel_rfl)) (by decide) (fun K hK => ?_)
  refine Kd.R_append_rows_step Kd.bool (w0 := w) w.heap.size (by rfl) (.tmp 9) (.tmp 11) 23 4 (.bool false) 1 rfl Try.underlying23 info4 rfl (by decide) (by omega) v131 y130 l0_2 _ _ _ (fun _ => True) (fun _ => False) rfl rfl ?aO ?aR (fun _ _ h => h) (fun _ h => h.elim) ?aF ?aB ?aS ?aL ?_
  (case aR => repeat (first | exact (Z22 HR0_2.out HB.out) | (with_reducible refine Z19 ?_ _) | (with_reducible refine Z20 ?_ _) | (with_reducible refine Z21 ?_)))
  (case aB => exact Q0)
  (case aF => exact (fun _ _ => trivial))
  (case aO => exact (Yr HO132.out))
  (case aS => exact (Z7 Q0))
  (case aL => have := LMc4.out; omega)
  intro v134 w14 ho hb hg hat
  rw [← Ny133.out] at ho
  replace BK122 := Ya (blk_grown (g := gb122) (o := .cells #[.slice A0_0 l0_0.length c0_0, .slice A0_1 l0_1.length c0_1, .slice A0_2 l0_2.length c0_2, .slice A0_3 l0_3.length c0_3] 27 (0, 0)) (Yk BK122.out) hg (Kd.R_ne HO132.out BK122.out (by decide)))
  replace BK123 := Ya (blk_grown (g := gb123) (o := .cells #[.slice none 0 0, .slice none 0 0, .slice none 0 0, .slice none 0 0] 27 (0, 0)) (Yk BK123.out) hg (Kd.R_ne HO132.out BK123.out (by decide)))
  replace HO126 := Ya (Kd.R_over' (Yr HO126.out) (Kd.R_typed (Yr HO132.out)) (by decide) hg)
  replace HO129 := Ya (Kd.R_over' (Yr HO129.out) (Kd.R_typed (Yr HO132.out)) (by decide) hg)
  replace HB := Ya hb
  have HO135 := Ya ho
  clear HO132
  clear ho hb hg hat
  refine hK.out _ _ ⟨(Z23 BK122.out 0).trans rfl, (Z23 BK122.out 1).trans rfl, (Z23 BK122.out 2).trans rfl, (Z23 BK122.out 3).trans rfl⟩ (fun hHeld => ?_)
  clear hK K
  refine norm_ (a' := ?_) ?_ ?_
  rotate_left
  ·show Act.put _ (some 12) _ = _
   simp only [Act.put, Z0, Z1, Z2, i64_w, i32_w]
   rfl
  refine one_ (i := 12) (N := some 15) (YA 15 8191) rfl rfl (one_of HT_.out (by kernel_rfl)) (by decide) (fun K hK => ?_)
  refine goes_ Try.func79 (by kernel_rfl) rfl #[.slice A0_3 l0_3.length c0_3] (by rfl) rfl rfl Q4 ?_
  with_reducible refine (spec_l1Own.calls _ _ l0_3 t136 _ ?side1 ?side2 A5.out).mono ?_
  (case side1 => exact Yc (Z22 HR0_3.out HB.out))
  (case side2 => exact HC0_3.out)
  rintro e w15 ⟨v137, rfl, ho0, hb⟩
  refine ⟨_, rfl, ?_⟩
  replace HO135 := Yw HO135 hb
  have HO138 := Yl (Kd.R_new' (Kd.R_new' ho0 (Z17 (Yr HO126.out))) (Z17 (Yr HO129.out)))
  replace HO126 := Ya (Kd.R_elder' (Yr HO126.out) (Kd.R_base ho0) hb)
  replace HO129 := Ya (Kd.R_elder' (Yr HO129.out) (Kd.R_base ho0) hb)
  replace BK122 := Yb BK122 hb
  replace BK123 := Yb BK123 hb
  replace HB := Yh hb
  (try clear hb ho0)
  obtain ⟨Ao16, co16, eo16⟩ := Z18 HO138.out
  (first | subst eo16 | (injection eo16 with f1_ f2_ f3_; have f4_ := f1_.symm; have f5_ := f3_.symm; clear f1_ f2_ f3_; subst f4_; subst f5_))
  obtain ⟨Ao17, co17, eo17⟩ := Z18 HO135.out
  (first | subst eo17 | (injection eo17 with f1_ f2_ f3_; have f4_ := f1_.symm; have f5_ := f3_.symm; clear f1_ f2_ f3_; subst f4_; subst f5_))
  obtain ⟨Ao18, co18, eo18⟩ := Z18 HO129.out
  (first | subst eo18 | (injection eo18 with f1_ f2_ f3_; have f4_ := f1_.symm; have f5_ := f3_.symm; clear f1_ f2_ f3_; subst f4_; subst f5_))
  obtain ⟨Ao19, co19, eo19⟩ := Z18 HO126.out
  (first | subst eo19 | (injection eo19 with f1_ f2_ f3_; have f4_ := f1_.symm; have f5_ := f3_.symm; clear f1_ f2_ f3_; subst f4_; subst f5_))
  refine hK.out _ _ ⟨(Z23 BK122.out 0).trans rfl, (Z23 BK122.out 1).trans rfl, (Z23 BK122.out 2).trans rfl, (Z23 BK122.out 3).trans rfl⟩ (fun hHeld => ?_)
  clear hK K
  refine norm_ (a' := ?_) ?_ ?_
  rotate_left
  ·show Act.put _ (some 15) _ = _
   simp only [Act.put, Z0, Z1, Z2, i64_w, i32_w]
   rfl
  refine Yp 13 (some 16) (YA 15 16383) rfl HT_.out ?_
  refine one_ (i := 14) (N := none) (YA 15 32767) rfl rfl (one_of HT_.out (by kernel_rfl)) (by decide) (fun K hK => ?_)
  have hs20 : w15.cell? ⟨gb123, 0, none⟩ = some (.slice none 0 0) := (Z23 BK123.out 0).trans rfl
  have hfs20 := Z24 BK123.out 0
  have hns20_0 := NB122_123.out
  have hms20_0 := NB123_122.out
  have hs21 : w15.cell? ⟨gb123, 1, none⟩ = some (.slice none 0 0) := (Z23 BK123.out 1).trans rfl
  have hfs21 := Z24 BK123.out 1
  have hns21_0 := NB122_123.out
  have hms21_0 := NB123_122.out
  have hs22 : w15.cell? ⟨gb123, 2, none⟩ = some (.slice none 0 0) := (Z23 BK123.out 2).trans rfl
  have hfs22 := Z24 BK123.out 2
  have hns22_0 := NB122_123.out
  have hms22_0 := NB123_122.out
  have hs23 : w15.cell? ⟨gb123, 3, none⟩ = some (.slice none 0 0) := (Z23 BK123.out 3).trans rfl
  have hfs23 := Z24 BK123.out 3
  have hns23_0 := NB122_123.out
  have hms23_0 := NB123_122.out
  refine skip_ (w1 := ?_) (by rfl) rfl ?_ ?_
  rotate_left
  ·go_simp
   rfl
  refine hK.out _ _ ⟨((cell_far (p := ⟨gb123, _, none⟩) NB122_123.out _).trans (((cell_far (p := ⟨gb123, _, none⟩) NB122_123.out _).trans (((cell_far (p := ⟨gb123, _, none⟩) NB122_123.out _).trans (((cell_far (p := ⟨gb123, _, none⟩) NB122_123.out _).trans (hHeld.1)))))))), ((cell_far (p := ⟨gb123, _, none⟩) NB122_123.out _).trans (((cell_far (p := ⟨gb123, _, none⟩) NB122_123.out _).trans (((cell_far (p := ⟨gb123, _, none⟩) NB122_123.out _).trans (((cell_far (p := ⟨gb123, _, none⟩) NB122_123.out _).trans (hHeld.2.1)))))))), ((cell_far (p := ⟨gb123, _, none⟩) NB122_123.out _).trans (((cell_far (p := ⟨gb123, _, none⟩) NB122_123.out _).trans (((cell_far (p := ⟨gb123, _, none⟩) NB122_123.out _).trans (((cell_far (p := ⟨gb123, _, none⟩) NB122_123.out _).trans (hHeld.2.2.1)))))))), ((cell_far (p := ⟨gb123, _, none⟩) NB122_123.out _).trans (((cell_far (p := ⟨gb123, _, none⟩) NB122_123.out _).trans (((cell_far (p := ⟨gb123, _, none⟩) NB122_123.out _).trans (((cell_far (p := ⟨gb123, _, none⟩) NB122_123.out _).trans (hHeld.2.2.2))))))))⟩ (fun hHeld => ?_)
  clear hK K
  refine done_ (done_of HT_.out (by kernel_rfl)) ?_
  try go_wp2
  refine bodyPost_ret (results_cell_row rfl _ _ gb123 27 #[.slice Ao19 t124.length co19, .slice Ao18 t127.length co18, .slice Ao17 y133.length co17, .slice Ao16 t136.length co16] (0, 0) _ rfl (Yk (Yv4 BK123.out)) Try.underlying27 rfl (by kernel_rfl)) rfl ?_
  exact ⟨_, _, _, _, Q2, by (with_reducible repeat (first | apply Z8 | apply Z9 | apply Z10)); exact Z11 (Yf4 HO126.out BK123.out) (fun _ hk => ⟨hk.1.1, hk.1.2⟩), by (with_reducible repeat (first | apply Z8 | apply Z9 | apply Z10)); exact Z11 (Yf4 HO129.out BK123.out) (fun _ hk => ⟨hk.1.1, hk.1.2⟩), by (with_reducible repeat (first | apply Z8 | apply Z9 | apply Z10)); exact Z11 (Yf4 HO135.out BK123.out) (fun _ hk => trivial), by (with_reducible repeat (first | apply Z8 | apply Z9 | apply Z10)); exact Z11 (Yf4 HO138.out BK123.out) (fun _ hk => ⟨hk.1.1.2, hk.1.2⟩), Q12⟩
 ·rw [if_neg c4] at H
  exact absurd H (by simp)
end Go.Proofs.Ytpfakdhfffehaaa.MFnExactStepFocus
