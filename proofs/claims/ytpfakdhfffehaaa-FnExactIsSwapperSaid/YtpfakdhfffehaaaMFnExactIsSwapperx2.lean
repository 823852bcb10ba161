import Derived.Test.YtpfakdhfffehaaaMFnExactIsSwapperx0
import Derived.Test.YtpfakdhfffehaaaMFnExactIsSwapperx1
namespace Go.Proofs.Ytpfakdhfffehaaa.MFnExactIsSwapper
open Go.RowKit Go.Proofs.YtpfakdhfffehaaaW.PrintWords Go.Proofs.YtpfakdhfffehaaaW.PrintLast Go.Proofs.YtpfakdhfffehaaaW.PrintMore
attribute [local go_sem] max2_int min2_int max_two min_two max_three min_three max_four min_four   
set_option linter.unusedVariables false
set_option linter.unusedSimpArgs false
def spec_foOwn.f (l0_0 : List Int) (l0_1 : List Int) (l0_2 : List Bool) (l0_3 : List Int) : Option (List Int × List Int × List Bool × List Int) := (spec_l1Own.f l0_0).bind fun t143 => ((spec_l1Own.f l0_1).bind fun t146 => ((some (([] : List Bool) : List Bool)).bind fun y149 => (if y149.length + l0_2.length < 140737488355328 then ((spec_l1Own.f l0_3).bind fun t155 => (some (t143, t146, (y149 ++ l0_2), t155))) else (none))))
def spec_foOwn.T1 : Bool × List (List Nat × List Nat) := (true, [([], []), ([0], [0]), ([1], [1]), ([], []), ([3], [3]), ([4, 2], [4]), ([], []), ([], []), ([7], [7]), ([6, 8, 5], [6, 8]), ([], []), ([10], [10]), ([11, 9], [11]), ([2, 5, 9, 12], [2, 5, 9, 12]), ([13, 12, 0, 1, 2, 3, 4, 5, 6, 7, 8, 9, 10, 11, 12, 13], [13])])
def spec_foOwn.B1 : List Nat := [0, 1, 3, 0, 8, 31, 0, 0, 128, 511, 0, 1024, 4095, 8191, 16383]
theorem spec_foOwn.tab1 : rtab .any (opsOf Try.f63 1) = spec_foOwn.T1 := by kernel_rfl
theorem spec_foOwn.bits1 : waitsOk spec_foOwn.T1.2 spec_foOwn.B1 = true := by kernel_rfl
set_option maxHeartbeats 8000000 in
set_option maxRecDepth 100000 in
theorem spec_foOwn.calls (A0_0 : Option Addr) (c0_0 : Nat) (l0_0 : List Int) (A0_1 : Option Addr) (c0_1 : Nat) (l0_1 : List Int) (A0_2 : Option Addr) (c0_2 : Nat) (l0_2 : List Bool) (A0_3 : Option Addr) (c0_3 : Nat) (l0_3 : List Int) (r1 : List Int) (r2 : List Int) (r3 : List Bool) (r4 : List Int) (w : World) (hr0_0 : Kd.C (Kd.int .i64) w A0_0 l0_0.length l0_0) (hc0_0 : l0_0.length ≤ c0_0) (hr0_1 : Kd.C (Kd.int .i64) w A0_1 l0_1.length l0_1) (hc0_1 : l0_1.length ≤ c0_1) (hr0_2 : Kd.C Kd.bool w A0_2 l0_2.length l0_2) (hc0_2 : l0_2.length ≤ c0_2) (hr0_3 : Kd.C (Kd.int .i64) w A0_3 l0_3.length l0_3) (hc0_3 : l0_3.length ≤ c0_3) (h : spec_foOwn.f l0_0 l0_1 l0_2 l0_3 = some (r1, r2, r3, r4)) :
  Calls Try.prog 63 #[.agg #[.slice A0_0 l0_0.length c0_0, .slice A0_1 l0_1.length c0_1, .slice A0_2 l0_2.length c0_2, .slice A0_3 l0_3.length c0_3]] w fun e w' => ∃ v0_ v1_ v2_ v3_ : Value, e = .returned (.agg #[v0_, v1_, v2_, v3_]) ∧ Kd.R (Kd.int .i64) 3 w' w.heap.size (fun k_ => some k_ ≠ (v1_ : Value).ownBlock ∧ some k_ ≠ (v3_ : Value).ownBlock) v0_ r1 ∧ Kd.R (Kd.int .i64) 3 w' w.heap.size (fun k_ => some k_ ≠ (v0_ : Value).ownBlock ∧ some k_ ≠ (v3_ : Value).ownBlock) v1_ r2 ∧ Kd.R Kd.bool 4 w' w.heap.size (fun _ => True) v2_ r3 ∧ Kd.R (Kd.int .i64) 3 w' w.heap.size (fun k_ => some k_ ≠ (v0_ : Value).ownBlock ∧ some k_ ≠ (v1_ : Value).ownBlock) v3_ r4 ∧ Below w.heap.size w w' := by
 have hu27 := Try.underlying27
 have HR0_0 := Ya hr0_0
 have HC0_0 := Ya hc0_0
 clear hr0_0 hc0_0
 have HR0_1 := Ya hr0_1
 have HC0_1 := Ya hc0_1
 clear hr0_1 hc0_1
 have HR0_2 := Ya hr0_2
 have HC0_2 := Ya hc0_2
 clear hr0_2 hc0_2
 have HR0_3 := Ya hr0_3
 have HC0_3 := Ya hc0_3
 clear hr0_3 hc0_3
 have HB := Ya (Below.refl w.heap.size w)
 have H : ((spec_l1Own.f l0_0).bind fun t143 => ((spec_l1Own.f l0_1).bind fun t146 => ((some (([] : List Bool) : List Bool)).bind fun y149 => (if y149.length + l0_2.length < 140737488355328 then ((spec_l1Own.f l0_3).bind fun t155 => (some (t143, t146, (y149 ++ l0_2), t155))) else (none))))) = some (r1, r2, r3, r4) := h
 clear h
 replace H := Z33.mp H
 obtain ⟨t143, A20, H⟩ := H
 replace H : ((spec_l1Own.f l0_1).bind fun t146 => ((some (([] : List Bool) : List Bool)).bind fun y149 => (if y149.length + l0_2.length < 140737488355328 then ((spec_l1Own.f l0_3).bind fun t155 => (some (t143, t146, (y149 ++ l0_2), t155))) else (none)))) = some (r1, r2, r3, r4) := H
 have A2 := Ya A20
 clear A20
 replace H := Z33.mp H
 obtain ⟨t146, A30, H⟩ := H
 replace H : ((some (([] : List Bool) : List Bool)).bind fun y149 => (if y149.length + l0_2.length < 140737488355328 then ((spec_l1Own.f l0_3).bind fun t155 => (some (t143, t146, (y149 ++ l0_2), t155))) else (none))) = some (r1, r2, r3, r4) := H
 have A3 := Ya A30
 clear A30
 obtain ⟨y149, hy149⟩ : ∃ y_ : List Bool, y_ = (([] : List Bool)) := ⟨_, rfl⟩
 replace H : (if y149.length + l0_2.length < 140737488355328 then ((spec_l1Own.f l0_3).bind fun t155 => (some (t143, t146, (y149 ++ l0_2), t155))) else (none)) = some (r1, r2, r3, r4) := by first | (rw [hy149]; with_reducible exact H) | (have H2_ := (Option.bind_some _ _).symm.trans H; rw [hy149]; with_reducible exact H2_) | (have H2_ := (Option.bind_some _ _).symm.trans H; with_reducible exact H2_) | with_reducible exact H | (rw [hy149]; exact H) | exact H
 have Ny149 := Ya hy149
 clear hy149
 by_cases c4 : y149.length + l0_2.length < 140737488355328
 ·rw [if_pos c4] at H
  have LMc4 := Ya c4
  clear c4
  obtain ⟨y152, hy152⟩ : ∃ y_ : List Bool, y_ = (y149 ++ l0_2) := ⟨_, rfl⟩
  replace H : ((spec_l1Own.f l0_3).bind fun t155 => (some (t143, t146, y152, t155))) = some (r1, r2, r3, r4) := by first | (rw [hy152]; with_reducible exact H) | (have H2_ := (Option.bind_some _ _).symm.trans H; rw [hy152]; with_reducible exact H2_) | (have H2_ := (Option.bind_some _ _).symm.trans H; with_reducible exact H2_) | with_reducible exact H | (rw [hy152]; exact H) | exact H
  have Ny152 := Ya hy152
  clear hy152
  replace H := Z33.mp H
  obtain ⟨t155, A50, H⟩ := H
  replace H : (some (t143, t146, y152, t155)) = some (r1, r2, r3, r4) := H
  have A5 := Ya A50
  clear A50
  simp only [Option.some.injEq, Prod.mk.injEq] at H
  obtain ⟨rfl, rfl, rfl, rfl⟩ := H
  go_enter Try.func63, Try.ntmps63
  try go_wp2_with (first | ((with_reducible refine gate_dst (N := 1) rfl ?_); refine Yx 1 #[.slice A0_0 l0_0.length c0_0, .slice A0_1 l0_1.length c0_1, .slice A0_2 l0_2.length c0_2, .slice A0_3 l0_3.length c0_3] 27 ?_; intro gb141 hg w6 hbox hb; have BK141 := Ya hbox; have GE141 := Yg hg; replace HB := Yh hb; clear hb hbox hg) | ((with_reducible refine gate_dst (N := 2) rfl ?_); refine Yx 2 #[.slice none 0 0, .slice none 0 0, .slice none 0 0, .slice none 0 0] 27 ?_; intro gb142 hg w7 hbox hb; have BK142 := Ya hbox; have GE142 := Yg hg; replace HB := Yh hb; have NB141_142 := Yn BK141 hg; have NB142_141 := Ym BK141 hg; replace BK141 := Yb BK141 hb; clear hb hbox hg))
  replace BK141 := Ya (Z23 BK141.out)
  replace BK142 := Ya (Z23 BK142.out)
  replace HB := Ya (Z4 HB.out)
  refine start_ (n := 15) (S := fun w' => w'.cell? ⟨gb141, 0, none⟩ = some (.slice A0_0 l0_0.length c0_0) ∧ w'.cell? ⟨gb141, 1, none⟩ = some (.slice A0_1 l0_1.length c0_1) ∧ w'.cell? ⟨gb141, 2, none⟩ = some (.slice A0_2 l0_2.length c0_2) ∧ w'.cell? ⟨gb141, 3, none⟩ = some (.slice A0_3 l0_3.length c0_3)) (ds := []) (YA 15 0) (by kernel_rfl) rfl rfl ⟨(Z20 BK141.out 0).trans rfl, (Z20 BK141.out 1).trans rfl, (Z20 BK141.out 2).trans rfl, (Z20 BK141.out 3).trans rfl⟩ (fun hHeld => ?_); refine with_tabW spec_foOwn.tab1 spec_foOwn.bits1 (fun HT_ HW_ => ?_)
  generalize w7.drew = w8 at BK141 BK142 HB hHeld ⊢
  refine Yp 0 (some 3) (YA 15 1) rfl HT_.out ?_
  refine Yp 3 (some 6) (YA 15 9) rfl HT_.out ?_
  refine Yp 7 (some 10) (YA 15 137) rfl HT_.out ?_
  refine Yp 10 (some 13) (YA 15 1161) rfl HT_.out ?_
  refine Yt 1 (some 4) (YA 15 1163) rfl HT_.out HW_.out hHeld Q3 ?_
  refine Yt 4 (some 7) (YA 15 1179) rfl HT_.out HW_.out hHeld Q3 ?_
  refine Yt 8 (some 11) (YA 15 1435) rfl HT_.out HW_.out hHeld Q3 ?_
  refine Yt 11 (some 14) (YA 15 3483) rfl HT_.out HW_.out hHeld Q3 ?_
  refine join_ (σ := Value × Value × Value) 4 (YA 15 3583) (fun s_ => [(5, s_.1), (8, s_.2.1), (9, s_.2.2)]) (fun s_ w' => (w'.cell? ⟨gb141, 0, none⟩ = some (.slice A0_0 l0_0.length c0_0) ∧ w'.cell? ⟨gb141, 1, none⟩ = some (.slice A0_1 l0_1.length c0_1) ∧ w'.cell? ⟨gb141, 2, none⟩ = some (.slice A0_2 l0_2.length c0_2) ∧ w'.cell? ⟨gb141, 3, none⟩ = some (.slice A0_3 l0_3.length c0_3)) ∧ (Kd.R (Kd.int .i64) 3 w' w.heap.size (fun k_ => some k_ ≠ (s_.2.1 : Value).ownBlock) s_.1 t143) ∧ (Kd.R (Kd.int .i64) 3 w' w.heap.size (fun k_ => some k_ ≠ (s_.1 : Value).ownBlock) s_.2.1 t146) ∧ (Kd.R Kd.bool 4 w' w.heap.size (fun _ => True) s_.2.2 y149) ∧ (w'.heap[gb141]? = some (.cells #[.slice A0_0 l0_0.length c0_0, .slice A0_1 l0_1.length c0_1, .slice A0_2 l0_2.length c0_2, .slice A0_3 l0_3.length c0_3] 27 (0, 0))) ∧ (w'.heap[gb142]? = some (.cells #[.slice none 0 0, .slice none 0 0, .slice none 0 0, .slice none 0 0] 27 (0, 0))) ∧ (Below w.heap.size w w')) ?_ ?_
  rotate_left
  ·intro hCont
   refine two_ (i := 2) (j := 6) (Ni := some 5) (Nj := some 9) (YA 15 3487) (YA 15 3547) rfl rfl rfl rfl (two_of HT_.out (by kernel_rfl)) (by decide) (by decide) (fun K hK => ?_) (fun K hK => ?_)
   ·skip
    refine goes_ Try.func79 (by kernel_rfl) rfl #[.slice A0_0 l0_0.length c0_0] (by rfl) rfl rfl Q6 ?_
    with_reducible refine (spec_l1Own.calls _ _ l0_0 t143 _ ?side1 ?side2 A2.out).mono ?_
    (case side1 => exact Yc (Z19 HR0_0.out HB.out))
    (case side2 => exact HC0_0.out)
    rintro e w9 ⟨v144, rfl, ho0, hb⟩
    refine ⟨_, rfl, ?_⟩
    have HO145 := Yl ho0
    replace BK141 := Yb BK141 hb
    replace BK142 := Yb BK142 hb
    replace HB := Yh hb
    (try clear hb ho0)
    refine hK.out _ _ ⟨(Z20 BK141.out 0).trans rfl, (Z20 BK141.out 1).trans rfl, (Z20 BK141.out 2).trans rfl, (Z20 BK141.out 3).trans rfl⟩ (fun hHeld => ?_)
    clear hK K
    refine norm_ (a' := ?_) ?_ ?_
    rotate_left
    ·show Act.put _ (some 5) _ = _
     simp only [Act.put, Z0, Z1, Z2, i64_w, i32_w]
     rfl
    refine two_ (i := 5) (j := 6) (Ni := some 8) (Nj := some 9) (YA 15 3519) (YA 15 3551) rfl rfl rfl rfl (two_of HT_.out (by kernel_rfl)) (by decide) (by decide) (fun K hK => ?_) (fun K hK => ?_)
    ·skip
     refine goes_ Try.func79 (by kernel_rfl) rfl #[.slice A0_1 l0_1.length c0_1] (by rfl) rfl rfl Q6 ?_
     with_reducible refine (spec_l1Own.calls _ _ l0_1 t146 _ ?side1 ?side2 A3.out).mono ?_
     (case side1 => exact Yc (Z19 HR0_1.out HB.out))
     (case side2 => exact HC0_1.out)
     rintro e w10 ⟨v147, rfl, ho0, hb⟩
     refine ⟨_, rfl, ?_⟩
     have HO148 := Yl (Kd.R_new' ho0 (Z17 (Yr HO145.out)))
     replace HO145 := Ya (Kd.R_elder' (Yr HO145.out) (Kd.R_base ho0) hb)
     replace BK141 := Yb BK141 hb
     replace BK142 := Yb BK142 hb
     replace HB := Yh hb
     (try clear hb ho0)
     refine hK.out _ _ ⟨(Z20 BK141.out 0).trans rfl, (Z20 BK141.out 1).trans rfl, (Z20 BK141.out 2).trans rfl, (Z20 BK141.out 3).trans rfl⟩ (fun hHeld => ?_)
     clear hK K
     refine norm_ (a' := ?_) ?_ ?_
     rotate_left
     ·show Act.put _ (some 8) _ = _
      simp only [Act.put, Z0, Z1, Z2, i64_w, i32_w]
      rfl
     refine one_ (i := 6) (N := some 9) (YA 15 3583) rfl rfl (one_of HT_.out (by kernel_rfl)) (by decide) (fun K hK => ?_)
     refine Kd.R_lit_step Kd.bool _ 4 ?hg (N := 9) ?hd (xs := ([] : List Bool)) (inner := []) (ok := fun _ => True) (okp := fun _ => True) ?hr ?hp (fun _ hk => hk) trivial (Below.refl _ _) (Nat.le_refl _) (by simp) ?_; (case hd => rfl); (case hg => rfl); (case hr => first | (go_simp; done) | (go_simp; rfl)); (case hp => exact (Reps.none _ _))
     intro v150 w11 ho12 hb hg_ hnew_
     clear hg_ hnew_
     (first | rw [← Ny149.out] at ho12 | (simp only [Int.reduceToNat] at ho12; rw [← Ny149.out] at ho12))
     replace HO145 := Yw HO145 hb
     replace HO148 := Yw HO148 hb
     have HO151 := Yl ho12
     replace BK141 := Yb BK141 hb
     replace BK142 := Yb BK142 hb
     replace HB := Yh hb
     clear hb ho12
     refine hK.out _ _ ⟨(Z20 BK141.out 0).trans rfl, (Z20 BK141.out 1).trans rfl, (Z20 BK141.out 2).trans rfl, (Z20 BK141.out 3).trans rfl⟩ (fun hHeld => ?_)
     clear hK K
     refine norm_ (a' := ?_) ?_ ?_
     rotate_left
     ·show Act.put _ (some 9) _ = _
      simp only [Act.put, Z0, Z1, Z2, i64_w, i32_w]
      rfl
     exact norm_ Q44 (hCont (v144, v147, v150) _ ⟨hHeld, Q63, Q62, (Yr HO151.out), (Yk BK141.out), (Yk BK142.out), Q0⟩)
    ·skip
     refine Kd.R_lit_step Kd.bool _ 4 ?hg (N := 9) ?hd (xs := ([] : List Bool)) (inner := []) (ok := fun _ => True) (okp := fun _ => True) ?hr ?hp (fun _ hk => hk) trivial (Below.refl _ _) (Nat.le_refl _) (by simp) ?_; (case hd => rfl); (case hg => rfl); (case hr => first | (go_simp; done) | (go_simp; rfl)); (case hp => exact (Reps.none _ _))
     intro v150 w10 ho11 hb hg_ hnew_
     clear hg_ hnew_
     (first | rw [← Ny149.out] at ho11 | (simp only [Int.reduceToNat] at ho11; rw [← Ny149.out] at ho11))
     replace HO145 := Yw HO145 hb
     have HO151 := Yl ho11
     replace BK141 := Yb BK141 hb
     replace BK142 := Yb BK142 hb
     replace HB := Yh hb
     clear hb ho11
     refine hK.out _ _ ⟨(Z20 BK141.out 0).trans rfl, (Z20 BK141.out 1).trans rfl, (Z20 BK141.out 2).trans rfl, (Z20 BK141.out 3).trans rfl⟩ (fun hHeld => ?_)
     clear hK K
     refine norm_ (a' := ?_) ?_ ?_
     rotate_left
     ·show Act.put _ (some 9) _ = _
      simp only [Act.put, Z0, Z1, Z2, i64_w, i32_w]
      rfl
     refine one_ (i := 5) (N := some 8) (YA 15 3583) rfl rfl (one_of HT_.out (by kernel_rfl)) (by decide) (fun K hK => ?_)
     refine goes_ Try.func79 (by kernel_rfl) rfl #[.slice A0_1 l0_1.length c0_1] (by rfl) rfl rfl Q6 ?_
     with_reducible refine (spec_l1Own.calls _ _ l0_1 t146 _ ?side1 ?side2 A3.out).mono ?_
     (case side1 => exact Yc (Z19 HR0_1.out HB.out))
     (case side2 => exact HC0_1.out)
     rintro e w12 ⟨v147, rfl, ho0, hb⟩
     refine ⟨_, rfl, ?_⟩
     replace HO151 := Yw HO151 hb
     have HO148 := Yl (Kd.R_new' ho0 (Z17 (Yr HO145.out)))
     replace HO145 := Ya (Kd.R_elder' (Yr HO145.out) (Kd.R_base ho0) hb)
     replace BK141 := Yb BK141 hb
     replace BK142 := Yb BK142 hb
     replace HB := Yh hb
     (try clear hb ho0)
     refine hK.out _ _ ⟨(Z20 BK141.out 0).trans rfl, (Z20 BK141.out 1).trans rfl, (Z20 BK141.out 2).trans rfl, (Z20 BK141.out 3).trans rfl⟩ (fun hHeld => ?_)
     clear hK K
     refine norm_ (a' := ?_) ?_ ?_
     rotate_left
     ·show Act.put _ (some 8) _ = _
      simp only [Act.put, Z0, Z1, Z2, i64_w, i32_w]
      rfl
     exact norm_ Q44 (hCont (v144, v147, v150) _ ⟨hHeld, Q63, Q62, (Yr HO151.out), (Yk BK141.out), (Yk BK142.out), Q0⟩)
   ·skip
    refine Kd.R_lit_step Kd.bool _ 4 ?hg (N := 9) ?hd (xs := ([] : List Bool)) (inner := []) (ok := fun _ => True) (okp := fun _ => True) ?hr ?hp (fun _ hk => hk) trivial (Below.refl _ _) (Nat.le_refl _) (by simp) ?_; (case hd => rfl); (case hg => rfl); (case hr => first | (go_simp; done) | (go_simp; rfl)); (case hp => exact (Reps.none _ _))
    intro v150 w9 ho10 hb hg_ hnew_
    clear hg_ hnew_
    (first | rw [← Ny149.out] at ho10 | (simp only [Int.reduceToNat] at ho10; rw [← Ny149.out] at ho10))
    have HO151 := Yl ho10
    replace BK141 := Yb BK141 hb
    replace BK142 := Yb BK142 hb
    replace HB := Yh hb
    clear hb ho10
    refine hK.out _ _ ⟨(Z20 BK141.out 0).trans rfl, (Z20 BK141.out 1).trans rfl, (Z20 BK141.out 2).trans rfl, (Z20 BK141.out 3).trans rfl⟩ (fun hHeld => ?_)
    clear hK K
    refine norm_ (a' := ?_) ?_ ?_
    rotate_left
    ·show Act.put _ (some 9) _ = _
     simp only [Act.put, Z0, Z1, Z2, i64_w, i32_w]
     rfl
    refine one_ (i := 2) (N := some 5) (YA 15 3551) rfl rfl (one_of HT_.out (by kernel_rfl)) (by decide) (fun K hK => ?_)
    refine goes_ Try.func79 (by kernel_rfl) rfl #[.slice A0_0 l0_0.length c0_0] (by rfl) rfl rfl Q6 ?_
    with_reducible refine (spec_l1Own.calls _ _ l0_0 t143 _ ?side1 ?side2 A2.out).mono ?_
    (case side1 => exact Yc (Z19 HR0_0.out HB.out))
    (case side2 => exact HC0_0.out)
    rintro e w11 ⟨v144, rfl, ho0, hb⟩
    refine ⟨_, rfl, ?_⟩
    replace HO151 := Yw HO151 hb
    have HO145 := Yl ho0
    replace BK141 := Yb BK141 hb
    replace BK142 := Yb BK142 hb
    replace HB := Yh hb
    (try clear hb ho0)
    refine hK.out _ _ ⟨(Z20 BK141.out 0).trans rfl, (Z20 BK141.out 1).trans rfl, (Z20 BK141.out 2).trans rfl, (Z20 BK141.out 3).trans rfl⟩ (fun hHeld => ?_)
    clear hK K
    refine norm_ (a' := ?_) ?_ ?_
    rotate_left
    ·show Act.put _ (some 5) _ = _
     simp only [Act.put, Z0, Z1, Z2, i64_w, i32_w]
     rfl
    refine one_ (i := 5) (N := some 8) (YA 15 3583) rfl rfl (one_of HT_.out (by kernel_rfl)) (by decide) (fun K hK => ?_)
    refine goes_ Try.func79 (by kernel_rfl) rfl #[.slice A0_1 l0_1.length c0_1] (by rfl) rfl rfl Q6 ?_
    with_reducible refine (spec_l1Own.calls _ _ l0_1 t146 _ ?side1 ?side2 A3.out).mono ?_
    (case side1 => exact Yc (Z19 HR0_1.out HB.out))
    (case side2 => exact HC0_1.out)
    rintro e w12 ⟨v147, rfl, ho0, hb⟩
    refine ⟨_, rfl, ?_⟩
    replace HO151 := Yw HO151 hb
    have HO148 := Yl (Kd.R_new' ho0 (Z17 (Yr HO145.out)))
    replace HO145 := Ya (Kd.R_elder' (Yr HO145.out) (Kd.R_base ho0) hb)
    replace BK141 := Yb BK141 hb
    replace BK142 := Yb BK142 hb
    replace HB := Yh hb
    (try clear hb ho0)
    refine hK.out _ _ ⟨(Z20 BK141.out 0).trans rfl, (Z20 BK141.out 1).trans rfl, (Z20 BK141.out 2).trans rfl, (Z20 BK141.out 3).trans rfl⟩ (fun hHeld => ?_)
    clear hK K
    refine norm_ (a' := ?_) ?_ ?_
    rotate_left
    ·show Act.put _ (some 8) _ = _
     simp only [Act.put, Z0, Z1, Z2, i64_w, i32_w]
     rfl
    exact norm_ Q44 (hCont (v144, v147, v150) _ ⟨hHeld, Q63, Q62, (Yr HO151.out), (Yk BK141.out), (Yk BK142.out), Q0⟩)
  rintro ⟨v144, v147, v150⟩ w13 ⟨hS_, h0_, h1_, h2_, h3_, h4_, h5_⟩
  have HO145 : Aside0 (Kd.R (Kd.int .i64) 3 w13 w.heap.size (fun k_ => some k_ ≠ (v147 : Value).ownBlock) v144 t143) := ⟨h0_⟩
  have HO148 : Aside0 (Kd.R (Kd.int .i64) 3 w13 w.heap.size (fun k_ => some k_ ≠ (v144 : Value).ownBlock) v147 t146) := ⟨h1_⟩
  have HO151 : Aside0 (Kd.R Kd.bool 4 w13 w.heap.size (fun _ => True) v150 y149) := ⟨h2_⟩
  replace BK141 : Aside0 (w13.heap[gb141]? = some (.cells #[.slice A0_0 l0_0.length c0_0, .slice A0_1 l0_1.length c0_1, .slice A0_2 l0_2.length c0_2, .slice A0_3 l0_3.length c0_3] 27 (0, 0))) := ⟨h3_⟩
  replace BK142 : Aside0 (w13.heap[gb142]? = some (.cells #[.slice none 0 0, .slice none 0 0, .slice none 0 0, .slice none 0 0] 27 (0, 0))) := ⟨h4_⟩
  replace HB : Aside0 (Below w.heap.size w w13) := ⟨h5_⟩
  clear h0_ h1_ h2_ h3_ h4_ h5_
  have hHeld : w13.cell? ⟨gb141, 0, none⟩ = some (.slice A0_0 l0_0.length c0_0) ∧ w13.cell? ⟨gb141, 1, none⟩ = some (.slice A0_1 l0_1.length c0_1) ∧ w13.cell? ⟨gb141, 2, none⟩ = some (.slice A0_2 l0_2.length c0_2) ∧ w13.cell? ⟨gb141, 3, none⟩ = some (.slice A0_3 l0_3.length c0_3) := hS_
  refine norm_ (a' := ?_) ?_ ?_
  rotate_left
  ·simp only [putAll, Act.put, Z0, Z1, Z2]
   rfl
  refine one_ (i := 9) (N := some 12) (YA 15 4095) rfl rfl (one_of HT_.out (by kernel_rfl)) (by decide) (fun K hK => ?_)
  refine Kd.R_append_rows_step Kd.bool (w0 := w) w.heap.size (by rfl) (.tmp 9) (.tmp 11) 23 4 (.bool false) 1 rfl Try.underlying23 info4 rfl (by decide) (by omega) v150 y149 l0_2 _ _ _ (fun _ => True) (fun _ => False) rfl rfl ?aO ?aR (fun _ _ h => h) (fun _ h => h.elim) ?aF ?aB ?aS ?aL ?_
  (case aR => repeat (first | exact (Z19 HR0_2.out HB.out) | (with_reducible refine Kd.C_alloc ?_ _) | (with_reducible refine Kd.C_drewN ?_ _) | (with_reducible refine Kd.C_drew ?_)))
  (case aB => exact Q0)
  (case aF => exact (fun _ _ => trivial))
  (case aO => exact (Yr HO151.out))
  (case aS => exact (Z7 Q0))
  (case aL => have := LMc4.out; omega)
  intro v153 w14 ho hb hg hat
  rw [← Ny152.out] at ho
  replace BK141 := Ya (blk_grown (g := gb141) (o := .cells #[.slice A0_0 l0_0.length c0_0, .slice A0_1 l0_1.length c0_1, .slice A0_2 l0_2.length c0_2, .slice A0_3 l0_3.length c0_3] 27 (0, 0)) (Yk BK141.out) hg (Kd.R_ne HO151.out BK141.out (by decide)))
  replace BK142 := Ya (blk_grown (g := gb142) (o := .cells #[.slice none 0 0, .slice none 0 0, .slice none 0 0, .slice none 0 0] 27 (0, 0)) (Yk BK142.out) hg (Kd.R_ne HO151.out BK142.out (by decide)))
  replace HO145 := Ya (Kd.R_over' (Yr HO145.out) (Kd.R_typed (Yr HO151.out)) (by decide) hg)
  replace HO148 := Ya (Kd.R_over' (Yr HO148.out) (Kd.R_typed (Yr HO151.out)) (by decide) hg)
  replace HB := Ya hb
  have HO154 := Ya ho
  clear HO151
  clear ho hb hg hat
  refine hK.out _ _ ⟨(Z20 BK141.out 0).trans rfl, (Z20 BK141.out 1).trans rfl, (Z20 BK141.out 2).trans rfl, (Z20 BK141.out 3).trans rfl⟩ (fun hHeld => ?_)
  clear hK K
  refine norm_ (a' := ?_) ?_ ?_
  rotate_left
  ·show Act.put _ (some 12) _ = _
   simp only [Act.put, Z0, Z1, Z2, i64_w, i32_w]
   rfl
  refine one_ (i := 12) (N := some 15) (YA 15 8191) rfl rfl (one_of HT_.out (by kernel_rfl)) (by decide) (fun K hK => ?_)
  refine goes_ Try.func79 (by kernel_rfl) rfl #[.slice A0_3 l0_3.length c0_3] (by rfl) rfl rfl Q6 ?_
  with_reducible refine (spec_l1Own.calls _ _ l0_3 t155 _ ?side1 ?side2 A5.out).mono ?_
  (case side1 => exact Yc (Z19 HR0_3.out HB.out))
  (case side2 => exact HC0_3.out)
  rintro e w15 ⟨v156, rfl, ho0, hb⟩
  refine ⟨_, rfl, ?_⟩
  replace HO154 := Yw HO154 hb
  have HO157 := Yl (Kd.R_new' (Kd.R_new' ho0 (Z17 (Yr HO145.out))) (Z17 (Yr HO148.out)))
  replace HO145 := Ya (Kd.R_elder' (Yr HO145.out) (Kd.R_base ho0) hb)
  replace HO148 := Ya (Kd.R_elder' (Yr HO148.out) (Kd.R_base ho0) hb)
  replace BK141 := Yb BK141 hb
  replace BK142 := Yb BK142 hb
  replace HB := Yh hb
  (try clear hb ho0)
  obtain ⟨Ao16, co16, eo16⟩ := Z18 HO157.out
  (first | subst eo16 | (injection eo16 with f1_ f2_ f3_; have f4_ := f1_.symm; have f5_ := f3_.symm; clear f1_ f2_ f3_; subst f4_; subst f5_))
  obtain ⟨Ao17, co17, eo17⟩ := Z18 HO154.out
  (first | subst eo17 | (injection eo17 with f1_ f2_ f3_; have f4_ := f1_.symm; have f5_ := f3_.symm; clear f1_ f2_ f3_; subst f4_; subst f5_))
  obtain ⟨Ao18, co18, eo18⟩ := Z18 HO148.out
  (first | subst eo18 | (injection eo18 with f1_ f2_ f3_; have f4_ := f1_.symm; have f5_ := f3_.symm; clear f1_ f2_ f3_; subst f4_; subst f5_))
  obtain ⟨Ao19, co19, eo19⟩ := Z18 HO145.out
  (first | subst eo19 | (injection eo19 with f1_ f2_ f3_; have f4_ := f1_.symm; have f5_ := f3_.symm; clear f1_ f2_ f3_; subst f4_; subst f5_))
  refine hK.out _ _ ⟨(Z20 BK141.out 0).trans rfl, (Z20 BK141.out 1).trans rfl, (Z20 BK141.out 2).trans rfl, (Z20 BK141.out 3).trans rfl⟩ (fun hHeld => ?_)
  clear hK K
  refine norm_ (a' := ?_) ?_ ?_
  rotate_left
  ·show Act.put _ (some 15) _ = _
   simp only [Act.put, Z0, Z1, Z2, i64_w, i32_w]
   rfl
  refine Yp 13 (some 16) (YA 15 16383) rfl HT_.out ?_
  refine one_ (i := 14) (N := none) (YA 15 32767) rfl rfl (one_of HT_.out (by kernel_rfl)) (by decide) (fun K hK => ?_)
  have hs20 : w15.cell? ⟨gb142, 0, none⟩ = some (.slice none 0 0) := (Z20 BK142.out 0).trans rfl
  have hfs20 := Z21 BK142.out 0
  have hns20_0 := NB141_142.out
  have hms20_0 := NB142_141.out
  have hs21 : w15.cell? ⟨gb142, 1, none⟩ = some (.slice none 0 0) := (Z20 BK142.out 1).trans rfl
  have hfs21 := Z21 BK142.out 1
  have hns21_0 := NB141_142.out
  have hms21_0 := NB142_141.out
  have hs22 : w15.cell? ⟨gb142, 2, none⟩ = some (.slice none 0 0) := (Z20 BK142.out 2).trans rfl
  have hfs22 := Z21 BK142.out 2
  have hns22_0 := NB141_142.out
  have hms22_0 := NB142_141.out
  have hs23 : w15.cell? ⟨gb142, 3, none⟩ = some (.slice none 0 0) := (Z20 BK142.out 3).trans rfl
  have hfs23 := Z21 BK142.out 3
  have hns23_0 := NB141_142.out
  have hms23_0 := NB142_141.out
  refine skip_ (w1 := ?_) (by rfl) rfl ?_ ?_
  rotate_left
  ·go_simp
   rfl
  refine hK.out _ _ ⟨((cell_far (p := ⟨gb142, _, none⟩) NB141_142.out _).trans (((cell_far (p := ⟨gb142, _, none⟩) NB141_142.out _).trans (((cell_far (p := ⟨gb142, _, none⟩) NB141_142.out _).trans (((cell_far (p := ⟨gb142, _, none⟩) NB141_142.out _).trans (hHeld.1)))))))), ((cell_far (p := ⟨gb142, _, none⟩) NB141_142.out _).trans (((cell_far (p := ⟨gb142, _, none⟩) NB141_142.out _).trans (((cell_far (p := ⟨gb142, _, none⟩) NB141_142.out _).trans (((cell_far (p := ⟨gb142, _, none⟩) NB141_142.out _).trans (hHeld.2.1)))))))), ((cell_far (p := ⟨gb142, _, none⟩) NB141_142.out _).trans (((cell_far (p := ⟨gb142, _, none⟩) NB141_142.out _).trans (((cell_far (p := ⟨gb142, _, none⟩) NB141_142.out _).trans (((cell_far (p := ⟨gb142, _, none⟩) NB141_142.out _).trans (hHeld.2.2.1)))))))), ((cell_far (p := ⟨gb142, _, none⟩) NB141_142.out _).trans (((cell_far (p := ⟨gb142, _, none⟩) NB141_142.out _).trans (((cell_far (p := ⟨gb142, _, none⟩) NB141_142.out _).trans (((cell_far (p := ⟨gb142, _, none⟩) NB141_142.out _).trans (hHeld.2.2.2))))))))⟩ (fun hHeld => ?_)
  clear hK K
  refine done_ (done_of HT_.out (by kernel_rfl)) ?_
  try go_wp2
  refine bodyPost_ret (results_cell_row rfl _ _ gb142 27 #[.slice Ao19 t143.length co19, .slice Ao18 t146.length co18, .slice Ao17 y152.length co17, .slice Ao16 t155.length co16] (0, 0) _ rfl (Yk (Yv4 BK142.out)) Try.underlying27 rfl (by kernel_rfl)) rfl ?_
  exact ⟨_, _, _, _, Q2, by (with_reducible repeat (first | apply Z8 | apply Z9 | apply Z10)); exact Z11 (Yf4 HO145.out BK142.out) (fun _ hk => ⟨hk.1.1, hk.1.2⟩), by (with_reducible repeat (first | apply Z8 | apply Z9 | apply Z10)); exact Z11 (Yf4 HO148.out BK142.out) (fun _ hk => ⟨hk.1.1, hk.1.2⟩), by (with_reducible repeat (first | apply Z8 | apply Z9 | apply Z10)); exact Z11 (Yf4 HO154.out BK142.out) (fun _ hk => trivial), by (with_reducible repeat (first | apply Z8 | apply Z9 | apply Z10)); exact Z11 (Yf4 HO157.out BK142.out) (fun _ hk => ⟨hk.1.1.2, hk.1.2⟩), Q12⟩
 ·rw [if_neg c4] at H
  exact absurd H (by simp)
def spec_foStep.f (l0_0 : List Int) (l0_1 : List Int) (l0_2 : List Bool) (l0_3 : List Int) : Option (List Int × List Int × List Bool × List Int × Int) := if 0 < l0_3.length then (if rd l0_3 0 = (l0_0.length : Int) then some (([] : List Int), ([] : List Int), ([] : List Bool), ([] : List Int), (-1)) else ((Go.Proofs.Ytpfakdhfffehaaa.FoW.stepF l0_0 l0_1 l0_2 l0_3).bind fun bt => (some (l0_0, bt.1, bt.2.1, bt.2.2.1, (l0_0.length : Int) - 1 - bt.2.2.2)))) else none
open Go.Proofs.Ytpfakdhfffehaaa.FoW in
set_option maxHeartbeats 8000000 in
set_option maxRecDepth 100000 in
theorem spec_foStep.calls (A0 : Option Addr) (c0 : Nat) (l0 : List Int) (A1 : Option Addr) (c1 : Nat) (l1 : List Int) (A2 : Option Addr) (c2 : Nat) (l2 : List Bool) (A3 : Option Addr) (c3 : Nat) (l3 : List Int) (r1 : List Int) (r2 : List Int) (r3 : List Bool) (r4 : List Int) (r5 : Int) (w : World)
  (hr0 : Kd.C (Kd.int .i64) w A0 l0.length l0) (hc0 : l0.length ≤ c0) (hr1 : Kd.C (Kd.int .i64) w A1 l1.length l1) (hc1 : l1.length ≤ c1) (hr2 : Kd.C Kd.bool w A2 l2.length l2) (hc2 : l2.length ≤ c2) (hr3 : Kd.C (Kd.int .i64) w A3 l3.length l3) (hc3 : l3.length ≤ c3) (h : spec_foStep.f l0 l1 l2 l3 = some (r1, r2, r3, r4, r5)) :
  Calls Try.prog 31 #[.agg #[.slice A0 l0.length c0, .slice A1 l1.length c1, .slice A2 l2.length c2, .slice A3 l3.length c3]] w fun e w' => ∃ v0_ v1_ v2_ v3_ : Value, e = .returned (.tuple #[.agg #[v0_, v1_, v2_, v3_], .int .i64 r5]) ∧ Kd.R (Kd.int .i64) 3 w' w.heap.size (fun k_ => some k_ ≠ (v1_ : Value).ownBlock ∧ some k_ ≠ (v3_ : Value).ownBlock) v0_ r1 ∧ Kd.R (Kd.int .i64) 3 w' w.heap.size (fun k_ => some k_ ≠ (v0_ : Value).ownBlock ∧ some k_ ≠ (v3_ : Value).ownBlock) v1_ r2 ∧ Kd.R Kd.bool 4 w' w.heap.size (fun _ => True) v2_ r3 ∧ Kd.R (Kd.int .i64) 3 w' w.heap.size (fun k_ => some k_ ≠ (v0_ : Value).ownBlock ∧ some k_ ≠ (v1_ : Value).ownBlock) v3_ r4 ∧ Below w.heap.size w w' := by
 have hu := Try.underlying27
 unfold spec_foStep.f at h
 by_cases hp : 0 < l3.length
 rotate_left
 ·rw [if_neg hp] at h; cases h
 rw [if_pos hp] at h
 obtain ⟨ad3, e3, hx3⟩ := Kd.at_int hr3 0 (by decide) (by omega)
 subst e3
 have hx3' : w.cell? ad3 = some (.int .i64 (rd l3 0)) := by
  have e_ : ad3.add (0 : Int).toNat = ad3 := by simp [Addr.add]
  rw [e_] at hx3; exact hx3
 clear hx3
 have HX3 := Ya hx3'
 have HR0 := Ya hr0
 have HR1 := Ya hr1
 have HR2 := Ya hr2
 have HR3 := Ya hr3
 have HC0 := Ya hc0
 have HC1 := Ya hc1
 have HC2 := Ya hc2
 have HC3 := Ya hc3
 have HB := Ya (Below.refl w.heap.size w)
 have b10 : (0 < l3.length) = True := eq_true hp
 have b11 : ((0 : Int) < (l3.length : Int)) = True := eq_true (by omega)
 by_cases hj : rd l3 0 = (l0.length : Int)
 ·rw [if_pos hj] at h
  simp only [Option.some.injEq, Prod.mk.injEq] at h
  obtain ⟨rfl, rfl, rfl, rfl, rfl⟩ := h
  have b1 : (rd l3 0 == (l0.length : Int)) = true := beq_iff_eq.mpr hj
  clear hr0 hr1 hr2 hr3 hc0 hc1 hc2 hc3 hp hj hx3'
  go_enter Try.func31, Try.ntmps31
  go_upto_region 1 with (first | ((with_reducible refine gate_dst (N := 1) rfl ?_); refine Yx 1 #[.slice A0 l0.length c0, .slice A1 l1.length c1, .slice A2 l2.length c2, .slice (some ad3) l3.length c3] 27 ?_; intro gb1 hg w1 hbox hb; have n0_ := Yh hb; have n1_ := Ya hbox; have GE1 := Ya (by rw [hg]; exact Z7 Q0 : w.heap.size ≤ gb1); clear HB; have HB := n0_; have BK1 := n1_; clear n0_ n1_; clear hb hbox hg) | ((with_reducible refine gate_dst (N := 2) rfl ?_); refine Yx 2 #[.slice none 0 0, .slice none 0 0, .slice none 0 0, .slice none 0 0] 27 ?_; intro gb2 hg w2 hbox hb; have n0_ := Yh hb; have n1_ := Ya hbox; have n2_ := Ya (Z25 BK1.out hb); have GE2 := Ya (by rw [hg]; exact Z7 Q0 : w.heap.size ≤ gb2); have NB12 := Ya (by rw [hg]; exact Nat.ne_of_lt (blk_lt BK1.out) : gb1 ≠ gb2); clear HB BK1; have HB := n0_; have BK2 := n1_; have BK1 := n2_; clear n0_ n1_ n2_; clear hb hbox hg))
  have ha0 := (Z20 BK1.out 0).trans rfl
  have ha1 := (Z20 BK1.out 1).trans rfl
  have ha2 := (Z20 BK1.out 2).trans rfl
  have ha3 := (Z20 BK1.out 3).trans rfl
  have hd0 := (Z20 BK2.out 0).trans rfl
  have hd1 := (Z20 BK2.out 1).trans rfl
  have hd2 := (Z20 BK2.out 2).trans rfl
  have hd3 := (Z20 BK2.out 3).trans rfl
  have hf0 := Z21 BK2.out 0
  have hf1 := Z21 BK2.out 1
  have hf2 := Z21 BK2.out 2
  have hf3 := Z21 BK2.out 3
  have hx := (HB.out.cell (World.block_lt_of_cell? w _ HX3.out)).trans HX3.out
  go_wp2
  refine bodyPost_ret (results_ct rfl _ _ gb2 27 #[.slice none 0 0, .slice none 0 0, .slice none 0 0, .slice none 0 0] (0, 0) _ rfl (set4_at BK2.out _ _ _ _) Try.underlying27 rfl (by kernel_rfl)) rfl ?_
  exact ⟨_, _, _, _, rfl, Kd.R_nil _ _ _ _ _, Kd.R_nil _ _ _ _ _, Kd.R_nil _ _ _ _ _, Kd.R_nil _ _ _ _ _, set4_below HB.out GE2.out _ _ _ _⟩
 ·rw [if_neg hj] at h
  obtain ⟨⟨d', u', p', r⟩, hs, h⟩ := Z33.mp h
  simp only [Option.some.injEq, Prod.mk.injEq] at h
  obtain ⟨rfl, rfl, rfl, rfl, rfl⟩ := h
  unfold stepF at hs
  simp only at hs
  by_cases hc : 0 ≤ rd l3 0 ∧ rd l3 0 < l0.length ∧ l0.length ≤ 1000 ∧ l1.length = l0.length ∧ l2.length = l0.length ∧ l3.length = l0.length + 1 ∧ -1000 ≤ rd l1 ((l0.length : Int) - 1 - rd l3 0) ∧ rd l1 ((l0.length : Int) - 1 - rd l3 0) ≤ 1000 ∧ -1000 ≤ rd l0 ((l0.length : Int) - 1 - rd l3 0) ∧ rd l0 ((l0.length : Int) - 1 - rd l3 0) ≤ 1000
  rotate_left
  ·rw [if_neg hc] at hs; cases hs
  rw [if_pos hc] at hs
  obtain ⟨J, hJ⟩ : ∃ J, rd l3 0 = J := ⟨_, rfl⟩
  rw [hJ] at hs hc hx3' hj
  obtain ⟨I, hI⟩ : ∃ I, (l0.length : Int) - 1 - J = I := ⟨_, rfl⟩
  rw [hI] at hs hc
  obtain ⟨j0, j1, m0, e1, e2, e3, x0, x1, y0, y1⟩ := hc
  have HL := Ya (show (0 ≤ I ∧ I < l0.length) ∧ I < l1.length ∧ I < l2.length ∧ J + 1 < l3.length ∧ J < l3.length ∧ 0 < l3.length ∧ 0 ≤ J ∧ l0.length ≤ 1000 from ⟨⟨by omega, by omega⟩, by omega, by omega, by omega, by omega, by omega, by omega, by omega⟩)
  have HX := Ya (show (-1000 ≤ rd l1 I ∧ rd l1 I ≤ 1000) ∧ -1000 ≤ rd l0 I ∧ rd l0 I ≤ 1000 from ⟨⟨x0, x1⟩, y0, y1⟩)
  have A9 : Aside0 (spec_foOwn.f l0 l1 l2 l3 = some (l0, l1, l2, l3)) := ⟨by
   have hl : ∀ l : List Int, l.length ≤ 2000 → spec_l1Own.f l = some l := fun l hl => by
    unfold spec_l1Own.f
    simp only [Option.bind_some, List.nil_append, List.length_nil, Nat.zero_add]
    rw [if_pos (by omega)]
   unfold spec_foOwn.f
   rw [hl l0 (by omega), hl l1 (by omega), hl l3 (by omega)]
   simp only [Option.bind_some, List.nil_append, List.length_nil, Nat.zero_add]
   rw [if_pos (by omega)]⟩
  obtain ⟨ad0, f0, hx0⟩ := Kd.at_int hr0 I (by omega) (by omega)
  obtain ⟨ad2, f2, hx2⟩ := Kd.at_bool hr2 I (by omega) (by omega)
  subst f0 f2
  have HX0 := Ya hx0
  have HX2 := Ya hx2
  have HXJ := Ya hx3'
  have k1 : wrap64 ((l0.length : Int) - 1) = (l0.length : Int) - 1 := by unfold wrap64; omega
  have k2 : wrap64 (J + 1) = J + 1 := by unfold wrap64; omega
  have k1' : IntKind.i64.wrap ((l0.length : Int) - 1) = (l0.length : Int) - 1 := (i64_w _).trans k1
  have k2' : IntKind.i64.wrap (J + 1) = J + 1 := (i64_w _).trans k2
  have k3 : wrap64 ((l0.length : Int) - 1 - J) = I := by rw [← hI]; unfold wrap64; omega
  have k3' : IntKind.i64.wrap ((l0.length : Int) - 1 - J) = I := (i64_w _).trans k3
  have b1 : (J == (l0.length : Int)) = false := beq_eq_false_iff_ne.mpr (by omega)
  have b2 : (0 ≤ I) = True := eq_true (by omega)
  have b3 : (I < (l2.length : Int)) = True := eq_true (by omega)
  have b4 : (I < (l1.length : Int)) = True := eq_true (by omega)
  have b5 : (I < (l0.length : Int)) = True := eq_true (by omega)
  have b6 : (0 ≤ J) = True := eq_true (by omega)
  have b7 : (J < (l3.length : Int)) = True := eq_true (by omega)
  have b8 : (J + 1 < (l3.length : Int)) = True := eq_true (by omega)
  have b9 : (0 ≤ J + 1) = True := eq_true (by omega)
  have HJ := Ya hJ
  obtain ⟨X, hX⟩ : ∃ X, (if rdOf false l2 I = true then rd l1 I + 1 else rd l1 I - 1) = X := ⟨_, rfl⟩
  rw [hX] at hs
  have HH := Ya hs
  have HXX := Ya hX
  have HIE := Ya hI
  clear hr0 hr1 hr2 hr3 hc0 hc1 hc2 hc3 hp hj hx3' hx0 hx2 hs hX hJ hI j0 j1 m0 e1 e2 e3 x0 x1 y0 y1
  go_enter Try.func31, Try.ntmps31
  go_upto_region 1 with (first | ((with_reducible refine gate_dst (N := 1) rfl ?_); refine Yx 1 #[.slice (some ad0) l0.length c0, .slice A1 l1.length c1, .slice (some ad2) l2.length c2, .slice (some ad3) l3.length c3] 27 ?_; intro gb1 hg w1 hbox hb; have n0_ := Yh hb; have n1_ := Ya hbox; have GE1 := Ya (by rw [hg]; exact Z7 Q0 : w.heap.size ≤ gb1); clear HB; have HB := n0_; have BK1 := n1_; clear n0_ n1_; clear hb hbox hg) | ((with_reducible refine gate_dst (N := 2) rfl ?_); refine Yx 2 #[.slice none 0 0, .slice none 0 0, .slice none 0 0, .slice none 0 0] 27 ?_; intro gb2 hg w2 hbox hb; have n0_ := Yh hb; have n1_ := Ya hbox; have n2_ := Ya (Z25 BK1.out hb); have GE2 := Ya (by rw [hg]; exact Z7 Q0 : w.heap.size ≤ gb2); have NB12 := Ya (by rw [hg]; exact Nat.ne_of_lt (blk_lt BK1.out) : gb1 ≠ gb2); clear HB BK1; have HB := n0_; have BK2 := n1_; have BK1 := n2_; clear n0_ n1_ n2_; clear hb hbox hg))
  have ha0 := (Z20 BK1.out 0).trans rfl
  have ha1 := (Z20 BK1.out 1).trans rfl
  have ha2 := (Z20 BK1.out 2).trans rfl
  have ha3 := (Z20 BK1.out 3).trans rfl
  have hx := (HB.out.cell (World.block_lt_of_cell? w _ HXJ.out)).trans HXJ.out
  go_upto_region 6 with (first | ((with_reducible refine gate_callee (f := 63) rfl ?_); refine Yz 20 Try.func63 #[.agg #[.slice (some ad0) l0.length c0, .slice A1 l1.length c1, .slice (some ad2) l2.length c2, .slice (some ad3) l3.length c3]] ?_ (hargs := Q64); (with_reducible refine (spec_foOwn.calls _ _ l0 _ _ l1 _ _ l2 _ _ l3 l0 l1 l2 l3 _ ?s1 ?s2 ?s3 ?s4 ?s5 ?s6 ?s7 ?s8 A9.out).mono ?_); (case s1 => exact Q71); (case s2 => exact HC0.out); (case s3 => exact (by repeat (first | exact (Z19 HR1.out HB.out) | (with_reducible refine Kd.C_alloc ?_ _) | (with_reducible refine Kd.C_drewN ?_ _) | (with_reducible refine Kd.C_drew ?_)))); (case s4 => exact HC1.out); (case s5 => exact (by repeat (first | exact (Z19 HR2.out HB.out) | (with_reducible refine Kd.C_alloc ?_ _) | (with_reducible refine Kd.C_drewN ?_ _) | (with_reducible refine Kd.C_drew ?_)))); (case s6 => exact HC2.out); (case s7 => exact (by repeat (first | exact (Z19 HR3.out HB.out) | (with_reducible refine Kd.C_alloc ?_ _) | (with_reducible refine Kd.C_drewN ?_ _) | (with_reducible refine Kd.C_drew ?_)))); (case s8 => exact HC3.out); rintro e w5 ⟨v0, v1, v2, v3, rfl, ho0, ho1, ho2, ho3, hb⟩; refine ⟨_, rfl, ?_⟩; obtain ⟨g0, k0, g1, k1, g2, k2, g3, k3, rfl, rfl, rfl, rfl, hF⟩ := FoR.of (Kd.R_lower ho0 (Z7 Q0)) (Kd.R_lower ho1 (Z7 Q0)) (Kd.R_lower ho2 (Z7 Q0)) (Kd.R_lower ho3 (Z7 Q0)) Q9 Q9 Q9 Q9; have HF := Ya hF; replace BK1 := Ya (Z25 (Yk BK1.out) hb); replace BK2 := Ya (Z25 (Yk BK2.out) hb); replace HB := Yh hb; clear ho0 ho1 ho2 ho3 hb hF) | ((with_reducible refine gate_dst (N := 6) rfl ?_); refine Yx 6 #[.slice none 0 0, .slice none 0 0, .slice none 0 0, .slice none 0 0] 27 ?_; intro gb6 hg w6 hbox hb; have n0_ := Yh hb; have n1_ := Ya hbox; have n2_ := Ya (Z25 (Yk BK1.out) hb); have n3_ := Ya (Z25 (Yk BK2.out) hb); have n4_ := Ya (FoR.below (by (with_reducible repeat (first | apply FoR.drewN | apply FoR.drew)); exact HF.out) hb); have GE6 := Ya (by rw [hg]; exact Z7 Q0 : w.heap.size ≤ gb6); have NB16 := Ya (by rw [hg]; exact Nat.ne_of_lt (blk_lt (Yk BK1.out)) : gb1 ≠ gb6); have NB26 := Ya (by rw [hg]; exact Nat.ne_of_lt (blk_lt (Yk BK2.out)) : gb2 ≠ gb6); clear HB BK1 BK2 HF; have HB := n0_; have BK6 := n1_; have BK1 := n2_; have BK2 := n3_; have HF := n4_; clear n0_ n1_ n2_ n3_ n4_; have hd0 := (Z20 BK6.out 0).trans rfl; have hd1 := (Z20 BK6.out 1).trans rfl; have hd2 := (Z20 BK6.out 2).trans rfl; have hd3 := (Z20 BK6.out 3).trans rfl; have hf0 := Z21 BK6.out 0; have hf1 := Z21 BK6.out 1; have hf2 := Z21 BK6.out 2; have hf3 := Z21 BK6.out 3; clear hb hbox hg))
  replace BK1 := Ya ((set4_far w6 gb6 (.slice (some ⟨g0, 0, none⟩) l0.length k0) (.slice (some ⟨g1, 0, none⟩) l1.length k1) (.slice (some ⟨g2, 0, none⟩) l2.length k2) (.slice (some ⟨g3, 0, none⟩) l3.length k3) gb1 NB16.out).trans BK1.out)
  replace BK2 := Ya ((set4_far w6 gb6 (.slice (some ⟨g0, 0, none⟩) l0.length k0) (.slice (some ⟨g1, 0, none⟩) l1.length k1) (.slice (some ⟨g2, 0, none⟩) l2.length k2) (.slice (some ⟨g3, 0, none⟩) l3.length k3) gb2 NB26.out).trans BK2.out)
  replace HF := Ya (FoR.set4 HF.out BK6.out (by decide) (by decide) (.slice (some ⟨g0, 0, none⟩) l0.length k0) (.slice (some ⟨g1, 0, none⟩) l1.length k1) (.slice (some ⟨g2, 0, none⟩) l2.length k2) (.slice (some ⟨g3, 0, none⟩) l3.length k3))
  replace BK6 := Ya (set4_at BK6.out (.slice (some ⟨g0, 0, none⟩) l0.length k0) (.slice (some ⟨g1, 0, none⟩) l1.length k1) (.slice (some ⟨g2, 0, none⟩) l2.length k2) (.slice (some ⟨g3, 0, none⟩) l3.length k3))
  replace HB := Ya (set4_below HB.out GE6.out (.slice (some ⟨g0, 0, none⟩) l0.length k0) (.slice (some ⟨g1, 0, none⟩) l1.length k1) (.slice (some ⟨g2, 0, none⟩) l2.length k2) (.slice (some ⟨g3, 0, none⟩) l3.length k3))
  clear hd0 hd1 hd2 hd3 hf0 hf1 hf2 hf3
  unfold set4 at BK1 BK2 BK6 HF HB
  generalize ((((w6.setCell ⟨gb6, 0, none⟩ (.slice (some ⟨g0, 0, none⟩) l0.length k0)).setCell ⟨gb6, 1, none⟩ (.slice (some ⟨g1, 0, none⟩) l1.length k1)).setCell ⟨gb6, 2, none⟩ (.slice (some ⟨g2, 0, none⟩) l2.length k2)).setCell ⟨gb6, 3, none⟩ (.slice (some ⟨g3, 0, none⟩) l3.length k3)) = w7 at BK1 BK2 BK6 HF HB ⊢
  clear ha0 ha1 ha2 ha3 hx
  have hc0 := (Z20 BK6.out 0).trans rfl
  have hc1 := (Z20 BK6.out 1).trans rfl
  have hc2 := (Z20 BK6.out 2).trans rfl
  have hc3 := (Z20 BK6.out 3).trans rfl
  have hxp := (FoR.at3 HF.out 0 (by decide) Q9).1
  have hzp : World.frozen? _ ⟨g3, 0, none⟩ = false := (FoR.at3 HF.out 0 (by decide) Q9).2
  rw [show (0 : Int).toNat = 0 from rfl] at hxp
  go_upto_region 8 with fail
  clear hxp hzp hc0 hc1 hc2 hc3
  replace BK1 := Ya (show (World.setCell w7 ⟨g3, 0, none⟩ (.int .i64 0)).heap[gb1]? = _ from blk_far (p := ⟨g3, 0, none⟩) BK1.out (have n := FoR.apart HF.out BK1.out (by decide) (by decide); n.2.2.2) (.int .i64 0))
  replace BK2 := Ya (show (World.setCell w7 ⟨g3, 0, none⟩ (.int .i64 0)).heap[gb2]? = _ from blk_far (p := ⟨g3, 0, none⟩) BK2.out (have n := FoR.apart HF.out BK2.out (by decide) (by decide); n.2.2.2) (.int .i64 0))
  replace BK6 := Ya (show (World.setCell w7 ⟨g3, 0, none⟩ (.int .i64 0)).heap[gb6]? = _ from blk_far (p := ⟨g3, 0, none⟩) BK6.out (have n := FoR.apart HF.out BK6.out (by decide) (by decide); n.2.2.2) (.int .i64 0))
  replace HB := Ya (show Below w.heap.size w (World.setCell w7 ⟨g3, 0, none⟩ (.int .i64 0)) from Z6 HB.out (FoR.ge HF.out).2.2.2)
  replace HF := Ya (show FoR (World.setCell w7 ⟨g3, 0, none⟩ (.int .i64 0)) w.heap.size g0 k0 g1 k1 g2 k2 g3 k3 l0 l1 l2 (l3.set 0 0) from FoR.put3 HF.out 0 0)
  generalize World.setCell w7 ⟨g3, 0, none⟩ (.int .i64 0) = w8 at BK1 BK2 BK6 HF HB ⊢
  have ha0 := (Z20 BK1.out 0).trans rfl
  have ha1 := (Z20 BK1.out 1).trans rfl
  have ha2 := (Z20 BK1.out 2).trans rfl
  have ha3 := (Z20 BK1.out 3).trans rfl
  have hx2 := (HB.out.cell (World.block_lt_of_cell? w _ HX2.out)).trans HX2.out
  go_upto_if 32 with fail
  go_cut [] (fun wc => Aside0 (wc.heap[gb1]? = some (.cells #[.slice (some ad0) l0.length c0, .slice A1 l1.length c1, .slice (some ad2) l2.length c2, .slice (some ad3) l3.length c3] 27 (0, 0))) ∧ Aside0 (wc.heap[gb2]? = some (.cells #[.slice none 0 0, .slice none 0 0, .slice none 0 0, .slice none 0 0] 27 (0, 0))) ∧ Aside0 (wc.heap[gb6]? = some (.cells #[.slice (some ⟨g0, 0, none⟩) l0.length k0, .slice (some ⟨g1, 0, none⟩) l1.length k1, .slice (some ⟨g2, 0, none⟩) l2.length k2, .slice (some ⟨g3, 0, none⟩) l3.length k3] 27 (0, 0))) ∧ Aside0 (FoR wc w.heap.size g0 k0 g1 k1 g2 k2 g3 k3 l0 (l1.set I.toNat X) l2 (l3.set 0 0)) ∧ Aside0 (Below w.heap.size w wc))
  case first =>
   have hx1 := (FoR.at1 HF.out I Q9 Q9).1
   have hz1 := (FoR.at1 HF.out I Q9 Q9).2
   have hc1 := (Z20 BK6.out 1).trans rfl
   have n0_ := Ya (show (World.setCell w8 ⟨g1, I.toNat, none⟩ (.int .i64 X)).heap[gb1]? = _ from blk_far (p := ⟨g1, I.toNat, none⟩) BK1.out (have n := FoR.apart HF.out BK1.out (by decide) (by decide); n.2.1) (.int .i64 X))
   have n1_ := Ya (show (World.setCell w8 ⟨g1, I.toNat, none⟩ (.int .i64 X)).heap[gb2]? = _ from blk_far (p := ⟨g1, I.toNat, none⟩) BK2.out (have n := FoR.apart HF.out BK2.out (by decide) (by decide); n.2.1) (.int .i64 X))
   have n2_ := Ya (show (World.setCell w8 ⟨g1, I.toNat, none⟩ (.int .i64 X)).heap[gb6]? = _ from blk_far (p := ⟨g1, I.toNat, none⟩) BK6.out (have n := FoR.apart HF.out BK6.out (by decide) (by decide); n.2.1) (.int .i64 X))
   have n3_ := Ya (show FoR (World.setCell w8 ⟨g1, I.toNat, none⟩ (.int .i64 X)) w.heap.size g0 k0 g1 k1 g2 k2 g3 k3 l0 (l1.set I.toNat X) l2 (l3.set 0 0) from FoR.put1 HF.out I X)
   have n4_ := Ya (show Below w.heap.size w (World.setCell w8 ⟨g1, I.toNat, none⟩ (.int .i64 X)) from Z6 HB.out (FoR.ge HF.out).2.1)
   cases hU : rdOf false l2 I
   ·have hv : rd l1 I - 1 = X := by have := HXX.out; rw [hU] at this; simpa using this
    have hw : wrap64 (rd l1 I - 1) = X := by rw [← hv]; have := HX.out; unfold wrap64; omega
    have hw' : IntKind.i64.wrap (rd l1 I - 1) = X := (i64_w _).trans hw
    clear hv
    rw [hU] at hx2
    go_wp2
    go_meet
    case rel => exact ⟨n0_, n1_, n2_, n3_, n4_⟩
   ·have hv : rd l1 I + 1 = X := by have := HXX.out; rw [hU] at this; simpa using this
    have hw : wrap64 (rd l1 I + 1) = X := by rw [← hv]; have := HX.out; unfold wrap64; omega
    have hw' : IntKind.i64.wrap (rd l1 I + 1) = X := (i64_w _).trans hw
    clear hv
    rw [hU] at hx2
    go_wp2
    go_meet
    case rel => exact ⟨n0_, n1_, n2_, n3_, n4_⟩
  case rest =>
   clear hx2 ha0 ha1 ha2 ha3 BK1 BK2 BK6 HF HB
   obtain ⟨BK1, BK2, BK6, HF, HB⟩ := hcut
   have HRD := Ya (show rd (l1.set I.toNat X) I = X from by
    have := HL.out
    unfold rd
    rw [List.getD_eq_getElem?_getD, List.getElem?_set_self (by omega)]; rfl)
   go_upto_region 11 with fail
   go_cut [66] (fun v66 wc => ∃ t : Bool, v66 = .bool t ∧ Aside0 (t = decide (X = 0 ∨ X = rd l0 I - 1)) ∧ Aside0 (wc.heap[gb1]? = some (.cells #[.slice (some ad0) l0.length c0, .slice A1 l1.length c1, .slice (some ad2) l2.length c2, .slice (some ad3) l3.length c3] 27 (0, 0))) ∧ Aside0 (wc.heap[gb2]? = some (.cells #[.slice none 0 0, .slice none 0 0, .slice none 0 0, .slice none 0 0] 27 (0, 0))) ∧ Aside0 (wc.heap[gb6]? = some (.cells #[.slice (some ⟨g0, 0, none⟩) l0.length k0, .slice (some ⟨g1, 0, none⟩) l1.length k1, .slice (some ⟨g2, 0, none⟩) l2.length k2, .slice (some ⟨g3, 0, none⟩) l3.length k3] 27 (0, 0))) ∧ Aside0 (FoR wc w.heap.size g0 k0 g1 k1 g2 k2 g3 k3 l0 (l1.set I.toNat X) l2 (l3.set 0 0)) ∧ Aside0 (Below w.heap.size w wc))
   case first =>
    have hw : wrap64 (rd l0 I - 1) = rd l0 I - 1 := by have := HX.out; unfold wrap64; omega
    have hw' : IntKind.i64.wrap (rd l0 I - 1) = rd l0 I - 1 := (i64_w _).trans hw
    by_cases z : X = 0
    ·have zb : (X == 0) = true := beq_iff_eq.mpr z
     have HT := Ya (Z35 (p := X = 0 ∨ X = rd l0 I - 1) (Or.inl z))
     clear z
     go_wp2_with fail
     replace BK1 := Ya (Z23 BK1.out)
     replace BK2 := Ya (Z23 BK2.out)
     replace BK6 := Ya (Z23 BK6.out)
     replace HF := Ya (FoR.drew HF.out)
     replace HB := Ya (Z4 HB.out)
     refine start_ (n := 20) (S := fun w' => w'.cell? ⟨gb6, 1, none⟩ = some (.slice (some ⟨g1, 0, none⟩) l1.length k1) ∧ w'.cell? ⟨gb1, 0, none⟩ = some (.slice (some ad0) l0.length c0) ∧ w'.cell? ⟨g1, I.toNat, none⟩ = some (.int .i64 X) ∧ w'.cell? (ad0.add I.toNat) = some (.int .i64 (rd l0 I))) (ds := []) (YA 20 0) (by kernel_rfl) rfl rfl ⟨(Z20 BK6.out 1).trans rfl, (Z20 BK1.out 0).trans rfl, ((FoR.at1 HF.out I Q9 Q40).1.trans (by rw [HRD.out])), ((HB.out.cell (World.block_lt_of_cell? w _ HX0.out)).trans HX0.out)⟩ (fun hHeld => ?_)
     generalize World.drew _ = w9 at BK1 BK2 BK6 HF HB hHeld ⊢
     refine Yq 0 (some 47) (YA 20 1) rfl ?_
     refine Yq 2 (some 49) (YA 20 5) rfl ?_
     refine Ys 1 (some 48) (YA 20 7) rfl hHeld Q3 ?_
     refine Yq 3 (some 50) (YA 20 15) rfl ?_
     refine Ys 4 (some 51) (YA 20 31) rfl hHeld Q3 ?_
     refine Yq 5 (some 52) (YA 20 63) rfl ?_
     refine Yq 6 (some 53) (YA 20 127) rfl ?_
     refine Yu 7 (some 54) (YA 20 255) rfl ?_
     refine Yu 8 (some 55) (YA 20 511) rfl ?_
     refine Yu 9 (some 56) (YA 20 1023) rfl ?_
     refine Yu 10 (some 57) (YA 20 2047) rfl ?_
     refine Yu 11 (some 58) (YA 20 4095) rfl ?_
     refine Yu 12 (some 59) (YA 20 8191) rfl ?_
     refine Yu 13 (some 60) (YA 20 16383) rfl ?_
     refine Yu 14 (some 61) (YA 20 32767) rfl ?_
     refine Yu 15 (some 62) (YA 20 65535) rfl ?_
     refine Yu 16 (some 63) (YA 20 131071) rfl ?_
     refine Yu 17 (some 64) (YA 20 262143) rfl ?_
     refine Yu 18 (some 65) (YA 20 524287) rfl ?_
     refine Yq 19 (some 66) (YA 20 1048575) rfl ?_
     refine done_ (by kernel_rfl) ?_
     go_step
     go_step
     go_meet
     case rel => exact ⟨true, rfl, ⟨HT.out.symm⟩, BK1, BK2, BK6, HF, HB⟩
    ·have zb : (X == 0) = false := beq_eq_false_iff_ne.mpr z
     have HT := Ya (show (X == rd l0 I - 1) = decide (X = 0 ∨ X = rd l0 I - 1) from by rw [Bool.eq_iff_iff]; simp [z])
     clear z
     go_wp2_with fail
     replace BK1 := Ya (Z23 BK1.out)
     replace BK2 := Ya (Z23 BK2.out)
     replace BK6 := Ya (Z23 BK6.out)
     replace HF := Ya (FoR.drew HF.out)
     replace HB := Ya (Z4 HB.out)
     refine start_ (n := 20) (S := fun w' => w'.cell? ⟨gb6, 1, none⟩ = some (.slice (some ⟨g1, 0, none⟩) l1.length k1) ∧ w'.cell? ⟨gb1, 0, none⟩ = some (.slice (some ad0) l0.length c0) ∧ w'.cell? ⟨g1, I.toNat, none⟩ = some (.int .i64 X) ∧ w'.cell? (ad0.add I.toNat) = some (.int .i64 (rd l0 I))) (ds := []) (YA 20 0) (by kernel_rfl) rfl rfl ⟨(Z20 BK6.out 1).trans rfl, (Z20 BK1.out 0).trans rfl, ((FoR.at1 HF.out I Q9 Q40).1.trans (by rw [HRD.out])), ((HB.out.cell (World.block_lt_of_cell? w _ HX0.out)).trans HX0.out)⟩ (fun hHeld => ?_)
     generalize World.drew _ = w9 at BK1 BK2 BK6 HF HB hHeld ⊢
     refine Yq 0 (some 47) (YA 20 1) rfl ?_
     refine Yq 2 (some 49) (YA 20 5) rfl ?_
     refine Ys 1 (some 48) (YA 20 7) rfl hHeld Q3 ?_
     refine Yq 3 (some 50) (YA 20 15) rfl ?_
     refine Ys 4 (some 51) (YA 20 31) rfl hHeld Q3 ?_
     refine Yq 5 (some 52) (YA 20 63) rfl ?_
     refine Yq 6 (some 53) (YA 20 127) rfl ?_
     refine Yq 7 (some 54) (YA 20 255) rfl ?_
     refine Yq 9 (some 56) (YA 20 767) rfl ?_
     refine Yq 12 (some 59) (YA 20 4863) rfl ?_
     refine Yq 14 (some 61) (YA 20 21247) rfl ?_
     refine Ys 8 (some 55) (YA 20 21503) rfl hHeld Q3 ?_
     refine Yq 10 (some 57) (YA 20 22527) rfl ?_
     refine Ys 11 (some 58) (YA 20 24575) rfl hHeld Q3 ?_
     refine Ys 13 (some 60) (YA 20 32767) rfl hHeld Q3 ?_
     refine Yq 15 (some 62) (YA 20 65535) rfl ?_
     refine Ys 16 (some 63) (YA 20 131071) rfl hHeld Q3 ?_
     refine Yq 17 (some 64) (YA 20 262143) rfl ?_
     refine Yq 18 (some 65) (YA 20 524287) rfl ?_
     refine Yq 19 (some 66) (YA 20 1048575) rfl ?_
     refine done_ (by kernel_rfl) ?_
     go_step
     go_step
     go_meet
     case rel => exact ⟨_, rfl, HT, BK1, BK2, BK6, HF, HB⟩
   case rest =>
    clear BK1 BK2 BK6 HF HB
    obtain ⟨t, rfl, HT, BK1, BK2, BK6, HF, HB⟩ := hcut
    cases t
    ·have h := HH.out
     rw [if_neg (fun e => by have h_ := HT.out; rw [Z35 e] at h_; cases h_)] at h
     simp only [Option.some.injEq, Prod.mk.injEq] at h
     obtain ⟨rfl, rfl, rfl, rfl⟩ := h
     have hc0 := (Z20 BK6.out 0).trans rfl
     have hc1 := (Z20 BK6.out 1).trans rfl
     have hc2 := (Z20 BK6.out 2).trans rfl
     have hc3 := (Z20 BK6.out 3).trans rfl
     have hd0 := (Z20 BK2.out 0).trans rfl
     have hf0 := Z21 BK2.out 0
     have hd1 := (Z20 BK2.out 1).trans rfl
     have hf1 := Z21 BK2.out 1
     have hd2 := (Z20 BK2.out 2).trans rfl
     have hf2 := Z21 BK2.out 2
     have hd3 := (Z20 BK2.out 3).trans rfl
     have hf3 := Z21 BK2.out 3
     go_wp2
     refine bodyPost_ret (results_ct rfl _ _ gb2 27 #[.slice (some ⟨g0, 0, none⟩) l0.length k0, .slice (some ⟨g1, 0, none⟩) l1.length k1, .slice (some ⟨g2, 0, none⟩) l2.length k2, .slice (some ⟨g3, 0, none⟩) l3.length k3] (0, 0) _ rfl (set4_at BK2.out _ _ _ _) Try.underlying27 rfl (by kernel_rfl)) rfl ?_
     obtain ⟨q0, q1, q2, q3⟩ := FoR.back (FoR.set4 HF.out BK2.out (by decide) (by decide) (.slice (some ⟨g0, 0, none⟩) l0.length k0) (.slice (some ⟨g1, 0, none⟩) l1.length k1) (.slice (some ⟨g2, 0, none⟩) l2.length k2) (.slice (some ⟨g3, 0, none⟩) l3.length k3))
     simp only [List.length_set] at q0 q1 q2 q3
     exact ⟨.slice (some ⟨g0, 0, none⟩) l0.length k0, .slice (some ⟨g1, 0, none⟩) l1.length k1, .slice (some ⟨g2, 0, none⟩) l2.length k2, .slice (some ⟨g3, 0, none⟩) l3.length k3, by rw [HIE.out]; rfl, q0, q1, q2, q3, set4_below HB.out GE2.out _ _ _ _⟩
    ·have h := HH.out
     rw [if_pos (Z27 HT.out.symm)] at h
     simp only [Option.some.injEq, Prod.mk.injEq] at h
     obtain ⟨rfl, rfl, rfl, rfl⟩ := h
     go_wp2_with fail
     replace BK1 := Ya (Z23 BK1.out)
     replace BK2 := Ya (Z23 BK2.out)
     replace BK6 := Ya (Z23 BK6.out)
     replace HF := Ya (FoR.drew HF.out)
     replace HB := Ya (Z4 HB.out)
     refine start_ (n := 11) (S := fun w' => w'.cell? ⟨gb6, 2, none⟩ = some (.slice (some ⟨g2, 0, none⟩) l2.length k2) ∧ w'.cell? ⟨gb1, 2, none⟩ = some (.slice (some ad2) l2.length c2) ∧ w'.cell? (ad2.add I.toNat) = some (.bool (rdOf false l2 I))) (ds := [10]) (YA 11 0) (by kernel_rfl) rfl rfl ⟨(Z20 BK6.out 2).trans rfl, (Z20 BK1.out 2).trans rfl, ((HB.out.cell (World.block_lt_of_cell? w _ HX2.out)).trans HX2.out)⟩ (fun hHeld => ?_)
     generalize World.drew _ = w9 at BK1 BK2 BK6 HF HB hHeld ⊢
     have hxs := (FoR.at2 HF.out I Q9 Q9).1
     have hzs := (FoR.at2 HF.out I Q9 Q9).2
     refine Yq 0 (some 67) (YA 11 1) rfl ?_
     refine Yq 2 (some 69) (YA 11 5) rfl ?_
     refine Yq 3 (some 70) (YA 11 13) rfl ?_
     refine Yq 5 (some 72) (YA 11 45) rfl ?_
     refine Ys 1 (some 68) (YA 11 47) rfl hHeld Q10 ?_
     refine Ys 4 (some 71) (YA 11 63) rfl hHeld Q10 ?_
     refine Yq 6 (some 73) (YA 11 127) rfl ?_
     refine Ys 7 (some 74) (YA 11 255) rfl hHeld Q10 ?_
     refine Yq 8 (some 75) (YA 11 511) rfl ?_
     refine Yq 9 (some 76) (YA 11 1023) rfl ?_
     refine last_ (i := 10) (N := none) (YA 11 2047) rfl rfl (by kernel_rfl) (by decide) (fun K hK => ?_)
     refine skip_ (w1 := ?_) (by rfl) rfl ?_ ?_
     rotate_left
     ·go_simp
      rfl
     refine hK.out _ _ ?_
     clear hK K
     refine done_ (by kernel_rfl) ?_
     clear hxs hzs
     replace BK1 := Ya (show (World.setCell w9 ⟨g2, I.toNat, none⟩ (.bool (!rdOf false l2 I))).heap[gb1]? = _ from blk_far (p := ⟨g2, I.toNat, none⟩) BK1.out (have n := FoR.apart HF.out BK1.out (by decide) (by decide); n.2.2.1) (.bool (!rdOf false l2 I)))
     replace BK2 := Ya (show (World.setCell w9 ⟨g2, I.toNat, none⟩ (.bool (!rdOf false l2 I))).heap[gb2]? = _ from blk_far (p := ⟨g2, I.toNat, none⟩) BK2.out (have n := FoR.apart HF.out BK2.out (by decide) (by decide); n.2.2.1) (.bool (!rdOf false l2 I)))
     replace BK6 := Ya (show (World.setCell w9 ⟨g2, I.toNat, none⟩ (.bool (!rdOf false l2 I))).heap[gb6]? = _ from blk_far (p := ⟨g2, I.toNat, none⟩) BK6.out (have n := FoR.apart HF.out BK6.out (by decide) (by decide); n.2.2.1) (.bool (!rdOf false l2 I)))
     replace HB := Ya (show Below w.heap.size w (World.setCell w9 ⟨g2, I.toNat, none⟩ (.bool (!rdOf false l2 I))) from Z6 HB.out (FoR.ge HF.out).2.2.1)
     replace HF := Ya (show FoR (World.setCell w9 ⟨g2, I.toNat, none⟩ (.bool (!rdOf false l2 I))) w.heap.size g0 k0 g1 k1 g2 k2 g3 k3 l0 (l1.set I.toNat X) (l2.set I.toNat (!rdOf false l2 I)) (l3.set 0 0) from FoR.put2 HF.out I _)
     generalize World.setCell w9 ⟨g2, I.toNat, none⟩ (.bool (!rdOf false l2 I)) = w10 at BK1 BK2 BK6 HF HB ⊢
     go_wp2_with fail
     replace BK1 := Ya (Z23 BK1.out)
     replace BK2 := Ya (Z23 BK2.out)
     replace BK6 := Ya (Z23 BK6.out)
     replace HF := Ya (FoR.drew HF.out)
     replace HB := Ya (Z4 HB.out)
     refine start_ (n := 11) (S := fun w' => w'.cell? ⟨gb6, 3, none⟩ = some (.slice (some ⟨g3, 0, none⟩) l3.length k3) ∧ w'.cell? ⟨g3, (J + 1).toNat, none⟩ = some (.int .i64 (rd (l3.set 0 0) (J + 1)))) (ds := [10]) (YA 11 0) (by kernel_rfl) rfl rfl ⟨(Z20 BK6.out 3).trans rfl, (FoR.at3 HF.out (J + 1) Q9 Q40).1⟩ (fun hHeld => ?_)
     generalize World.drew _ = w11 at BK1 BK2 BK6 HF HB hHeld ⊢
     have hxs := (FoR.at3 HF.out J Q9 Q40).1
     have hzs := (FoR.at3 HF.out J Q9 Q40).2
     refine Yq 0 (some 77) (YA 11 1) rfl ?_
     refine Yq 2 (some 79) (YA 11 5) rfl ?_
     refine Yq 3 (some 80) (YA 11 13) rfl ?_
     refine Yq 5 (some 82) (YA 11 45) rfl ?_
     refine Yq 6 (some 83) (YA 11 109) rfl ?_
     refine Ys 1 (some 78) (YA 11 111) rfl hHeld Q19 ?_
     refine Ys 4 (some 81) (YA 11 127) rfl hHeld Q19 ?_
     refine Yq 7 (some 84) (YA 11 255) rfl ?_
     refine Ys 8 (some 85) (YA 11 511) rfl hHeld Q19 ?_
     refine Yq 9 (some 86) (YA 11 1023) rfl ?_
     refine last_ (i := 10) (N := none) (YA 11 2047) rfl rfl (by kernel_rfl) (by decide) (fun K hK => ?_)
     refine skip_ (w1 := ?_) (by rfl) rfl ?_ ?_
     rotate_left
     ·go_simp
      rfl
     refine hK.out _ _ ?_
     clear hK K
     refine done_ (by kernel_rfl) ?_
     clear hxs hzs
     replace BK1 := Ya (show (World.setCell w11 ⟨g3, J.toNat, none⟩ (.int .i64 (rd (l3.set 0 0) (J + 1)))).heap[gb1]? = _ from blk_far (p := ⟨g3, J.toNat, none⟩) BK1.out (have n := FoR.apart HF.out BK1.out (by decide) (by decide); n.2.2.2) (.int .i64 (rd (l3.set 0 0) (J + 1))))
     replace BK2 := Ya (show (World.setCell w11 ⟨g3, J.toNat, none⟩ (.int .i64 (rd (l3.set 0 0) (J + 1)))).heap[gb2]? = _ from blk_far (p := ⟨g3, J.toNat, none⟩) BK2.out (have n := FoR.apart HF.out BK2.out (by decide) (by decide); n.2.2.2) (.int .i64 (rd (l3.set 0 0) (J + 1))))
     replace BK6 := Ya (show (World.setCell w11 ⟨g3, J.toNat, none⟩ (.int .i64 (rd (l3.set 0 0) (J + 1)))).heap[gb6]? = _ from blk_far (p := ⟨g3, J.toNat, none⟩) BK6.out (have n := FoR.apart HF.out BK6.out (by decide) (by decide); n.2.2.2) (.int .i64 (rd (l3.set 0 0) (J + 1))))
     replace HB := Ya (show Below w.heap.size w (World.setCell w11 ⟨g3, J.toNat, none⟩ (.int .i64 (rd (l3.set 0 0) (J + 1)))) from Z6 HB.out (FoR.ge HF.out).2.2.2)
     replace HF := Ya (show FoR (World.setCell w11 ⟨g3, J.toNat, none⟩ (.int .i64 (rd (l3.set 0 0) (J + 1)))) w.heap.size g0 k0 g1 k1 g2 k2 g3 k3 l0 (l1.set I.toNat X) (l2.set I.toNat (!rdOf false l2 I)) ((l3.set 0 0).set J.toNat (rd (l3.set 0 0) (J + 1))) from FoR.put3 HF.out J _)
     generalize World.setCell w11 ⟨g3, J.toNat, none⟩ (.int .i64 (rd (l3.set 0 0) (J + 1))) = w12 at BK1 BK2 BK6 HF HB ⊢
     have hc0 := (Z20 BK6.out 0).trans rfl
     have hc1 := (Z20 BK6.out 1).trans rfl
     have hc2 := (Z20 BK6.out 2).trans rfl
     have hc3 := (Z20 BK6.out 3).trans rfl
     have hxs := (FoR.at3 HF.out (J + 1) Q9 Q66).1
     have hzs := (FoR.at3 HF.out (J + 1) Q9 Q66).2
     go_upto_region 15 with fail
     clear hc0 hc1 hc2 hc3 hxs hzs
     replace BK1 := Ya (show (World.setCell w12 ⟨g3, (J + 1).toNat, none⟩ (.int .i64 (J + 1))).heap[gb1]? = _ from blk_far (p := ⟨g3, (J + 1).toNat, none⟩) BK1.out (have n := FoR.apart HF.out BK1.out (by decide) (by decide); n.2.2.2) (.int .i64 (J + 1)))
     replace BK2 := Ya (show (World.setCell w12 ⟨g3, (J + 1).toNat, none⟩ (.int .i64 (J + 1))).heap[gb2]? = _ from blk_far (p := ⟨g3, (J + 1).toNat, none⟩) BK2.out (have n := FoR.apart HF.out BK2.out (by decide) (by decide); n.2.2.2) (.int .i64 (J + 1)))
     replace BK6 := Ya (show (World.setCell w12 ⟨g3, (J + 1).toNat, none⟩ (.int .i64 (J + 1))).heap[gb6]? = _ from blk_far (p := ⟨g3, (J + 1).toNat, none⟩) BK6.out (have n := FoR.apart HF.out BK6.out (by decide) (by decide); n.2.2.2) (.int .i64 (J + 1)))
     replace HB := Ya (show Below w.heap.size w (World.setCell w12 ⟨g3, (J + 1).toNat, none⟩ (.int .i64 (J + 1))) from Z6 HB.out (FoR.ge HF.out).2.2.2)
     replace HF := Ya (show FoR (World.setCell w12 ⟨g3, (J + 1).toNat, none⟩ (.int .i64 (J + 1))) w.heap.size g0 k0 g1 k1 g2 k2 g3 k3 l0 (l1.set I.toNat X) (l2.set I.toNat (!rdOf false l2 I)) (((l3.set 0 0).set J.toNat (rd (l3.set 0 0) (J + 1))).set (J + 1).toNat (J + 1)) from FoR.put3 HF.out (J + 1) _)
     generalize World.setCell w12 ⟨g3, (J + 1).toNat, none⟩ (.int .i64 (J + 1)) = w13 at BK1 BK2 BK6 HF HB ⊢
     have hc0 := (Z20 BK6.out 0).trans rfl
     have hc1 := (Z20 BK6.out 1).trans rfl
     have hc2 := (Z20 BK6.out 2).trans rfl
     have hc3 := (Z20 BK6.out 3).trans rfl
     have hd0 := (Z20 BK2.out 0).trans rfl
     have hf0 := Z21 BK2.out 0
     have hd1 := (Z20 BK2.out 1).trans rfl
     have hf1 := Z21 BK2.out 1
     have hd2 := (Z20 BK2.out 2).trans rfl
     have hf2 := Z21 BK2.out 2
     have hd3 := (Z20 BK2.out 3).trans rfl
     have hf3 := Z21 BK2.out 3
     go_wp2
     refine bodyPost_ret (results_ct rfl _ _ gb2 27 #[.slice (some ⟨g0, 0, none⟩) l0.length k0, .slice (some ⟨g1, 0, none⟩) l1.length k1, .slice (some ⟨g2, 0, none⟩) l2.length k2, .slice (some ⟨g3, 0, none⟩) l3.length k3] (0, 0) _ rfl (set4_at BK2.out _ _ _ _) Try.underlying27 rfl (by kernel_rfl)) rfl ?_
     obtain ⟨q0, q1, q2, q3⟩ := FoR.back (FoR.set4 HF.out BK2.out (by decide) (by decide) (.slice (some ⟨g0, 0, none⟩) l0.length k0) (.slice (some ⟨g1, 0, none⟩) l1.length k1) (.slice (some ⟨g2, 0, none⟩) l2.length k2) (.slice (some ⟨g3, 0, none⟩) l3.length k3))
     simp only [List.length_set] at q0 q1 q2 q3
     exact ⟨.slice (some ⟨g0, 0, none⟩) l0.length k0, .slice (some ⟨g1, 0, none⟩) l1.length k1, .slice (some ⟨g2, 0, none⟩) l2.length k2, .slice (some ⟨g3, 0, none⟩) l3.length k3, by rw [HIE.out]; rfl, q0, q1, q2, q3, set4_below HB.out GE2.out _ _ _ _⟩
def spec_raUpTo.l0 : Nat → Int → List Int → Int → Option (List Int)
 | 0, _, _, _ => none
 | k + 1, x0, x3, x4 => if x4 < x0 then (if x3.length < 17592186044416 then (spec_raUpTo.l0 k x0 (x3 ++ [x4]) (wrap64 (x4 + 1))) else (none)) else (some x3)
def spec_raUpTo.f (k : Nat) (a0 : Int) : Option (List Int) := spec_raUpTo.l0 k a0 ([] : List Int) 0
theorem spec_raUpTo.mono_l : ∀ k, (∀ y0 y1 y2, LeO (spec_raUpTo.l0 k y0 y1 y2) (spec_raUpTo.l0 (k + 1) y0 y1 y2))
 | 0 => fun _ _ _ r h => by simp [spec_raUpTo.l0] at h
 | k + 1 => by
  have ih0 := spec_raUpTo.mono_l k
  ·intro y0 y1 y2
   unfold spec_raUpTo.l0
   repeat' first
   | (with_reducible exact ih0 _ _ _)
   | (with_reducible exact LeO.refl _)
   | (with_reducible exact LeO.none _)
   | (with_reducible refine LeO.ite ?_ ?_)
   | (with_reducible refine LeO.bind ?_ (fun _ => ?_))
   | exact ih0 _ _ _
   | exact LeO.none _
   | refine LeO.ite ?_ ?_
   | refine LeO.bind ?_ (fun _ => ?_)
theorem spec_raUpTo.mono : ∀ a0 k, LeO (spec_raUpTo.f k a0) (spec_raUpTo.f (k + 1) a0) := by
 intro a0 k
 have ih0 := spec_raUpTo.mono_l k
 unfold spec_raUpTo.f
 repeat' first
   | (with_reducible exact ih0 _ _ _)
   | (with_reducible exact LeO.refl _)
   | (with_reducible exact LeO.none _)
   | (with_reducible refine LeO.ite ?_ ?_)
   | (with_reducible refine LeO.bind ?_ (fun _ => ?_))
   | exact ih0 _ _ _
   | exact LeO.none _
   | refine LeO.ite ?_ ?_
   | refine LeO.bind ?_ (fun _ => ?_)
set_option maxHeartbeats 8000000 in
set_option maxRecDepth 100000 in
theorem spec_raUpTo.calls (k : Nat) (a0 : Int) (r : List Int) (w : World) (h : spec_raUpTo.f k a0 = some r) :
  Calls Try.prog 82 #[.int .i64 a0] w fun e w' => ∃ v0_ : Value, e = .returned (v0_) ∧ Kd.R (Kd.int .i64) 3 w' w.heap.size (fun _ => True) v0_ r ∧ Below w.heap.size w w' := by
 have HB := Ya (Below.refl w.heap.size w)
 have H : (spec_raUpTo.l0 k a0 ([] : List Int) 0) = some r := h
 clear h
 have H' := Ya H
 clear H
 go_enter Try.func82, Try.ntmps82
 go_wp2
 go_loopg [3, 4] k (fun kq v3 v4 w' => ∃ (x3_1 : List Int) (x4_1 : Int), v4 = .int .i64 x4_1 ∧ Aside0 (spec_raUpTo.l0 kq a0 x3_1 x4_1 = some r) ∧ Aside0 (kq ≤ k) ∧ Aside0 (Kd.R (Kd.int .i64) 3 w' w.heap.size (fun _ => True) v3 x3_1) ∧ Aside0 (Below w.heap.size w w'))
 case atStart => exact ⟨(([] : List Int)), (0), Q7, H', ⟨Nat.le_refl _⟩, ⟨Q8⟩, ⟨Q12⟩⟩
 case round =>
  clear H'
  obtain ⟨x3_1, x4_1, rfl, HA, HK1, HO_3, HB⟩ := hrel
  cases gk with
  | zero => exact absurd HA.out (by simp [spec_raUpTo.l0])
  | succ k1 =>
   have H := HA.out
   clear HA
   simp only [spec_raUpTo.l0] at H
   by_cases c2 : x4_1 < a0
   ·rw [if_pos c2] at H
    have c2b0 : decide (x4_1 < a0) = true := Z35 c2
    clear c2
    by_cases c3 : x3_1.length < 17592186044416
    ·rw [if_pos c3] at H
     have LMc3 := Ya c3
     clear c3
     obtain ⟨y158, hy158⟩ : ∃ y_ : List Int, y_ = (x3_1 ++ [x4_1]) := ⟨_, rfl⟩
     replace H : (spec_raUpTo.l0 k1 a0 y158 (wrap64 (x4_1 + 1))) = some r := by first | (rw [hy158]; with_reducible exact H) | (have H2_ := (Option.bind_some _ _).symm.trans H; rw [hy158]; with_reducible exact H2_) | (have H2_ := (Option.bind_some _ _).symm.trans H; with_reducible exact H2_) | with_reducible exact H | (rw [hy158]; exact H) | exact H
     have Ny158 := Ya hy158
     clear hy158
     have H' := Ya H
     clear H
     go_wp2_with (first | ((with_reducible refine gate_builtin (b := .append) (xs := #[.tmp 10, .tmp 12]) rfl ?_); at_builtin; refine Kd.R_append (Kd.int .i64) (w0 := w) w.heap.size rfl (.tmp 10) (.tmp 12) 22 3 (.int .i64 0) 8 rfl Try.underlying22 info3 rfl (by decide) (by omega) u3 x3_1 x4_1 [.int .i64 x4_1] (fun _ => True) (fun _ => False) rfl rfl ?aP (fun _ hk => hk.elim) ?aF ?aO ?aB ?aS ?aL ?_; (case aP => exact rfl); (case aB => exact Q0); (case aF => exact (fun _ _ => trivial)); (case aO => exact (Yr HO_3.out)); (case aS => exact (Z7 Q0)); (case aL => have := LMc3.out; omega); intro v159 w4 ho hb hg hat; rw [← Ny158.out] at ho; replace HB := Ya hb; have HO160 := Ya ho; clear HO_3; clear ho hb hg hat))
     go_roundg k1
     case measure => have := HK1.out; omega
     case rel => exact ⟨(y158), (wrap64 (x4_1 + 1)), Q7, H', ⟨Q30⟩, ⟨by (with_reducible repeat (first | apply Z8 | apply Z9 | apply Z10)); exact HO160.out⟩, ⟨Q12⟩⟩
    ·rw [if_neg c3] at H
     exact absurd H (by simp)
   ·rw [if_neg c2] at H
    have c2b0 : decide (x4_1 < a0) = false := Z34 c2
    clear c2
    obtain rfl := Option.some.inj H
    go_wp2
    go_ret
    exact ⟨_, Q2, Q31, Q12⟩
end Go.Proofs.Ytpfakdhfffehaaa.MFnExactIsSwapper
