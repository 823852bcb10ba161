import Derived.Test.YtapbbmicfkbafaaMFnFocusStepsx0
import Derived.Test.YtapbbmicfkbafaaMFnFocusStepsx1
import Derived.Test.YtapbbmicfkbafaaMFnFocusStepsx2
namespace Go.Proofs.Ytapbbmicfkbafaa.MFnFocusSteps
open Go.RowKit Go.Proofs.YtapbbmicfkbafaaW.PrintWords Go.Proofs.YtapbbmicfkbafaaW.PrintLast Go.Proofs.YtapbbmicfkbafaaW.PrintMore
attribute [local go_sem] max2_int min2_int max_two min_two max_three min_three max_four min_four   
set_option linter.unusedVariables false
set_option linter.unusedSimpArgs false
def impl_Focus_own.f (l0_0 : List Int) (l0_1 : List Int) (l0_2 : List Bool) (l0_3 : List Int) : Option (List Int × List Int × List Bool × List Int) := (impl_copied.f l0_0).bind fun t176 => ((impl_copied.f l0_1).bind fun t179 => ((some (([] : List Bool) : List Bool)).bind fun y182 => (if y182.length + l0_2.length < 140737488355328 then ((impl_copied.f l0_3).bind fun t188 => (some (t176, t179, (y182 ++ l0_2), t188))) else (none))))
def impl_Focus_own.T1 : Bool × List (List Nat × List Nat) := (true, [([], []), ([0], [0]), ([1], [1]), ([], []), ([3], [3]), ([4, 2], [4]), ([], []), ([], []), ([7], [7]), ([6, 8, 5], [6, 8]), ([], []), ([10], [10]), ([11, 9], [11]), ([2, 5, 9, 12], [2, 5, 9, 12]), ([13, 12, 0, 1, 2, 3, 4, 5, 6, 7, 8, 9, 10, 11, 12, 13], [13])])
def impl_Focus_own.B1 : List Nat := [0, 1, 3, 0, 8, 31, 0, 0, 128, 511, 0, 1024, 4095, 8191, 16383]
theorem impl_Focus_own.tab1 : rtab .any (opsOf Try.f37 1) = impl_Focus_own.T1 := by kernel_rfl
theorem impl_Focus_own.bits1 : waitsOk impl_Focus_own.T1.2 impl_Focus_own.B1 = true := by kernel_rfl
set_option maxHeartbeats 8000000 in
set_option maxRecDepth 100000 in
theorem impl_Focus_own.calls (A0_0 : Option Addr) (c0_0 : Nat) (l0_0 : List Int) (A0_1 : Option Addr) (c0_1 : Nat) (l0_1 : List Int) (A0_2 : Option Addr) (c0_2 : Nat) (l0_2 : List Bool) (A0_3 : Option Addr) (c0_3 : Nat) (l0_3 : List Int) (r1 : List Int) (r2 : List Int) (r3 : List Bool) (r4 : List Int) (w : World) (hr0_0 : Kd.C (Kd.int .i64) w A0_0 l0_0.length l0_0) (hc0_0 : l0_0.length ≤ c0_0) (hr0_1 : Kd.C (Kd.int .i64) w A0_1 l0_1.length l0_1) (hc0_1 : l0_1.length ≤ c0_1) (hr0_2 : Kd.C Kd.bool w A0_2 l0_2.length l0_2) (hc0_2 : l0_2.length ≤ c0_2) (hr0_3 : Kd.C (Kd.int .i64) w A0_3 l0_3.length l0_3) (hc0_3 : l0_3.length ≤ c0_3) (h : impl_Focus_own.f l0_0 l0_1 l0_2 l0_3 = some (r1, r2, r3, r4)) :
  Calls Try.prog 37 #[.agg #[.slice A0_0 l0_0.length c0_0, .slice A0_1 l0_1.length c0_1, .slice A0_2 l0_2.length c0_2, .slice A0_3 l0_3.length c0_3]] w fun e w' => ∃ v0_ v1_ v2_ v3_ : Value, e = .returned (.agg #[v0_, v1_, v2_, v3_]) ∧ Kd.R (Kd.int .i64) 3 w' w.heap.size (fun k_ => some k_ ≠ (v1_ : Value).ownBlock ∧ some k_ ≠ (v3_ : Value).ownBlock) v0_ r1 ∧ Kd.R (Kd.int .i64) 3 w' w.heap.size (fun k_ => some k_ ≠ (v0_ : Value).ownBlock ∧ some k_ ≠ (v3_ : Value).ownBlock) v1_ r2 ∧ Kd.R Kd.bool 4 w' w.heap.size (fun _ => True) v2_ r3 ∧ Kd.R (Kd.int .i64) 3 w' w.heap.size (fun k_ => some k_ ≠ (v0_ : Value).ownBlock ∧ some k_ ≠ (v1_ : Value).ownBlock) v3_ r4 ∧ Below w.heap.size w w' := by
 have hu33 := Try.underlying33
 have HR0_0 := Ya hr0_0
 have HC0_0 := Ya hc0_0
 clear hr0_0 hc0_0
 have HR0_1 := Ya hr0_1
 have HC0_1 := Ya hc0_1
 clear hr0_1 hc0_1
 have HR0_2 := Ya hr0_2
 have HC0_2 := Ya hc0_2
 clear hr0_2 hc0_2
 have HR0_3 := Ya hr0_3
 have HC0_3 := Ya hc0_3
 clear hr0_3 hc0_3
 have HB := Ya (Below.refl w.heap.size w)
 have H : ((impl_copied.f l0_0).bind fun t176 => ((impl_copied.f l0_1).bind fun t179 => ((some (([] : List Bool) : List Bool)).bind fun y182 => (if y182.length + l0_2.length < 140737488355328 then ((impl_copied.f l0_3).bind fun t188 => (some (t176, t179, (y182 ++ l0_2), t188))) else (none))))) = some (r1, r2, r3, r4) := h
 clear h
 replace H := Z37.mp H
 obtain ⟨t176, A20, H⟩ := H
 replace H : ((impl_copied.f l0_1).bind fun t179 => ((some (([] : List Bool) : List Bool)).bind fun y182 => (if y182.length + l0_2.length < 140737488355328 then ((impl_copied.f l0_3).bind fun t188 => (some (t176, t179, (y182 ++ l0_2), t188))) else (none)))) = some (r1, r2, r3, r4) := H
 have A2 := Ya A20
 clear A20
 replace H := Z37.mp H
 obtain ⟨t179, A30, H⟩ := H
 replace H : ((some (([] : List Bool) : List Bool)).bind fun y182 => (if y182.length + l0_2.length < 140737488355328 then ((impl_copied.f l0_3).bind fun t188 => (some (t176, t179, (y182 ++ l0_2), t188))) else (none))) = some (r1, r2, r3, r4) := H
 have A3 := Ya A30
 clear A30
 obtain ⟨y182, hy182⟩ : ∃ y_ : List Bool, y_ = (([] : List Bool)) := ⟨_, rfl⟩
 replace H : (if y182.length + l0_2.length < 140737488355328 then ((impl_copied.f l0_3).bind fun t188 => (some (t176, t179, (y182 ++ l0_2), t188))) else (none)) = some (r1, r2, r3, r4) := by first | (rw [hy182]; with_reducible exact H) | (have H2_ := (Option.bind_some _ _).symm.trans H; rw [hy182]; with_reducible exact H2_) | (have H2_ := (Option.bind_some _ _).symm.trans H; with_reducible exact H2_) | with_reducible exact H | (rw [hy182]; exact H) | exact H
 have Ny182 := Ya hy182
 clear hy182
 by_cases c4 : y182.length + l0_2.length < 140737488355328
 ·rw [if_pos c4] at H
  have LMc4 := Ya c4
  clear c4
  obtain ⟨y185, hy185⟩ : ∃ y_ : List Bool, y_ = (y182 ++ l0_2) := ⟨_, rfl⟩
  replace H : ((impl_copied.f l0_3).bind fun t188 => (some (t176, t179, y185, t188))) = some (r1, r2, r3, r4) := by first | (rw [hy185]; with_reducible exact H) | (have H2_ := (Option.bind_some _ _).symm.trans H; rw [hy185]; with_reducible exact H2_) | (have H2_ := (Option.bind_some _ _).symm.trans H; with_reducible exact H2_) | with_reducible exact H | (rw [hy185]; exact H) | exact H
  have Ny185 := Ya hy185
  clear hy185
  replace H := Z37.mp H
  obtain ⟨t188, A50, H⟩ := H
  replace H : (some (t176, t179, y185, t188)) = some (r1, r2, r3, r4) := H
  have A5 := Ya A50
  clear A50
  simp only [Option.some.injEq, Prod.mk.injEq] at H
  obtain ⟨rfl, rfl, rfl, rfl⟩ := H
  go_enter Try.func37, Try.ntmps37
  try go_wp2_with (first | ((with_reducible refine gate_dst (N := 1) rfl ?_); refine Yx 1 #[.slice A0_0 l0_0.length c0_0, .slice A0_1 l0_1.length c0_1, .slice A0_2 l0_2.length c0_2, .slice A0_3 l0_3.length c0_3] 33 ?_; intro gb174 hg w6 hbox hb; have BK174 := Ya hbox; have GE174 := Yg hg; replace HB := Yh hb; clear hb hbox hg) | ((with_reducible refine gate_dst (N := 2) rfl ?_); refine Yx 2 YN4 33 ?_; intro gb175 hg w7 hbox hb; have BK175 := Ya hbox; have GE175 := Yg hg; replace HB := Yh hb; have NB174_175 := Yn BK174 hg; have NB175_174 := Ym BK174 hg; replace BK174 := Yb BK174 hb; clear hb hbox hg))
  replace BK174 := Ya (Z27 BK174.out)
  replace BK175 := Ya (Z27 BK175.out)
  replace HB := Ya (Z4 HB.out)
  refine start_ (n := 15) (S := fun w' => w'.cell? ⟨gb174, 0, none⟩ = some (.slice A0_0 l0_0.length c0_0) ∧ w'.cell? ⟨gb174, 1, none⟩ = some (.slice A0_1 l0_1.length c0_1) ∧ w'.cell? ⟨gb174, 2, none⟩ = some (.slice A0_2 l0_2.length c0_2) ∧ w'.cell? ⟨gb174, 3, none⟩ = some (.slice A0_3 l0_3.length c0_3)) (ds := []) (YA 15 0) (by kernel_rfl) rfl rfl (Yz4 BK174.out) (fun hHeld => ?_); refine with_tabW impl_Focus_own.tab1 impl_Focus_own.bits1 (fun HT_ HW_ => ?_)
  generalize w7.drew = w8 at BK174 BK175 HB hHeld ⊢
  refine Yp 0 (some 3) (YA 15 1) rfl HT_.out ?_
  refine Yp 3 (some 6) (YA 15 9) rfl HT_.out ?_
  refine Yp 7 (some 10) (YA 15 137) rfl HT_.out ?_
  refine Yp 10 (some 13) (YA 15 1161) rfl HT_.out ?_
  refine Yt 1 (some 4) (YA 15 1163) rfl HT_.out HW_.out hHeld Q8 ?_
  refine Yt 4 (some 7) (YA 15 1179) rfl HT_.out HW_.out hHeld Q8 ?_
  refine Yt 8 (some 11) (YA 15 1435) rfl HT_.out HW_.out hHeld Q8 ?_
  refine Yt 11 (some 14) (YA 15 3483) rfl HT_.out HW_.out hHeld Q8 ?_
  refine join_ (σ := Value × Value × Value) 4 (YA 15 3583) (fun s_ => [(5, s_.1), (8, s_.2.1), (9, s_.2.2)]) (fun s_ w' => (w'.cell? ⟨gb174, 0, none⟩ = some (.slice A0_0 l0_0.length c0_0) ∧ w'.cell? ⟨gb174, 1, none⟩ = some (.slice A0_1 l0_1.length c0_1) ∧ w'.cell? ⟨gb174, 2, none⟩ = some (.slice A0_2 l0_2.length c0_2) ∧ w'.cell? ⟨gb174, 3, none⟩ = some (.slice A0_3 l0_3.length c0_3)) ∧ (Kd.R (Kd.int .i64) 3 w' w.heap.size (fun k_ => some k_ ≠ (s_.2.1 : Value).ownBlock) s_.1 t176) ∧ (Kd.R (Kd.int .i64) 3 w' w.heap.size (fun k_ => some k_ ≠ (s_.1 : Value).ownBlock) s_.2.1 t179) ∧ (Kd.R Kd.bool 4 w' w.heap.size (fun _ => True) s_.2.2 y182) ∧ (w'.heap[gb174]? = some (.cells #[.slice A0_0 l0_0.length c0_0, .slice A0_1 l0_1.length c0_1, .slice A0_2 l0_2.length c0_2, .slice A0_3 l0_3.length c0_3] 33 (0, 0))) ∧ (w'.heap[gb175]? = some (.cells YN4 33 (0, 0))) ∧ (Below w.heap.size w w')) ?_ ?_
  rotate_left
  ·intro hCont
   refine two_ (i := 2) (j := 6) (Ni := some 5) (Nj := some 9) (YA 15 3487) (YA 15 3547) rfl rfl rfl rfl (two_of HT_.out (by kernel_rfl)) (by decide) (by decide) (fun K hK => ?_) (fun K hK => ?_)
   ·skip
    refine goes_ Try.func59 (by kernel_rfl) rfl #[.slice A0_0 l0_0.length c0_0] (by rfl) rfl rfl Q5 ?_
    with_reducible refine (impl_copied.calls _ _ l0_0 t176 _ ?side1 ?side2 A2.out).mono ?_
    (case side1 => exact Yc (Z23 HR0_0.out HB.out))
    (case side2 => exact HC0_0.out)
    rintro e w9 ⟨v177, rfl, ho0, hb⟩
    refine ⟨_, rfl, ?_⟩
    have HO178 := Yl ho0
    replace BK174 := Yb BK174 hb
    replace BK175 := Yb BK175 hb
    replace HB := Yh hb
    (try clear hb ho0)
    refine hK.out _ _ (Yz4 BK174.out) (fun hHeld => ?_)
    clear hK K
    refine norm_ (a' := ?_) ?_ ?_
    rotate_left
    ·show Act.put _ (some 5) _ = _
     simp only [Act.put, Z0, Z1, Z2, i64_w, i32_w]
     rfl
    refine two_ (i := 5) (j := 6) (Ni := some 8) (Nj := some 9) (YA 15 3519) (YA 15 3551) rfl rfl rfl rfl (two_of HT_.out (by kernel_rfl)) (by decide) (by decide) (fun K hK => ?_) (fun K hK => ?_)
    ·skip
     refine goes_ Try.func59 (by kernel_rfl) rfl #[.slice A0_1 l0_1.length c0_1] (by rfl) rfl rfl Q5 ?_
     with_reducible refine (impl_copied.calls _ _ l0_1 t179 _ ?side1 ?side2 A3.out).mono ?_
     (case side1 => exact Yc (Z23 HR0_1.out HB.out))
     (case side2 => exact HC0_1.out)
     rintro e w10 ⟨v180, rfl, ho0, hb⟩
     refine ⟨_, rfl, ?_⟩
     have HO181 := Yl (Kd.R_new' ho0 (Z18 (Yr HO178.out)))
     replace HO178 := Ya (Kd.R_elder' (Yr HO178.out) (Kd.R_base ho0) hb)
     replace BK174 := Yb BK174 hb
     replace BK175 := Yb BK175 hb
     replace HB := Yh hb
     (try clear hb ho0)
     refine hK.out _ _ (Yz4 BK174.out) (fun hHeld => ?_)
     clear hK K
     refine norm_ (a' := ?_) ?_ ?_
     rotate_left
     ·show Act.put _ (some 8) _ = _
      simp only [Act.put, Z0, Z1, Z2, i64_w, i32_w]
      rfl
     refine one_ (i := 6) (N := some 9) (YA 15 3583) rfl rfl (one_of HT_.out (by kernel_rfl)) (by decide) (fun K hK => ?_)
     refine Kd.R_lit_step Kd.bool _ 4 ?hg (N := 9) ?hd (xs := ([] : List Bool)) (inner := []) (ok := fun _ => True) (okp := fun _ => True) ?hr ?hp (fun _ hk => hk) trivial (Below.refl _ _) (Nat.le_refl _) (by simp) ?_; (case hd => rfl); (case hg => rfl); (case hr => first | (go_simp; done) | (go_simp; rfl)); (case hp => exact (Reps.none _ _))
     intro v183 w11 ho12 hb hg_ hnew_
     clear hg_ hnew_
     (first | rw [← Ny182.out] at ho12 | (simp only [Int.reduceToNat] at ho12; rw [← Ny182.out] at ho12))
     replace HO178 := Yw HO178 hb
     replace HO181 := Yw HO181 hb
     have HO184 := Yl ho12
     replace BK174 := Yb BK174 hb
     replace BK175 := Yb BK175 hb
     replace HB := Yh hb
     clear hb ho12
     refine hK.out _ _ (Yz4 BK174.out) (fun hHeld => ?_)
     clear hK K
     refine norm_ (a' := ?_) ?_ ?_
     rotate_left
     ·show Act.put _ (some 9) _ = _
      simp only [Act.put, Z0, Z1, Z2, i64_w, i32_w]
      rfl
     exact norm_ Q36 (hCont (v177, v180, v183) _ ⟨hHeld, (Yj HO178.out (fun _ hk => hk.2)), (Yj HO181.out (fun _ hk => hk.2)), (Yr HO184.out), (Yk BK174.out), (Yk BK175.out), Q0⟩)
    ·skip
     refine Kd.R_lit_step Kd.bool _ 4 ?hg (N := 9) ?hd (xs := ([] : List Bool)) (inner := []) (ok := fun _ => True) (okp := fun _ => True) ?hr ?hp (fun _ hk => hk) trivial (Below.refl _ _) (Nat.le_refl _) (by simp) ?_; (case hd => rfl); (case hg => rfl); (case hr => first | (go_simp; done) | (go_simp; rfl)); (case hp => exact (Reps.none _ _))
     intro v183 w10 ho11 hb hg_ hnew_
     clear hg_ hnew_
     (first | rw [← Ny182.out] at ho11 | (simp only [Int.reduceToNat] at ho11; rw [← Ny182.out] at ho11))
     replace HO178 := Yw HO178 hb
     have HO184 := Yl ho11
     replace BK174 := Yb BK174 hb
     replace BK175 := Yb BK175 hb
     replace HB := Yh hb
     clear hb ho11
     refine hK.out _ _ (Yz4 BK174.out) (fun hHeld => ?_)
     clear hK K
     refine norm_ (a' := ?_) ?_ ?_
     rotate_left
     ·show Act.put _ (some 9) _ = _
      simp only [Act.put, Z0, Z1, Z2, i64_w, i32_w]
      rfl
     refine one_ (i := 5) (N := some 8) (YA 15 3583) rfl rfl (one_of HT_.out (by kernel_rfl)) (by decide) (fun K hK => ?_)
     refine goes_ Try.func59 (by kernel_rfl) rfl #[.slice A0_1 l0_1.length c0_1] (by rfl) rfl rfl Q5 ?_
     with_reducible refine (impl_copied.calls _ _ l0_1 t179 _ ?side1 ?side2 A3.out).mono ?_
     (case side1 => exact Yc (Z23 HR0_1.out HB.out))
     (case side2 => exact HC0_1.out)
     rintro e w12 ⟨v180, rfl, ho0, hb⟩
     refine ⟨_, rfl, ?_⟩
     replace HO184 := Yw HO184 hb
     have HO181 := Yl (Kd.R_new' ho0 (Z18 (Yr HO178.out)))
     replace HO178 := Ya (Kd.R_elder' (Yr HO178.out) (Kd.R_base ho0) hb)
     replace BK174 := Yb BK174 hb
     replace BK175 := Yb BK175 hb
     replace HB := Yh hb
     (try clear hb ho0)
     refine hK.out _ _ (Yz4 BK174.out) (fun hHeld => ?_)
     clear hK K
     refine norm_ (a' := ?_) ?_ ?_
     rotate_left
     ·show Act.put _ (some 8) _ = _
      simp only [Act.put, Z0, Z1, Z2, i64_w, i32_w]
      rfl
     exact norm_ Q36 (hCont (v177, v180, v183) _ ⟨hHeld, (Yj HO178.out (fun _ hk => hk.2)), (Yj HO181.out (fun _ hk => hk.2)), (Yr HO184.out), (Yk BK174.out), (Yk BK175.out), Q0⟩)
   ·skip
    refine Kd.R_lit_step Kd.bool _ 4 ?hg (N := 9) ?hd (xs := ([] : List Bool)) (inner := []) (ok := fun _ => True) (okp := fun _ => True) ?hr ?hp (fun _ hk => hk) trivial (Below.refl _ _) (Nat.le_refl _) (by simp) ?_; (case hd => rfl); (case hg => rfl); (case hr => first | (go_simp; done) | (go_simp; rfl)); (case hp => exact (Reps.none _ _))
    intro v183 w9 ho10 hb hg_ hnew_
    clear hg_ hnew_
    (first | rw [← Ny182.out] at ho10 | (simp only [Int.reduceToNat] at ho10; rw [← Ny182.out] at ho10))
    have HO184 := Yl ho10
    replace BK174 := Yb BK174 hb
    replace BK175 := Yb BK175 hb
    replace HB := Yh hb
    clear hb ho10
    refine hK.out _ _ (Yz4 BK174.out) (fun hHeld => ?_)
    clear hK K
    refine norm_ (a' := ?_) ?_ ?_
    rotate_left
    ·show Act.put _ (some 9) _ = _
     simp only [Act.put, Z0, Z1, Z2, i64_w, i32_w]
     rfl
    refine one_ (i := 2) (N := some 5) (YA 15 3551) rfl rfl (one_of HT_.out (by kernel_rfl)) (by decide) (fun K hK => ?_)
    refine goes_ Try.func59 (by kernel_rfl) rfl #[.slice A0_0 l0_0.length c0_0] (by rfl) rfl rfl Q5 ?_
    with_reducible refine (impl_copied.calls _ _ l0_0 t176 _ ?side1 ?side2 A2.out).mono ?_
    (case side1 => exact Yc (Z23 HR0_0.out HB.out))
    (case side2 => exact HC0_0.out)
    rintro e w11 ⟨v177, rfl, ho0, hb⟩
    refine ⟨_, rfl, ?_⟩
    replace HO184 := Yw HO184 hb
    have HO178 := Yl ho0
    replace BK174 := Yb BK174 hb
    replace BK175 := Yb BK175 hb
    replace HB := Yh hb
    (try clear hb ho0)
    refine hK.out _ _ (Yz4 BK174.out) (fun hHeld => ?_)
    clear hK K
    refine norm_ (a' := ?_) ?_ ?_
    rotate_left
    ·show Act.put _ (some 5) _ = _
     simp only [Act.put, Z0, Z1, Z2, i64_w, i32_w]
     rfl
    refine one_ (i := 5) (N := some 8) (YA 15 3583) rfl rfl (one_of HT_.out (by kernel_rfl)) (by decide) (fun K hK => ?_)
    refine goes_ Try.func59 (by kernel_rfl) rfl #[.slice A0_1 l0_1.length c0_1] (by rfl) rfl rfl Q5 ?_
    with_reducible refine (impl_copied.calls _ _ l0_1 t179 _ ?side1 ?side2 A3.out).mono ?_
    (case side1 => exact Yc (Z23 HR0_1.out HB.out))
    (case side2 => exact HC0_1.out)
    rintro e w12 ⟨v180, rfl, ho0, hb⟩
    refine ⟨_, rfl, ?_⟩
    replace HO184 := Yw HO184 hb
    have HO181 := Yl (Kd.R_new' ho0 (Z18 (Yr HO178.out)))
    replace HO178 := Ya (Kd.R_elder' (Yr HO178.out) (Kd.R_base ho0) hb)
    replace BK174 := Yb BK174 hb
    replace BK175 := Yb BK175 hb
    replace HB := Yh hb
    (try clear hb ho0)
    refine hK.out _ _ (Yz4 BK174.out) (fun hHeld => ?_)
    clear hK K
    refine norm_ (a' := ?_) ?_ ?_
    rotate_left
    ·show Act.put _ (some 8) _ = _
     simp only [Act.put, Z0, Z1, Z2, i64_w, i32_w]
     rfl
    exact norm_ Q36 (hCont (v177, v180, v183) _ ⟨hHeld, (Yj HO178.out (fun _ hk => hk.2)), (Yj HO181.out (fun _ hk => hk.2)), (Yr HO184.out), (Yk BK174.out), (Yk BK175.out), Q0⟩)
  rintro ⟨v177, v180, v183⟩ w13 ⟨hS_, h0_, h1_, h2_, h3_, h4_, h5_⟩
  have HO178 : Aside0 (Kd.R (Kd.int .i64) 3 w13 w.heap.size (fun k_ => some k_ ≠ (v180 : Value).ownBlock) v177 t176) := ⟨h0_⟩
  have HO181 : Aside0 (Kd.R (Kd.int .i64) 3 w13 w.heap.size (fun k_ => some k_ ≠ (v177 : Value).ownBlock) v180 t179) := ⟨h1_⟩
  have HO184 : Aside0 (Kd.R Kd.bool 4 w13 w.heap.size (fun _ => True) v183 y182) := ⟨h2_⟩
  replace BK174 : Aside0 (w13.heap[gb174]? = some (.cells #[.slice A0_0 l0_0.length c0_0, .slice A0_1 l0_1.length c0_1, .slice A0_2 l0_2.length c0_2, .slice A0_3 l0_3.length c0_3] 33 (0, 0))) := ⟨h3_⟩
  replace BK175 : Aside0 (w13.heap[gb175]? = some (.cells YN4 33 (0, 0))) := ⟨h4_⟩
  replace HB : Aside0 (Below w.heap.size w w13) := ⟨h5_⟩
  clear h0_ h1_ h2_ h3_ h4_ h5_
  have hHeld : w13.cell? ⟨gb174, 0, none⟩ = some (.slice A0_0 l0_0.length c0_0) ∧ w13.cell? ⟨gb174, 1, none⟩ = some (.slice A0_1 l0_1.length c0_1) ∧ w13.cell? ⟨gb174, 2, none⟩ = some (.slice A0_2 l0_2.length c0_2) ∧ w13.cell? ⟨gb174, 3, none⟩ = some (.slice A0_3 l0_3.length c0_3) := hS_
  refine norm_ (a' := ?_) ?_ ?_
  rotate_left
  ·simp only [putAll, Act.put, Z0, Z1, Z2]
   rfl
  refine one_ (i := 9) (N := some 12) (YA 15 4095) rfl rfl (one_of HT_.out (by kernel_rfl)) (by decide) (fun K hK => ?_)
  refine Kd.R_append_rows_step Kd.bool (w0 := w) w.heap.size (by rfl) (.tmp 9) (.tmp 11) 31 4 (.bool false) 1 rfl Try.underlying31 info4 rfl (by decide) (by omega) v183 y182 l0_2 _ _ _ (fun _ => True) (fun _ => False) rfl rfl ?aO ?aR (fun _ _ h => h) (fun _ h => h.elim) ?aF ?aB ?aS ?aL ?_
  (case aR => repeat (first | exact (Z23 HR0_2.out HB.out) | (with_reducible refine Z20 ?_ _) | (with_reducible refine Z21 ?_ _) | (with_reducible refine Z22 ?_)))
  (case aB => exact Q0)
  (case aF => exact (fun _ _ => trivial))
  (case aO => exact (Yr HO184.out))
  (case aS => exact (Z7 Q0))
  (case aL => have := LMc4.out; omega)
  intro v186 w14 ho hb hg hat
  rw [← Ny185.out] at ho
  replace BK174 := Ya (blk_grown (g := gb174) (o := .cells #[.slice A0_0 l0_0.length c0_0, .slice A0_1 l0_1.length c0_1, .slice A0_2 l0_2.length c0_2, .slice A0_3 l0_3.length c0_3] 33 (0, 0)) (Yk BK174.out) hg (Kd.R_ne HO184.out BK174.out (by decide)))
  replace BK175 := Ya (blk_grown (g := gb175) (o := .cells YN4 33 (0, 0)) (Yk BK175.out) hg (Kd.R_ne HO184.out BK175.out (by decide)))
  replace HO178 := Ya (Kd.R_over' (Yr HO178.out) (Kd.R_typed (Yr HO184.out)) (by decide) hg)
  replace HO181 := Ya (Kd.R_over' (Yr HO181.out) (Kd.R_typed (Yr HO184.out)) (by decide) hg)
  replace HB := Ya hb
  have HO187 := Ya ho
  clear HO184
  clear ho hb hg hat
  refine hK.out _ _ (Yz4 BK174.out) (fun hHeld => ?_)
  clear hK K
  refine norm_ (a' := ?_) ?_ ?_
  rotate_left
  ·show Act.put _ (some 12) _ = _
   simp only [Act.put, Z0, Z1, Z2, i64_w, i32_w]
   rfl
  refine one_ (i := 12) (N := some 15) (YA 15 8191) rfl rfl (one_of HT_.out (by kernel_rfl)) (by decide) (fun K hK => ?_)
  refine goes_ Try.func59 (by kernel_rfl) rfl #[.slice A0_3 l0_3.length c0_3] (by rfl) rfl rfl Q5 ?_
  with_reducible refine (impl_copied.calls _ _ l0_3 t188 _ ?side1 ?side2 A5.out).mono ?_
  (case side1 => exact Yc (Z23 HR0_3.out HB.out))
  (case side2 => exact HC0_3.out)
  rintro e w15 ⟨v189, rfl, ho0, hb⟩
  refine ⟨_, rfl, ?_⟩
  replace HO187 := Yw HO187 hb
  have HO190 := Yl (Kd.R_new' (Kd.R_new' ho0 (Z18 (Yr HO178.out))) (Z18 (Yr HO181.out)))
  replace HO178 := Ya (Kd.R_elder' (Yr HO178.out) (Kd.R_base ho0) hb)
  replace HO181 := Ya (Kd.R_elder' (Yr HO181.out) (Kd.R_base ho0) hb)
  replace BK174 := Yb BK174 hb
  replace BK175 := Yb BK175 hb
  replace HB := Yh hb
  (try clear hb ho0)
  obtain ⟨Ao16, co16, eo16⟩ := Z19 HO190.out
  (first | subst eo16 | (injection eo16 with f1_ f2_ f3_; have f4_ := f1_.symm; have f5_ := f3_.symm; clear f1_ f2_ f3_; subst f4_; subst f5_))
  obtain ⟨Ao17, co17, eo17⟩ := Z19 HO187.out
  (first | subst eo17 | (injection eo17 with f1_ f2_ f3_; have f4_ := f1_.symm; have f5_ := f3_.symm; clear f1_ f2_ f3_; subst f4_; subst f5_))
  obtain ⟨Ao18, co18, eo18⟩ := Z19 HO181.out
  (first | subst eo18 | (injection eo18 with f1_ f2_ f3_; have f4_ := f1_.symm; have f5_ := f3_.symm; clear f1_ f2_ f3_; subst f4_; subst f5_))
  obtain ⟨Ao19, co19, eo19⟩ := Z19 HO178.out
  (first | subst eo19 | (injection eo19 with f1_ f2_ f3_; have f4_ := f1_.symm; have f5_ := f3_.symm; clear f1_ f2_ f3_; subst f4_; subst f5_))
  refine hK.out _ _ (Yz4 BK174.out) (fun hHeld => ?_)
  clear hK K
  refine norm_ (a' := ?_) ?_ ?_
  rotate_left
  ·show Act.put _ (some 15) _ = _
   simp only [Act.put, Z0, Z1, Z2, i64_w, i32_w]
   rfl
  refine Yp 13 (some 16) (YA 15 16383) rfl HT_.out ?_
  refine one_ (i := 14) (N := none) (YA 15 32767) rfl rfl (one_of HT_.out (by kernel_rfl)) (by decide) (fun K hK => ?_)
  have hs20 : w15.cell? ⟨gb175, 0, none⟩ = some (.slice none 0 0) := (Z24 BK175.out 0).trans rfl
  have hfs20 := Z25 BK175.out 0
  have hns20_0 := NB174_175.out
  have hms20_0 := NB175_174.out
  have hs21 : w15.cell? ⟨gb175, 1, none⟩ = some (.slice none 0 0) := (Z24 BK175.out 1).trans rfl
  have hfs21 := Z25 BK175.out 1
  have hns21_0 := NB174_175.out
  have hms21_0 := NB175_174.out
  have hs22 : w15.cell? ⟨gb175, 2, none⟩ = some (.slice none 0 0) := (Z24 BK175.out 2).trans rfl
  have hfs22 := Z25 BK175.out 2
  have hns22_0 := NB174_175.out
  have hms22_0 := NB175_174.out
  have hs23 : w15.cell? ⟨gb175, 3, none⟩ = some (.slice none 0 0) := (Z24 BK175.out 3).trans rfl
  have hfs23 := Z25 BK175.out 3
  have hns23_0 := NB174_175.out
  have hms23_0 := NB175_174.out
  refine skip_ (w1 := ?_) (by rfl) rfl ?_ ?_
  rotate_left
  ·go_simp
   rfl
  refine hK.out _ _ ⟨((cell_far (p := ⟨gb175, _, none⟩) NB174_175.out _).trans (((cell_far (p := ⟨gb175, _, none⟩) NB174_175.out _).trans (((cell_far (p := ⟨gb175, _, none⟩) NB174_175.out _).trans (((cell_far (p := ⟨gb175, _, none⟩) NB174_175.out _).trans (hHeld.1)))))))), ((cell_far (p := ⟨gb175, _, none⟩) NB174_175.out _).trans (((cell_far (p := ⟨gb175, _, none⟩) NB174_175.out _).trans (((cell_far (p := ⟨gb175, _, none⟩) NB174_175.out _).trans (((cell_far (p := ⟨gb175, _, none⟩) NB174_175.out _).trans (hHeld.2.1)))))))), ((cell_far (p := ⟨gb175, _, none⟩) NB174_175.out _).trans (((cell_far (p := ⟨gb175, _, none⟩) NB174_175.out _).trans (((cell_far (p := ⟨gb175, _, none⟩) NB174_175.out _).trans (((cell_far (p := ⟨gb175, _, none⟩) NB174_175.out _).trans (hHeld.2.2.1)))))))), ((cell_far (p := ⟨gb175, _, none⟩) NB174_175.out _).trans (((cell_far (p := ⟨gb175, _, none⟩) NB174_175.out _).trans (((cell_far (p := ⟨gb175, _, none⟩) NB174_175.out _).trans (((cell_far (p := ⟨gb175, _, none⟩) NB174_175.out _).trans (hHeld.2.2.2))))))))⟩ (fun hHeld => ?_)
  clear hK K
  refine done_ (done_of HT_.out (by kernel_rfl)) ?_
  try go_wp2
  refine bodyPost_ret (results_cell_row rfl _ _ gb175 33 #[.slice Ao19 t176.length co19, .slice Ao18 t179.length co18, .slice Ao17 y185.length co17, .slice Ao16 t188.length co16] (0, 0) _ rfl (Yk (Yv4 BK175.out)) Try.underlying33 rfl (by kernel_rfl)) rfl ?_
  exact ⟨_, _, _, _, Q1, Yj (Yf4 HO178.out BK175.out) (fun _ hk => ⟨hk.1.1, hk.1.2⟩), Yj (Yf4 HO181.out BK175.out) (fun _ hk => ⟨hk.1.1, hk.1.2⟩), Yj (Yf4 HO187.out BK175.out) (fun _ hk => trivial), Yj (Yf4 HO190.out BK175.out) (fun _ hk => ⟨hk.1.1.2, hk.1.2⟩), Q12⟩
 ·rw [if_neg c4] at H
  exact absurd H (by simp)
def impl_StepFocus.f (k : Nat) (b d : List Int) (u : List Bool) (p : List Int) : Option (List Int × List Int × List Bool × List Int × Int × Bool) :=
 (impl_IsFocus.f k b d u p).bind fun t => if t = true then (impl_Focus_own.f b d u p).bind fun o => (if 0 < o.2.2.2.length ∧ o.1.length ≤ 1000 ∧ rd o.2.2.2 0 = (o.1.length : Int) then some ([], [], [], [], 0, false) else (Go.Proofs.Ytapbbmicfkbafaa.FoW.stepF o.1 o.2.1 o.2.2.1 o.2.2.2).bind fun s => some (o.1, s.1, s.2.1, s.2.2.1, wrap64 (wrap64 ((b.length : Int) - 1) - s.2.2.2), true)) else some ([], [], [], [], 0, false)
theorem impl_StepFocus.mono : ∀ a0 a1 a2 a3 k, LeO (impl_StepFocus.f k a0 a1 a2 a3) (impl_StepFocus.f (k + 1) a0 a1 a2 a3) := by
 intro a0 a1 a2 a3 k
 unfold impl_StepFocus.f
 repeat' first
   | (with_reducible exact impl_IsFocus.mono _ _ _ _ _)
   | (with_reducible exact LeO.refl _)
   | (with_reducible exact LeO.none _)
   | (with_reducible refine LeO.ite ?_ ?_)
   | (with_reducible refine LeO.bind ?_ (fun _ => ?_))
   | exact impl_IsFocus.mono _ _ _ _ _
   | exact LeO.none _
   | refine LeO.ite ?_ ?_
   | refine LeO.bind ?_ (fun _ => ?_)
open Go.Proofs.Ytapbbmicfkbafaa.FoW in
theorem impl_StepFocus.rank {b d : List Int} {u : List Bool} {p d' : List Int} {u' : List Bool} {p' : List Int} {r : Int} (h : stepF b d u p = some (d', u', p', r)) : 0 ≤ r := by
 unfold stepF at h
 simp only at h
 obtain ⟨X, hX⟩ : ∃ X, (if rdOf false u ((b.length : Int) - 1 - rd p 0) = true then rd d ((b.length : Int) - 1 - rd p 0) + 1 else rd d ((b.length : Int) - 1 - rd p 0) - 1) = X := ⟨_, rfl⟩
 rw [hX] at h
 by_cases hc : 0 ≤ rd p 0 ∧ rd p 0 < b.length ∧ b.length ≤ 1000 ∧ d.length = b.length ∧ u.length = b.length ∧ p.length = b.length + 1 ∧ -1000 ≤ rd d ((b.length : Int) - 1 - rd p 0) ∧ rd d ((b.length : Int) - 1 - rd p 0) ≤ 1000 ∧ -1000 ≤ rd b ((b.length : Int) - 1 - rd p 0) ∧ rd b ((b.length : Int) - 1 - rd p 0) ≤ 1000
 rotate_left
 ·rw [if_neg hc] at h; cases h
 rw [if_pos hc] at h
 by_cases hz : X = 0 ∨ X = rd b ((b.length : Int) - 1 - rd p 0) - 1
 ·rw [if_pos hz] at h
  simp only [Option.some.injEq, Prod.mk.injEq] at h
  obtain ⟨-, -, -, rfl⟩ := h
  exact hc.1
 ·rw [if_neg hz] at h
  simp only [Option.some.injEq, Prod.mk.injEq] at h
  obtain ⟨-, -, -, rfl⟩ := h
  exact hc.1
open Go.Proofs.Ytapbbmicfkbafaa.FoW in
set_option maxHeartbeats 8000000 in
set_option maxRecDepth 100000 in
theorem impl_StepFocus.calls (k : Nat) (A0 : Option Addr) (c0 : Nat) (b : List Int) (A1 : Option Addr) (c1 : Nat) (d : List Int) (A2 : Option Addr) (c2 : Nat) (u : List Bool) (A3 : Option Addr) (c3 : Nat) (p : List Int) (r1 r2 : List Int) (r3 : List Bool) (r4 : List Int) (r5 : Int) (r6 : Bool) (w : World)
  (hr0 : Kd.C (Kd.int .i64) w A0 b.length b) (hc0 : b.length ≤ c0) (hr1 : Kd.C (Kd.int .i64) w A1 d.length d) (hc1 : d.length ≤ c1) (hr2 : Kd.C Kd.bool w A2 u.length u) (hc2 : u.length ≤ c2) (hr3 : Kd.C (Kd.int .i64) w A3 p.length p) (hc3 : p.length ≤ c3) (h : impl_StepFocus.f k b d u p = some (r1, r2, r3, r4, r5, r6)) :
  Calls Try.prog 13 #[.agg #[.slice A0 b.length c0, .slice A1 d.length c1, .slice A2 u.length c2, .slice A3 p.length c3]] w fun e w' => ∃ v0_ v1_ v2_ v3_ : Value, e = .returned (.tuple #[.agg #[v0_, v1_, v2_, v3_], .int .i64 r5, .bool r6]) ∧ Kd.R (Kd.int .i64) 3 w' w.heap.size (fun k_ => some k_ ≠ (v1_ : Value).ownBlock ∧ some k_ ≠ (v3_ : Value).ownBlock) v0_ r1 ∧ Kd.R (Kd.int .i64) 3 w' w.heap.size (fun k_ => some k_ ≠ (v0_ : Value).ownBlock ∧ some k_ ≠ (v3_ : Value).ownBlock) v1_ r2 ∧ Kd.R Kd.bool 4 w' w.heap.size (fun _ => True) v2_ r3 ∧ Kd.R (Kd.int .i64) 3 w' w.heap.size (fun k_ => some k_ ≠ (v0_ : Value).ownBlock ∧ some k_ ≠ (v1_ : Value).ownBlock) v3_ r4 ∧ Below w.heap.size w w' := by
 have hu := Try.underlying33
 unfold impl_StepFocus.f at h
 obtain ⟨t, ht, h⟩ := Z37.mp h
 have At := Ya ht
 clear ht
 have HR0 := Ya hr0
 have HC0 := Ya hc0
 have HR1 := Ya hr1
 have HC1 := Ya hc1
 have HR2 := Ya hr2
 have HC2 := Ya hc2
 have HR3 := Ya hr3
 have HC3 := Ya hc3
 clear hr0 hc0 hr1 hc1 hr2 hc2 hr3 hc3
 have HB := Ya (Below.refl w.heap.size w)
 cases t
 ·rw [if_neg (by decide)] at h
  simp only [Option.some.injEq, Prod.mk.injEq] at h
  obtain ⟨rfl, rfl, rfl, rfl, rfl, rfl⟩ := h
  go_enter Try.func13, Try.ntmps13
  go_wp2_with (first | ((with_reducible refine gate_dst (N := 1) rfl ?_); refine Yx 1 #[.slice A0 b.length c0, .slice A1 d.length c1, .slice A2 u.length c2, .slice A3 p.length c3] 33 ?_; intro gb1 hg w_1 hbox hb; have BK1 := Ya hbox; have GE1 := Ya (by rw [hg]; exact Z7 Q0 : w.heap.size ≤ gb1); replace HB := Yh hb; clear hb hbox hg) | ((with_reducible refine gate_dst (N := 2) rfl ?_); refine Yx 2 YN4 33 ?_; intro gb2 hg w_2 hbox hb; have BK2 := Ya hbox; have GE2 := Ya (by rw [hg]; exact Z7 Q0 : w.heap.size ≤ gb2); have N12 := Ya (by rw [hg]; exact Nat.ne_of_lt (blk_lt Q40) : gb1 ≠ gb2); replace BK1 := Ya (Z29 Q40 hb); replace HB := Yh hb; have hn1 := N12.out; have hn2 := N12.out.symm; have hca0 := (Z24 BK1.out 0).trans rfl; have hfa0 := Z25 BK1.out 0; have hca1 := (Z24 BK1.out 1).trans rfl; have hfa1 := Z25 BK1.out 1; have hca2 := (Z24 BK1.out 2).trans rfl; have hfa2 := Z25 BK1.out 2; have hca3 := (Z24 BK1.out 3).trans rfl; have hfa3 := Z25 BK1.out 3; clear hb hbox hg) | ((with_reducible refine gate_callee (f := 24) rfl ?_); refine Yz 8 Try.func24 #[.agg #[.slice A0 b.length c0, .slice A1 d.length c1, .slice A2 u.length c2, .slice A3 p.length c3]] ?_ (hargs := Q49); (with_reducible refine (impl_IsFocus.calls k _ _ b _ _ d _ _ u _ _ p false _ ?s0 HC0.out ?s1 HC1.out ?s2 HC2.out ?s3 HC3.out At.out).mono ?_); (case s0 => repeat (first | exact (Z23 HR0.out HB.out) | (with_reducible refine Z20 ?_ _) | (with_reducible refine Z21 ?_ _) | (with_reducible refine Z22 ?_))); (case s1 => repeat (first | exact (Z23 HR1.out HB.out) | (with_reducible refine Z20 ?_ _) | (with_reducible refine Z21 ?_ _) | (with_reducible refine Z22 ?_))); (case s2 => repeat (first | exact (Z23 HR2.out HB.out) | (with_reducible refine Z20 ?_ _) | (with_reducible refine Z21 ?_ _) | (with_reducible refine Z22 ?_))); (case s3 => repeat (first | exact (Z23 HR3.out HB.out) | (with_reducible refine Z20 ?_ _) | (with_reducible refine Z21 ?_ _) | (with_reducible refine Z22 ?_))); rintro e w1 ⟨rfl, hb⟩; refine ⟨_, rfl, ?_⟩; clear hca0 hfa0 hca1 hfa1 hca2 hfa2 hca3 hfa3; replace BK1 := Ya (Z29 Q40 hb); replace BK2 := Ya (Z29 Q64 hb); replace HB := Yh hb; clear hb; have hcb0 := (Z24 BK2.out 0).trans rfl; have hfb0 := Z25 BK2.out 0; have hcb1 := (Z24 BK2.out 1).trans rfl; have hfb1 := Z25 BK2.out 1; have hcb2 := (Z24 BK2.out 2).trans rfl; have hfb2 := Z25 BK2.out 2; have hcb3 := (Z24 BK2.out 3).trans rfl; have hfb3 := Z25 BK2.out 3))
  refine bodyPost_ret (results_ctt rfl _ _ gb2 33 YN4 (0, 0) _ rfl Q71 hu rfl (by kernel_rfl)) rfl ?_
  have hbb := set4_below HB.out GE2.out (.slice none 0 0) (.slice none 0 0) (.slice none 0 0) (.slice none 0 0)
  unfold set4 at hbb
  exact ⟨_, _, _, _, rfl, Kd.R_nil _ _ _ _ _, Kd.R_nil _ _ _ _ _, Kd.R_nil _ _ _ _ _, Kd.R_nil _ _ _ _ _, hbb⟩
 ·rw [if_pos rfl] at h
  obtain ⟨⟨b1, d1, u1, p1⟩, ho, h⟩ := Z37.mp h
  dsimp only at h
  have Ao := Ya ho
  have HH := Ya h
  clear ho h
  go_enter Try.func13, Try.ntmps13
  go_upto_region 4 with (first | ((with_reducible refine gate_dst (N := 1) rfl ?_); refine Yx 1 #[.slice A0 b.length c0, .slice A1 d.length c1, .slice A2 u.length c2, .slice A3 p.length c3] 33 ?_; intro gb1 hg w_1 hbox hb; have BK1 := Ya hbox; have GE1 := Ya (by rw [hg]; exact Z7 Q0 : w.heap.size ≤ gb1); replace HB := Yh hb; clear hb hbox hg) | ((with_reducible refine gate_dst (N := 2) rfl ?_); refine Yx 2 YN4 33 ?_; intro gb2 hg w_2 hbox hb; have BK2 := Ya hbox; have GE2 := Ya (by rw [hg]; exact Z7 Q0 : w.heap.size ≤ gb2); have N12 := Ya (by rw [hg]; exact Nat.ne_of_lt (blk_lt Q40) : gb1 ≠ gb2); replace BK1 := Ya (Z29 Q40 hb); replace HB := Yh hb; have hn1 := N12.out; have hn2 := N12.out.symm; have hca0 := (Z24 BK1.out 0).trans rfl; have hfa0 := Z25 BK1.out 0; have hca1 := (Z24 BK1.out 1).trans rfl; have hfa1 := Z25 BK1.out 1; have hca2 := (Z24 BK1.out 2).trans rfl; have hfa2 := Z25 BK1.out 2; have hca3 := (Z24 BK1.out 3).trans rfl; have hfa3 := Z25 BK1.out 3; clear hb hbox hg) | ((with_reducible refine gate_callee (f := 24) rfl ?_); refine Yz 8 Try.func24 #[.agg #[.slice A0 b.length c0, .slice A1 d.length c1, .slice A2 u.length c2, .slice A3 p.length c3]] ?_ (hargs := Q49); (with_reducible refine (impl_IsFocus.calls k _ _ b _ _ d _ _ u _ _ p true _ ?s0 HC0.out ?s1 HC1.out ?s2 HC2.out ?s3 HC3.out At.out).mono ?_); (case s0 => repeat (first | exact (Z23 HR0.out HB.out) | (with_reducible refine Z20 ?_ _) | (with_reducible refine Z21 ?_ _) | (with_reducible refine Z22 ?_))); (case s1 => repeat (first | exact (Z23 HR1.out HB.out) | (with_reducible refine Z20 ?_ _) | (with_reducible refine Z21 ?_ _) | (with_reducible refine Z22 ?_))); (case s2 => repeat (first | exact (Z23 HR2.out HB.out) | (with_reducible refine Z20 ?_ _) | (with_reducible refine Z21 ?_ _) | (with_reducible refine Z22 ?_))); (case s3 => repeat (first | exact (Z23 HR3.out HB.out) | (with_reducible refine Z20 ?_ _) | (with_reducible refine Z21 ?_ _) | (with_reducible refine Z22 ?_))); rintro e w1 ⟨rfl, hb⟩; refine ⟨_, rfl, ?_⟩; clear hca0 hfa0 hca1 hfa1 hca2 hfa2 hca3 hfa3; replace BK1 := Ya (Z29 Q40 hb); replace BK2 := Ya (Z29 Q64 hb); replace HB := Yh hb; clear hb; have hca0 := (Z24 BK1.out 0).trans rfl; have hfa0 := Z25 BK1.out 0; have hca1 := (Z24 BK1.out 1).trans rfl; have hfa1 := Z25 BK1.out 1; have hca2 := (Z24 BK1.out 2).trans rfl; have hfa2 := Z25 BK1.out 2; have hca3 := (Z24 BK1.out 3).trans rfl; have hfa3 := Z25 BK1.out 3) | ((with_reducible refine gate_callee (f := 37) rfl ?_); refine Yz 12 Try.func37 #[.agg #[.slice A0 b.length c0, .slice A1 d.length c1, .slice A2 u.length c2, .slice A3 p.length c3]] ?_ (hargs := Q49); (with_reducible refine (impl_Focus_own.calls _ _ b _ _ d _ _ u _ _ p b1 d1 u1 p1 _ ?s0 HC0.out ?s1 HC1.out ?s2 HC2.out ?s3 HC3.out Ao.out).mono ?_); (case s0 => repeat (first | exact (Z23 HR0.out HB.out) | (with_reducible refine Z20 ?_ _) | (with_reducible refine Z21 ?_ _) | (with_reducible refine Z22 ?_))); (case s1 => repeat (first | exact (Z23 HR1.out HB.out) | (with_reducible refine Z20 ?_ _) | (with_reducible refine Z21 ?_ _) | (with_reducible refine Z22 ?_))); (case s2 => repeat (first | exact (Z23 HR2.out HB.out) | (with_reducible refine Z20 ?_ _) | (with_reducible refine Z21 ?_ _) | (with_reducible refine Z22 ?_))); (case s3 => repeat (first | exact (Z23 HR3.out HB.out) | (with_reducible refine Z20 ?_ _) | (with_reducible refine Z21 ?_ _) | (with_reducible refine Z22 ?_))); rintro e w2 ⟨v0, v1, v2, v3, rfl, ho0, ho1, ho2, ho3, hb⟩; refine ⟨_, rfl, ?_⟩; clear hca0 hfa0 hca1 hfa1 hca2 hfa2 hca3 hfa3; have HV : Aside0 (FoV w2 w.heap.size v0 v1 v2 v3 b1 d1 u1 p1) := ⟨FoV.mk (Kd.R_lower ho0 (Z7 Q0)) (Kd.R_lower ho1 (Z7 Q0)) (Kd.R_lower ho2 (Z7 Q0)) (Kd.R_lower ho3 (Z7 Q0))⟩; replace BK1 := Ya (Z29 Q40 hb); replace BK2 := Ya (Z29 Q64 hb); replace HB := Yh hb; clear hb ho0 ho1 ho2 ho3; obtain ⟨B0, e0, q0⟩ := Z19 HV.out.r0; obtain ⟨B1, e1, q1⟩ := Z19 HV.out.r1; obtain ⟨B2, e2, q2⟩ := Z19 HV.out.r2; obtain ⟨B3, e3, q3⟩ := Z19 HV.out.r3; subst q0 q1 q2 q3) | ((with_reducible refine gate_dst (N := 5) rfl ?_); refine Yx 5 YN4 33 ?_; intro gb5 hg w_5 hbox hb; have BK5 := Ya hbox; have GE5 := Ya (by rw [hg]; exact Z7 Q0 : w.heap.size ≤ gb5); have N15 := Ya (by rw [hg]; exact Nat.ne_of_lt (blk_lt Q40) : gb1 ≠ gb5); have N25 := Ya (by rw [hg]; exact Nat.ne_of_lt (blk_lt Q64) : gb2 ≠ gb5); replace HV := Ya (FoV.below (by (with_reducible repeat (first | apply FoV.drewN | apply FoV.drew)); exact HV.out) hb); replace BK1 := Ya (Z29 Q40 hb); replace BK2 := Ya (Z29 Q64 hb); replace HB := Yh hb; have hcd0 := (Z24 BK5.out 0).trans rfl; have hfd0 := Z25 BK5.out 0; have hcd1 := (Z24 BK5.out 1).trans rfl; have hfd1 := Z25 BK5.out 1; have hcd2 := (Z24 BK5.out 2).trans rfl; have hfd2 := Z25 BK5.out 2; have hcd3 := (Z24 BK5.out 3).trans rfl; have hfd3 := Z25 BK5.out 3; clear hb hbox hg))
  clear hcd0 hfd0 hcd1 hfd1 hcd2 hfd2 hcd3 hfd3
  replace HV := Ya (FoV.set4 HV.out BK5.out (by decide) (by decide) (.slice B0 b1.length e0) (.slice B1 d1.length e1) (.slice B2 u1.length e2) (.slice B3 p1.length e3))
  replace BK5 := Ya (set4_at BK5.out (.slice B0 b1.length e0) (.slice B1 d1.length e1) (.slice B2 u1.length e2) (.slice B3 p1.length e3))
  replace BK1 := Ya ((set4_far _ gb5 (.slice B0 b1.length e0) (.slice B1 d1.length e1) (.slice B2 u1.length e2) (.slice B3 p1.length e3) gb1 N15.out).trans BK1.out)
  replace BK2 := Ya ((set4_far _ gb5 (.slice B0 b1.length e0) (.slice B1 d1.length e1) (.slice B2 u1.length e2) (.slice B3 p1.length e3) gb2 N25.out).trans BK2.out)
  replace HB := Ya (set4_below HB.out GE5.out (.slice B0 b1.length e0) (.slice B1 d1.length e1) (.slice B2 u1.length e2) (.slice B3 p1.length e3))
  unfold set4 at BK5 HV BK1 BK2 HB
  generalize ((((w_5.setCell ⟨gb5, 0, none⟩ (.slice B0 b1.length e0)).setCell ⟨gb5, 1, none⟩ (.slice B1 d1.length e1)).setCell ⟨gb5, 2, none⟩ (.slice B2 u1.length e2)).setCell ⟨gb5, 3, none⟩ (.slice B3 p1.length e3)) = w5 at BK5 HV BK1 BK2 HB ⊢
  have h := HH.out
  clear HH
  by_cases ce : 0 < p1.length ∧ b1.length ≤ 1000 ∧ rd p1 0 = (b1.length : Int)
  ·rw [if_pos ce] at h
   simp only [Option.some.injEq, Prod.mk.injEq] at h
   obtain ⟨rfl, rfl, rfl, rfl, rfl, rfl⟩ := h
   obtain ⟨g3, c3', e3', _⟩ := Kd.R_form HV.out.r3 ce.1
   injection e3' with x3 _ _
   subst x3
   have HX : Aside0 (w5.cell? ⟨g3, 0, none⟩ = some (.int .i64 (b1.length : Int))) := ⟨by have h_ := (Kd.R_celln 0 HV.out.r3 0 (by decide) (by exact_mod_cast ce.1)).1; rw [show rdOf 0 p1 0 = rd p1 0 from rfl, ce.2.2] at h_; exact h_⟩
   go_wp2_with (first | ((with_reducible refine gate_callee (f := 38) rfl ?_); refine Yz 13 Try.func38 #[.pointer (some ⟨gb5, 0, none⟩)] ?_ (hargs := Q49); (with_reducible refine (impl_Focus_step.callsEnd _ _ gb5 g3 b1.length e0 p1.length e3 B0 _ rfl rfl ce.1 ce.2.1 BK5.out HX.out).mono ?_); rintro e w6 ⟨rfl, hb⟩; refine ⟨_, rfl, ?_⟩; replace BK2 := Ya (Z29 Q64 hb); replace HB := Yh hb; clear hb; have hcb0 := (Z24 BK2.out 0).trans rfl; have hfb0 := Z25 BK2.out 0; have hcb1 := (Z24 BK2.out 1).trans rfl; have hfb1 := Z25 BK2.out 1; have hcb2 := (Z24 BK2.out 2).trans rfl; have hfb2 := Z25 BK2.out 2; have hcb3 := (Z24 BK2.out 3).trans rfl; have hfb3 := Z25 BK2.out 3))
   refine bodyPost_ret (results_ctt rfl _ _ gb2 33 YN4 (0, 0) _ rfl Q71 hu rfl (by kernel_rfl)) rfl ?_
   have hbb := set4_below HB.out GE2.out (.slice none 0 0) (.slice none 0 0) (.slice none 0 0) (.slice none 0 0)
   unfold set4 at hbb
   exact ⟨_, _, _, _, rfl, Kd.R_nil _ _ _ _ _, Kd.R_nil _ _ _ _ _, Kd.R_nil _ _ _ _ _, Kd.R_nil _ _ _ _ _, hbb⟩
  ·rw [if_neg ce] at h
   obtain ⟨⟨d2, u2, p2, j⟩, hs, h⟩ := Z37.mp h
   simp only [Option.some.injEq, Prod.mk.injEq] at h
   obtain ⟨rfl, rfl, rfl, rfl, rfl, rfl⟩ := h
   have hj : decide (j < 0) = false := Z38 (by have := impl_StepFocus.rank hs; omega)
   obtain ⟨hl, hl0, hl1, hl2, hl3⟩ := stepF_len hs
   have HS := Ya hs
   have HL := Ya hl
   obtain ⟨g0, p0, g1, p1', g2, p2', g3, p3', e0', e1', e2', e3', hF⟩ := FoR.of HV.out.r0 HV.out.r1 HV.out.r2 HV.out.r3 hl0 hl1 hl2 hl3
   injection e0' with x0 _ z0
   injection e1' with x1 _ z1
   injection e2' with x2 _ z2
   injection e3' with x3 _ z3
   subst x0 z0 x1 z1 x2 z2 x3 z3
   have HF := Ya hF
   clear hs hl hl0 hl1 hl2 hl3 hF ce HV
   go_wp2_with (first | ((with_reducible refine gate_callee (f := 38) rfl ?_); refine Yz 13 Try.func38 #[.pointer (some ⟨gb5, 0, none⟩)] ?_ (hargs := Q49); (with_reducible refine (impl_Focus_step.calls w gb5 g0 e0 g1 e1 g2 e2 g3 e3 b1 d1 u1 p1 d2 u2 p2 j _ BK5.out HF.out HB.out HS.out).mono ?_); rintro e w6 ⟨rfl, hk1, hk2, hk3, hk4⟩; refine ⟨_, rfl, ?_⟩; have a2_ := FoR.apart HF.out BK2.out (by decide) (by decide); have a1_ := FoR.apart HF.out BK1.out (by decide) (by decide); replace BK2 := Ya (blk_kept BK2.out hk3 (fun e => by rcases e with e | e | e; exact a2_.2.1 e; exact a2_.2.2.1 e; exact a2_.2.2.2 e)); replace BK1 := Ya (blk_kept BK1.out hk3 (fun e => by rcases e with e | e | e; exact a1_.2.1 e; exact a1_.2.2.1 e; exact a1_.2.2.2 e)); replace BK5 := Ya (hk1.trans BK5.out); replace HF := Ya hk2; replace HB := Ya hk4; clear hk1 hk2 hk3 hk4 a1_ a2_))
   replace BK1 := Ya (Z27 BK1.out)
   replace BK2 := Ya (Z27 BK2.out)
   replace BK5 := Ya (Z27 BK5.out)
   replace HF := Ya (FoR.drew HF.out)
   replace HB := Ya (Z4 HB.out)
   refine start_ (n := 10) (S := fun w' => w'.cell? ⟨gb5, 0, none⟩ = some (.slice (some ⟨g0, 0, none⟩) b1.length e0) ∧ w'.cell? ⟨gb5, 1, none⟩ = some (.slice (some ⟨g1, 0, none⟩) d1.length e1) ∧ w'.cell? ⟨gb5, 2, none⟩ = some (.slice (some ⟨g2, 0, none⟩) u1.length e2) ∧ w'.cell? ⟨gb5, 3, none⟩ = some (.slice (some ⟨g3, 0, none⟩) p1.length e3) ∧ w'.cell? ⟨gb1, 0, none⟩ = some (.slice A0 b.length c0)) (ds := []) (YA 10 0) (by kernel_rfl) rfl rfl ⟨(Z24 BK5.out 0).trans rfl, (Z24 BK5.out 1).trans rfl, (Z24 BK5.out 2).trans rfl, (Z24 BK5.out 3).trans rfl, (Z24 BK1.out 0).trans rfl⟩ (fun hHeld => ?_)
   generalize World.drew _ = w7 at BK1 BK2 BK5 HF HB hHeld ⊢
   have hcb0 := (Z24 BK2.out 0).trans rfl
   have hfb0 := Z25 BK2.out 0
   have hcb1 := (Z24 BK2.out 1).trans rfl
   have hfb1 := Z25 BK2.out 1
   have hcb2 := (Z24 BK2.out 2).trans rfl
   have hfb2 := Z25 BK2.out 2
   have hcb3 := (Z24 BK2.out 3).trans rfl
   have hfb3 := Z25 BK2.out 3
   have h25 := N25.out
   have h25' := N25.out.symm
   have h12 := N12.out
   have h12' := N12.out.symm
   refine Yq 1 (some 18) (YA 10 2) rfl ?_
   refine Yq 5 (some 22) (YA 10 34) rfl ?_
   refine Ys 0 (some 17) (YA 10 35) rfl hHeld Q48 ?_
   refine Ys 2 (some 19) (YA 10 39) rfl hHeld Q48 ?_
   refine Yq 3 (some 20) (YA 10 47) rfl ?_
   refine Yq 4 (some 21) (YA 10 63) rfl ?_
   refine Yq 6 (some 23) (YA 10 127) rfl ?_
   refine one_ (i := 7) (N := none) (YA 10 255) rfl rfl (by kernel_rfl) (by decide) (fun K hK => ?_)
   refine skip_ (w1 := ?_) (by rfl) rfl ?_ ?_
   rotate_left
   ·go_simp
    rfl
   refine hK.out _ _ ⟨(Z24 ((set4_far w7 gb2 (.slice (some ⟨g0, 0, none⟩) b1.length e0) (.slice (some ⟨g1, 0, none⟩) d1.length e1) (.slice (some ⟨g2, 0, none⟩) u1.length e2) (.slice (some ⟨g3, 0, none⟩) p1.length e3) gb5 h25').trans BK5.out) 0).trans rfl, (Z24 ((set4_far w7 gb2 (.slice (some ⟨g0, 0, none⟩) b1.length e0) (.slice (some ⟨g1, 0, none⟩) d1.length e1) (.slice (some ⟨g2, 0, none⟩) u1.length e2) (.slice (some ⟨g3, 0, none⟩) p1.length e3) gb5 h25').trans BK5.out) 1).trans rfl, (Z24 ((set4_far w7 gb2 (.slice (some ⟨g0, 0, none⟩) b1.length e0) (.slice (some ⟨g1, 0, none⟩) d1.length e1) (.slice (some ⟨g2, 0, none⟩) u1.length e2) (.slice (some ⟨g3, 0, none⟩) p1.length e3) gb5 h25').trans BK5.out) 2).trans rfl, (Z24 ((set4_far w7 gb2 (.slice (some ⟨g0, 0, none⟩) b1.length e0) (.slice (some ⟨g1, 0, none⟩) d1.length e1) (.slice (some ⟨g2, 0, none⟩) u1.length e2) (.slice (some ⟨g3, 0, none⟩) p1.length e3) gb5 h25').trans BK5.out) 3).trans rfl, (Z24 ((set4_far w7 gb2 (.slice (some ⟨g0, 0, none⟩) b1.length e0) (.slice (some ⟨g1, 0, none⟩) d1.length e1) (.slice (some ⟨g2, 0, none⟩) u1.length e2) (.slice (some ⟨g3, 0, none⟩) p1.length e3) gb1 h12).trans BK1.out) 0).trans rfl⟩ (fun hHeld => ?_)
   clear hK K
   refine Yq 8 (some 3) (YA 10 511) rfl ?_
   refine Yq 9 (some 4) (YA 10 1023) rfl ?_
   refine done_ (by kernel_rfl) ?_
   have hv := FoR.back HF.out
   rw [HL.out.1, HL.out.2.1, HL.out.2.2] at hv
   go_wp2
   refine bodyPost_ret (results_ctt rfl _ _ gb2 33 #[.slice (some ⟨g0, 0, none⟩) b1.length e0, .slice (some ⟨g1, 0, none⟩) d1.length e1, .slice (some ⟨g2, 0, none⟩) u1.length e2, .slice (some ⟨g3, 0, none⟩) p1.length e3] (0, 0) _ rfl (by have h_ := set4_at BK2.out (.slice (some ⟨g0, 0, none⟩) b1.length e0) (.slice (some ⟨g1, 0, none⟩) d1.length e1) (.slice (some ⟨g2, 0, none⟩) u1.length e2) (.slice (some ⟨g3, 0, none⟩) p1.length e3); unfold set4 at h_; exact h_) hu rfl (by kernel_rfl)) rfl ?_
   have hbb := set4_below HB.out GE2.out (.slice (some ⟨g0, 0, none⟩) b1.length e0) (.slice (some ⟨g1, 0, none⟩) d1.length e1) (.slice (some ⟨g2, 0, none⟩) u1.length e2) (.slice (some ⟨g3, 0, none⟩) p1.length e3)
   have hv2 := FoV.set4 (FoV.mk hv.1 hv.2.1 hv.2.2.1 hv.2.2.2) BK2.out (by decide) (by decide) (.slice (some ⟨g0, 0, none⟩) b1.length e0) (.slice (some ⟨g1, 0, none⟩) d1.length e1) (.slice (some ⟨g2, 0, none⟩) u1.length e2) (.slice (some ⟨g3, 0, none⟩) p1.length e3)
   unfold set4 at hbb hv2
   exact ⟨_, _, _, _, rfl, hv2.r0, hv2.r1, hv2.r2, hv2.r3, hbb⟩
def laws_uBools.l0 : Nat → List Bool → List Bool → Int → Int → Option (Bool)
 | 0, _, _, _, _ => none
 | k + 1, x0, x1, x12, x13 => if x13 < x12 then (if 0 ≤ x13 then (if x13 < (x0.length : Int) then (if x13 < (x1.length : Int) then (if ((rdOf false x0 x13) != (rdOf false x1 x13)) = true then (some false) else (laws_uBools.l0 k x0 x1 x12 (wrap64 (x13 + 1)))) else (none)) else (none)) else (none)) else (some true)
def laws_uBools.f (k : Nat) (l0 : List Bool) (l1 : List Bool) : Option (Bool) := if (l0.length : Int) = (l1.length : Int) then (laws_uBools.l0 k l0 l1 (l0.length : Int) 0) else (some false)
theorem laws_uBools.mono_l : ∀ k, (∀ y0 y1 y2 y3, LeO (laws_uBools.l0 k y0 y1 y2 y3) (laws_uBools.l0 (k + 1) y0 y1 y2 y3))
 | 0 => fun _ _ _ _ r h => by simp [laws_uBools.l0] at h
 | k + 1 => by
  have ih0 := laws_uBools.mono_l k
  ·intro y0 y1 y2 y3
   unfold laws_uBools.l0
   repeat' first
   | (with_reducible exact ih0 _ _ _ _)
   | (with_reducible exact LeO.refl _)
   | (with_reducible exact LeO.none _)
   | (with_reducible refine LeO.ite ?_ ?_)
   | (with_reducible refine LeO.bind ?_ (fun _ => ?_))
   | exact ih0 _ _ _ _
   | exact LeO.none _
   | refine LeO.ite ?_ ?_
   | refine LeO.bind ?_ (fun _ => ?_)
theorem laws_uBools.mono : ∀ a0 a1 k, LeO (laws_uBools.f k a0 a1) (laws_uBools.f (k + 1) a0 a1) := by
 intro a0 a1 k
 have ih0 := laws_uBools.mono_l k
 unfold laws_uBools.f
 repeat' first
   | (with_reducible exact ih0 _ _ _ _)
   | (with_reducible exact LeO.refl _)
   | (with_reducible exact LeO.none _)
   | (with_reducible refine LeO.ite ?_ ?_)
   | (with_reducible refine LeO.bind ?_ (fun _ => ?_))
   | exact ih0 _ _ _ _
   | exact LeO.none _
   | refine LeO.ite ?_ ?_
   | refine LeO.bind ?_ (fun _ => ?_)
set_option maxHeartbeats 8000000 in
set_option maxRecDepth 100000 in
theorem laws_uBools.calls (k : Nat) (A0 : Option Addr) (c0 : Nat) (l0 : List Bool) (A1 : Option Addr) (c1 : Nat) (l1 : List Bool) (r : Bool) (w : World) (hr0 : Kd.C Kd.bool w A0 l0.length l0) (hc0 : l0.length ≤ c0) (hr1 : Kd.C Kd.bool w A1 l1.length l1) (hc1 : l1.length ≤ c1) (h : laws_uBools.f k l0 l1 = some r) :
  Calls Try.prog 44 #[.slice A0 l0.length c0, .slice A1 l1.length c1] w fun e w' => e = .returned (.bool r) ∧ Drawn0 w w' := by
 have HR0 := Ya hr0
 have HC0 := Ya hc0
 clear hr0 hc0
 have HR1 := Ya hr1
 have HC1 := Ya hc1
 clear hr1 hc1
 have H : (if (l0.length : Int) = (l1.length : Int) then (laws_uBools.l0 k l0 l1 (l0.length : Int) 0) else (some false)) = some r := h
 clear h
 by_cases c3 : (l0.length : Int) = (l1.length : Int)
 ·rw [if_pos c3] at H
  have c3b0 : ((l0.length : Int) == (l1.length : Int)) = true := beq_iff_eq.mpr c3
  have c3b1 : ((l0.length : Int) != (l1.length : Int)) = false := bne_eq_false_iff_eq.mpr c3
  have c3b2 : (l0.length == l1.length) = true := by first | simpa using c3 | (simp at c3 ⊢; omega)
  clear c3
  have H' := Ya H
  clear H
  go_enter Try.func44, Try.ntmps44
  go_wp2
  repeat (go_quiet (fail); try go_wp2)
  go_loopg [13] k (fun kq v13 w' => ∃ (x13_1 : Int), v13 = .int .i64 x13_1 ∧ Aside0 (laws_uBools.l0 kq l0 l1 (l0.length : Int) x13_1 = some r) ∧ Aside0 (kq ≤ k) ∧ Drawn0 w w')
  case atStart => exact ⟨(0), Q9, H', ⟨Nat.le_refl _⟩, Q10⟩
  case round =>
   clear H'
   try clear c1
   try clear p2
   try clear c3
   try clear c3b0
   try clear c3b1
   try clear c3b2
   obtain ⟨x13_1, rfl, HA, HK1, ⟨m1, rfl⟩⟩ := hrel
   cases gk with
   | zero => exact absurd HA.out (by simp [laws_uBools.l0])
   | succ k1 =>
    have H := HA.out
    clear HA
    simp only [laws_uBools.l0] at H
    by_cases c4 : x13_1 < (l0.length : Int)
    ·rw [if_pos c4] at H
     have c4b0 := Z39 c4
     clear c4
     by_cases c5 : 0 ≤ x13_1
     ·rw [if_pos c5] at H
      have c5b0 := Z39 c5
      clear c5
      by_cases c6 : x13_1 < (l0.length : Int)
      ·rw [if_pos c6] at H
       have c6b0 := Z39 c6
       clear c6
       by_cases c7 : x13_1 < (l1.length : Int)
       ·rw [if_pos c7] at H
        have c7b0 := Z39 c7
        clear c7
        by_cases c8 : ((rdOf false l0 x13_1) != (rdOf false l1 x13_1)) = true
        ·rw [if_pos c8] at H
         have c8b0 : ((rdOf false l0 x13_1) != (rdOf false l1 x13_1)) = true := c8
         (try (have c8b1 : decide ((rdOf false l0 x13_1) = (rdOf false l1 x13_1)) = false := by simpa using c8))
         (try (have c8b2 : ((rdOf false l0 x13_1) == (rdOf false l1 x13_1)) = false := by simpa using c8))
         (try (have c8b3 : ¬ ((rdOf false l0 x13_1) = (rdOf false l1 x13_1)) := by simpa using c8))
         clear c8
         obtain rfl := Option.some.inj H
         have p191 : 0 ≤ (x13_1 : Int) := Z31 Q2
         have q191 : x13_1 < (l0.length : Int) := Z31 Q2
         obtain ⟨ad191, e191, hx191_0⟩ := Kd.at_bool HR0.out x13_1 p191 q191
         cases e191
         replace p191 := eq_true p191
         replace q191 := eq_true q191
         have p192 : 0 ≤ (x13_1 : Int) := Z31 Q2
         have q192 : x13_1 < (l1.length : Int) := Z31 Q2
         obtain ⟨ad192, e192, hx192_0⟩ := Kd.at_bool HR1.out x13_1 p192 q192
         cases e192
         replace p192 := eq_true p192
         replace q192 := eq_true q192
         go_wp2
         repeat (go_quiet (fail); try go_wp2)
         go_ret
         exact ⟨Q19, Q10⟩
        ·rw [if_neg c8] at H
         have c8b0 : ((rdOf false l0 x13_1) != (rdOf false l1 x13_1)) = false := by simpa using c8
         (try (have c8b1 : decide ((rdOf false l0 x13_1) = (rdOf false l1 x13_1)) = true := by simpa using c8))
         (try (have c8b2 : ((rdOf false l0 x13_1) == (rdOf false l1 x13_1)) = true := by simpa using c8))
         clear c8
         have H' := Ya H
         clear H
         have p191 : 0 ≤ (x13_1 : Int) := Z31 Q2
         have q191 : x13_1 < (l0.length : Int) := Z31 Q2
         obtain ⟨ad191, e191, hx191_0⟩ := Kd.at_bool HR0.out x13_1 p191 q191
         cases e191
         replace p191 := eq_true p191
         replace q191 := eq_true q191
         have p192 : 0 ≤ (x13_1 : Int) := Z31 Q2
         have q192 : x13_1 < (l1.length : Int) := Z31 Q2
         obtain ⟨ad192, e192, hx192_0⟩ := Kd.at_bool HR1.out x13_1 p192 q192
         cases e192
         replace p192 := eq_true p192
         replace q192 := eq_true q192
         go_wp2
         repeat (go_quiet (fail); try go_wp2)
         go_roundg k1
         case measure => have := HK1.out; omega
         case rel => exact ⟨(wrap64 (x13_1 + 1)), Q9, H', ⟨Q45⟩, Q10⟩
       ·rw [if_neg c7] at H
        exact absurd H (by simp)
      ·rw [if_neg c6] at H
       exact absurd H (by simp)
     ·rw [if_neg c5] at H
      exact absurd H (by simp)
    ·rw [if_neg c4] at H
     have c4b0 := Z38 c4
     clear c4
     obtain rfl := Option.some.inj H
     go_wp2
     repeat (go_quiet (fail); try go_wp2)
     go_ret
     exact ⟨Q19, Q10⟩
 ·rw [if_neg c3] at H
  have c3b0 : ((l0.length : Int) == (l1.length : Int)) = false := beq_eq_false_iff_ne.mpr c3
  have c3b1 : ((l0.length : Int) != (l1.length : Int)) = true := bne_iff_ne.mpr c3
  have c3b2 : (l0.length == l1.length) = false := by first | simpa using c3 | (simp at c3 ⊢; omega)
  obtain rfl := Option.some.inj H
  go_enter Try.func44, Try.ntmps44
  go_wp2
  repeat (go_quiet (fail); try go_wp2)
  go_ret
  exact ⟨Q19, Q10⟩
def laws_uFocus.f (k : Nat) (l0_0 : List Int) (l0_1 : List Int) (l0_2 : List Bool) (l0_3 : List Int) (l1_0 : List Int) (l1_1 : List Int) (l1_2 : List Bool) (l1_3 : List Int) : Option (Bool) := (laws_uSame.f k l0_0 l1_0).bind fun t195 => (if t195 = true then ((laws_uSame.f k l0_1 l1_1).bind fun t196 => (if t196 = true then ((laws_uBools.f k l0_2 l1_2).bind fun t197 => (if t197 = true then ((laws_uSame.f k l0_3 l1_3).bind fun t198 => (some t198)) else (some false))) else (some false))) else (some false))
theorem laws_uFocus.mono : ∀ a0 a1 a2 a3 a4 a5 a6 a7 k, LeO (laws_uFocus.f k a0 a1 a2 a3 a4 a5 a6 a7) (laws_uFocus.f (k + 1) a0 a1 a2 a3 a4 a5 a6 a7) := by
 intro a0 a1 a2 a3 a4 a5 a6 a7 k
 unfold laws_uFocus.f
 repeat' first
   | (with_reducible exact laws_uBools.mono _ _ _)
   | (with_reducible exact laws_uSame.mono _ _ _)
   | (with_reducible exact LeO.refl _)
   | (with_reducible exact LeO.none _)
   | (with_reducible refine LeO.ite ?_ ?_)
   | (with_reducible refine LeO.bind ?_ (fun _ => ?_))
   | exact laws_uBools.mono _ _ _
   | exact laws_uSame.mono _ _ _
   | exact LeO.none _
   | refine LeO.ite ?_ ?_
   | refine LeO.bind ?_ (fun _ => ?_)
set_option maxHeartbeats 8000000 in
set_option maxRecDepth 100000 in
theorem laws_uFocus.calls (k : Nat) (A0_0 : Option Addr) (c0_0 : Nat) (l0_0 : List Int) (A0_1 : Option Addr) (c0_1 : Nat) (l0_1 : List Int) (A0_2 : Option Addr) (c0_2 : Nat) (l0_2 : List Bool) (A0_3 : Option Addr) (c0_3 : Nat) (l0_3 : List Int) (A1_0 : Option Addr) (c1_0 : Nat) (l1_0 : List Int) (A1_1 : Option Addr) (c1_1 : Nat) (l1_1 : List Int) (A1_2 : Option Addr) (c1_2 : Nat) (l1_2 : List Bool) (A1_3 : Option Addr) (c1_3 : Nat) (l1_3 : List Int) (r : Bool) (w : World) (hr0_0 : Kd.C (Kd.int .i64) w A0_0 l0_0.length l0_0) (hc0_0 : l0_0.length ≤ c0_0) (hr0_1 : Kd.C (Kd.int .i64) w A0_1 l0_1.length l0_1) (hc0_1 : l0_1.length ≤ c0_1) (hr0_2 : Kd.C Kd.bool w A0_2 l0_2.length l0_2) (hc0_2 : l0_2.length ≤ c0_2) (hr0_3 : Kd.C (Kd.int .i64) w A0_3 l0_3.length l0_3) (hc0_3 : l0_3.length ≤ c0_3) (hr1_0 : Kd.C (Kd.int .i64) w A1_0 l1_0.length l1_0) (hc1_0 : l1_0.length ≤ c1_0) (hr1_1 : Kd.C (Kd.int .i64) w A1_1 l1_1.length l1_1) (hc1_1 : l1_1.length ≤ c1_1) (hr1_2 : Kd.C Kd.bool w A1_2 l1_2.length l1_2) (hc1_2 : l1_2.length ≤ c1_2) (hr1_3 : Kd.C (Kd.int .i64) w A1_3 l1_3.length l1_3) (hc1_3 : l1_3.length ≤ c1_3) (h : laws_uFocus.f k l0_0 l0_1 l0_2 l0_3 l1_0 l1_1 l1_2 l1_3 = some r) :
  Calls Try.prog 17 #[.agg #[.slice A0_0 l0_0.length c0_0, .slice A0_1 l0_1.length c0_1, .slice A0_2 l0_2.length c0_2, .slice A0_3 l0_3.length c0_3], .agg #[.slice A1_0 l1_0.length c1_0, .slice A1_1 l1_1.length c1_1, .slice A1_2 l1_2.length c1_2, .slice A1_3 l1_3.length c1_3]] w fun e w' => e = .returned (.bool r) ∧ Below w.heap.size w w' := by
 have hu33 := Try.underlying33
 have HR0_0 := Ya hr0_0
 have HC0_0 := Ya hc0_0
 clear hr0_0 hc0_0
 have HR0_1 := Ya hr0_1
 have HC0_1 := Ya hc0_1
 clear hr0_1 hc0_1
 have HR0_2 := Ya hr0_2
 have HC0_2 := Ya hc0_2
 clear hr0_2 hc0_2
 have HR0_3 := Ya hr0_3
 have HC0_3 := Ya hc0_3
 clear hr0_3 hc0_3
 have HR1_0 := Ya hr1_0
 have HC1_0 := Ya hc1_0
 clear hr1_0 hc1_0
 have HR1_1 := Ya hr1_1
 have HC1_1 := Ya hc1_1
 clear hr1_1 hc1_1
 have HR1_2 := Ya hr1_2
 have HC1_2 := Ya hc1_2
 clear hr1_2 hc1_2
 have HR1_3 := Ya hr1_3
 have HC1_3 := Ya hc1_3
 clear hr1_3 hc1_3
 have HB := Ya (Below.refl w.heap.size w)
 have H : ((laws_uSame.f k l0_0 l1_0).bind fun t195 => (if t195 = true then ((laws_uSame.f k l0_1 l1_1).bind fun t196 => (if t196 = true then ((laws_uBools.f k l0_2 l1_2).bind fun t197 => (if t197 = true then ((laws_uSame.f k l0_3 l1_3).bind fun t198 => (some t198)) else (some false))) else (some false))) else (some false))) = some r := h
 clear h
 replace H := Z37.mp H
 obtain ⟨t195, A30, H⟩ := H
 replace H : (if t195 = true then ((laws_uSame.f k l0_1 l1_1).bind fun t196 => (if t196 = true then ((laws_uBools.f k l0_2 l1_2).bind fun t197 => (if t197 = true then ((laws_uSame.f k l0_3 l1_3).bind fun t198 => (some t198)) else (some false))) else (some false))) else (some false)) = some r := H
 have A3 := Ya A30
 clear A30
 by_cases c4 : t195 = true
 ·subst c4
  have H1 : ((laws_uSame.f k l0_1 l1_1).bind fun t196 => (if t196 = true then ((laws_uBools.f k l0_2 l1_2).bind fun t197 => (if t197 = true then ((laws_uSame.f k l0_3 l1_3).bind fun t198 => (some t198)) else (some false))) else (some false))) = some r := by rw [if_pos rfl] at H; exact H
  clear H
  have H := H1
  clear H1
  replace H := Z37.mp H
  obtain ⟨t196, A50, H⟩ := H
  replace H : (if t196 = true then ((laws_uBools.f k l0_2 l1_2).bind fun t197 => (if t197 = true then ((laws_uSame.f k l0_3 l1_3).bind fun t198 => (some t198)) else (some false))) else (some false)) = some r := H
  have A5 := Ya A50
  clear A50
  by_cases c6 : t196 = true
  ·subst c6
   have H1 : ((laws_uBools.f k l0_2 l1_2).bind fun t197 => (if t197 = true then ((laws_uSame.f k l0_3 l1_3).bind fun t198 => (some t198)) else (some false))) = some r := by rw [if_pos rfl] at H; exact H
   clear H
   have H := H1
   clear H1
   replace H := Z37.mp H
   obtain ⟨t197, A70, H⟩ := H
   replace H : (if t197 = true then ((laws_uSame.f k l0_3 l1_3).bind fun t198 => (some t198)) else (some false)) = some r := H
   have A7 := Ya A70
   clear A70
   by_cases c8 : t197 = true
   ·subst c8
    have H1 : ((laws_uSame.f k l0_3 l1_3).bind fun t198 => (some t198)) = some r := by rw [if_pos rfl] at H; exact H
    clear H
    have H := H1
    clear H1
    replace H := Z37.mp H
    obtain ⟨t198, A90, H⟩ := H
    replace H : (some t198) = some r := H
    have A9 := Ya A90
    clear A90
    obtain rfl := Option.some.inj H
    go_enter Try.func17, Try.ntmps17
    go_wp2_with (first | ((with_reducible refine gate_dst (N := 2) rfl ?_); refine Yx 2 #[.slice A0_0 l0_0.length c0_0, .slice A0_1 l0_1.length c0_1, .slice A0_2 l0_2.length c0_2, .slice A0_3 l0_3.length c0_3] 33 ?_; intro gb193 hg w10 hbox hb; have BK193 := Ya hbox; have GE193 := Yg hg; replace HB := Yh hb; clear hb hbox hg) | ((with_reducible refine gate_dst (N := 3) rfl ?_); refine Yx 3 #[.slice A1_0 l1_0.length c1_0, .slice A1_1 l1_1.length c1_1, .slice A1_2 l1_2.length c1_2, .slice A1_3 l1_3.length c1_3] 33 ?_; intro gb194 hg w11 hbox hb; have BK194 := Ya hbox; have GE194 := Yg hg; replace HB := Yh hb; have NB193_194 := Yn BK193 hg; have NB194_193 := Ym BK193 hg; replace BK193 := Yb BK193 hb; clear hb hbox hg; have hnb12 := NB193_194.out; have hnc12 := NB194_193.out; have hz13 := Y4 BK193.out; have hz14 := Y4 BK194.out) | ((with_reducible refine gate_callee (f := 9) rfl ?_); refine Yz 9 Try.func9 #[.slice A0_0 l0_0.length c0_0, .slice A1_0 l1_0.length c1_0] ?_; (with_reducible refine (laws_uSame.calls k _ _ l0_0 _ _ l1_0 true _ (Yc (Z23 HR0_0.out HB.out)) HC0_0.out (Yc (Z23 HR1_0.out HB.out)) HC1_0.out A3.out).mono ?_); rintro e w' ⟨rfl, ⟨nd, rfl⟩⟩; refine ⟨_, rfl, ?_⟩) | (go_at_call 9; (with_reducible refine (laws_uSame.calls k _ _ l0_1 _ _ l1_1 true _ ?side1 HC0_1.out ?side3 HC1_1.out A5.out).mono ?_); (case side1 => exact Yc (Z23 HR0_1.out Q0)); (case side3 => exact Yc (Z23 HR1_1.out Q0)); rintro e w' ⟨rfl, ⟨nd, rfl⟩⟩) | (go_at_call 44; (with_reducible refine (laws_uBools.calls k _ _ l0_2 _ _ l1_2 true _ ?side1 HC0_2.out ?side3 HC1_2.out A7.out).mono ?_); (case side1 => exact Yc (Z23 HR0_2.out Q0)); (case side3 => exact Yc (Z23 HR1_2.out Q0)); rintro e w' ⟨rfl, ⟨nd, rfl⟩⟩) | (go_at_call 9; (with_reducible refine (laws_uSame.calls k _ _ l0_3 _ _ l1_3 t198 _ ?side1 HC0_3.out ?side3 HC1_3.out A9.out).mono ?_); (case side1 => exact Yc (Z23 HR0_3.out Q0)); (case side3 => exact Yc (Z23 HR1_3.out Q0)); rintro e w' ⟨rfl, ⟨nd, rfl⟩⟩))
    go_ret
    exact ⟨Q1, Q12⟩
   ·replace c8 := Bool.eq_false_iff.mpr c8
    subst c8
    have H1 : (some false) = some r := by rw [if_neg (show ¬ (false = true) by decide)] at H; exact H
    clear H
    have H := H1
    clear H1
    obtain rfl := Option.some.inj H
    go_enter Try.func17, Try.ntmps17
    go_wp2_with (first | ((with_reducible refine gate_dst (N := 2) rfl ?_); refine Yx 2 #[.slice A0_0 l0_0.length c0_0, .slice A0_1 l0_1.length c0_1, .slice A0_2 l0_2.length c0_2, .slice A0_3 l0_3.length c0_3] 33 ?_; intro gb193 hg w15 hbox hb; have BK193 := Ya hbox; have GE193 := Yg hg; replace HB := Yh hb; clear hb hbox hg) | ((with_reducible refine gate_dst (N := 3) rfl ?_); refine Yx 3 #[.slice A1_0 l1_0.length c1_0, .slice A1_1 l1_1.length c1_1, .slice A1_2 l1_2.length c1_2, .slice A1_3 l1_3.length c1_3] 33 ?_; intro gb194 hg w16 hbox hb; have BK194 := Ya hbox; have GE194 := Yg hg; replace HB := Yh hb; have NB193_194 := Yn BK193 hg; have NB194_193 := Ym BK193 hg; replace BK193 := Yb BK193 hb; clear hb hbox hg; have hnb17 := NB193_194.out; have hnc17 := NB194_193.out; have hz18 := Y4 BK193.out; have hz19 := Y4 BK194.out) | ((with_reducible refine gate_callee (f := 9) rfl ?_); refine Yz 9 Try.func9 #[.slice A0_0 l0_0.length c0_0, .slice A1_0 l1_0.length c1_0] ?_; (with_reducible refine (laws_uSame.calls k _ _ l0_0 _ _ l1_0 true _ (Yc (Z23 HR0_0.out HB.out)) HC0_0.out (Yc (Z23 HR1_0.out HB.out)) HC1_0.out A3.out).mono ?_); rintro e w' ⟨rfl, ⟨nd, rfl⟩⟩; refine ⟨_, rfl, ?_⟩) | (go_at_call 9; (with_reducible refine (laws_uSame.calls k _ _ l0_1 _ _ l1_1 true _ ?side1 HC0_1.out ?side3 HC1_1.out A5.out).mono ?_); (case side1 => exact Yc (Z23 HR0_1.out Q0)); (case side3 => exact Yc (Z23 HR1_1.out Q0)); rintro e w' ⟨rfl, ⟨nd, rfl⟩⟩) | (go_at_call 44; (with_reducible refine (laws_uBools.calls k _ _ l0_2 _ _ l1_2 false _ ?side1 HC0_2.out ?side3 HC1_2.out A7.out).mono ?_); (case side1 => exact Yc (Z23 HR0_2.out Q0)); (case side3 => exact Yc (Z23 HR1_2.out Q0)); rintro e w' ⟨rfl, ⟨nd, rfl⟩⟩))
    go_ret
    exact ⟨Q1, Q12⟩
  ·replace c6 := Bool.eq_false_iff.mpr c6
   subst c6
   have H1 : (some false) = some r := by rw [if_neg (show ¬ (false = true) by decide)] at H; exact H
   clear H
   have H := H1
   clear H1
   obtain rfl := Option.some.inj H
   go_enter Try.func17, Try.ntmps17
   go_wp2_with (first | ((with_reducible refine gate_dst (N := 2) rfl ?_); refine Yx 2 #[.slice A0_0 l0_0.length c0_0, .slice A0_1 l0_1.length c0_1, .slice A0_2 l0_2.length c0_2, .slice A0_3 l0_3.length c0_3] 33 ?_; intro gb193 hg w20 hbox hb; have BK193 := Ya hbox; have GE193 := Yg hg; replace HB := Yh hb; clear hb hbox hg) | ((with_reducible refine gate_dst (N := 3) rfl ?_); refine Yx 3 #[.slice A1_0 l1_0.length c1_0, .slice A1_1 l1_1.length c1_1, .slice A1_2 l1_2.length c1_2, .slice A1_3 l1_3.length c1_3] 33 ?_; intro gb194 hg w21 hbox hb; have BK194 := Ya hbox; have GE194 := Yg hg; replace HB := Yh hb; have NB193_194 := Yn BK193 hg; have NB194_193 := Ym BK193 hg; replace BK193 := Yb BK193 hb; clear hb hbox hg; have hnb22 := NB193_194.out; have hnc22 := NB194_193.out; have hz23 := Y4 BK193.out; have hz24 := Y4 BK194.out) | ((with_reducible refine gate_callee (f := 9) rfl ?_); refine Yz 9 Try.func9 #[.slice A0_0 l0_0.length c0_0, .slice A1_0 l1_0.length c1_0] ?_; (with_reducible refine (laws_uSame.calls k _ _ l0_0 _ _ l1_0 true _ (Yc (Z23 HR0_0.out HB.out)) HC0_0.out (Yc (Z23 HR1_0.out HB.out)) HC1_0.out A3.out).mono ?_); rintro e w' ⟨rfl, ⟨nd, rfl⟩⟩; refine ⟨_, rfl, ?_⟩) | (go_at_call 9; (with_reducible refine (laws_uSame.calls k _ _ l0_1 _ _ l1_1 false _ ?side1 HC0_1.out ?side3 HC1_1.out A5.out).mono ?_); (case side1 => exact Yc (Z23 HR0_1.out Q0)); (case side3 => exact Yc (Z23 HR1_1.out Q0)); rintro e w' ⟨rfl, ⟨nd, rfl⟩⟩))
   go_ret
   exact ⟨Q1, Q12⟩
 ·replace c4 := Bool.eq_false_iff.mpr c4
  subst c4
  have H1 : (some false) = some r := by rw [if_neg (show ¬ (false = true) by decide)] at H; exact H
  clear H
  have H := H1
  clear H1
  obtain rfl := Option.some.inj H
  go_enter Try.func17, Try.ntmps17
  go_wp2_with (first | ((with_reducible refine gate_dst (N := 2) rfl ?_); refine Yx 2 #[.slice A0_0 l0_0.length c0_0, .slice A0_1 l0_1.length c0_1, .slice A0_2 l0_2.length c0_2, .slice A0_3 l0_3.length c0_3] 33 ?_; intro gb193 hg w25 hbox hb; have BK193 := Ya hbox; have GE193 := Yg hg; replace HB := Yh hb; clear hb hbox hg) | ((with_reducible refine gate_dst (N := 3) rfl ?_); refine Yx 3 #[.slice A1_0 l1_0.length c1_0, .slice A1_1 l1_1.length c1_1, .slice A1_2 l1_2.length c1_2, .slice A1_3 l1_3.length c1_3] 33 ?_; intro gb194 hg w26 hbox hb; have BK194 := Ya hbox; have GE194 := Yg hg; replace HB := Yh hb; have NB193_194 := Yn BK193 hg; have NB194_193 := Ym BK193 hg; replace BK193 := Yb BK193 hb; clear hb hbox hg; have hnb27 := NB193_194.out; have hnc27 := NB194_193.out; have hz28 := Y4 BK193.out; have hz29 := Y4 BK194.out) | ((with_reducible refine gate_callee (f := 9) rfl ?_); refine Yz 9 Try.func9 #[.slice A0_0 l0_0.length c0_0, .slice A1_0 l1_0.length c1_0] ?_; (with_reducible refine (laws_uSame.calls k _ _ l0_0 _ _ l1_0 false _ (Yc (Z23 HR0_0.out HB.out)) HC0_0.out (Yc (Z23 HR1_0.out HB.out)) HC1_0.out A3.out).mono ?_); rintro e w' ⟨rfl, ⟨nd, rfl⟩⟩; refine ⟨_, rfl, ?_⟩))
  go_ret
  exact ⟨Q1, Q12⟩
def impl_FocusRank.f (k : Nat) (l0_0 : List Int) (l0_1 : List Int) (l0_2 : List Bool) (l0_3 : List Int) : Option (Int × Bool) := (impl_IsFocus.f k l0_0 l0_1 l0_2 l0_3).bind fun t200 => (if t200 = true then ((impl_mixedRank.f k l0_0 l0_1).bind fun t201 => (some (t201, true))) else (some (0, false)))
theorem impl_FocusRank.mono : ∀ a0 a1 a2 a3 k, LeO (impl_FocusRank.f k a0 a1 a2 a3) (impl_FocusRank.f (k + 1) a0 a1 a2 a3) := by
 intro a0 a1 a2 a3 k
 unfold impl_FocusRank.f
 repeat' first
   | (with_reducible exact impl_IsFocus.mono _ _ _ _ _)
   | (with_reducible exact impl_mixedRank.mono _ _ _)
   | (with_reducible exact LeO.refl _)
   | (with_reducible exact LeO.none _)
   | (with_reducible refine LeO.ite ?_ ?_)
   | (with_reducible refine LeO.bind ?_ (fun _ => ?_))
   | exact impl_IsFocus.mono _ _ _ _ _
   | exact impl_mixedRank.mono _ _ _
   | exact LeO.none _
   | refine LeO.ite ?_ ?_
   | refine LeO.bind ?_ (fun _ => ?_)
set_option maxHeartbeats 8000000 in
set_option maxRecDepth 100000 in
theorem impl_FocusRank.calls (k : Nat) (A0_0 : Option Addr) (c0_0 : Nat) (l0_0 : List Int) (A0_1 : Option Addr) (c0_1 : Nat) (l0_1 : List Int) (A0_2 : Option Addr) (c0_2 : Nat) (l0_2 : List Bool) (A0_3 : Option Addr) (c0_3 : Nat) (l0_3 : List Int) (r1 : Int) (r2 : Bool) (w : World) (hr0_0 : Kd.C (Kd.int .i64) w A0_0 l0_0.length l0_0) (hc0_0 : l0_0.length ≤ c0_0) (hr0_1 : Kd.C (Kd.int .i64) w A0_1 l0_1.length l0_1) (hc0_1 : l0_1.length ≤ c0_1) (hr0_2 : Kd.C Kd.bool w A0_2 l0_2.length l0_2) (hc0_2 : l0_2.length ≤ c0_2) (hr0_3 : Kd.C (Kd.int .i64) w A0_3 l0_3.length l0_3) (hc0_3 : l0_3.length ≤ c0_3) (h : impl_FocusRank.f k l0_0 l0_1 l0_2 l0_3 = some (r1, r2)) :
  Calls Try.prog 19 #[.agg #[.slice A0_0 l0_0.length c0_0, .slice A0_1 l0_1.length c0_1, .slice A0_2 l0_2.length c0_2, .slice A0_3 l0_3.length c0_3]] w fun e w' => e = .returned (.tuple #[.int .i64 r1, .bool r2]) ∧ Below w.heap.size w w' := by
 have hu33 := Try.underlying33
 have HR0_0 := Ya hr0_0
 have HC0_0 := Ya hc0_0
 clear hr0_0 hc0_0
 have HR0_1 := Ya hr0_1
 have HC0_1 := Ya hc0_1
 clear hr0_1 hc0_1
 have HR0_2 := Ya hr0_2
 have HC0_2 := Ya hc0_2
 clear hr0_2 hc0_2
 have HR0_3 := Ya hr0_3
 have HC0_3 := Ya hc0_3
 clear hr0_3 hc0_3
 have HB := Ya (Below.refl w.heap.size w)
 have H : ((impl_IsFocus.f k l0_0 l0_1 l0_2 l0_3).bind fun t200 => (if t200 = true then ((impl_mixedRank.f k l0_0 l0_1).bind fun t201 => (some (t201, true))) else (some (0, false)))) = some (r1, r2) := h
 clear h
 replace H := Z37.mp H
 obtain ⟨t200, A20, H⟩ := H
 replace H : (if t200 = true then ((impl_mixedRank.f k l0_0 l0_1).bind fun t201 => (some (t201, true))) else (some (0, false))) = some (r1, r2) := H
 have A2 := Ya A20
 clear A20
 by_cases c3 : t200 = true
 ·subst c3
  have H1 : ((impl_mixedRank.f k l0_0 l0_1).bind fun t201 => (some (t201, true))) = some (r1, r2) := by rw [if_pos rfl] at H; exact H
  clear H
  have H := H1
  clear H1
  replace H := Z37.mp H
  obtain ⟨t201, A40, H⟩ := H
  replace H : (some (t201, true)) = some (r1, r2) := H
  have A4 := Ya A40
  clear A40
  simp only [Option.some.injEq, Prod.mk.injEq] at H
  obtain ⟨rfl, rfl⟩ := H
  go_enter Try.func19, Try.ntmps19
  go_wp2_with (first | ((with_reducible refine gate_dst (N := 1) rfl ?_); refine Yx 1 #[.slice A0_0 l0_0.length c0_0, .slice A0_1 l0_1.length c0_1, .slice A0_2 l0_2.length c0_2, .slice A0_3 l0_3.length c0_3] 33 ?_; intro gb199 hg w5 hbox hb; have BK199 := Ya hbox; have GE199 := Yg hg; replace HB := Yh hb; clear hb hbox hg; obtain ⟨hcz6_0, hcz6_1, hcz6_2, hcz6_3, hfz6_0, hfz6_1, hfz6_2, hfz6_3⟩ := Y4 BK199.out) | ((with_reducible refine gate_callee (f := 24) rfl ?_); refine Yz 5 Try.func24 #[.agg #[.slice A0_0 l0_0.length c0_0, .slice A0_1 l0_1.length c0_1, .slice A0_2 l0_2.length c0_2, .slice A0_3 l0_3.length c0_3]] ?_; (with_reducible refine (impl_IsFocus.calls k _ _ l0_0 _ _ l0_1 _ _ l0_2 _ _ l0_3 true _ (Yc (Z23 HR0_0.out HB.out)) HC0_0.out (Yc (Z23 HR0_1.out HB.out)) HC0_1.out (Yc (Z23 HR0_2.out HB.out)) HC0_2.out (Yc (Z23 HR0_3.out HB.out)) HC0_3.out A2.out).mono ?_); rintro e w7 ⟨rfl, hb⟩; refine ⟨_, rfl, ?_⟩; replace BK199 := Yb BK199 hb; replace HB := Yh hb; (try clear hb); obtain ⟨hcz8_0, hcz8_1, hcz8_2, hcz8_3, hfz8_0, hfz8_1, hfz8_2, hfz8_3⟩ := Y4 BK199.out) | ((with_reducible refine gate_callee (f := 47) rfl ?_); refine Yz 11 Try.func47 #[.slice A0_0 l0_0.length c0_0, .slice A0_1 l0_1.length c0_1] ?_; (with_reducible refine (impl_mixedRank.calls k _ _ l0_0 _ _ l0_1 t201 _ (Yc (Z23 HR0_0.out HB.out)) HC0_0.out (Yc (Z23 HR0_1.out HB.out)) HC0_1.out A4.out).mono ?_); rintro e w9 ⟨rfl, hb⟩; refine ⟨_, rfl, ?_⟩; replace BK199 := Yb BK199 hb; replace HB := Yh hb; (try clear hb)))
  go_ret2
  exact ⟨Q1, Q12⟩
 ·replace c3 := Bool.eq_false_iff.mpr c3
  subst c3
  have H1 : (some (0, false)) = some (r1, r2) := by rw [if_neg (show ¬ (false = true) by decide)] at H; exact H
  clear H
  have H := H1
  clear H1
  simp only [Option.some.injEq, Prod.mk.injEq] at H
  obtain ⟨rfl, rfl⟩ := H
  go_enter Try.func19, Try.ntmps19
  go_wp2_with (first | ((with_reducible refine gate_dst (N := 1) rfl ?_); refine Yx 1 #[.slice A0_0 l0_0.length c0_0, .slice A0_1 l0_1.length c0_1, .slice A0_2 l0_2.length c0_2, .slice A0_3 l0_3.length c0_3] 33 ?_; intro gb199 hg w10 hbox hb; have BK199 := Ya hbox; have GE199 := Yg hg; replace HB := Yh hb; clear hb hbox hg; have hz11 := Y4 BK199.out) | ((with_reducible refine gate_callee (f := 24) rfl ?_); refine Yz 5 Try.func24 #[.agg #[.slice A0_0 l0_0.length c0_0, .slice A0_1 l0_1.length c0_1, .slice A0_2 l0_2.length c0_2, .slice A0_3 l0_3.length c0_3]] ?_; (with_reducible refine (impl_IsFocus.calls k _ _ l0_0 _ _ l0_1 _ _ l0_2 _ _ l0_3 false _ (Yc (Z23 HR0_0.out HB.out)) HC0_0.out (Yc (Z23 HR0_1.out HB.out)) HC0_1.out (Yc (Z23 HR0_2.out HB.out)) HC0_2.out (Yc (Z23 HR0_3.out HB.out)) HC0_3.out A2.out).mono ?_); rintro e w12 ⟨rfl, hb⟩; refine ⟨_, rfl, ?_⟩; replace BK199 := Yb BK199 hb; replace HB := Yh hb; (try clear hb)))
  go_ret2
  exact ⟨Q1, Q12⟩
def IsS52 (w0 W : World) (g : Nat) (f0 : List Int) (f1 : Int) (f2 : Int) : Prop := ∃ A0 c0, W.heap[g]? = some (.cells #[.slice A0 f0.length c0, .int .i64 f1, .int .u64 f2] 52 (0, 0)) ∧ w0.heap.size ≤ g ∧ Kd.C (Kd.int .u8) w0 A0 f0.length f0
theorem IsS52.grown {w0 W : World} {g : Nat} {f0 : List Int} {f1 : Int} {f2 : Int} {W1 : World} {row : Option Nat} (h : IsS52 w0 W g f0 f1 f2) (hw : W.grownBy W1 row) (hne : some g ≠ row) : IsS52 w0 W1 g f0 f1 f2 := by
 obtain ⟨A0, c0, hb, hg, hr0⟩ := h
 exact ⟨A0, c0, blk_grown hb hw hne, hg, hr0⟩
theorem IsS52.kept {w0 W : World} {g : Nat} {f0 : List Int} {f1 : Int} {f2 : Int} {W1 : World} {S : Nat → Prop} (h : IsS52 w0 W g f0 f1 f2) (hk : Kept W W1 S) (hne : ¬ S g) : IsS52 w0 W1 g f0 f1 f2 := by
 obtain ⟨A0, c0, hb, hg, hr0⟩ := h
 exact ⟨A0, c0, blk_kept hb hk hne, hg, hr0⟩
theorem IsS52.below {w0 W : World} {g : Nat} {f0 : List Int} {f1 : Int} {f2 : Int} {W1 : World} (h : IsS52 w0 W g f0 f1 f2) (hw : Below W.heap.size W W1) : IsS52 w0 W1 g f0 f1 f2 := h.grown (grown_of_below hw none) (by simp)
theorem IsS52.alloc {w0 W : World} {g : Nat} {f0 : List Int} {f1 : Int} {f2 : Int} (h : IsS52 w0 W g f0 f1 f2) (o : Obj) : IsS52 w0 (W.alloc o) g f0 f1 f2 := h.below (Z5 (Below.refl _ _) o)
theorem IsS52.drewN {w0 W : World} {g : Nat} {f0 : List Int} {f1 : Int} {f2 : Int} (h : IsS52 w0 W g f0 f1 f2) (m : Nat) : IsS52 w0 (W.drewN m) g f0 f1 f2 := h
theorem IsS52.drew {w0 W : World} {g : Nat} {f0 : List Int} {f1 : Int} {f2 : Int} (h : IsS52 w0 W g f0 f1 f2) : IsS52 w0 W.drew g f0 f1 f2 := h
theorem IsS52.at_ {w0 W : World} {g : Nat} {f0 : List Int} {f1 : Int} {f2 : Int} {w' : World} {m : Nat} (hq : W.drewN m = w') (h : IsS52 w0 W g f0 f1 f2) : IsS52 w0 w' g f0 f1 f2 := by subst hq; exact IsS52.drewN h m
theorem IsS52.apart {w0 W : World} {g : Nat} {f0 : List Int} {f1 : Int} {f2 : Int} {α : Type} {d : Kd α} {e : Nat} {base : Nat} {ok : Nat → Prop} {v : Value} {xs : List α} (h : IsS52 w0 W g f0 f1 f2) (ho : d.R e W base ok v xs) (ht : ∀ q, q ∈ e :: d.E → q ≠ 52) : d.R e W base (fun k => ok k ∧ k ≠ g) v xs := by
 obtain ⟨A0, c0, hb, hg, hr0⟩ := h
 exact Z15 ho hb ht
theorem IsS52.own_ne {w0 W : World} {g : Nat} {f0 : List Int} {f1 : Int} {f2 : Int} {α : Type} {d : Kd α} {e : Nat} {base : Nat} {ok : Nat → Prop} {v : Value} {xs : List α} (h : IsS52 w0 W g f0 f1 f2) (ho : d.R e W base ok v xs) (ht : e ≠ 52) : some g ≠ v.ownBlock := by
 obtain ⟨A0, c0, hb, hg, hr0⟩ := h
 exact Kd.R_ne ho hb ht
theorem IsS52.lt {w0 W : World} {g : Nat} {f0 : List Int} {f1 : Int} {f2 : Int} (h : IsS52 w0 W g f0 f1 f2) : g < W.heap.size := by
 obtain ⟨A0, c0, hb, hg, hr0⟩ := h
 exact blk_lt hb
theorem IsS52.ge {w0 W : World} {g : Nat} {f0 : List Int} {f1 : Int} {f2 : Int} (h : IsS52 w0 W g f0 f1 f2) : w0.heap.size ≤ g := by
 obtain ⟨A0, c0, hb, hg, hr0⟩ := h
 exact hg
theorem IsS52.far {w0 W : World} {g : Nat} {f0 : List Int} {f1 : Int} {f2 : Int} {p : Addr} (h : IsS52 w0 W g f0 f1 f2) (hne : g ≠ p.block) (u : Value) : IsS52 w0 (W.setCell p u) g f0 f1 f2 := by
 obtain ⟨A0, c0, hb, hg, hr0⟩ := h
 exact ⟨A0, c0, blk_far hb hne u, hg, hr0⟩
theorem cellS52_0 {W : World} {g : Nat} {A0 : Option Addr} {c0 : Nat} {f0 : List Int} {f1 : Int} {f2 : Int} (h : W.heap[g]? = some (.cells #[.slice A0 f0.length c0, .int .i64 f1, .int .u64 f2] 52 (0, 0))) : W.cell? ⟨g, 0, none⟩ = some (.slice A0 f0.length c0) := (Z24 h 0).trans rfl
theorem cellS52_1 {W : World} {g : Nat} {A0 : Option Addr} {c0 : Nat} {f0 : List Int} {f1 : Int} {f2 : Int} (h : W.heap[g]? = some (.cells #[.slice A0 f0.length c0, .int .i64 f1, .int .u64 f2] 52 (0, 0))) : W.cell? ⟨g, 1, none⟩ = some (.int .i64 f1) := (Z24 h 1).trans rfl
theorem IsS52.set_1 {w0 W : World} {g : Nat} {f0 : List Int} {f1 : Int} {f2 : Int} (h : IsS52 w0 W g f0 f1 f2) (x : Int) : IsS52 w0 (W.setCell ⟨g, 1, none⟩ (.int .i64 x)) g f0 x f2 := by
 obtain ⟨A0, c0, hb, hg, hr0⟩ := h
 exact ⟨A0, c0, by simpa using blk_set hb 1 (.int .i64 x), hg, hr0⟩
theorem cellS52_2 {W : World} {g : Nat} {A0 : Option Addr} {c0 : Nat} {f0 : List Int} {f1 : Int} {f2 : Int} (h : W.heap[g]? = some (.cells #[.slice A0 f0.length c0, .int .i64 f1, .int .u64 f2] 52 (0, 0))) : W.cell? ⟨g, 2, none⟩ = some (.int .u64 f2) := (Z24 h 2).trans rfl
theorem IsS52.set_2 {w0 W : World} {g : Nat} {f0 : List Int} {f1 : Int} {f2 : Int} (h : IsS52 w0 W g f0 f1 f2) (x : Int) : IsS52 w0 (W.setCell ⟨g, 2, none⟩ (.int .u64 x)) g f0 f1 x := by
 obtain ⟨A0, c0, hb, hg, hr0⟩ := h
 exact ⟨A0, c0, by simpa using blk_set hb 2 (.int .u64 x), hg, hr0⟩
def spec_l1Cur_next.f (s0_0 : List Int) (s0_1 : Int) (s0_2 : Int) : Option (Int × Int × Int) := if s0_1 < (s0_0.length : Int) then (if 0 ≤ s0_1 then (if (wrap64 (s0_1 + 1)) ≤ (s0_0.length : Int) then (some (wrap64 (rd s0_0 s0_1), wrap64 (s0_1 + 1), IntKind.u64.wrap ((IntKind.u64.wrap ((IntKind.u64.wrap (s0_2 * 6364136223846793005)) + (IntKind.u64.wrap (wrap64 (rd s0_0 s0_1))))) + 1442695040888963407))) else (some (wrap64 (Go.bits .and .u64 ((IntKind.u64.wrap ((IntKind.u64.wrap ((IntKind.u64.wrap (s0_2 * 6364136223846793005)) + (IntKind.u64.wrap (wrap64 (rd s0_0 s0_1))))) + 1442695040888963407)) / 1099511627776) 255), wrap64 (s0_1 + 1), IntKind.u64.wrap ((IntKind.u64.wrap ((IntKind.u64.wrap (s0_2 * 6364136223846793005)) + (IntKind.u64.wrap (wrap64 (rd s0_0 s0_1))))) + 1442695040888963407)))) else (none)) else (if (wrap64 (s0_1 + 1)) ≤ (s0_0.length : Int) then (some (0, wrap64 (s0_1 + 1), IntKind.u64.wrap ((IntKind.u64.wrap ((IntKind.u64.wrap (s0_2 * 6364136223846793005)))) + 1442695040888963407))) else (some (wrap64 (Go.bits .and .u64 ((IntKind.u64.wrap ((IntKind.u64.wrap ((IntKind.u64.wrap (s0_2 * 6364136223846793005)))) + 1442695040888963407)) / 1099511627776) 255), wrap64 (s0_1 + 1), IntKind.u64.wrap ((IntKind.u64.wrap ((IntKind.u64.wrap (s0_2 * 6364136223846793005)))) + 1442695040888963407))))
set_option maxHeartbeats 8000000 in
set_option maxRecDepth 100000 in
theorem spec_l1Cur_next.calls (g : Nat) (s0_0 : List Int) (s0_1 : Int) (s0_2 : Int) (r1 : Int) (r2 : Int) (r3 : Int) (w0 w : World) (hI : IsS52 w0 w g s0_0 s0_1 s0_2) (hB : Below w0.heap.size w0 w) (h : spec_l1Cur_next.f s0_0 s0_1 s0_2 = some (r1, r2, r3)) :
  Calls Try.prog 69 #[.pointer (some ⟨g, 0, none⟩)] w fun e w' => e = .returned (.int .i64 r1) ∧ IsS52 w0 w' g s0_0 r2 r3 ∧ Below w0.heap.size w0 w' ∧ KeepBut w w' g none := by
 have HI0 := Ya hI
 have HK := Ya (KeepBut.refl w g none)
 have HL := Ya hB.size
 clear hI
 have HW0 := Ya hB.size
 have HB := Ya hB
 clear hB
 have H : (if s0_1 < (s0_0.length : Int) then (if 0 ≤ s0_1 then (if (wrap64 (s0_1 + 1)) ≤ (s0_0.length : Int) then (some (wrap64 (rd s0_0 s0_1), wrap64 (s0_1 + 1), IntKind.u64.wrap ((IntKind.u64.wrap ((IntKind.u64.wrap (s0_2 * 6364136223846793005)) + (IntKind.u64.wrap (wrap64 (rd s0_0 s0_1))))) + 1442695040888963407))) else (some (wrap64 (Go.bits .and .u64 ((IntKind.u64.wrap ((IntKind.u64.wrap ((IntKind.u64.wrap (s0_2 * 6364136223846793005)) + (IntKind.u64.wrap (wrap64 (rd s0_0 s0_1))))) + 1442695040888963407)) / 1099511627776) 255), wrap64 (s0_1 + 1), IntKind.u64.wrap ((IntKind.u64.wrap ((IntKind.u64.wrap (s0_2 * 6364136223846793005)) + (IntKind.u64.wrap (wrap64 (rd s0_0 s0_1))))) + 1442695040888963407)))) else (none)) else (if (wrap64 (s0_1 + 1)) ≤ (s0_0.length : Int) then (some (0, wrap64 (s0_1 + 1), IntKind.u64.wrap ((IntKind.u64.wrap ((IntKind.u64.wrap (s0_2 * 6364136223846793005)))) + 1442695040888963407))) else (some (wrap64 (Go.bits .and .u64 ((IntKind.u64.wrap ((IntKind.u64.wrap ((IntKind.u64.wrap (s0_2 * 6364136223846793005)))) + 1442695040888963407)) / 1099511627776) 255), wrap64 (s0_1 + 1), IntKind.u64.wrap ((IntKind.u64.wrap ((IntKind.u64.wrap (s0_2 * 6364136223846793005)))) + 1442695040888963407))))) = some (r1, r2, r3) := h
 clear h
 by_cases c2 : s0_1 < (s0_0.length : Int)
 ·rw [if_pos c2] at H
  have c2b0 := Z39 c2
  clear c2
  by_cases c3 : 0 ≤ s0_1
  ·rw [if_pos c3] at H
   have c3b0 := Z39 c3
   clear c3
   by_cases c4 : (wrap64 (s0_1 + 1)) ≤ (s0_0.length : Int)
   ·rw [if_pos c4] at H
    have c4b0 := Z39 c4
    clear c4
    simp only [Option.some.injEq, Prod.mk.injEq] at H
    obtain ⟨rfl, rfl, rfl⟩ := H
    obtain ⟨ASz5_0, cSz5_0, HGz5, hgz5, HSz5_0⟩ := HI0.out
    have hcz5_0 := cellS52_0 HGz5
    have hcz5_1 := cellS52_1 HGz5
    have hcz5_2 := cellS52_2 HGz5
    have hfz5_1 := Z25 HGz5 1
    have hfz5_2 := Z25 HGz5 2
    clear HGz5 hgz5
    have p202 : 0 ≤ (s0_1 : Int) := Z31 Q2
    have q202 : s0_1 < (s0_0.length : Int) := Z31 Q2
    obtain ⟨ad202, e202, hx202_0⟩ := Kd.at_int HSz5_0 s0_1 p202 q202
    cases e202
    replace hx202_0 := pw_cell_below HB.out hx202_0
    replace p202 := eq_true p202
    replace q202 := eq_true q202
    go_enter Try.func69, Try.ntmps69
    go_wp2
    repeat (go_quiet (fail); try go_wp2)
    go_ret
    exact ⟨Q1, Q7, Q11, Q13⟩
   ·rw [if_neg c4] at H
    have c4b0 := Z38 c4
    clear c4
    simp only [Option.some.injEq, Prod.mk.injEq] at H
    obtain ⟨rfl, rfl, rfl⟩ := H
    obtain ⟨ASz6_0, cSz6_0, HGz6, hgz6, HSz6_0⟩ := HI0.out
    have hcz6_0 := cellS52_0 HGz6
    have hcz6_1 := cellS52_1 HGz6
    have hcz6_2 := cellS52_2 HGz6
    have hfz6_1 := Z25 HGz6 1
    have hfz6_2 := Z25 HGz6 2
    clear HGz6 hgz6
    have p202 : 0 ≤ (s0_1 : Int) := Z31 Q2
    have q202 : s0_1 < (s0_0.length : Int) := Z31 Q2
    obtain ⟨ad202, e202, hx202_0⟩ := Kd.at_int HSz6_0 s0_1 p202 q202
    cases e202
    replace hx202_0 := pw_cell_below HB.out hx202_0
    replace p202 := eq_true p202
    replace q202 := eq_true q202
    go_enter Try.func69, Try.ntmps69
    go_wp2
    repeat (go_quiet (fail); try go_wp2)
    go_ret
    exact ⟨Q1, Q7, Q11, Q13⟩
  ·rw [if_neg c3] at H
   exact absurd H (by simp)
 ·rw [if_neg c2] at H
  have c2b0 := Z38 c2
  clear c2
  by_cases c7 : (wrap64 (s0_1 + 1)) ≤ (s0_0.length : Int)
  ·rw [if_pos c7] at H
   have c7b0 := Z39 c7
   clear c7
   simp only [Option.some.injEq, Prod.mk.injEq] at H
   obtain ⟨rfl, rfl, rfl⟩ := H
   obtain ⟨ASz8_0, cSz8_0, HGz8, hgz8, HSz8_0⟩ := HI0.out
   have hcz8_0 := cellS52_0 HGz8
   have hcz8_1 := cellS52_1 HGz8
   have hcz8_2 := cellS52_2 HGz8
   have hfz8_1 := Z25 HGz8 1
   have hfz8_2 := Z25 HGz8 2
   clear HGz8 hgz8
   go_enter Try.func69, Try.ntmps69
   go_wp2
   repeat (go_quiet (fail); try go_wp2)
   go_ret
   exact ⟨Q1, Q7, Q11, Q13⟩
  ·rw [if_neg c7] at H
   have c7b0 := Z38 c7
   clear c7
   simp only [Option.some.injEq, Prod.mk.injEq] at H
   obtain ⟨rfl, rfl, rfl⟩ := H
   obtain ⟨ASz9_0, cSz9_0, HGz9, hgz9, HSz9_0⟩ := HI0.out
   have hcz9_0 := cellS52_0 HGz9
   have hcz9_1 := cellS52_1 HGz9
   have hcz9_2 := cellS52_2 HGz9
   have hfz9_1 := Z25 HGz9 1
   have hfz9_2 := Z25 HGz9 2
   clear HGz9 hgz9
   go_enter Try.func69, Try.ntmps69
   go_wp2
   repeat (go_quiet (fail); try go_wp2)
   go_ret
   exact ⟨Q1, Q7, Q11, Q13⟩
def spec_l1Cur_pick.f (s0_0 : List Int) (s0_1 : Int) (s0_2 : Int) (a1 : Int) : Option (Int × Int × Int) := if a1 ≤ 1 then (some (0, s0_1, s0_2)) else ((spec_l1Cur_next.f s0_0 s0_1 s0_2).bind fun bt203 => (if a1 > 200 then ((spec_l1Cur_next.f s0_0 bt203.2.1 bt203.2.2).bind fun bt206 => (if a1 = 0 then (none) else (some (Int.tmod (wrap64 ((wrap64 (bt203.1 * 256)) + bt206.1)) a1, bt206.2.1, bt206.2.2)))) else (if a1 = 0 then (none) else (some (Int.tmod bt203.1 a1, bt203.2.1, bt203.2.2)))))
set_option maxHeartbeats 8000000 in
set_option maxRecDepth 100000 in
theorem spec_l1Cur_pick.calls (g : Nat) (s0_0 : List Int) (s0_1 : Int) (s0_2 : Int) (a1 : Int) (r1 : Int) (r2 : Int) (r3 : Int) (w0 w : World) (hI : IsS52 w0 w g s0_0 s0_1 s0_2) (hB : Below w0.heap.size w0 w) (h : spec_l1Cur_pick.f s0_0 s0_1 s0_2 a1 = some (r1, r2, r3)) :
  Calls Try.prog 56 #[.pointer (some ⟨g, 0, none⟩), .int .i64 a1] w fun e w' => e = .returned (.int .i64 r1) ∧ IsS52 w0 w' g s0_0 r2 r3 ∧ Below w0.heap.size w0 w' ∧ KeepBut w w' g none := by
 have HI0 := Ya hI
 have HK := Ya (KeepBut.refl w g none)
 have HL := Ya hB.size
 clear hI
 have HW0 := Ya hB.size
 have HB := Ya hB
 clear hB
 have H : (if a1 ≤ 1 then (some (0, s0_1, s0_2)) else ((spec_l1Cur_next.f s0_0 s0_1 s0_2).bind fun bt203 => (if a1 > 200 then ((spec_l1Cur_next.f s0_0 bt203.2.1 bt203.2.2).bind fun bt206 => (if a1 = 0 then (none) else (some (Int.tmod (wrap64 ((wrap64 (bt203.1 * 256)) + bt206.1)) a1, bt206.2.1, bt206.2.2)))) else (if a1 = 0 then (none) else (some (Int.tmod bt203.1 a1, bt203.2.1, bt203.2.2)))))) = some (r1, r2, r3) := h
 clear h
 by_cases c3 : a1 ≤ 1
 ·rw [if_pos c3] at H
  have c3b0 := Z39 c3
  clear c3
  simp only [Option.some.injEq, Prod.mk.injEq] at H
  obtain ⟨rfl, rfl, rfl⟩ := H
  go_enter Try.func56, Try.ntmps56
  go_wp2
  go_ret
  exact ⟨Q1, Q7, Q11, Q13⟩
 ·rw [if_neg c3] at H
  have c3b0 := Z38 c3
  clear c3
  replace H := Z37.mp H
  obtain ⟨⟨t203, t204, t205⟩, A40, H⟩ := H
  replace H : (if a1 > 200 then ((spec_l1Cur_next.f s0_0 t204 t205).bind fun bt206 => (if a1 = 0 then (none) else (some (Int.tmod (wrap64 ((wrap64 (t203 * 256)) + bt206.1)) a1, bt206.2.1, bt206.2.2)))) else (if a1 = 0 then (none) else (some (Int.tmod t203 a1, t204, t205)))) = some (r1, r2, r3) := H
  have A4 := Ya A40
  clear A40
  by_cases c5 : a1 > 200
  ·rw [if_pos c5] at H
   have c5b0 : decide (200 < a1) = true := Z39 c5
   clear c5
   replace H := Z37.mp H
   obtain ⟨⟨t206, t207, t208⟩, A60, H⟩ := H
   replace H : (if a1 = 0 then (none) else (some (Int.tmod (wrap64 ((wrap64 (t203 * 256)) + t206)) a1, t207, t208))) = some (r1, r2, r3) := H
   have A6 := Ya A60
   clear A60
   by_cases c7 : a1 = 0
   ·rw [if_pos c7] at H
    exact absurd H (by simp)
   ·rw [if_neg c7] at H
    have c7b0 : (a1 == 0) = false := beq_eq_false_iff_ne.mpr c7
    have c7b1 : (a1 != 0) = true := bne_iff_ne.mpr c7
    simp only [Option.some.injEq, Prod.mk.injEq] at H
    obtain ⟨rfl, rfl, rfl⟩ := H
    go_enter Try.func56, Try.ntmps56
    go_wp2_with (first | ((with_reducible refine gate_callee (f := 69) rfl ?_); refine Yz 9 Try.func69 #[.pointer (some ⟨g, 0, none⟩)] ?_; (with_reducible refine (spec_l1Cur_next.calls g s0_0 s0_1 s0_2 t203 t204 t205 w0 _ ?side1 ?side2 A4.out).mono ?_); (case side1 => repeat (first | (with_reducible first | exact HI0.out | apply IsS52.alloc | apply IsS52.drewN | apply IsS52.drew | apply IsS52.set_1 | apply IsS52.set_2) | exact HI0.out)); (case side2 => repeat (first | (with_reducible first | exact HB.out | apply Z5 | apply Z3 | apply Z4 | refine Z6 ?_ (IsS52.ge HI0.out)) | exact HB.out)); rintro e w8 ⟨rfl, hi, hb, hk⟩; refine ⟨_, rfl, ?_⟩; replace HK := Ya (KeepBut.trans Q3 hk (.inl rfl)); replace HB := Ya hb; replace HI0 := Ya hi; (try clear hb hk hi)) | ((with_reducible refine gate_callee (f := 69) rfl ?_); refine Yz 15 Try.func69 #[.pointer (some ⟨g, 0, none⟩)] ?_; (with_reducible refine (spec_l1Cur_next.calls g s0_0 t204 t205 t206 t207 t208 w0 _ ?side1 ?side2 A6.out).mono ?_); (case side1 => repeat (first | (with_reducible first | exact HI0.out | apply IsS52.alloc | apply IsS52.drewN | apply IsS52.drew | apply IsS52.set_1 | apply IsS52.set_2) | exact HI0.out)); (case side2 => repeat (first | (with_reducible first | exact HB.out | apply Z5 | apply Z3 | apply Z4 | refine Z6 ?_ (IsS52.ge HI0.out)) | exact HB.out)); rintro e w9 ⟨rfl, hi, hb, hk⟩; refine ⟨_, rfl, ?_⟩; replace HK := Ya (KeepBut.trans Q3 hk (.inl rfl)); replace HB := Ya hb; replace HI0 := Ya hi; (try clear hb hk hi)))
    go_ret
    exact ⟨Q1, Q7, Q11, Q13⟩
  ·rw [if_neg c5] at H
   have c5b0 : decide (200 < a1) = false := Z38 c5
   clear c5
   by_cases c10 : a1 = 0
   ·rw [if_pos c10] at H
    exact absurd H (by simp)
   ·rw [if_neg c10] at H
    have c10b0 : (a1 == 0) = false := beq_eq_false_iff_ne.mpr c10
    have c10b1 : (a1 != 0) = true := bne_iff_ne.mpr c10
    simp only [Option.some.injEq, Prod.mk.injEq] at H
    obtain ⟨rfl, rfl, rfl⟩ := H
    go_enter Try.func56, Try.ntmps56
    go_wp2_with (first | ((with_reducible refine gate_callee (f := 69) rfl ?_); refine Yz 9 Try.func69 #[.pointer (some ⟨g, 0, none⟩)] ?_; (with_reducible refine (spec_l1Cur_next.calls g s0_0 s0_1 s0_2 t203 t204 t205 w0 _ ?side1 ?side2 A4.out).mono ?_); (case side1 => repeat (first | (with_reducible first | exact HI0.out | apply IsS52.alloc | apply IsS52.drewN | apply IsS52.drew | apply IsS52.set_1 | apply IsS52.set_2) | exact HI0.out)); (case side2 => repeat (first | (with_reducible first | exact HB.out | apply Z5 | apply Z3 | apply Z4 | refine Z6 ?_ (IsS52.ge HI0.out)) | exact HB.out)); rintro e w11 ⟨rfl, hi, hb, hk⟩; refine ⟨_, rfl, ?_⟩; replace HK := Ya (KeepBut.trans Q3 hk (.inl rfl)); replace HB := Ya hb; replace HI0 := Ya hi; (try clear hb hk hi)))
    go_ret
    exact ⟨Q1, Q7, Q11, Q13⟩
def spec_l1Cur_one.f (s0_0 : List Int) (s0_1 : Int) (s0_2 : Int) (a1 : Int) : Option (Bool × Int × Int) := (spec_l1Cur_pick.f s0_0 s0_1 s0_2 a1).bind fun bt209 => (some ((bt209.1 == 0), bt209.2.1, bt209.2.2))
set_option maxHeartbeats 8000000 in
set_option maxRecDepth 100000 in
theorem spec_l1Cur_one.calls (g : Nat) (s0_0 : List Int) (s0_1 : Int) (s0_2 : Int) (a1 : Int) (r1 : Bool) (r2 : Int) (r3 : Int) (w0 w : World) (hI : IsS52 w0 w g s0_0 s0_1 s0_2) (hB : Below w0.heap.size w0 w) (h : spec_l1Cur_one.f s0_0 s0_1 s0_2 a1 = some (r1, r2, r3)) :
  Calls Try.prog 54 #[.pointer (some ⟨g, 0, none⟩), .int .i64 a1] w fun e w' => e = .returned (.bool r1) ∧ IsS52 w0 w' g s0_0 r2 r3 ∧ Below w0.heap.size w0 w' ∧ KeepBut w w' g none := by
 have HI0 := Ya hI
 have HK := Ya (KeepBut.refl w g none)
 have HL := Ya hB.size
 clear hI
 have HW0 := Ya hB.size
 have HB := Ya hB
 clear hB
 have H : ((spec_l1Cur_pick.f s0_0 s0_1 s0_2 a1).bind fun bt209 => (some ((bt209.1 == 0), bt209.2.1, bt209.2.2))) = some (r1, r2, r3) := h
 clear h
 replace H := Z37.mp H
 obtain ⟨⟨t209, t210, t211⟩, A30, H⟩ := H
 replace H : (some ((t209 == 0), t210, t211)) = some (r1, r2, r3) := H
 have A3 := Ya A30
 clear A30
 simp only [Option.some.injEq, Prod.mk.injEq] at H
 obtain ⟨rfl, rfl, rfl⟩ := H
 go_enter Try.func54, Try.ntmps54
 go_wp2_with (first | ((with_reducible refine gate_callee (f := 56) rfl ?_); refine Yz 7 Try.func56 #[.pointer (some ⟨g, 0, none⟩), .int .i64 a1] ?_; (with_reducible refine (spec_l1Cur_pick.calls g s0_0 s0_1 s0_2 a1 t209 t210 t211 w0 _ ?side1 ?side2 A3.out).mono ?_); (case side1 => repeat (first | (with_reducible first | exact HI0.out | apply IsS52.alloc | apply IsS52.drewN | apply IsS52.drew | apply IsS52.set_1 | apply IsS52.set_2) | exact HI0.out)); (case side2 => repeat (first | (with_reducible first | exact HB.out | apply Z5 | apply Z3 | apply Z4 | refine Z6 ?_ (IsS52.ge HI0.out)) | exact HB.out)); rintro e w4 ⟨rfl, hi, hb, hk⟩; refine ⟨_, rfl, ?_⟩; replace HK := Ya (KeepBut.trans Q3 hk (.inl rfl)); replace HB := Ya hb; replace HI0 := Ya hi; (try clear hb hk hi)))
 go_ret
 exact ⟨Q1, Q7, Q11, Q13⟩
def spec_l1Cur_among.f (s0_0 : List Int) (s0_1 : Int) (s0_2 : Int) (l1 : List Int) : Option (Int × Int × Int) := (spec_l1Cur_pick.f s0_0 s0_1 s0_2 (l1.length : Int)).bind fun bt212 => (if 0 ≤ bt212.1 then (if bt212.1 < (l1.length : Int) then (some (rd l1 bt212.1, bt212.2.1, bt212.2.2)) else (none)) else (none))
set_option maxHeartbeats 8000000 in
set_option maxRecDepth 100000 in
theorem spec_l1Cur_among.calls (g : Nat) (s0_0 : List Int) (s0_1 : Int) (s0_2 : Int) (A1 : Option Addr) (c1 : Nat) (l1 : List Int) (r1 : Int) (r2 : Int) (r3 : Int) (w0 w : World) (hI : IsS52 w0 w g s0_0 s0_1 s0_2) (hB : Below w0.heap.size w0 w) (hr1 : Kd.C (Kd.int .i64) w A1 l1.length l1) (hc1 : l1.length ≤ c1) (hf1 : ∀ ad, A1 = some ad → 0 < l1.length → ad.block ≠ g) (h : spec_l1Cur_among.f s0_0 s0_1 s0_2 l1 = some (r1, r2, r3)) :
  Calls Try.prog 28 #[.pointer (some ⟨g, 0, none⟩), .slice A1 l1.length c1] w fun e w' => e = .returned (.int .i64 r1) ∧ IsS52 w0 w' g s0_0 r2 r3 ∧ Below w0.heap.size w0 w' ∧ KeepBut w w' g none := by
 have HR1 := Ya hr1
 have HC1 := Ya hc1
 clear hr1 hc1
 have HI0 := Ya hI
 have HK := Ya (KeepBut.refl w g none)
 have HL := Ya hB.size
 clear hI
 have HW0 := Ya hB.size
 have HB := Ya hB
 clear hB
 have H : ((spec_l1Cur_pick.f s0_0 s0_1 s0_2 (l1.length : Int)).bind fun bt212 => (if 0 ≤ bt212.1 then (if bt212.1 < (l1.length : Int) then (some (rd l1 bt212.1, bt212.2.1, bt212.2.2)) else (none)) else (none))) = some (r1, r2, r3) := h
 clear h
 replace H := Z37.mp H
 obtain ⟨⟨t212, t213, t214⟩, A30, H⟩ := H
 replace H : (if 0 ≤ t212 then (if t212 < (l1.length : Int) then (some (rd l1 t212, t213, t214)) else (none)) else (none)) = some (r1, r2, r3) := H
 have A3 := Ya A30
 clear A30
 by_cases c4 : 0 ≤ t212
 ·rw [if_pos c4] at H
  have c4b0 := Z39 c4
  clear c4
  by_cases c5 : t212 < (l1.length : Int)
  ·rw [if_pos c5] at H
   have c5b0 := Z39 c5
   clear c5
   simp only [Option.some.injEq, Prod.mk.injEq] at H
   obtain ⟨rfl, rfl, rfl⟩ := H
   go_enter Try.func28, Try.ntmps28
   go_wp2_with (first | ((with_reducible refine gate_callee (f := 56) rfl ?_); refine Yz 9 Try.func56 #[.pointer (some ⟨g, 0, none⟩), .int .i64 (l1.length : Int)] ?_; (with_reducible refine (spec_l1Cur_pick.calls g s0_0 s0_1 s0_2 (l1.length : Int) t212 t213 t214 w0 _ ?side1 ?side2 A3.out).mono ?_); (case side1 => repeat (first | (with_reducible first | exact HI0.out | apply IsS52.alloc | apply IsS52.drewN | apply IsS52.drew | apply IsS52.set_1 | apply IsS52.set_2) | exact HI0.out)); (case side2 => repeat (first | (with_reducible first | exact HB.out | apply Z5 | apply Z3 | apply Z4 | refine Z6 ?_ (IsS52.ge HI0.out)) | exact HB.out)); rintro e w6 ⟨rfl, hi, hb, hk⟩; refine ⟨_, rfl, ?_⟩; replace HK := Ya (KeepBut.trans Q3 hk (.inl rfl)); replace HB := Ya hb; replace HI0 := Ya hi; (try clear hb hk hi); have p215 : 0 ≤ (t212 : Int) := Z31 Q2; have q215 : t212 < (l1.length : Int) := Z31 Q2; obtain ⟨ad215, e215, hx215_0⟩ := Kd.at_int HR1.out t212 p215 q215; cases e215; replace hx215_0 := keep_cell HK.out hx215_0 (by first | (rw [add_block]; exact hf1 _ rfl (by omega)) | exact hf1 _ rfl (by omega) | exact hf1 ad215 rfl (by omega)); replace p215 := eq_true p215; replace q215 := eq_true q215))
   go_ret
   exact ⟨Q1, Q7, Q11, Q13⟩
  ·rw [if_neg c5] at H
   exact absurd H (by simp)
 ·rw [if_neg c4] at H
  exact absurd H (by simp)
end Go.Proofs.Ytapbbmicfkbafaa.MFnFocusSteps
