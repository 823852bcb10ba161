import Derived.Test.YtaogaigpnmpdcaaMFnExactIsFocusx0
import Derived.Test.YtaogaigpnmpdcaaMFnExactIsFocusx2
namespace Go.Proofs.Ytaogaigpnmpdcaa.MFnExactIsFocus
open Go.RowKit Go.Proofs.YtaogaigpnmpdcaaW.PrintWords Go.Proofs.YtaogaigpnmpdcaaW.PrintLast Go.Proofs.YtaogaigpnmpdcaaW.PrintMore
attribute [local go_sem] max2_int min2_int max_two min_two max_three min_three max_four min_four   
set_option linter.unusedVariables false
set_option linter.unusedSimpArgs false
def spec_foOwn.f (l0_0 : List Int) (l0_1 : List Int) (l0_2 : List Bool) (l0_3 : List Int) : Option (List Int × List Int × List Bool × List Int) := (spec_l1Own.f l0_0).bind fun t148 => ((spec_l1Own.f l0_1).bind fun t151 => ((some (([] : List Bool) : List Bool)).bind fun y154 => (if y154.length + l0_2.length < 140737488355328 then ((spec_l1Own.f l0_3).bind fun t160 => (some (t148, t151, (y154 ++ l0_2), t160))) else (none))))
def spec_foOwn.T1 : Bool × List (List Nat × List Nat) := (true, [([], []), ([0], [0]), ([1], [1]), ([], []), ([3], [3]), ([4, 2], [4]), ([], []), ([], []), ([7], [7]), ([6, 8, 5], [6, 8]), ([], []), ([10], [10]), ([11, 9], [11]), ([2, 5, 9, 12], [2, 5, 9, 12]), ([13, 12, 0, 1, 2, 3, 4, 5, 6, 7, 8, 9, 10, 11, 12, 13], [13])])
def spec_foOwn.B1 : List Nat := [0, 1, 3, 0, 8, 31, 0, 0, 128, 511, 0, 1024, 4095, 8191, 16383]
theorem spec_foOwn.tab1 : rtab .any (opsOf Try.f110 1) = spec_foOwn.T1 := by kernel_rfl
theorem spec_foOwn.bits1 : waitsOk spec_foOwn.T1.2 spec_foOwn.B1 = true := by kernel_rfl
set_option maxHeartbeats 8000000 in
set_option maxRecDepth 100000 in
theorem spec_foOwn.calls (A0_0 : Option Addr) (c0_0 : Nat) (l0_0 : List Int) (A0_1 : Option Addr) (c0_1 : Nat) (l0_1 : List Int) (A0_2 : Option Addr) (c0_2 : Nat) (l0_2 : List Bool) (A0_3 : Option Addr) (c0_3 : Nat) (l0_3 : List Int) (r1 : List Int) (r2 : List Int) (r3 : List Bool) (r4 : List Int) (w : World) (hr0_0 : Kd.C (Kd.int .i64) w A0_0 l0_0.length l0_0) (hc0_0 : l0_0.length ≤ c0_0) (hr0_1 : Kd.C (Kd.int .i64) w A0_1 l0_1.length l0_1) (hc0_1 : l0_1.length ≤ c0_1) (hr0_2 : Kd.C Kd.bool w A0_2 l0_2.length l0_2) (hc0_2 : l0_2.length ≤ c0_2) (hr0_3 : Kd.C (Kd.int .i64) w A0_3 l0_3.length l0_3) (hc0_3 : l0_3.length ≤ c0_3) (h : spec_foOwn.f l0_0 l0_1 l0_2 l0_3 = some (r1, r2, r3, r4)) :
  Calls Try.prog 110 #[.agg #[.slice A0_0 l0_0.length c0_0, .slice A0_1 l0_1.length c0_1, .slice A0_2 l0_2.length c0_2, .slice A0_3 l0_3.length c0_3]] w fun e w' => ∃ v0_ v1_ v2_ v3_ : Value, e = .returned (.agg #[v0_, v1_, v2_, v3_]) ∧ Kd.R (Kd.int .i64) 3 w' w.heap.size (fun k_ => some k_ ≠ (v1_ : Value).ownBlock ∧ some k_ ≠ (v3_ : Value).ownBlock) v0_ r1 ∧ Kd.R (Kd.int .i64) 3 w' w.heap.size (fun k_ => some k_ ≠ (v0_ : Value).ownBlock ∧ some k_ ≠ (v3_ : Value).ownBlock) v1_ r2 ∧ Kd.R Kd.bool 4 w' w.heap.size (fun _ => True) v2_ r3 ∧ Kd.R (Kd.int .i64) 3 w' w.heap.size (fun k_ => some k_ ≠ (v0_ : Value).ownBlock ∧ some k_ ≠ (v1_ : Value).ownBlock) v3_ r4 ∧ Below w.heap.size w w' := by
 have hu31 := Try.underlying31
 have HR0_0 := Aside0.mk hr0_0
 have HC0_0 := Aside0.mk hc0_0
 clear hr0_0 hc0_0
 have HR0_1 := Aside0.mk hr0_1
 have HC0_1 := Aside0.mk hc0_1
 clear hr0_1 hc0_1
 have HR0_2 := Aside0.mk hr0_2
 have HC0_2 := Aside0.mk hc0_2
 clear hr0_2 hc0_2
 have HR0_3 := Aside0.mk hr0_3
 have HC0_3 := Aside0.mk hc0_3
 clear hr0_3 hc0_3
 have HB := Aside0.mk (Below.refl w.heap.size w)
 have H : ((spec_l1Own.f l0_0).bind fun t148 => ((spec_l1Own.f l0_1).bind fun t151 => ((some (([] : List Bool) : List Bool)).bind fun y154 => (if y154.length + l0_2.length < 140737488355328 then ((spec_l1Own.f l0_3).bind fun t160 => (some (t148, t151, (y154 ++ l0_2), t160))) else (none))))) = some (r1, r2, r3, r4) := h
 clear h
 replace H := Z37.mp H
 obtain ⟨t148, A20, H⟩ := H
 replace H : ((spec_l1Own.f l0_1).bind fun t151 => ((some (([] : List Bool) : List Bool)).bind fun y154 => (if y154.length + l0_2.length < 140737488355328 then ((spec_l1Own.f l0_3).bind fun t160 => (some (t148, t151, (y154 ++ l0_2), t160))) else (none)))) = some (r1, r2, r3, r4) := H
 have A2 := Aside0.mk A20
 clear A20
 replace H := Z37.mp H
 obtain ⟨t151, A30, H⟩ := H
 replace H : ((some (([] : List Bool) : List Bool)).bind fun y154 => (if y154.length + l0_2.length < 140737488355328 then ((spec_l1Own.f l0_3).bind fun t160 => (some (t148, t151, (y154 ++ l0_2), t160))) else (none))) = some (r1, r2, r3, r4) := H
 have A3 := Aside0.mk A30
 clear A30
 obtain ⟨y154, hy154⟩ : ∃ y_ : List Bool, y_ = (([] : List Bool)) := ⟨_, rfl⟩
 replace H : (if y154.length + l0_2.length < 140737488355328 then ((spec_l1Own.f l0_3).bind fun t160 => (some (t148, t151, (y154 ++ l0_2), t160))) else (none)) = some (r1, r2, r3, r4) := by first | (rw [hy154]; with_reducible exact H) | (have H2_ := (Option.bind_some _ _).symm.trans H; rw [hy154]; with_reducible exact H2_) | (have H2_ := (Option.bind_some _ _).symm.trans H; with_reducible exact H2_) | with_reducible exact H | (rw [hy154]; exact H) | exact H
 have Ny154 := Aside0.mk hy154
 clear hy154
 by_cases c4 : y154.length + l0_2.length < 140737488355328
 ·rw [if_pos c4] at H
  have LMc4 := Aside0.mk c4
  clear c4
  obtain ⟨y157, hy157⟩ : ∃ y_ : List Bool, y_ = (y154 ++ l0_2) := ⟨_, rfl⟩
  replace H : ((spec_l1Own.f l0_3).bind fun t160 => (some (t148, t151, y157, t160))) = some (r1, r2, r3, r4) := by first | (rw [hy157]; with_reducible exact H) | (have H2_ := (Option.bind_some _ _).symm.trans H; rw [hy157]; with_reducible exact H2_) | (have H2_ := (Option.bind_some _ _).symm.trans H; with_reducible exact H2_) | with_reducible exact H | (rw [hy157]; exact H) | exact H
  have Ny157 := Aside0.mk hy157
  clear hy157
  replace H := Z37.mp H
  obtain ⟨t160, A50, H⟩ := H
  replace H : (some (t148, t151, y157, t160)) = some (r1, r2, r3, r4) := H
  have A5 := Aside0.mk A50
  clear A50
  simp only [Option.some.injEq, Prod.mk.injEq] at H
  obtain ⟨rfl, rfl, rfl, rfl⟩ := H
  go_enter Try.func110, Try.ntmps110
  try go_wp2_with (first | ((with_reducible refine gate_dst (N := 1) rfl ?_); refine box_event ?hg (N := 1) ?hd (cs := #[.slice A0_0 l0_0.length c0_0, .slice A0_1 l0_1.length c0_1, .slice A0_2 l0_2.length c0_2, .slice A0_3 l0_3.length c0_3]) (t := 31) ?hr ?_; (case hd => rfl); (case hg => rfl); (case hr => first | (go_simp; done) | (go_simp; rfl)); intro gb146 hg w6 hbox hb; have n0_ := Aside0.mk (Z8 (by repeat (first | (with_reducible first | exact HB.out | apply Z5 | apply Z3 | apply Z4) | exact HB.out)) hb); have n1_ := Aside0.mk (hbox); have n2_ := Aside0.mk ((by rw [hg]; exact (Z7 (by repeat (first | (with_reducible first | exact HB.out | apply Z5 | apply Z3 | apply Z4) | exact HB.out))) : w.heap.size ≤ gb146)); have n3_ := Aside0.mk ((by rw [hg]; exact (Z7 (by repeat (first | (with_reducible first | exact HB.out | apply Z5 | apply Z3 | apply Z4) | exact HB.out))) : w.heap.size ≤ gb146)); clear HB; have HB := n0_; have BK146 := n1_; have GW146 := n2_; have GE146 := n3_; clear n0_ n1_ n2_ n3_; clear hb hbox hg) | ((with_reducible refine gate_dst (N := 2) rfl ?_); refine box_event ?hg (N := 2) ?hd (cs := #[.slice none 0 0, .slice none 0 0, .slice none 0 0, .slice none 0 0]) (t := 31) ?hr ?_; (case hd => rfl); (case hg => rfl); (case hr => first | (go_simp; done) | (go_simp; rfl)); intro gb147 hg w7 hbox hb; have n0_ := Aside0.mk (Z29 (g := gb146) (o := .cells #[.slice A0_0 l0_0.length c0_0, .slice A0_1 l0_1.length c0_1, .slice A0_2 l0_2.length c0_2, .slice A0_3 l0_3.length c0_3] 31 (0, 0)) (by (with_reducible repeat (first | refine Z26 ?_ _ | refine Z27 ?_ | refine Z28 ?_ _)); exact BK146.out) hb); have n1_ := Aside0.mk (Z8 (by repeat (first | (with_reducible first | exact HB.out | apply Z5 | apply Z3 | apply Z4 | refine Z6 ?_ GE146.out) | exact HB.out)) hb); have n2_ := Aside0.mk (hbox); have n3_ := Aside0.mk ((by rw [hg]; exact (Z7 (by repeat (first | (with_reducible first | exact HB.out | apply Z5 | apply Z3 | apply Z4 | refine Z6 ?_ GE146.out) | exact HB.out))) : w.heap.size ≤ gb147)); have n4_ := Aside0.mk ((by rw [hg]; exact (Z7 (by repeat (first | (with_reducible first | exact HB.out | apply Z5 | apply Z3 | apply Z4 | refine Z6 ?_ GE146.out) | exact HB.out))) : w.heap.size ≤ gb147)); have n5_ := Aside0.mk ((by rw [hg]; exact Nat.ne_of_lt (blk_lt (g := gb146) (o := .cells #[.slice A0_0 l0_0.length c0_0, .slice A0_1 l0_1.length c0_1, .slice A0_2 l0_2.length c0_2, .slice A0_3 l0_3.length c0_3] 31 (0, 0)) (by (with_reducible repeat (first | refine Z26 ?_ _ | refine Z27 ?_ | refine Z28 ?_ _)); exact BK146.out)) : gb146 ≠ gb147)); have n6_ := Aside0.mk ((by rw [hg]; exact Nat.ne_of_gt (blk_lt (g := gb146) (o := .cells #[.slice A0_0 l0_0.length c0_0, .slice A0_1 l0_1.length c0_1, .slice A0_2 l0_2.length c0_2, .slice A0_3 l0_3.length c0_3] 31 (0, 0)) (by (with_reducible repeat (first | refine Z26 ?_ _ | refine Z27 ?_ | refine Z28 ?_ _)); exact BK146.out)) : gb147 ≠ gb146)); clear BK146; clear HB; have BK146 := n0_; have HB := n1_; have BK147 := n2_; have GW147 := n3_; have GE147 := n4_; have NB146_147 := n5_; have NB147_146 := n6_; clear n0_ n1_ n2_ n3_ n4_ n5_ n6_; clear hb hbox hg))
  have n0_ := Aside0.mk (Z27 BK146.out)
  have n1_ := Aside0.mk (Z27 BK147.out)
  have n2_ := Aside0.mk (Z4 HB.out)
  clear BK146
  clear BK147
  clear HB
  have BK146 := n0_
  have BK147 := n1_
  have HB := n2_
  clear n0_ n1_ n2_
  refine start_ (n := 15) (S := fun w' => w'.cell? ⟨gb146, 0, none⟩ = some (.slice A0_0 l0_0.length c0_0) ∧ w'.cell? ⟨gb146, 1, none⟩ = some (.slice A0_1 l0_1.length c0_1) ∧ w'.cell? ⟨gb146, 2, none⟩ = some (.slice A0_2 l0_2.length c0_2) ∧ w'.cell? ⟨gb146, 3, none⟩ = some (.slice A0_3 l0_3.length c0_3)) (ds := []) #[false, false, false, false, false, false, false, false, false, false, false, false, false, false, false] (by kernel_rfl) rfl rfl ⟨(Z24 BK146.out 0).trans rfl, (Z24 BK146.out 1).trans rfl, (Z24 BK146.out 2).trans rfl, (Z24 BK146.out 3).trans rfl⟩ (fun hHeld => ?_); refine with_tabW spec_foOwn.tab1 spec_foOwn.bits1 (fun HT_ HW_ => ?_)
  generalize w7.drew = w8 at BK146 BK147 HB hHeld ⊢
  refine pure_ (i := 0) (N := some 3) (v := ?_) (a' := ?_) #[true, false, false, false, false, false, false, false, false, false, false, false, false, false, false] rfl rfl (any_of HT_.out (by kernel_rfl)) (fun _ _ _ h => h) (Or.inl ⟨by rfl, ?_⟩) ?_ ?_
  rotate_left
  ·intro w'
   go_simp
   with_reducible rfl
  rotate_left
  ·simp only [Act.put, Z0, Z1, Z2, i64_w, i32_w]
   rfl
  refine pure_ (i := 3) (N := some 6) (v := ?_) (a' := ?_) #[true, false, false, true, false, false, false, false, false, false, false, false, false, false, false] rfl rfl (any_of HT_.out (by kernel_rfl)) (fun _ _ _ h => h) (Or.inl ⟨by rfl, ?_⟩) ?_ ?_
  rotate_left
  ·intro w'
   go_simp
   with_reducible rfl
  rotate_left
  ·simp only [Act.put, Z0, Z1, Z2, i64_w, i32_w]
   rfl
  refine pure_ (i := 7) (N := some 10) (v := ?_) (a' := ?_) #[true, false, false, true, false, false, false, true, false, false, false, false, false, false, false] rfl rfl (any_of HT_.out (by kernel_rfl)) (fun _ _ _ h => h) (Or.inl ⟨by rfl, ?_⟩) ?_ ?_
  rotate_left
  ·intro w'
   go_simp
   with_reducible rfl
  rotate_left
  ·simp only [Act.put, Z0, Z1, Z2, i64_w, i32_w]
   rfl
  refine pure_ (i := 10) (N := some 13) (v := ?_) (a' := ?_) #[true, false, false, true, false, false, false, true, false, false, true, false, false, false, false] rfl rfl (any_of HT_.out (by kernel_rfl)) (fun _ _ _ h => h) (Or.inl ⟨by rfl, ?_⟩) ?_ ?_
  rotate_left
  ·intro w'
   go_simp
   with_reducible rfl
  rotate_left
  ·simp only [Act.put, Z0, Z1, Z2, i64_w, i32_w]
   rfl
  refine take_ (i := 1) (N := some 4) (v := ?_) (a' := ?_) #[true, true, false, true, false, false, false, true, false, false, true, false, false, false, false] rfl rfl (take_ofW HT_.out HW_.out (by kernel_rfl)) (fun _ _ _ h => h) (Or.inl ⟨by rfl, ?_⟩) hHeld ?_ ?_
  rotate_left
  ·rintro w' ⟨s0, s1, s2, s3⟩
   go_simp
   with_reducible rfl
  rotate_left
  ·simp only [Act.put, Z0, Z1, Z2, i64_w, i32_w]
   rfl
  refine take_ (i := 4) (N := some 7) (v := ?_) (a' := ?_) #[true, true, false, true, true, false, false, true, false, false, true, false, false, false, false] rfl rfl (take_ofW HT_.out HW_.out (by kernel_rfl)) (fun _ _ _ h => h) (Or.inl ⟨by rfl, ?_⟩) hHeld ?_ ?_
  rotate_left
  ·rintro w' ⟨s0, s1, s2, s3⟩
   go_simp
   with_reducible rfl
  rotate_left
  ·simp only [Act.put, Z0, Z1, Z2, i64_w, i32_w]
   rfl
  refine take_ (i := 8) (N := some 11) (v := ?_) (a' := ?_) #[true, true, false, true, true, false, false, true, true, false, true, false, false, false, false] rfl rfl (take_ofW HT_.out HW_.out (by kernel_rfl)) (fun _ _ _ h => h) (Or.inl ⟨by rfl, ?_⟩) hHeld ?_ ?_
  rotate_left
  ·rintro w' ⟨s0, s1, s2, s3⟩
   go_simp
   with_reducible rfl
  rotate_left
  ·simp only [Act.put, Z0, Z1, Z2, i64_w, i32_w]
   rfl
  refine take_ (i := 11) (N := some 14) (v := ?_) (a' := ?_) #[true, true, false, true, true, false, false, true, true, false, true, true, false, false, false] rfl rfl (take_ofW HT_.out HW_.out (by kernel_rfl)) (fun _ _ _ h => h) (Or.inl ⟨by rfl, ?_⟩) hHeld ?_ ?_
  rotate_left
  ·rintro w' ⟨s0, s1, s2, s3⟩
   go_simp
   with_reducible rfl
  rotate_left
  ·simp only [Act.put, Z0, Z1, Z2, i64_w, i32_w]
   rfl
  refine join_ (σ := Value × Value × Value) 4 #[true, true, true, true, true, true, true, true, true, false, true, true, false, false, false] (fun s_ => [(5, s_.1), (8, s_.2.1), (9, s_.2.2)]) (fun s_ w' => (w'.cell? ⟨gb146, 0, none⟩ = some (.slice A0_0 l0_0.length c0_0) ∧ w'.cell? ⟨gb146, 1, none⟩ = some (.slice A0_1 l0_1.length c0_1) ∧ w'.cell? ⟨gb146, 2, none⟩ = some (.slice A0_2 l0_2.length c0_2) ∧ w'.cell? ⟨gb146, 3, none⟩ = some (.slice A0_3 l0_3.length c0_3)) ∧ (Kd.R (Kd.int .i64) 3 w' w.heap.size (fun k_ => some k_ ≠ (s_.2.1 : Value).ownBlock) s_.1 t148) ∧ (Kd.R (Kd.int .i64) 3 w' w.heap.size (fun k_ => some k_ ≠ (s_.1 : Value).ownBlock) s_.2.1 t151) ∧ (Kd.R Kd.bool 4 w' w.heap.size (fun _ => True) s_.2.2 y154) ∧ (w'.heap[gb146]? = some (.cells #[.slice A0_0 l0_0.length c0_0, .slice A0_1 l0_1.length c0_1, .slice A0_2 l0_2.length c0_2, .slice A0_3 l0_3.length c0_3] 31 (0, 0))) ∧ (w'.heap[gb147]? = some (.cells #[.slice none 0 0, .slice none 0 0, .slice none 0 0, .slice none 0 0] 31 (0, 0))) ∧ (Below w.heap.size w w')) ?_ ?_
  rotate_left
  ·intro hCont
   refine two_ (i := 2) (j := 6) (Ni := some 5) (Nj := some 9) #[true, true, true, true, true, false, false, true, true, false, true, true, false, false, false] #[true, true, false, true, true, false, true, true, true, false, true, true, false, false, false] rfl rfl rfl rfl (two_of HT_.out (by kernel_rfl)) (by decide) (by decide) (fun K hK => ?_) (fun K hK => ?_)
   ·skip
    refine goes_ Try.func102 (by kernel_rfl) rfl #[.slice A0_0 l0_0.length c0_0] (by rfl) rfl rfl (by (try simp only [Z34, Z35, Z36]); first | done | rfl | (simp only [Z32, Z33]; rfl)) ?_
    with_reducible refine (spec_l1Own.calls _ _ l0_0 t148 _ ?side1 ?side2 A2.out).mono ?_
    (case side1 => repeat (first | exact (Z23 HR0_0.out HB.out) | (with_reducible refine Z20 ?_ _) | (with_reducible refine Z21 ?_ _) | (with_reducible refine Z22 ?_)))
    (case side2 => exact HC0_0.out)
    rintro e w9 ⟨v149, rfl, ho0, hb⟩
    refine ⟨_, rfl, ?_⟩
    have n0_ := Aside0.mk (Kd.R_lower ho0 (Z7 (by repeat (first | (with_reducible first | exact HB.out | apply Z5 | apply Z3 | apply Z4 | refine Z6 ?_ GE146.out | refine Z6 ?_ GE147.out) | exact HB.out))))
    have n1_ := Aside0.mk (Z29 (g := gb146) (o := .cells #[.slice A0_0 l0_0.length c0_0, .slice A0_1 l0_1.length c0_1, .slice A0_2 l0_2.length c0_2, .slice A0_3 l0_3.length c0_3] 31 (0, 0)) (by (with_reducible repeat (first | refine Z26 ?_ _ | refine Z27 ?_ | refine Z28 ?_ _)); exact BK146.out) hb)
    have n2_ := Aside0.mk (Z29 (g := gb147) (o := .cells #[.slice none 0 0, .slice none 0 0, .slice none 0 0, .slice none 0 0] 31 (0, 0)) (by (with_reducible repeat (first | refine Z26 ?_ _ | refine Z27 ?_ | refine Z28 ?_ _)); exact BK147.out) hb)
    have n3_ := Aside0.mk (Z8 (by repeat (first | (with_reducible first | exact HB.out | apply Z5 | apply Z3 | apply Z4 | refine Z6 ?_ GE146.out | refine Z6 ?_ GE147.out) | exact HB.out)) hb)
    clear BK146
    clear BK147
    clear HB
    have HO150 := n0_
    have BK146 := n1_
    have BK147 := n2_
    have HB := n3_
    clear n0_ n1_ n2_ n3_
    (try clear hb)
    (try clear hb2)
    (try clear hk)
    (try clear hi)
    (try clear ho0)
    refine hK.out _ _ ⟨(Z24 BK146.out 0).trans rfl, (Z24 BK146.out 1).trans rfl, (Z24 BK146.out 2).trans rfl, (Z24 BK146.out 3).trans rfl⟩ (fun hHeld => ?_)
    clear hK K
    refine norm_ (a' := ?_) ?_ ?_
    rotate_left
    ·show Act.put _ (some 5) _ = _
     simp only [Act.put, Z0, Z1, Z2, i64_w, i32_w]
     rfl
    refine two_ (i := 5) (j := 6) (Ni := some 8) (Nj := some 9) #[true, true, true, true, true, true, false, true, true, false, true, true, false, false, false] #[true, true, true, true, true, false, true, true, true, false, true, true, false, false, false] rfl rfl rfl rfl (two_of HT_.out (by kernel_rfl)) (by decide) (by decide) (fun K hK => ?_) (fun K hK => ?_)
    ·skip
     refine goes_ Try.func102 (by kernel_rfl) rfl #[.slice A0_1 l0_1.length c0_1] (by rfl) rfl rfl (by (try simp only [Z34, Z35, Z36]); first | done | rfl | (simp only [Z32, Z33]; rfl)) ?_
     with_reducible refine (spec_l1Own.calls _ _ l0_1 t151 _ ?side1 ?side2 A3.out).mono ?_
     (case side1 => repeat (first | exact (Z23 HR0_1.out HB.out) | (with_reducible refine Z20 ?_ _) | (with_reducible refine Z21 ?_ _) | (with_reducible refine Z22 ?_)))
     (case side2 => exact HC0_1.out)
     rintro e w10 ⟨v152, rfl, ho0, hb⟩
     refine ⟨_, rfl, ?_⟩
     have n0_ := Aside0.mk (Kd.R_elder' (by (with_reducible repeat (first | apply Z9 | apply Z10 | apply Z11)); exact HO150.out) (Kd.R_base ho0) hb)
     have n1_ := Aside0.mk (Kd.R_lower (Kd.R_new' ho0 (Z18 (by (with_reducible repeat (first | apply Z9 | apply Z10 | apply Z11)); exact HO150.out))) (Z7 (by repeat (first | (with_reducible first | exact HB.out | apply Z5 | apply Z3 | apply Z4 | refine Z6 ?_ GE146.out | refine Z6 ?_ GE147.out) | exact HB.out))))
     have n2_ := Aside0.mk (Z29 (g := gb146) (o := .cells #[.slice A0_0 l0_0.length c0_0, .slice A0_1 l0_1.length c0_1, .slice A0_2 l0_2.length c0_2, .slice A0_3 l0_3.length c0_3] 31 (0, 0)) (by (with_reducible repeat (first | refine Z26 ?_ _ | refine Z27 ?_ | refine Z28 ?_ _)); exact BK146.out) hb)
     have n3_ := Aside0.mk (Z29 (g := gb147) (o := .cells #[.slice none 0 0, .slice none 0 0, .slice none 0 0, .slice none 0 0] 31 (0, 0)) (by (with_reducible repeat (first | refine Z26 ?_ _ | refine Z27 ?_ | refine Z28 ?_ _)); exact BK147.out) hb)
     have n4_ := Aside0.mk (Z8 (by repeat (first | (with_reducible first | exact HB.out | apply Z5 | apply Z3 | apply Z4 | refine Z6 ?_ GE146.out | refine Z6 ?_ GE147.out) | exact HB.out)) hb)
     clear HO150
     clear BK146
     clear BK147
     clear HB
     have HO150 := n0_
     have HO153 := n1_
     have BK146 := n2_
     have BK147 := n3_
     have HB := n4_
     clear n0_ n1_ n2_ n3_ n4_
     (try clear hb)
     (try clear hb2)
     (try clear hk)
     (try clear hi)
     (try clear ho0)
     refine hK.out _ _ ⟨(Z24 BK146.out 0).trans rfl, (Z24 BK146.out 1).trans rfl, (Z24 BK146.out 2).trans rfl, (Z24 BK146.out 3).trans rfl⟩ (fun hHeld => ?_)
     clear hK K
     refine norm_ (a' := ?_) ?_ ?_
     rotate_left
     ·show Act.put _ (some 8) _ = _
      simp only [Act.put, Z0, Z1, Z2, i64_w, i32_w]
      rfl
     refine one_ (i := 6) (N := some 9) #[true, true, true, true, true, true, true, true, true, false, true, true, false, false, false] rfl rfl (one_of HT_.out (by kernel_rfl)) (by decide) (fun K hK => ?_)
     refine Kd.R_lit_step Kd.bool _ 4 ?hg (N := 9) ?hd (xs := ([] : List Bool)) (inner := []) (ok := fun _ => True) (okp := fun _ => True) ?hr ?hp (fun _ hk => hk) trivial (Below.refl _ _) (Nat.le_refl _) (by simp) ?_; (case hd => rfl); (case hg => rfl); (case hr => first | (go_simp; done) | (go_simp; rfl)); (case hp => exact (Reps.none _ _))
     intro v155 w11 ho12 hb hg_ hnew_
     clear hg_ hnew_
     (first | rw [← Ny154.out] at ho12 | (simp only [Int.reduceToNat] at ho12; rw [← Ny154.out] at ho12))
     have n0_ := Aside0.mk (Z14 (by (with_reducible repeat (first | apply Z9 | apply Z10 | apply Z11)); exact HO150.out) hb)
     have n1_ := Aside0.mk (Z14 (by (with_reducible repeat (first | apply Z9 | apply Z10 | apply Z11)); exact HO153.out) hb)
     have n2_ := Aside0.mk (Kd.R_lower ho12 (Z7 (by repeat (first | (with_reducible first | exact HB.out | apply Z5 | apply Z3 | apply Z4 | refine Z6 ?_ GE146.out | refine Z6 ?_ GE147.out) | exact HB.out))))
     have n3_ := Aside0.mk (Z29 (g := gb146) (o := .cells #[.slice A0_0 l0_0.length c0_0, .slice A0_1 l0_1.length c0_1, .slice A0_2 l0_2.length c0_2, .slice A0_3 l0_3.length c0_3] 31 (0, 0)) (by (with_reducible repeat (first | refine Z26 ?_ _ | refine Z27 ?_ | refine Z28 ?_ _)); exact BK146.out) hb)
     have n4_ := Aside0.mk (Z29 (g := gb147) (o := .cells #[.slice none 0 0, .slice none 0 0, .slice none 0 0, .slice none 0 0] 31 (0, 0)) (by (with_reducible repeat (first | refine Z26 ?_ _ | refine Z27 ?_ | refine Z28 ?_ _)); exact BK147.out) hb)
     have n5_ := Aside0.mk (Z8 (by repeat (first | (with_reducible first | exact HB.out | apply Z5 | apply Z3 | apply Z4 | refine Z6 ?_ GE146.out | refine Z6 ?_ GE147.out) | exact HB.out)) hb)
     clear HO150
     clear HO153
     clear BK146
     clear BK147
     clear HB
     have HO150 := n0_
     have HO153 := n1_
     have HO156 := n2_
     have BK146 := n3_
     have BK147 := n4_
     have HB := n5_
     clear n0_ n1_ n2_ n3_ n4_ n5_
     clear hb ho12
     refine hK.out _ _ ⟨(Z24 BK146.out 0).trans rfl, (Z24 BK146.out 1).trans rfl, (Z24 BK146.out 2).trans rfl, (Z24 BK146.out 3).trans rfl⟩ (fun hHeld => ?_)
     clear hK K
     refine norm_ (a' := ?_) ?_ ?_
     rotate_left
     ·show Act.put _ (some 9) _ = _
      simp only [Act.put, Z0, Z1, Z2, i64_w, i32_w]
      rfl
     exact norm_ (by simp only [putAll, Act.put, Z0, Z1, Z2]) (hCont (v149, v152, v155) _ ⟨hHeld, (by (with_reducible repeat (first | apply Z9 | apply Z10 | apply Z11)); exact Z12 HO150.out (fun _ hk => hk.2)), (by (with_reducible repeat (first | apply Z9 | apply Z10 | apply Z11)); exact Z12 HO153.out (fun _ hk => hk.2)), (by (with_reducible repeat (first | apply Z9 | apply Z10 | apply Z11)); exact HO156.out), (by (with_reducible repeat (first | refine Z26 ?_ _ | refine Z27 ?_ | refine Z28 ?_ _)); exact BK146.out), (by (with_reducible repeat (first | refine Z26 ?_ _ | refine Z27 ?_ | refine Z28 ?_ _)); exact BK147.out), (by repeat (first | (with_reducible first | exact HB.out | apply Z5 | apply Z3 | apply Z4 | refine Z6 ?_ GE146.out | refine Z6 ?_ GE147.out) | exact HB.out))⟩)
    ·skip
     refine Kd.R_lit_step Kd.bool _ 4 ?hg (N := 9) ?hd (xs := ([] : List Bool)) (inner := []) (ok := fun _ => True) (okp := fun _ => True) ?hr ?hp (fun _ hk => hk) trivial (Below.refl _ _) (Nat.le_refl _) (by simp) ?_; (case hd => rfl); (case hg => rfl); (case hr => first | (go_simp; done) | (go_simp; rfl)); (case hp => exact (Reps.none _ _))
     intro v155 w10 ho11 hb hg_ hnew_
     clear hg_ hnew_
     (first | rw [← Ny154.out] at ho11 | (simp only [Int.reduceToNat] at ho11; rw [← Ny154.out] at ho11))
     have n0_ := Aside0.mk (Z14 (by (with_reducible repeat (first | apply Z9 | apply Z10 | apply Z11)); exact HO150.out) hb)
     have n1_ := Aside0.mk (Kd.R_lower ho11 (Z7 (by repeat (first | (with_reducible first | exact HB.out | apply Z5 | apply Z3 | apply Z4 | refine Z6 ?_ GE146.out | refine Z6 ?_ GE147.out) | exact HB.out))))
     have n2_ := Aside0.mk (Z29 (g := gb146) (o := .cells #[.slice A0_0 l0_0.length c0_0, .slice A0_1 l0_1.length c0_1, .slice A0_2 l0_2.length c0_2, .slice A0_3 l0_3.length c0_3] 31 (0, 0)) (by (with_reducible repeat (first | refine Z26 ?_ _ | refine Z27 ?_ | refine Z28 ?_ _)); exact BK146.out) hb)
     have n3_ := Aside0.mk (Z29 (g := gb147) (o := .cells #[.slice none 0 0, .slice none 0 0, .slice none 0 0, .slice none 0 0] 31 (0, 0)) (by (with_reducible repeat (first | refine Z26 ?_ _ | refine Z27 ?_ | refine Z28 ?_ _)); exact BK147.out) hb)
     have n4_ := Aside0.mk (Z8 (by repeat (first | (with_reducible first | exact HB.out | apply Z5 | apply Z3 | apply Z4 | refine Z6 ?_ GE146.out | refine Z6 ?_ GE147.out) | exact HB.out)) hb)
     clear HO150
     clear BK146
     clear BK147
     clear HB
     have HO150 := n0_
     have HO156 := n1_
     have BK146 := n2_
     have BK147 := n3_
     have HB := n4_
     clear n0_ n1_ n2_ n3_ n4_
     clear hb ho11
     refine hK.out _ _ ⟨(Z24 BK146.out 0).trans rfl, (Z24 BK146.out 1).trans rfl, (Z24 BK146.out 2).trans rfl, (Z24 BK146.out 3).trans rfl⟩ (fun hHeld => ?_)
     clear hK K
     refine norm_ (a' := ?_) ?_ ?_
     rotate_left
     ·show Act.put _ (some 9) _ = _
      simp only [Act.put, Z0, Z1, Z2, i64_w, i32_w]
      rfl
     refine one_ (i := 5) (N := some 8) #[true, true, true, true, true, true, true, true, true, false, true, true, false, false, false] rfl rfl (one_of HT_.out (by kernel_rfl)) (by decide) (fun K hK => ?_)
     refine goes_ Try.func102 (by kernel_rfl) rfl #[.slice A0_1 l0_1.length c0_1] (by rfl) rfl rfl (by (try simp only [Z34, Z35, Z36]); first | done | rfl | (simp only [Z32, Z33]; rfl)) ?_
     with_reducible refine (spec_l1Own.calls _ _ l0_1 t151 _ ?side1 ?side2 A3.out).mono ?_
     (case side1 => repeat (first | exact (Z23 HR0_1.out HB.out) | (with_reducible refine Z20 ?_ _) | (with_reducible refine Z21 ?_ _) | (with_reducible refine Z22 ?_)))
     (case side2 => exact HC0_1.out)
     rintro e w12 ⟨v152, rfl, ho0, hb⟩
     refine ⟨_, rfl, ?_⟩
     have n0_ := Aside0.mk (Kd.R_elder' (by (with_reducible repeat (first | apply Z9 | apply Z10 | apply Z11)); exact HO150.out) (Kd.R_base ho0) hb)
     have n1_ := Aside0.mk (Z14 (by (with_reducible repeat (first | apply Z9 | apply Z10 | apply Z11)); exact HO156.out) hb)
     have n2_ := Aside0.mk (Kd.R_lower (Kd.R_new' ho0 (Z18 (by (with_reducible repeat (first | apply Z9 | apply Z10 | apply Z11)); exact HO150.out))) (Z7 (by repeat (first | (with_reducible first | exact HB.out | apply Z5 | apply Z3 | apply Z4 | refine Z6 ?_ GE146.out | refine Z6 ?_ GE147.out) | exact HB.out))))
     have n3_ := Aside0.mk (Z29 (g := gb146) (o := .cells #[.slice A0_0 l0_0.length c0_0, .slice A0_1 l0_1.length c0_1, .slice A0_2 l0_2.length c0_2, .slice A0_3 l0_3.length c0_3] 31 (0, 0)) (by (with_reducible repeat (first | refine Z26 ?_ _ | refine Z27 ?_ | refine Z28 ?_ _)); exact BK146.out) hb)
     have n4_ := Aside0.mk (Z29 (g := gb147) (o := .cells #[.slice none 0 0, .slice none 0 0, .slice none 0 0, .slice none 0 0] 31 (0, 0)) (by (with_reducible repeat (first | refine Z26 ?_ _ | refine Z27 ?_ | refine Z28 ?_ _)); exact BK147.out) hb)
     have n5_ := Aside0.mk (Z8 (by repeat (first | (with_reducible first | exact HB.out | apply Z5 | apply Z3 | apply Z4 | refine Z6 ?_ GE146.out | refine Z6 ?_ GE147.out) | exact HB.out)) hb)
     clear HO150
     clear HO156
     clear BK146
     clear BK147
     clear HB
     have HO150 := n0_
     have HO156 := n1_
     have HO153 := n2_
     have BK146 := n3_
     have BK147 := n4_
     have HB := n5_
     clear n0_ n1_ n2_ n3_ n4_ n5_
     (try clear hb)
     (try clear hb2)
     (try clear hk)
     (try clear hi)
     (try clear ho0)
     refine hK.out _ _ ⟨(Z24 BK146.out 0).trans rfl, (Z24 BK146.out 1).trans rfl, (Z24 BK146.out 2).trans rfl, (Z24 BK146.out 3).trans rfl⟩ (fun hHeld => ?_)
     clear hK K
     refine norm_ (a' := ?_) ?_ ?_
     rotate_left
     ·show Act.put _ (some 8) _ = _
      simp only [Act.put, Z0, Z1, Z2, i64_w, i32_w]
      rfl
     exact norm_ (by simp only [putAll, Act.put, Z0, Z1, Z2]) (hCont (v149, v152, v155) _ ⟨hHeld, (by (with_reducible repeat (first | apply Z9 | apply Z10 | apply Z11)); exact Z12 HO150.out (fun _ hk => hk.2)), (by (with_reducible repeat (first | apply Z9 | apply Z10 | apply Z11)); exact Z12 HO153.out (fun _ hk => hk.2)), (by (with_reducible repeat (first | apply Z9 | apply Z10 | apply Z11)); exact HO156.out), (by (with_reducible repeat (first | refine Z26 ?_ _ | refine Z27 ?_ | refine Z28 ?_ _)); exact BK146.out), (by (with_reducible repeat (first | refine Z26 ?_ _ | refine Z27 ?_ | refine Z28 ?_ _)); exact BK147.out), (by repeat (first | (with_reducible first | exact HB.out | apply Z5 | apply Z3 | apply Z4 | refine Z6 ?_ GE146.out | refine Z6 ?_ GE147.out) | exact HB.out))⟩)
   ·skip
    refine Kd.R_lit_step Kd.bool _ 4 ?hg (N := 9) ?hd (xs := ([] : List Bool)) (inner := []) (ok := fun _ => True) (okp := fun _ => True) ?hr ?hp (fun _ hk => hk) trivial (Below.refl _ _) (Nat.le_refl _) (by simp) ?_; (case hd => rfl); (case hg => rfl); (case hr => first | (go_simp; done) | (go_simp; rfl)); (case hp => exact (Reps.none _ _))
    intro v155 w9 ho10 hb hg_ hnew_
    clear hg_ hnew_
    (first | rw [← Ny154.out] at ho10 | (simp only [Int.reduceToNat] at ho10; rw [← Ny154.out] at ho10))
    have n0_ := Aside0.mk (Kd.R_lower ho10 (Z7 (by repeat (first | (with_reducible first | exact HB.out | apply Z5 | apply Z3 | apply Z4 | refine Z6 ?_ GE146.out | refine Z6 ?_ GE147.out) | exact HB.out))))
    have n1_ := Aside0.mk (Z29 (g := gb146) (o := .cells #[.slice A0_0 l0_0.length c0_0, .slice A0_1 l0_1.length c0_1, .slice A0_2 l0_2.length c0_2, .slice A0_3 l0_3.length c0_3] 31 (0, 0)) (by (with_reducible repeat (first | refine Z26 ?_ _ | refine Z27 ?_ | refine Z28 ?_ _)); exact BK146.out) hb)
    have n2_ := Aside0.mk (Z29 (g := gb147) (o := .cells #[.slice none 0 0, .slice none 0 0, .slice none 0 0, .slice none 0 0] 31 (0, 0)) (by (with_reducible repeat (first | refine Z26 ?_ _ | refine Z27 ?_ | refine Z28 ?_ _)); exact BK147.out) hb)
    have n3_ := Aside0.mk (Z8 (by repeat (first | (with_reducible first | exact HB.out | apply Z5 | apply Z3 | apply Z4 | refine Z6 ?_ GE146.out | refine Z6 ?_ GE147.out) | exact HB.out)) hb)
    clear BK146
    clear BK147
    clear HB
    have HO156 := n0_
    have BK146 := n1_
    have BK147 := n2_
    have HB := n3_
    clear n0_ n1_ n2_ n3_
    clear hb ho10
    refine hK.out _ _ ⟨(Z24 BK146.out 0).trans rfl, (Z24 BK146.out 1).trans rfl, (Z24 BK146.out 2).trans rfl, (Z24 BK146.out 3).trans rfl⟩ (fun hHeld => ?_)
    clear hK K
    refine norm_ (a' := ?_) ?_ ?_
    rotate_left
    ·show Act.put _ (some 9) _ = _
     simp only [Act.put, Z0, Z1, Z2, i64_w, i32_w]
     rfl
    refine one_ (i := 2) (N := some 5) #[true, true, true, true, true, false, true, true, true, false, true, true, false, false, false] rfl rfl (one_of HT_.out (by kernel_rfl)) (by decide) (fun K hK => ?_)
    refine goes_ Try.func102 (by kernel_rfl) rfl #[.slice A0_0 l0_0.length c0_0] (by rfl) rfl rfl (by (try simp only [Z34, Z35, Z36]); first | done | rfl | (simp only [Z32, Z33]; rfl)) ?_
    with_reducible refine (spec_l1Own.calls _ _ l0_0 t148 _ ?side1 ?side2 A2.out).mono ?_
    (case side1 => repeat (first | exact (Z23 HR0_0.out HB.out) | (with_reducible refine Z20 ?_ _) | (with_reducible refine Z21 ?_ _) | (with_reducible refine Z22 ?_)))
    (case side2 => exact HC0_0.out)
    rintro e w11 ⟨v149, rfl, ho0, hb⟩
    refine ⟨_, rfl, ?_⟩
    have n0_ := Aside0.mk (Z14 (by (with_reducible repeat (first | apply Z9 | apply Z10 | apply Z11)); exact HO156.out) hb)
    have n1_ := Aside0.mk (Kd.R_lower ho0 (Z7 (by repeat (first | (with_reducible first | exact HB.out | apply Z5 | apply Z3 | apply Z4 | refine Z6 ?_ GE146.out | refine Z6 ?_ GE147.out) | exact HB.out))))
    have n2_ := Aside0.mk (Z29 (g := gb146) (o := .cells #[.slice A0_0 l0_0.length c0_0, .slice A0_1 l0_1.length c0_1, .slice A0_2 l0_2.length c0_2, .slice A0_3 l0_3.length c0_3] 31 (0, 0)) (by (with_reducible repeat (first | refine Z26 ?_ _ | refine Z27 ?_ | refine Z28 ?_ _)); exact BK146.out) hb)
    have n3_ := Aside0.mk (Z29 (g := gb147) (o := .cells #[.slice none 0 0, .slice none 0 0, .slice none 0 0, .slice none 0 0] 31 (0, 0)) (by (with_reducible repeat (first | refine Z26 ?_ _ | refine Z27 ?_ | refine Z28 ?_ _)); exact BK147.out) hb)
    have n4_ := Aside0.mk (Z8 (by repeat (first | (with_reducible first | exact HB.out | apply Z5 | apply Z3 | apply Z4 | refine Z6 ?_ GE146.out | refine Z6 ?_ GE147.out) | exact HB.out)) hb)
    clear HO156
    clear BK146
    clear BK147
    clear HB
    have HO156 := n0_
    have HO150 := n1_
    have BK146 := n2_
    have BK147 := n3_
    have HB := n4_
    clear n0_ n1_ n2_ n3_ n4_
    (try clear hb)
    (try clear hb2)
    (try clear hk)
    (try clear hi)
    (try clear ho0)
    refine hK.out _ _ ⟨(Z24 BK146.out 0).trans rfl, (Z24 BK146.out 1).trans rfl, (Z24 BK146.out 2).trans rfl, (Z24 BK146.out 3).trans rfl⟩ (fun hHeld => ?_)
    clear hK K
    refine norm_ (a' := ?_) ?_ ?_
    rotate_left
    ·show Act.put _ (some 5) _ = _
     simp only [Act.put, Z0, Z1, Z2, i64_w, i32_w]
     rfl
    refine one_ (i := 5) (N := some 8) #[true, true, true, true, true, true, true, true, true, false, true, true, false, false, false] rfl rfl (one_of HT_.out (by kernel_rfl)) (by decide) (fun K hK => ?_)
    refine goes_ Try.func102 (by kernel_rfl) rfl #[.slice A0_1 l0_1.length c0_1] (by rfl) rfl rfl (by (try simp only [Z34, Z35, Z36]); first | done | rfl | (simp only [Z32, Z33]; rfl)) ?_
    with_reducible refine (spec_l1Own.calls _ _ l0_1 t151 _ ?side1 ?side2 A3.out).mono ?_
    (case side1 => repeat (first | exact (Z23 HR0_1.out HB.out) | (with_reducible refine Z20 ?_ _) | (with_reducible refine Z21 ?_ _) | (with_reducible refine Z22 ?_)))
    (case side2 => exact HC0_1.out)
    rintro e w12 ⟨v152, rfl, ho0, hb⟩
    refine ⟨_, rfl, ?_⟩
    have n0_ := Aside0.mk (Z14 (by (with_reducible repeat (first | apply Z9 | apply Z10 | apply Z11)); exact HO156.out) hb)
    have n1_ := Aside0.mk (Kd.R_elder' (by (with_reducible repeat (first | apply Z9 | apply Z10 | apply Z11)); exact HO150.out) (Kd.R_base ho0) hb)
    have n2_ := Aside0.mk (Kd.R_lower (Kd.R_new' ho0 (Z18 (by (with_reducible repeat (first | apply Z9 | apply Z10 | apply Z11)); exact HO150.out))) (Z7 (by repeat (first | (with_reducible first | exact HB.out | apply Z5 | apply Z3 | apply Z4 | refine Z6 ?_ GE146.out | refine Z6 ?_ GE147.out) | exact HB.out))))
    have n3_ := Aside0.mk (Z29 (g := gb146) (o := .cells #[.slice A0_0 l0_0.length c0_0, .slice A0_1 l0_1.length c0_1, .slice A0_2 l0_2.length c0_2, .slice A0_3 l0_3.length c0_3] 31 (0, 0)) (by (with_reducible repeat (first | refine Z26 ?_ _ | refine Z27 ?_ | refine Z28 ?_ _)); exact BK146.out) hb)
    have n4_ := Aside0.mk (Z29 (g := gb147) (o := .cells #[.slice none 0 0, .slice none 0 0, .slice none 0 0, .slice none 0 0] 31 (0, 0)) (by (with_reducible repeat (first | refine Z26 ?_ _ | refine Z27 ?_ | refine Z28 ?_ _)); exact BK147.out) hb)
    have n5_ := Aside0.mk (Z8 (by repeat (first | (with_reducible first | exact HB.out | apply Z5 | apply Z3 | apply Z4 | refine Z6 ?_ GE146.out | refine Z6 ?_ GE147.out) | exact HB.out)) hb)
    clear HO156
    clear HO150
    clear BK146
    clear BK147
    clear HB
    have HO156 := n0_
    have HO150 := n1_
    have HO153 := n2_
    have BK146 := n3_
    have BK147 := n4_
    have HB := n5_
    clear n0_ n1_ n2_ n3_ n4_ n5_
    (try clear hb)
    (try clear hb2)
    (try clear hk)
    (try clear hi)
    (try clear ho0)
    refine hK.out _ _ ⟨(Z24 BK146.out 0).trans rfl, (Z24 BK146.out 1).trans rfl, (Z24 BK146.out 2).trans rfl, (Z24 BK146.out 3).trans rfl⟩ (fun hHeld => ?_)
    clear hK K
    refine norm_ (a' := ?_) ?_ ?_
    rotate_left
    ·show Act.put _ (some 8) _ = _
     simp only [Act.put, Z0, Z1, Z2, i64_w, i32_w]
     rfl
    exact norm_ (by simp only [putAll, Act.put, Z0, Z1, Z2]) (hCont (v149, v152, v155) _ ⟨hHeld, (by (with_reducible repeat (first | apply Z9 | apply Z10 | apply Z11)); exact Z12 HO150.out (fun _ hk => hk.2)), (by (with_reducible repeat (first | apply Z9 | apply Z10 | apply Z11)); exact Z12 HO153.out (fun _ hk => hk.2)), (by (with_reducible repeat (first | apply Z9 | apply Z10 | apply Z11)); exact HO156.out), (by (with_reducible repeat (first | refine Z26 ?_ _ | refine Z27 ?_ | refine Z28 ?_ _)); exact BK146.out), (by (with_reducible repeat (first | refine Z26 ?_ _ | refine Z27 ?_ | refine Z28 ?_ _)); exact BK147.out), (by repeat (first | (with_reducible first | exact HB.out | apply Z5 | apply Z3 | apply Z4 | refine Z6 ?_ GE146.out | refine Z6 ?_ GE147.out) | exact HB.out))⟩)
  rintro ⟨v149, v152, v155⟩ w13 ⟨hS_, h0_, h1_, h2_, h3_, h4_, h5_⟩
  have n0_ : Aside0 (Kd.R (Kd.int .i64) 3 w13 w.heap.size (fun k_ => some k_ ≠ (v152 : Value).ownBlock) v149 t148) := ⟨h0_⟩
  have n1_ : Aside0 (Kd.R (Kd.int .i64) 3 w13 w.heap.size (fun k_ => some k_ ≠ (v149 : Value).ownBlock) v152 t151) := ⟨h1_⟩
  have n2_ : Aside0 (Kd.R Kd.bool 4 w13 w.heap.size (fun _ => True) v155 y154) := ⟨h2_⟩
  have n3_ : Aside0 (w13.heap[gb146]? = some (.cells #[.slice A0_0 l0_0.length c0_0, .slice A0_1 l0_1.length c0_1, .slice A0_2 l0_2.length c0_2, .slice A0_3 l0_3.length c0_3] 31 (0, 0))) := ⟨h3_⟩
  have n4_ : Aside0 (w13.heap[gb147]? = some (.cells #[.slice none 0 0, .slice none 0 0, .slice none 0 0, .slice none 0 0] 31 (0, 0))) := ⟨h4_⟩
  have n5_ : Aside0 (Below w.heap.size w w13) := ⟨h5_⟩
  clear BK146
  clear BK147
  clear HB
  clear h0_ h1_ h2_ h3_ h4_ h5_
  have HO150 := n0_
  have HO153 := n1_
  have HO156 := n2_
  have BK146 := n3_
  have BK147 := n4_
  have HB := n5_
  clear n0_ n1_ n2_ n3_ n4_ n5_
  have hHeld : w13.cell? ⟨gb146, 0, none⟩ = some (.slice A0_0 l0_0.length c0_0) ∧ w13.cell? ⟨gb146, 1, none⟩ = some (.slice A0_1 l0_1.length c0_1) ∧ w13.cell? ⟨gb146, 2, none⟩ = some (.slice A0_2 l0_2.length c0_2) ∧ w13.cell? ⟨gb146, 3, none⟩ = some (.slice A0_3 l0_3.length c0_3) := hS_
  refine norm_ (a' := ?_) ?_ ?_
  rotate_left
  ·simp only [putAll, Act.put, Z0, Z1, Z2]
   rfl
  refine one_ (i := 9) (N := some 12) #[true, true, true, true, true, true, true, true, true, true, true, true, false, false, false] rfl rfl (one_of HT_.out (by kernel_rfl)) (by decide) (fun K hK => ?_)
  refine Kd.R_append_rows_step Kd.bool (w0 := w) w.heap.size (by rfl) (.tmp 9) (.tmp 11) 29 4 (.bool false) 1 rfl Try.underlying29 info4 rfl (by decide) (by omega) v155 y154 l0_2 _ _ _ (fun _ => True) (fun _ => False) rfl rfl ?aO ?aR (fun _ _ h => h) (fun _ h => h.elim) ?aF ?aB ?aS ?aL ?_
  (case aR => repeat (first | exact (Z23 HR0_2.out HB.out) | (with_reducible refine Z20 ?_ _) | (with_reducible refine Z21 ?_ _) | (with_reducible refine Z22 ?_)))
  (case aB => exact (by repeat (first | (with_reducible first | exact HB.out | apply Z5 | apply Z3 | apply Z4 | refine Z6 ?_ GE146.out | refine Z6 ?_ GE147.out) | exact HB.out)))
  (case aF => exact (fun _ _ => trivial))
  (case aO => exact (by (with_reducible repeat (first | apply Z9 | apply Z10 | apply Z11)); exact HO156.out))
  (case aS => exact (Z7 (by repeat (first | (with_reducible first | exact HB.out | apply Z5 | apply Z3 | apply Z4 | refine Z6 ?_ GE146.out | refine Z6 ?_ GE147.out) | exact HB.out))))
  (case aL => have := LMc4.out; omega)
  intro v158 w14 ho hb hg hat
  rw [← Ny157.out] at ho
  have n0_ := Aside0.mk (blk_grown (g := gb146) (o := .cells #[.slice A0_0 l0_0.length c0_0, .slice A0_1 l0_1.length c0_1, .slice A0_2 l0_2.length c0_2, .slice A0_3 l0_3.length c0_3] 31 (0, 0)) (by (with_reducible repeat (first | refine Z26 ?_ _ | refine Z27 ?_ | refine Z28 ?_ _)); exact BK146.out) hg (Kd.R_ne HO156.out BK146.out (by decide)))
  have n1_ := Aside0.mk (blk_grown (g := gb147) (o := .cells #[.slice none 0 0, .slice none 0 0, .slice none 0 0, .slice none 0 0] 31 (0, 0)) (by (with_reducible repeat (first | refine Z26 ?_ _ | refine Z27 ?_ | refine Z28 ?_ _)); exact BK147.out) hg (Kd.R_ne HO156.out BK147.out (by decide)))
  have n2_ := Aside0.mk (Kd.R_over' (by (with_reducible repeat (first | apply Z9 | apply Z10 | apply Z11)); exact HO150.out) (Kd.R_typed (by (with_reducible repeat (first | apply Z9 | apply Z10 | apply Z11)); exact HO156.out)) (by decide) hg)
  have n3_ := Aside0.mk (Kd.R_over' (by (with_reducible repeat (first | apply Z9 | apply Z10 | apply Z11)); exact HO153.out) (Kd.R_typed (by (with_reducible repeat (first | apply Z9 | apply Z10 | apply Z11)); exact HO156.out)) (by decide) hg)
  have n4_ := Aside0.mk (hb)
  have n5_ := Aside0.mk (ho)
  clear BK146
  clear BK147
  clear HO150
  clear HO153
  clear HB
  clear HO156
  have BK146 := n0_
  have BK147 := n1_
  have HO150 := n2_
  have HO153 := n3_
  have HB := n4_
  have HO159 := n5_
  clear n0_ n1_ n2_ n3_ n4_ n5_
  clear ho hb hg hat
  refine hK.out _ _ ⟨(Z24 BK146.out 0).trans rfl, (Z24 BK146.out 1).trans rfl, (Z24 BK146.out 2).trans rfl, (Z24 BK146.out 3).trans rfl⟩ (fun hHeld => ?_)
  clear hK K
  refine norm_ (a' := ?_) ?_ ?_
  rotate_left
  ·show Act.put _ (some 12) _ = _
   simp only [Act.put, Z0, Z1, Z2, i64_w, i32_w]
   rfl
  refine one_ (i := 12) (N := some 15) #[true, true, true, true, true, true, true, true, true, true, true, true, true, false, false] rfl rfl (one_of HT_.out (by kernel_rfl)) (by decide) (fun K hK => ?_)
  refine goes_ Try.func102 (by kernel_rfl) rfl #[.slice A0_3 l0_3.length c0_3] (by rfl) rfl rfl (by (try simp only [Z34, Z35, Z36]); first | done | rfl | (simp only [Z32, Z33]; rfl)) ?_
  with_reducible refine (spec_l1Own.calls _ _ l0_3 t160 _ ?side1 ?side2 A5.out).mono ?_
  (case side1 => repeat (first | exact (Z23 HR0_3.out HB.out) | (with_reducible refine Z20 ?_ _) | (with_reducible refine Z21 ?_ _) | (with_reducible refine Z22 ?_)))
  (case side2 => exact HC0_3.out)
  rintro e w15 ⟨v161, rfl, ho0, hb⟩
  refine ⟨_, rfl, ?_⟩
  have n0_ := Aside0.mk (Kd.R_elder' (by (with_reducible repeat (first | apply Z9 | apply Z10 | apply Z11)); exact HO150.out) (Kd.R_base ho0) hb)
  have n1_ := Aside0.mk (Kd.R_elder' (by (with_reducible repeat (first | apply Z9 | apply Z10 | apply Z11)); exact HO153.out) (Kd.R_base ho0) hb)
  have n2_ := Aside0.mk (Z14 (by (with_reducible repeat (first | apply Z9 | apply Z10 | apply Z11)); exact HO159.out) hb)
  have n3_ := Aside0.mk (Kd.R_lower (Kd.R_new' (Kd.R_new' ho0 (Z18 (by (with_reducible repeat (first | apply Z9 | apply Z10 | apply Z11)); exact HO150.out))) (Z18 (by (with_reducible repeat (first | apply Z9 | apply Z10 | apply Z11)); exact HO153.out))) (Z7 (by repeat (first | (with_reducible first | exact HB.out | apply Z5 | apply Z3 | apply Z4 | refine Z6 ?_ GE146.out | refine Z6 ?_ GE147.out) | exact HB.out))))
  have n4_ := Aside0.mk (Z29 (g := gb146) (o := .cells #[.slice A0_0 l0_0.length c0_0, .slice A0_1 l0_1.length c0_1, .slice A0_2 l0_2.length c0_2, .slice A0_3 l0_3.length c0_3] 31 (0, 0)) (by (with_reducible repeat (first | refine Z26 ?_ _ | refine Z27 ?_ | refine Z28 ?_ _)); exact BK146.out) hb)
  have n5_ := Aside0.mk (Z29 (g := gb147) (o := .cells #[.slice none 0 0, .slice none 0 0, .slice none 0 0, .slice none 0 0] 31 (0, 0)) (by (with_reducible repeat (first | refine Z26 ?_ _ | refine Z27 ?_ | refine Z28 ?_ _)); exact BK147.out) hb)
  have n6_ := Aside0.mk (Z8 (by repeat (first | (with_reducible first | exact HB.out | apply Z5 | apply Z3 | apply Z4 | refine Z6 ?_ GE146.out | refine Z6 ?_ GE147.out) | exact HB.out)) hb)
  clear HO150
  clear HO153
  clear HO159
  clear BK146
  clear BK147
  clear HB
  have HO150 := n0_
  have HO153 := n1_
  have HO159 := n2_
  have HO162 := n3_
  have BK146 := n4_
  have BK147 := n5_
  have HB := n6_
  clear n0_ n1_ n2_ n3_ n4_ n5_ n6_
  (try clear hb)
  (try clear hb2)
  (try clear hk)
  (try clear hi)
  (try clear ho0)
  obtain ⟨Ao16, co16, eo16⟩ := Z19 HO162.out
  (first | subst eo16 | (injection eo16 with f1_ f2_ f3_; have f4_ := f1_.symm; have f5_ := f3_.symm; clear f1_ f2_ f3_; subst f4_; subst f5_))
  obtain ⟨Ao17, co17, eo17⟩ := Z19 HO159.out
  (first | subst eo17 | (injection eo17 with f1_ f2_ f3_; have f4_ := f1_.symm; have f5_ := f3_.symm; clear f1_ f2_ f3_; subst f4_; subst f5_))
  obtain ⟨Ao18, co18, eo18⟩ := Z19 HO153.out
  (first | subst eo18 | (injection eo18 with f1_ f2_ f3_; have f4_ := f1_.symm; have f5_ := f3_.symm; clear f1_ f2_ f3_; subst f4_; subst f5_))
  obtain ⟨Ao19, co19, eo19⟩ := Z19 HO150.out
  (first | subst eo19 | (injection eo19 with f1_ f2_ f3_; have f4_ := f1_.symm; have f5_ := f3_.symm; clear f1_ f2_ f3_; subst f4_; subst f5_))
  refine hK.out _ _ ⟨(Z24 BK146.out 0).trans rfl, (Z24 BK146.out 1).trans rfl, (Z24 BK146.out 2).trans rfl, (Z24 BK146.out 3).trans rfl⟩ (fun hHeld => ?_)
  clear hK K
  refine norm_ (a' := ?_) ?_ ?_
  rotate_left
  ·show Act.put _ (some 15) _ = _
   simp only [Act.put, Z0, Z1, Z2, i64_w, i32_w]
   rfl
  refine pure_ (i := 13) (N := some 16) (v := ?_) (a' := ?_) #[true, true, true, true, true, true, true, true, true, true, true, true, true, true, false] rfl rfl (any_of HT_.out (by kernel_rfl)) (fun _ _ _ h => h) (Or.inl ⟨by rfl, ?_⟩) ?_ ?_
  rotate_left
  ·intro w'
   go_simp
   with_reducible rfl
  rotate_left
  ·simp only [Act.put, Z0, Z1, Z2, i64_w, i32_w]
   rfl
  refine one_ (i := 14) (N := none) #[true, true, true, true, true, true, true, true, true, true, true, true, true, true, true] rfl rfl (one_of HT_.out (by kernel_rfl)) (by decide) (fun K hK => ?_)
  have hs20 : w15.cell? ⟨gb147, 0, none⟩ = some (.slice none 0 0) := (Z24 BK147.out 0).trans rfl
  have hfs20 := Z25 BK147.out 0
  have hns20_0 := NB146_147.out
  have hms20_0 := NB147_146.out
  have hs21 : w15.cell? ⟨gb147, 1, none⟩ = some (.slice none 0 0) := (Z24 BK147.out 1).trans rfl
  have hfs21 := Z25 BK147.out 1
  have hns21_0 := NB146_147.out
  have hms21_0 := NB147_146.out
  have hs22 : w15.cell? ⟨gb147, 2, none⟩ = some (.slice none 0 0) := (Z24 BK147.out 2).trans rfl
  have hfs22 := Z25 BK147.out 2
  have hns22_0 := NB146_147.out
  have hms22_0 := NB147_146.out
  have hs23 : w15.cell? ⟨gb147, 3, none⟩ = some (.slice none 0 0) := (Z24 BK147.out 3).trans rfl
  have hfs23 := Z25 BK147.out 3
  have hns23_0 := NB146_147.out
  have hms23_0 := NB147_146.out
  refine skip_ (w1 := ?_) (by rfl) rfl ?_ ?_
  rotate_left
  ·go_simp
   rfl
  refine hK.out _ _ ⟨((cell_far (p := ⟨gb147, _, none⟩) NB146_147.out _).trans (((cell_far (p := ⟨gb147, _, none⟩) NB146_147.out _).trans (((cell_far (p := ⟨gb147, _, none⟩) NB146_147.out _).trans (((cell_far (p := ⟨gb147, _, none⟩) NB146_147.out _).trans (hHeld.1)))))))), ((cell_far (p := ⟨gb147, _, none⟩) NB146_147.out _).trans (((cell_far (p := ⟨gb147, _, none⟩) NB146_147.out _).trans (((cell_far (p := ⟨gb147, _, none⟩) NB146_147.out _).trans (((cell_far (p := ⟨gb147, _, none⟩) NB146_147.out _).trans (hHeld.2.1)))))))), ((cell_far (p := ⟨gb147, _, none⟩) NB146_147.out _).trans (((cell_far (p := ⟨gb147, _, none⟩) NB146_147.out _).trans (((cell_far (p := ⟨gb147, _, none⟩) NB146_147.out _).trans (((cell_far (p := ⟨gb147, _, none⟩) NB146_147.out _).trans (hHeld.2.2.1)))))))), ((cell_far (p := ⟨gb147, _, none⟩) NB146_147.out _).trans (((cell_far (p := ⟨gb147, _, none⟩) NB146_147.out _).trans (((cell_far (p := ⟨gb147, _, none⟩) NB146_147.out _).trans (((cell_far (p := ⟨gb147, _, none⟩) NB146_147.out _).trans (hHeld.2.2.2))))))))⟩ (fun hHeld => ?_)
  clear hK K
  refine done_ (done_of HT_.out (by kernel_rfl)) ?_
  try go_wp2
  refine bodyPost_ret (results_cell_row rfl _ _ gb147 31 #[.slice Ao19 t148.length co19, .slice Ao18 t151.length co18, .slice Ao17 y157.length co17, .slice Ao16 t160.length co16] (0, 0) _ rfl (by (with_reducible repeat (first | refine Z26 ?_ _ | refine Z27 ?_ | refine Z28 ?_ _)); refine Z30 (cs := #[.slice Ao19 t148.length co19, .slice Ao18 t151.length co18, .slice Ao17 y157.length co17, .slice none 0 0]) ?_ 3 _ rfl; (with_reducible repeat (first | refine Z26 ?_ _ | refine Z27 ?_ | refine Z28 ?_ _)); refine Z30 (cs := #[.slice Ao19 t148.length co19, .slice Ao18 t151.length co18, .slice none 0 0, .slice none 0 0]) ?_ 2 _ rfl; (with_reducible repeat (first | refine Z26 ?_ _ | refine Z27 ?_ | refine Z28 ?_ _)); refine Z30 (cs := #[.slice Ao19 t148.length co19, .slice none 0 0, .slice none 0 0, .slice none 0 0]) ?_ 1 _ rfl; (with_reducible repeat (first | refine Z26 ?_ _ | refine Z27 ?_ | refine Z28 ?_ _)); refine Z30 (cs := #[.slice none 0 0, .slice none 0 0, .slice none 0 0, .slice none 0 0]) ?_ 0 _ rfl; (with_reducible repeat (first | refine Z26 ?_ _ | refine Z27 ?_ | refine Z28 ?_ _)); exact BK147.out) Try.underlying31 rfl (by kernel_rfl)) rfl ?_
  exact ⟨_, _, _, _, by first | rfl | (simp [errW_none, errW_some] <;> rfl) | (simp [*, errW_none, errW_some] <;> rfl), by (with_reducible repeat (first | apply Z9 | apply Z10 | apply Z11)); exact Z12 (Z13 (p := ⟨gb147, 3, none⟩) (Z13 (p := ⟨gb147, 2, none⟩) (Z13 (p := ⟨gb147, 1, none⟩) (Z13 (p := ⟨gb147, 0, none⟩) (Z15 HO150.out BK147.out (by decide)) (fun _ hk => hk.2) (.slice Ao19 t148.length co19)) (fun _ hk => hk.2) (.slice Ao18 t151.length co18)) (fun _ hk => hk.2) (.slice Ao17 y157.length co17)) (fun _ hk => hk.2) (.slice Ao16 t160.length co16)) (fun _ hk => ⟨hk.1.1, hk.1.2⟩), by (with_reducible repeat (first | apply Z9 | apply Z10 | apply Z11)); exact Z12 (Z13 (p := ⟨gb147, 3, none⟩) (Z13 (p := ⟨gb147, 2, none⟩) (Z13 (p := ⟨gb147, 1, none⟩) (Z13 (p := ⟨gb147, 0, none⟩) (Z15 HO153.out BK147.out (by decide)) (fun _ hk => hk.2) (.slice Ao19 t148.length co19)) (fun _ hk => hk.2) (.slice Ao18 t151.length co18)) (fun _ hk => hk.2) (.slice Ao17 y157.length co17)) (fun _ hk => hk.2) (.slice Ao16 t160.length co16)) (fun _ hk => ⟨hk.1.1, hk.1.2⟩), by (with_reducible repeat (first | apply Z9 | apply Z10 | apply Z11)); exact Z12 (Z13 (p := ⟨gb147, 3, none⟩) (Z13 (p := ⟨gb147, 2, none⟩) (Z13 (p := ⟨gb147, 1, none⟩) (Z13 (p := ⟨gb147, 0, none⟩) (Z15 HO159.out BK147.out (by decide)) (fun _ hk => hk.2) (.slice Ao19 t148.length co19)) (fun _ hk => hk.2) (.slice Ao18 t151.length co18)) (fun _ hk => hk.2) (.slice Ao17 y157.length co17)) (fun _ hk => hk.2) (.slice Ao16 t160.length co16)) (fun _ hk => trivial), by (with_reducible repeat (first | apply Z9 | apply Z10 | apply Z11)); exact Z12 (Z13 (p := ⟨gb147, 3, none⟩) (Z13 (p := ⟨gb147, 2, none⟩) (Z13 (p := ⟨gb147, 1, none⟩) (Z13 (p := ⟨gb147, 0, none⟩) (Z15 HO162.out BK147.out (by decide)) (fun _ hk => hk.2) (.slice Ao19 t148.length co19)) (fun _ hk => hk.2) (.slice Ao18 t151.length co18)) (fun _ hk => hk.2) (.slice Ao17 y157.length co17)) (fun _ hk => hk.2) (.slice Ao16 t160.length co16)) (fun _ hk => ⟨hk.1.1.2, hk.1.2⟩), by repeat (first | (with_reducible first | exact HB.out | apply Z5 | apply Z3 | apply Z4 | refine Z6 ?_ GE146.out | refine Z6 ?_ GE147.out) | exact HB.out)⟩
 ·rw [if_neg c4] at H
  exact absurd H (by simp)
end Go.Proofs.Ytaogaigpnmpdcaa.MFnExactIsFocus
