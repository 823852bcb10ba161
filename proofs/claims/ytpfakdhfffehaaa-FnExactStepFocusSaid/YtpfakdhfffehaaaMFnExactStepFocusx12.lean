import Derived.Test.YtpfakdhfffehaaaMFnExactStepFocusx0
import Derived.Test.YtpfakdhfffehaaaMFnExactStepFocusx11
namespace Go.Proofs.Ytpfakdhfffehaaa.MFnExactStepFocus
open Go.RowKit Go.Proofs.YtpfakdhfffehaaaW.PrintWords Go.Proofs.YtpfakdhfffehaaaW.PrintLast Go.Proofs.YtpfakdhfffehaaaW.PrintMore
attribute [local go_sem] max2_int min2_int max_two min_two max_three min_three max_four min_four   
set_option linter.unusedVariables false
set_option linter.unusedSimpArgs false
def impl_startFocus.l0 : Nat → Int → Int → List Int → List Int → List Bool → List Int → Option (List Int × List Int × List Bool × List Int)
 | 0, _, _, _, _, _, _ => none
 | k + 1, x15, x16, x313000, x313001, x313002, x313003 => if x16 < x15 then (if x313002.length < 140737488355328 then (impl_startFocus.l0 k x15 (wrap64 (x16 + 1)) x313000 x313001 (x313002 ++ [true]) x313003) else (none)) else (some (x313000, x313001, x313002, x313003))
def impl_startFocus.f (k : Nat) (l0 : List Int) : Option (List Int × List Int × List Bool × List Int) := (impl_copied.f l0).bind fun t303 => (if 0 ≤ (l0.length : Int) then (if ((l0.length : Int) : Int).toNat ≤ 35184372088832 then ((impl_identity.f k (wrap64 ((l0.length : Int) + 1))).bind fun t309 => (impl_startFocus.l0 k (l0.length : Int) 0 t303 (List.replicate ((l0.length : Int) : Int).toNat 0) ([] : List Bool) t309)) else (none)) else (none))
theorem impl_startFocus.mono_l : ∀ k, (∀ y0 y1 y2 y3 y4 y5, LeO (impl_startFocus.l0 k y0 y1 y2 y3 y4 y5) (impl_startFocus.l0 (k + 1) y0 y1 y2 y3 y4 y5))
 | 0 => fun _ _ _ _ _ _ r h => by simp [impl_startFocus.l0] at h
 | k + 1 => by
  have ih0 := impl_startFocus.mono_l k
  ·intro y0 y1 y2 y3 y4 y5
   unfold impl_startFocus.l0
   repeat' first
   | (with_reducible exact ih0 _ _ _ _ _ _)
   | (with_reducible exact impl_identity.mono _ _)
   | (with_reducible exact LeO.refl _)
   | (with_reducible exact LeO.none _)
   | (with_reducible refine LeO.ite ?_ ?_)
   | (with_reducible refine LeO.bind ?_ (fun _ => ?_))
   | exact ih0 _ _ _ _ _ _
   | exact impl_identity.mono _ _
   | exact LeO.none _
   | refine LeO.ite ?_ ?_
   | refine LeO.bind ?_ (fun _ => ?_)
theorem impl_startFocus.mono : ∀ a0 k, LeO (impl_startFocus.f k a0) (impl_startFocus.f (k + 1) a0) := by
 intro a0 k
 have ih0 := impl_startFocus.mono_l k
 unfold impl_startFocus.f
 repeat' first
   | (with_reducible exact ih0 _ _ _ _ _ _)
   | (with_reducible exact impl_identity.mono _ _)
   | (with_reducible exact LeO.refl _)
   | (with_reducible exact LeO.none _)
   | (with_reducible refine LeO.ite ?_ ?_)
   | (with_reducible refine LeO.bind ?_ (fun _ => ?_))
   | exact ih0 _ _ _ _ _ _
   | exact impl_identity.mono _ _
   | exact LeO.none _
   | refine LeO.ite ?_ ?_
   | refine LeO.bind ?_ (fun _ => ?_)
def impl_startFocus.T2 : Bool × List (List Nat × List Nat) := (true, [([], []), ([0], [0]), ([], []), ([2, 2], [2]), ([], []), ([4], [4]), ([5, 1], [5]), ([1, 3, 6], [1, 3, 6]), ([], []), ([8, 7, 6, 0, 1, 2, 3, 4, 5, 6, 7, 8], [7, 8])])
def impl_startFocus.B2 : List Nat := [0, 1, 0, 4, 0, 16, 51, 127, 0, 511]
theorem impl_startFocus.tab2 : rtab .any (opsOf Try.f71 2) = impl_startFocus.T2 := by kernel_rfl
theorem impl_startFocus.bits2 : waitsOk impl_startFocus.T2.2 impl_startFocus.B2 = true := by kernel_rfl
set_option maxHeartbeats 8000000 in
set_option maxRecDepth 100000 in
theorem impl_startFocus.calls (k : Nat) (A0 : Option Addr) (c0 : Nat) (l0 : List Int) (r1 : List Int) (r2 : List Int) (r3 : List Bool) (r4 : List Int) (w : World) (hr0 : Kd.C (Kd.int .i64) w A0 l0.length l0) (hc0 : l0.length ≤ c0) (h : impl_startFocus.f k l0 = some (r1, r2, r3, r4)) :
  Calls Try.prog 71 #[.slice A0 l0.length c0] w fun e w' => ∃ v0_ v1_ v2_ v3_ : Value, e = .returned (.agg #[v0_, v1_, v2_, v3_]) ∧ Kd.R (Kd.int .i64) 3 w' w.heap.size (fun k_ => some k_ ≠ (v1_ : Value).ownBlock ∧ some k_ ≠ (v3_ : Value).ownBlock) v0_ r1 ∧ Kd.R (Kd.int .i64) 3 w' w.heap.size (fun k_ => some k_ ≠ (v0_ : Value).ownBlock ∧ some k_ ≠ (v3_ : Value).ownBlock) v1_ r2 ∧ Kd.R Kd.bool 4 w' w.heap.size (fun _ => True) v2_ r3 ∧ Kd.R (Kd.int .i64) 3 w' w.heap.size (fun k_ => some k_ ≠ (v0_ : Value).ownBlock ∧ some k_ ≠ (v1_ : Value).ownBlock) v3_ r4 ∧ Below w.heap.size w w' := by
 have hu27 := Try.underlying27
 have HR0 := Ya hr0
 have HC0 := Ya hc0
 clear hr0 hc0
 have HB := Ya (Below.refl w.heap.size w)
 have H : ((impl_copied.f l0).bind fun t303 => (if 0 ≤ (l0.length : Int) then (if ((l0.length : Int) : Int).toNat ≤ 35184372088832 then ((impl_identity.f k (wrap64 ((l0.length : Int) + 1))).bind fun t309 => (impl_startFocus.l0 k (l0.length : Int) 0 t303 (List.replicate ((l0.length : Int) : Int).toNat 0) ([] : List Bool) t309)) else (none)) else (none))) = some (r1, r2, r3, r4) := h
 clear h
 replace H := Z36.mp H
 obtain ⟨t303, A20, H⟩ := H
 replace H : (if 0 ≤ (l0.length : Int) then (if ((l0.length : Int) : Int).toNat ≤ 35184372088832 then ((impl_identity.f k (wrap64 ((l0.length : Int) + 1))).bind fun t309 => (impl_startFocus.l0 k (l0.length : Int) 0 t303 (List.replicate ((l0.length : Int) : Int).toNat 0) ([] : List Bool) t309)) else (none)) else (none)) = some (r1, r2, r3, r4) := H
 have A2 := Ya A20
 clear A20
 by_cases c3 : 0 ≤ (l0.length : Int)
 ·rw [if_pos c3] at H
  have c3b0 := eq_true c3
  have c3b1 : decide (0 ≤ (l0.length : Int)) = true := Z38 c3
  have HLEc3 := Ya c3
  clear c3
  by_cases c4 : ((l0.length : Int) : Int).toNat ≤ 35184372088832
  ·rw [if_pos c4] at H
   have c4b0 := eq_true c4
   have c4b1 : decide (((l0.length : Int) : Int).toNat ≤ 35184372088832) = true := Z38 c4
   clear c4
   obtain ⟨y306, hy306⟩ : ∃ y_ : List Int, y_ = (List.replicate ((l0.length : Int) : Int).toNat 0) := ⟨_, rfl⟩
   replace H : ((impl_identity.f k (wrap64 ((l0.length : Int) + 1))).bind fun t309 => (impl_startFocus.l0 k (l0.length : Int) 0 t303 y306 ([] : List Bool) t309)) = some (r1, r2, r3, r4) := by first | (rw [hy306]; with_reducible exact H) | (have H2_ := (Option.bind_some _ _).symm.trans H; rw [hy306]; with_reducible exact H2_) | (have H2_ := (Option.bind_some _ _).symm.trans H; with_reducible exact H2_) | with_reducible exact H | (rw [hy306]; exact H) | exact H
   have Ny306 := Ya hy306
   clear hy306
   replace H := Z36.mp H
   obtain ⟨t309, A50, H⟩ := H
   replace H : (impl_startFocus.l0 k (l0.length : Int) 0 t303 y306 ([] : List Bool) t309) = some (r1, r2, r3, r4) := H
   have A5 := Ya A50
   clear A50
   have H' := Ya H
   clear H
   go_enter Try.func71, Try.ntmps71
   try go_wp2_with (first | ((with_reducible refine gate_dst (N := 2) rfl ?_); refine Yx 2 #[.slice none 0 0, .slice none 0 0, .slice none 0 0, .slice none 0 0] 27 ?_; intro gb302 hg w6 hbox hb; have BK302 := Ya hbox; have GW302 := Yg hg; have GE302 := GW302; replace HB := Yh hb; clear hb hbox hg))
   replace BK302 := Ya (Z26 BK302.out)
   replace HB := Ya (Z4 HB.out)
   refine start_ (n := 10) (S := fun w' => True) (ds := []) (YA 10 0) (by kernel_rfl) rfl rfl trivial (fun hHeld => ?_); refine with_tabW impl_startFocus.tab2 impl_startFocus.bits2 (fun HT_ HW_ => ?_)
   generalize w6.drew = w7 at BK302 HB hHeld ⊢
   refine Yp 0 (some 7) (YA 10 1) rfl HT_.out ?_
   refine Yp 2 (some 9) (YA 10 5) rfl HT_.out ?_
   refine Yp 4 (some 11) (YA 10 21) rfl HT_.out ?_
   refine Yp 5 (some 12) (YA 10 53) rfl HT_.out ?_
   refine join_ (σ := Value × Value × Value × Nat) 1 (YA 10 511) (fun s_ => [(8, s_.1), (10, s_.2.1), (13, s_.2.2.1), (4, .pointer (some ⟨s_.2.2.2, 0, none⟩)), (14, .agg #[s_.1, s_.2.1, .slice none 0 0, s_.2.2.1])]) (fun s_ w' => (Kd.R (Kd.int .i64) 3 w' w.heap.size (fun k_ => some k_ ≠ (s_.2.1 : Value).ownBlock ∧ some k_ ≠ (s_.2.2.1 : Value).ownBlock) s_.1 t303) ∧ (Kd.R (Kd.int .i64) 3 w' w.heap.size (fun k_ => some k_ ≠ (s_.1 : Value).ownBlock ∧ some k_ ≠ (s_.2.2.1 : Value).ownBlock) s_.2.1 y306) ∧ (Kd.R (Kd.int .i64) 3 w' w.heap.size (fun k_ => some k_ ≠ (s_.1 : Value).ownBlock ∧ some k_ ≠ (s_.2.1 : Value).ownBlock) s_.2.2.1 t309) ∧ (w'.heap[gb302]? = some (.cells #[.slice none 0 0, .slice none 0 0, .slice none 0 0, .slice none 0 0] 27 (0, 0))) ∧ (w'.heap[s_.2.2.2]? = some (.cells #[.slice none 0 0, .slice none 0 0, .slice none 0 0, .slice none 0 0] 27 (0, 0))) ∧ (w.heap.size ≤ s_.2.2.2) ∧ (w.heap.size ≤ s_.2.2.2) ∧ (gb302 ≠ s_.2.2.2) ∧ (s_.2.2.2 ≠ gb302) ∧ (Below w.heap.size w w')) ?_ ?_
   rotate_left
   ·intro hJ1_3_6_8
    refine join_ (σ := Value × Value × Value) 2 (YA 10 255) (fun s_ => [(8, s_.1), (10, s_.2.1), (13, s_.2.2), (14, .agg #[s_.1, s_.2.1, .slice none 0 0, s_.2.2])]) (fun s_ w' => (Kd.R (Kd.int .i64) 3 w' w.heap.size (fun k_ => some k_ ≠ (s_.2.1 : Value).ownBlock ∧ some k_ ≠ (s_.2.2 : Value).ownBlock) s_.1 t303) ∧ (Kd.R (Kd.int .i64) 3 w' w.heap.size (fun k_ => some k_ ≠ (s_.1 : Value).ownBlock ∧ some k_ ≠ (s_.2.2 : Value).ownBlock) s_.2.1 y306) ∧ (Kd.R (Kd.int .i64) 3 w' w.heap.size (fun k_ => some k_ ≠ (s_.1 : Value).ownBlock ∧ some k_ ≠ (s_.2.1 : Value).ownBlock) s_.2.2 t309) ∧ (w'.heap[gb302]? = some (.cells #[.slice none 0 0, .slice none 0 0, .slice none 0 0, .slice none 0 0] 27 (0, 0))) ∧ (Below w.heap.size w w')) ?_ ?_
    rotate_left
    ·intro hJ1_3_6
     refine join_ (σ := Value × Value × Nat) 3 (YA 10 319) (fun s_ => [(8, s_.1), (10, s_.2.1), (4, .pointer (some ⟨s_.2.2, 0, none⟩))]) (fun s_ w' => (Kd.R (Kd.int .i64) 3 w' w.heap.size (fun k_ => some k_ ≠ (s_.2.1 : Value).ownBlock) s_.1 t303) ∧ (Kd.R (Kd.int .i64) 3 w' w.heap.size (fun k_ => some k_ ≠ (s_.1 : Value).ownBlock) s_.2.1 y306) ∧ (w'.heap[gb302]? = some (.cells #[.slice none 0 0, .slice none 0 0, .slice none 0 0, .slice none 0 0] 27 (0, 0))) ∧ (w'.heap[s_.2.2]? = some (.cells #[.slice none 0 0, .slice none 0 0, .slice none 0 0, .slice none 0 0] 27 (0, 0))) ∧ (w.heap.size ≤ s_.2.2) ∧ (w.heap.size ≤ s_.2.2) ∧ (gb302 ≠ s_.2.2) ∧ (s_.2.2 ≠ gb302) ∧ (Below w.heap.size w w')) ?_ ?_
     rotate_left
     ·intro hJ1_3_8
      refine join_ (σ := Value × Value × Nat) 3 (YA 10 375) (fun s_ => [(8, s_.1), (13, s_.2.1), (4, .pointer (some ⟨s_.2.2, 0, none⟩))]) (fun s_ w' => (Kd.R (Kd.int .i64) 3 w' w.heap.size (fun k_ => some k_ ≠ (s_.2.1 : Value).ownBlock) s_.1 t303) ∧ (Kd.R (Kd.int .i64) 3 w' w.heap.size (fun k_ => some k_ ≠ (s_.1 : Value).ownBlock) s_.2.1 t309) ∧ (w'.heap[gb302]? = some (.cells #[.slice none 0 0, .slice none 0 0, .slice none 0 0, .slice none 0 0] 27 (0, 0))) ∧ (w'.heap[s_.2.2]? = some (.cells #[.slice none 0 0, .slice none 0 0, .slice none 0 0, .slice none 0 0] 27 (0, 0))) ∧ (w.heap.size ≤ s_.2.2) ∧ (w.heap.size ≤ s_.2.2) ∧ (gb302 ≠ s_.2.2) ∧ (s_.2.2 ≠ gb302) ∧ (Below w.heap.size w w')) ?_ ?_
      rotate_left
      ·intro hJ1_6_8
       refine join_ (σ := Value × Value) 4 (YA 10 63) (fun s_ => [(8, s_.1), (10, s_.2)]) (fun s_ w' => (Kd.R (Kd.int .i64) 3 w' w.heap.size (fun k_ => some k_ ≠ (s_.2 : Value).ownBlock) s_.1 t303) ∧ (Kd.R (Kd.int .i64) 3 w' w.heap.size (fun k_ => some k_ ≠ (s_.1 : Value).ownBlock) s_.2 y306) ∧ (w'.heap[gb302]? = some (.cells #[.slice none 0 0, .slice none 0 0, .slice none 0 0, .slice none 0 0] 27 (0, 0))) ∧ (Below w.heap.size w w')) ?_ ?_
       rotate_left
       ·intro hJ1_3
        refine join_ (σ := Value × Value) 4 (YA 10 119) (fun s_ => [(8, s_.1), (13, s_.2)]) (fun s_ w' => (Kd.R (Kd.int .i64) 3 w' w.heap.size (fun k_ => some k_ ≠ (s_.2 : Value).ownBlock) s_.1 t303) ∧ (Kd.R (Kd.int .i64) 3 w' w.heap.size (fun k_ => some k_ ≠ (s_.1 : Value).ownBlock) s_.2 t309) ∧ (w'.heap[gb302]? = some (.cells #[.slice none 0 0, .slice none 0 0, .slice none 0 0, .slice none 0 0] 27 (0, 0))) ∧ (Below w.heap.size w w')) ?_ ?_
        rotate_left
        ·intro hJ1_6
         refine join_ (σ := Value × Nat) 4 (YA 10 311) (fun s_ => [(8, s_.1), (4, .pointer (some ⟨s_.2, 0, none⟩))]) (fun s_ w' => (Kd.R (Kd.int .i64) 3 w' w.heap.size (fun _ => True) s_.1 t303) ∧ (w'.heap[gb302]? = some (.cells #[.slice none 0 0, .slice none 0 0, .slice none 0 0, .slice none 0 0] 27 (0, 0))) ∧ (w'.heap[s_.2]? = some (.cells #[.slice none 0 0, .slice none 0 0, .slice none 0 0, .slice none 0 0] 27 (0, 0))) ∧ (w.heap.size ≤ s_.2) ∧ (w.heap.size ≤ s_.2) ∧ (gb302 ≠ s_.2) ∧ (s_.2 ≠ gb302) ∧ (Below w.heap.size w w')) ?_ ?_
         rotate_left
         ·intro hJ1_8
          refine join_ (σ := Value × Nat) 4 (YA 10 317) (fun s_ => [(10, s_.1), (4, .pointer (some ⟨s_.2, 0, none⟩))]) (fun s_ w' => (Kd.R (Kd.int .i64) 3 w' w.heap.size (fun _ => True) s_.1 y306) ∧ (w'.heap[gb302]? = some (.cells #[.slice none 0 0, .slice none 0 0, .slice none 0 0, .slice none 0 0] 27 (0, 0))) ∧ (w'.heap[s_.2]? = some (.cells #[.slice none 0 0, .slice none 0 0, .slice none 0 0, .slice none 0 0] 27 (0, 0))) ∧ (w.heap.size ≤ s_.2) ∧ (w.heap.size ≤ s_.2) ∧ (gb302 ≠ s_.2) ∧ (s_.2 ≠ gb302) ∧ (Below w.heap.size w w')) ?_ ?_
          rotate_left
          ·intro hJ3_8
           refine join_ (σ := Value) 5 (YA 10 55) (fun s_ => [(8, s_)]) (fun s_ w' => (Kd.R (Kd.int .i64) 3 w' w.heap.size (fun _ => True) s_ t303) ∧ (w'.heap[gb302]? = some (.cells #[.slice none 0 0, .slice none 0 0, .slice none 0 0, .slice none 0 0] 27 (0, 0))) ∧ (Below w.heap.size w w')) ?_ ?_
           rotate_left
           ·intro hJ1
            refine join_ (σ := Value) 5 (YA 10 61) (fun s_ => [(10, s_)]) (fun s_ w' => (Kd.R (Kd.int .i64) 3 w' w.heap.size (fun _ => True) s_ y306) ∧ (w'.heap[gb302]? = some (.cells #[.slice none 0 0, .slice none 0 0, .slice none 0 0, .slice none 0 0] 27 (0, 0))) ∧ (Below w.heap.size w w')) ?_ ?_
            rotate_left
            ·intro hJ3
             refine join_ (σ := Nat) 5 (YA 10 309) (fun s_ => [(4, .pointer (some ⟨s_, 0, none⟩))]) (fun s_ w' => (w'.heap[gb302]? = some (.cells #[.slice none 0 0, .slice none 0 0, .slice none 0 0, .slice none 0 0] 27 (0, 0))) ∧ (w'.heap[s_]? = some (.cells #[.slice none 0 0, .slice none 0 0, .slice none 0 0, .slice none 0 0] 27 (0, 0))) ∧ (w.heap.size ≤ s_) ∧ (w.heap.size ≤ s_) ∧ (gb302 ≠ s_) ∧ (s_ ≠ gb302) ∧ (Below w.heap.size w w')) ?_ ?_
             rotate_left
             ·intro hJ8
              refine three_ (i := 1) (j := 3) (k := 8) (Ni := some 8) (Nj := some 10) (Nk := some 4) (YA 10 55) (YA 10 61) (YA 10 309) rfl rfl rfl rfl rfl rfl (three_of HT_.out (by kernel_rfl)) (by decide) (by decide) (by decide) (fun K hK => ?_) (fun K hK => ?_) (fun K hK => ?_)
              ·skip
               refine goes_ Try.func56 (by kernel_rfl) rfl #[.slice A0 l0.length c0] (by rfl) rfl rfl Q4 ?_
               with_reducible refine (impl_copied.calls _ _ l0 t303 _ ?side1 ?side2 A2.out).mono ?_
               (case side1 => exact Yc (Z22 HR0.out HB.out))
               (case side2 => exact HC0.out)
               rintro e w8 ⟨v304, rfl, ho0, hb⟩
               refine ⟨_, rfl, ?_⟩
               have HO305 := Yl ho0
               replace BK302 := Yb BK302 hb
               replace HB := Yh hb
               (try clear hb ho0)
               refine hK.out _ _ trivial (fun hHeld => ?_)
               clear hK K
               refine norm_ (a' := ?_) ?_ ?_
               rotate_left
               ·show Act.put _ (some 8) _ = _
                simp only [Act.put, Z0, Z1, Z2, i64_w, i32_w]
                rfl
               exact norm_ Q3 (hJ1 (v304) _ ⟨(Yr HO305.out), (Yk BK302.out), Q0⟩)
              ·skip
               refine Kd.R_make_step (Kd.int .i64) _ 3 (by rfl) (N := 10) rfl 22 _ _ rfl (l0.length : Int) rfl rfl Try.underlying22 (.int .i64 0) 8 info3 rfl (by decide) (by omega) 0 (ok := fun _ => True) (okp := fun _ => True) rfl (fun _ hk => hk) trivial (Z30 Q1) (Nat.le_trans (Nat.mul_le_mul_right _ (Z30 Q1 : (l0.length : Int).toNat ≤ 35184372088832)) (by omega)) (Below.refl _ _) (Nat.le_refl _) ?_
               intro v307 w8 ho9 hb hg_ hnew_
               clear hg_ hnew_
               (first | rw [← Ny306.out] at ho9 | (simp only [Int.reduceToNat] at ho9; rw [← Ny306.out] at ho9))
               have HO308 := Yl ho9
               replace BK302 := Yb BK302 hb
               replace HB := Yh hb
               clear hb ho9
               refine hK.out _ _ trivial (fun hHeld => ?_)
               clear hK K
               refine norm_ (a' := ?_) ?_ ?_
               rotate_left
               ·show Act.put _ (some 10) _ = _
                simp only [Act.put, Z0, Z1, Z2, i64_w, i32_w]
                rfl
               exact norm_ Q3 (hJ3 (v307) _ ⟨(Yr HO308.out), (Yk BK302.out), Q0⟩)
              ·skip
               refine Yy 4 #[.slice none 0 0, .slice none 0 0, .slice none 0 0, .slice none 0 0] 27 ?_
               intro gb312 hg w8 hbox hb
               have BK312 := Ya hbox
               have GW312 := Yg hg
               have GE312 := GW312
               replace HB := Yh hb
               have NB302_312 := Yn BK302 hg
               have NB312_302 := Ym BK302 hg
               replace BK302 := Yb BK302 hb
               clear hb hbox hg
               refine hK.out _ _ trivial (fun hHeld => ?_)
               clear hK K
               refine norm_ (a' := ?_) ?_ ?_
               rotate_left
               ·show Act.put _ (some 4) _ = _
                simp only [Act.put, Z0, Z1, Z2, i64_w, i32_w]
                rfl
               exact norm_ Q3 (hJ8 (gb312) _ ⟨(Yk BK302.out), (Yk BK312.out), GW312.out, GE312.out, NB302_312.out, NB312_302.out, Q0⟩)
             ·skip
              rintro gb312 w9 ⟨h0_, h1_, h2_, h3_, h4_, h5_, h6_⟩
              replace BK302 : Aside0 (w9.heap[gb302]? = some (.cells #[.slice none 0 0, .slice none 0 0, .slice none 0 0, .slice none 0 0] 27 (0, 0))) := ⟨h0_⟩
              have BK312 : Aside0 (w9.heap[gb312]? = some (.cells #[.slice none 0 0, .slice none 0 0, .slice none 0 0, .slice none 0 0] 27 (0, 0))) := ⟨h1_⟩
              have GW312 : Aside0 (w.heap.size ≤ gb312) := ⟨h2_⟩
              have GE312 : Aside0 (w.heap.size ≤ gb312) := ⟨h3_⟩
              have NB302_312 : Aside0 (gb302 ≠ gb312) := ⟨h4_⟩
              have NB312_302 : Aside0 (gb312 ≠ gb302) := ⟨h5_⟩
              replace HB : Aside0 (Below w.heap.size w w9) := ⟨h6_⟩
              clear h0_ h1_ h2_ h3_ h4_ h5_ h6_
              have hHeld := trivial
              refine norm_ (a' := ?_) ?_ ?_
              rotate_left
              ·simp only [putAll, Act.put, Z0, Z1, Z2]
               rfl
              refine two_ (i := 1) (j := 3) (Ni := some 8) (Nj := some 10) (YA 10 311) (YA 10 317) rfl rfl rfl rfl (two_of HT_.out (by kernel_rfl)) (by decide) (by decide) (fun K hK => ?_) (fun K hK => ?_)
              ·skip
               refine goes_ Try.func56 (by kernel_rfl) rfl #[.slice A0 l0.length c0] (by rfl) rfl rfl Q4 ?_
               with_reducible refine (impl_copied.calls _ _ l0 t303 _ ?side1 ?side2 A2.out).mono ?_
               (case side1 => exact Yc (Z22 HR0.out HB.out))
               (case side2 => exact HC0.out)
               rintro e w10 ⟨v304, rfl, ho0, hb⟩
               refine ⟨_, rfl, ?_⟩
               have HO305 := Yl ho0
               replace BK302 := Yb BK302 hb
               replace BK312 := Yb BK312 hb
               replace HB := Yh hb
               (try clear hb ho0)
               refine hK.out _ _ trivial (fun hHeld => ?_)
               clear hK K
               refine norm_ (a' := ?_) ?_ ?_
               rotate_left
               ·show Act.put _ (some 8) _ = _
                simp only [Act.put, Z0, Z1, Z2, i64_w, i32_w]
                rfl
               exact norm_ Q3 (hJ1_8 (v304, gb312) _ ⟨(Yr HO305.out), (Yk BK302.out), (Yk BK312.out), GW312.out, GE312.out, NB302_312.out, NB312_302.out, Q0⟩)
              ·skip
               refine Kd.R_make_step (Kd.int .i64) _ 3 (by rfl) (N := 10) rfl 22 _ _ rfl (l0.length : Int) rfl rfl Try.underlying22 (.int .i64 0) 8 info3 rfl (by decide) (by omega) 0 (ok := fun _ => True) (okp := fun _ => True) rfl (fun _ hk => hk) trivial (Z30 Q1) (Nat.le_trans (Nat.mul_le_mul_right _ (Z30 Q1 : (l0.length : Int).toNat ≤ 35184372088832)) (by omega)) (Below.refl _ _) (Nat.le_refl _) ?_
               intro v307 w10 ho11 hb hg_ hnew_
               clear hg_ hnew_
               (first | rw [← Ny306.out] at ho11 | (simp only [Int.reduceToNat] at ho11; rw [← Ny306.out] at ho11))
               have HO308 := Yl ho11
               replace BK302 := Yb BK302 hb
               replace BK312 := Yb BK312 hb
               replace HB := Yh hb
               clear hb ho11
               refine hK.out _ _ trivial (fun hHeld => ?_)
               clear hK K
               refine norm_ (a' := ?_) ?_ ?_
               rotate_left
               ·show Act.put _ (some 10) _ = _
                simp only [Act.put, Z0, Z1, Z2, i64_w, i32_w]
                rfl
               exact norm_ Q3 (hJ3_8 (v307, gb312) _ ⟨(Yr HO308.out), (Yk BK302.out), (Yk BK312.out), GW312.out, GE312.out, NB302_312.out, NB312_302.out, Q0⟩)
            ·skip
             rintro v307 w10 ⟨h0_, h1_, h2_⟩
             have HO308 : Aside0 (Kd.R (Kd.int .i64) 3 w10 w.heap.size (fun _ => True) v307 y306) := ⟨h0_⟩
             replace BK302 : Aside0 (w10.heap[gb302]? = some (.cells #[.slice none 0 0, .slice none 0 0, .slice none 0 0, .slice none 0 0] 27 (0, 0))) := ⟨h1_⟩
             replace HB : Aside0 (Below w.heap.size w w10) := ⟨h2_⟩
             clear h0_ h1_ h2_
             have hHeld := trivial
             refine norm_ (a' := ?_) ?_ ?_
             rotate_left
             ·simp only [putAll, Act.put, Z0, Z1, Z2]
              rfl
             refine two_ (i := 1) (j := 8) (Ni := some 8) (Nj := some 4) (YA 10 63) (YA 10 317) rfl rfl rfl rfl (two_of HT_.out (by kernel_rfl)) (by decide) (by decide) (fun K hK => ?_) (fun K hK => ?_)
             ·skip
              refine goes_ Try.func56 (by kernel_rfl) rfl #[.slice A0 l0.length c0] (by rfl) rfl rfl Q4 ?_
              with_reducible refine (impl_copied.calls _ _ l0 t303 _ ?side1 ?side2 A2.out).mono ?_
              (case side1 => exact Yc (Z22 HR0.out HB.out))
              (case side2 => exact HC0.out)
              rintro e w11 ⟨v304, rfl, ho0, hb⟩
              refine ⟨_, rfl, ?_⟩
              have HO305 := Yl (Kd.R_new' ho0 (Z17 (Yr HO308.out)))
              replace HO308 := Ya (Kd.R_elder' (Yr HO308.out) (Kd.R_base ho0) hb)
              replace BK302 := Yb BK302 hb
              replace HB := Yh hb
              (try clear hb ho0)
              refine hK.out _ _ trivial (fun hHeld => ?_)
              clear hK K
              refine norm_ (a' := ?_) ?_ ?_
              rotate_left
              ·show Act.put _ (some 8) _ = _
               simp only [Act.put, Z0, Z1, Z2, i64_w, i32_w]
               rfl
              exact norm_ Q3 (hJ1_3 (v304, v307) _ ⟨Q58, Q110, (Yk BK302.out), Q0⟩)
             ·skip
              refine Yy 4 #[.slice none 0 0, .slice none 0 0, .slice none 0 0, .slice none 0 0] 27 ?_
              intro gb312 hg w11 hbox hb
              replace HO308 := Yw HO308 hb
              have BK312 := Ya hbox
              have GW312 := Yg hg
              have GE312 := GW312
              replace HB := Yh hb
              have NB302_312 := Yn BK302 hg
              have NB312_302 := Ym BK302 hg
              replace BK302 := Yb BK302 hb
              clear hb hbox hg
              refine hK.out _ _ trivial (fun hHeld => ?_)
              clear hK K
              refine norm_ (a' := ?_) ?_ ?_
              rotate_left
              ·show Act.put _ (some 4) _ = _
               simp only [Act.put, Z0, Z1, Z2, i64_w, i32_w]
               rfl
              exact norm_ Q3 (hJ3_8 (v307, gb312) _ ⟨(Yr HO308.out), (Yk BK302.out), (Yk BK312.out), GW312.out, GE312.out, NB302_312.out, NB312_302.out, Q0⟩)
           ·skip
            rintro v304 w9 ⟨h0_, h1_, h2_⟩
            have HO305 : Aside0 (Kd.R (Kd.int .i64) 3 w9 w.heap.size (fun _ => True) v304 t303) := ⟨h0_⟩
            replace BK302 : Aside0 (w9.heap[gb302]? = some (.cells #[.slice none 0 0, .slice none 0 0, .slice none 0 0, .slice none 0 0] 27 (0, 0))) := ⟨h1_⟩
            replace HB : Aside0 (Below w.heap.size w w9) := ⟨h2_⟩
            clear h0_ h1_ h2_
            have hHeld := trivial
            refine norm_ (a' := ?_) ?_ ?_
            rotate_left
            ·simp only [putAll, Act.put, Z0, Z1, Z2]
             rfl
            refine three_ (i := 3) (j := 6) (k := 8) (Ni := some 10) (Nj := some 13) (Nk := some 4) (YA 10 63) (YA 10 119) (YA 10 311) rfl rfl rfl rfl rfl rfl (three_of HT_.out (by kernel_rfl)) (by decide) (by decide) (by decide) (fun K hK => ?_) (fun K hK => ?_) (fun K hK => ?_)
            ·skip
             refine Kd.R_make_step (Kd.int .i64) _ 3 (by rfl) (N := 10) rfl 22 _ _ rfl (l0.length : Int) rfl rfl Try.underlying22 (.int .i64 0) 8 info3 rfl (by decide) (by omega) 0 (ok := fun _ => True) (okp := fun _ => True) rfl (fun _ hk => hk) trivial (Z30 Q1) (Nat.le_trans (Nat.mul_le_mul_right _ (Z30 Q1 : (l0.length : Int).toNat ≤ 35184372088832)) (by omega)) (Below.refl _ _) (Nat.le_refl _) ?_
             intro v307 w10 ho11 hb hg_ hnew_
             clear hg_ hnew_
             (first | rw [← Ny306.out] at ho11 | (simp only [Int.reduceToNat] at ho11; rw [← Ny306.out] at ho11))
             have HO308 := Yl (Kd.R_new' ho11 (Z17 (Yr HO305.out)))
             replace HO305 := Ya (Kd.R_elder' (Yr HO305.out) (Kd.R_base ho11) hb)
             replace BK302 := Yb BK302 hb
             replace HB := Yh hb
             clear hb ho11
             refine hK.out _ _ trivial (fun hHeld => ?_)
             clear hK K
             refine norm_ (a' := ?_) ?_ ?_
             rotate_left
             ·show Act.put _ (some 10) _ = _
              simp only [Act.put, Z0, Z1, Z2, i64_w, i32_w]
              rfl
             exact norm_ Q3 (hJ1_3 (v304, v307) _ ⟨Q58, Q110, (Yk BK302.out), Q0⟩)
            ·skip
             refine goes_ Try.func72 (by kernel_rfl) rfl #[.int .i64 (wrap64 ((l0.length : Int) + 1))] (by rfl) rfl rfl Q4 ?_
             with_reducible refine (impl_identity.calls k (wrap64 ((l0.length : Int) + 1)) t309 _ A5.out).mono ?_
             rintro e w10 ⟨v310, rfl, ho0, hb⟩
             refine ⟨_, rfl, ?_⟩
             have HO311 := Yl (Kd.R_new' ho0 (Z17 (Yr HO305.out)))
             replace HO305 := Ya (Kd.R_elder' (Yr HO305.out) (Kd.R_base ho0) hb)
             replace BK302 := Yb BK302 hb
             replace HB := Yh hb
             (try clear hb ho0)
             refine hK.out _ _ trivial (fun hHeld => ?_)
             clear hK K
             refine norm_ (a' := ?_) ?_ ?_
             rotate_left
             ·show Act.put _ (some 13) _ = _
              simp only [Act.put, Z0, Z1, Z2, i64_w, i32_w]
              rfl
             exact norm_ Q3 (hJ1_6 (v304, v310) _ ⟨Q58, (by (with_reducible repeat (first | apply Z8 | apply Z9 | apply Z10)); exact Z11 HO311.out (fun _ hk => hk.2)), (Yk BK302.out), Q0⟩)
            ·skip
             refine Yy 4 #[.slice none 0 0, .slice none 0 0, .slice none 0 0, .slice none 0 0] 27 ?_
             intro gb312 hg w10 hbox hb
             replace HO305 := Yw HO305 hb
             have BK312 := Ya hbox
             have GW312 := Yg hg
             have GE312 := GW312
             replace HB := Yh hb
             have NB302_312 := Yn BK302 hg
             have NB312_302 := Ym BK302 hg
             replace BK302 := Yb BK302 hb
             clear hb hbox hg
             refine hK.out _ _ trivial (fun hHeld => ?_)
             clear hK K
             refine norm_ (a' := ?_) ?_ ?_
             rotate_left
             ·show Act.put _ (some 4) _ = _
              simp only [Act.put, Z0, Z1, Z2, i64_w, i32_w]
              rfl
             exact norm_ Q3 (hJ1_8 (v304, gb312) _ ⟨(Yr HO305.out), (Yk BK302.out), (Yk BK312.out), GW312.out, GE312.out, NB302_312.out, NB312_302.out, Q0⟩)
          ·skip
           rintro ⟨v307, gb312⟩ w11 ⟨h0_, h1_, h2_, h3_, h4_, h5_, h6_, h7_⟩
           have HO308 : Aside0 (Kd.R (Kd.int .i64) 3 w11 w.heap.size (fun _ => True) v307 y306) := ⟨h0_⟩
           replace BK302 : Aside0 (w11.heap[gb302]? = some (.cells #[.slice none 0 0, .slice none 0 0, .slice none 0 0, .slice none 0 0] 27 (0, 0))) := ⟨h1_⟩
           have BK312 : Aside0 (w11.heap[gb312]? = some (.cells #[.slice none 0 0, .slice none 0 0, .slice none 0 0, .slice none 0 0] 27 (0, 0))) := ⟨h2_⟩
           have GW312 : Aside0 (w.heap.size ≤ gb312) := ⟨h3_⟩
           have GE312 : Aside0 (w.heap.size ≤ gb312) := ⟨h4_⟩
           have NB302_312 : Aside0 (gb302 ≠ gb312) := ⟨h5_⟩
           have NB312_302 : Aside0 (gb312 ≠ gb302) := ⟨h6_⟩
           replace HB : Aside0 (Below w.heap.size w w11) := ⟨h7_⟩
           clear h0_ h1_ h2_ h3_ h4_ h5_ h6_ h7_
           have hHeld := trivial
           refine norm_ (a' := ?_) ?_ ?_
           rotate_left
           ·simp only [putAll, Act.put, Z0, Z1, Z2]
            rfl
           refine one_ (i := 1) (N := some 8) (YA 10 319) rfl rfl (one_of HT_.out (by kernel_rfl)) (by decide) (fun K hK => ?_)
           refine goes_ Try.func56 (by kernel_rfl) rfl #[.slice A0 l0.length c0] (by rfl) rfl rfl Q4 ?_
           with_reducible refine (impl_copied.calls _ _ l0 t303 _ ?side1 ?side2 A2.out).mono ?_
           (case side1 => exact Yc (Z22 HR0.out HB.out))
           (case side2 => exact HC0.out)
           rintro e w12 ⟨v304, rfl, ho0, hb⟩
           refine ⟨_, rfl, ?_⟩
           have HO305 := Yl (Kd.R_new' ho0 (Z17 (Yr HO308.out)))
           replace HO308 := Ya (Kd.R_elder' (Yr HO308.out) (Kd.R_base ho0) hb)
           replace BK302 := Yb BK302 hb
           replace BK312 := Yb BK312 hb
           replace HB := Yh hb
           (try clear hb ho0)
           refine hK.out _ _ trivial (fun hHeld => ?_)
           clear hK K
           refine norm_ (a' := ?_) ?_ ?_
           rotate_left
           ·show Act.put _ (some 8) _ = _
            simp only [Act.put, Z0, Z1, Z2, i64_w, i32_w]
            rfl
           exact norm_ Q3 (hJ1_3_8 (v304, v307, gb312) _ ⟨Q58, Q110, (Yk BK302.out), (Yk BK312.out), GW312.out, GE312.out, NB302_312.out, NB312_302.out, Q0⟩)
         ·skip
          rintro ⟨v304, gb312⟩ w10 ⟨h0_, h1_, h2_, h3_, h4_, h5_, h6_, h7_⟩
          have HO305 : Aside0 (Kd.R (Kd.int .i64) 3 w10 w.heap.size (fun _ => True) v304 t303) := ⟨h0_⟩
          replace BK302 : Aside0 (w10.heap[gb302]? = some (.cells #[.slice none 0 0, .slice none 0 0, .slice none 0 0, .slice none 0 0] 27 (0, 0))) := ⟨h1_⟩
          have BK312 : Aside0 (w10.heap[gb312]? = some (.cells #[.slice none 0 0, .slice none 0 0, .slice none 0 0, .slice none 0 0] 27 (0, 0))) := ⟨h2_⟩
          have GW312 : Aside0 (w.heap.size ≤ gb312) := ⟨h3_⟩
          have GE312 : Aside0 (w.heap.size ≤ gb312) := ⟨h4_⟩
          have NB302_312 : Aside0 (gb302 ≠ gb312) := ⟨h5_⟩
          have NB312_302 : Aside0 (gb312 ≠ gb302) := ⟨h6_⟩
          replace HB : Aside0 (Below w.heap.size w w10) := ⟨h7_⟩
          clear h0_ h1_ h2_ h3_ h4_ h5_ h6_ h7_
          have hHeld := trivial
          refine norm_ (a' := ?_) ?_ ?_
          rotate_left
          ·simp only [putAll, Act.put, Z0, Z1, Z2]
           rfl
          refine two_ (i := 3) (j := 6) (Ni := some 10) (Nj := some 13) (YA 10 319) (YA 10 375) rfl rfl rfl rfl (two_of HT_.out (by kernel_rfl)) (by decide) (by decide) (fun K hK => ?_) (fun K hK => ?_)
          ·skip
           refine Kd.R_make_step (Kd.int .i64) _ 3 (by rfl) (N := 10) rfl 22 _ _ rfl (l0.length : Int) rfl rfl Try.underlying22 (.int .i64 0) 8 info3 rfl (by decide) (by omega) 0 (ok := fun _ => True) (okp := fun _ => True) rfl (fun _ hk => hk) trivial (Z30 Q1) (Nat.le_trans (Nat.mul_le_mul_right _ (Z30 Q1 : (l0.length : Int).toNat ≤ 35184372088832)) (by omega)) (Below.refl _ _) (Nat.le_refl _) ?_
           intro v307 w11 ho12 hb hg_ hnew_
           clear hg_ hnew_
           (first | rw [← Ny306.out] at ho12 | (simp only [Int.reduceToNat] at ho12; rw [← Ny306.out] at ho12))
           have HO308 := Yl (Kd.R_new' ho12 (Z17 (Yr HO305.out)))
           replace HO305 := Ya (Kd.R_elder' (Yr HO305.out) (Kd.R_base ho12) hb)
           replace BK302 := Yb BK302 hb
           replace BK312 := Yb BK312 hb
           replace HB := Yh hb
           clear hb ho12
           refine hK.out _ _ trivial (fun hHeld => ?_)
           clear hK K
           refine norm_ (a' := ?_) ?_ ?_
           rotate_left
           ·show Act.put _ (some 10) _ = _
            simp only [Act.put, Z0, Z1, Z2, i64_w, i32_w]
            rfl
           exact norm_ Q3 (hJ1_3_8 (v304, v307, gb312) _ ⟨Q58, Q110, (Yk BK302.out), (Yk BK312.out), GW312.out, GE312.out, NB302_312.out, NB312_302.out, Q0⟩)
          ·skip
           refine goes_ Try.func72 (by kernel_rfl) rfl #[.int .i64 (wrap64 ((l0.length : Int) + 1))] (by rfl) rfl rfl Q4 ?_
           with_reducible refine (impl_identity.calls k (wrap64 ((l0.length : Int) + 1)) t309 _ A5.out).mono ?_
           rintro e w11 ⟨v310, rfl, ho0, hb⟩
           refine ⟨_, rfl, ?_⟩
           have HO311 := Yl (Kd.R_new' ho0 (Z17 (Yr HO305.out)))
           replace HO305 := Ya (Kd.R_elder' (Yr HO305.out) (Kd.R_base ho0) hb)
           replace BK302 := Yb BK302 hb
           replace BK312 := Yb BK312 hb
           replace HB := Yh hb
           (try clear hb ho0)
           refine hK.out _ _ trivial (fun hHeld => ?_)
           clear hK K
           refine norm_ (a' := ?_) ?_ ?_
           rotate_left
           ·show Act.put _ (some 13) _ = _
            simp only [Act.put, Z0, Z1, Z2, i64_w, i32_w]
            rfl
           exact norm_ Q3 (hJ1_6_8 (v304, v310, gb312) _ ⟨Q58, (by (with_reducible repeat (first | apply Z8 | apply Z9 | apply Z10)); exact Z11 HO311.out (fun _ hk => hk.2)), (Yk BK302.out), (Yk BK312.out), GW312.out, GE312.out, NB302_312.out, NB312_302.out, Q0⟩)
        ·skip
         rintro ⟨v304, v310⟩ w10 ⟨h0_, h1_, h2_, h3_⟩
         have HO305 : Aside0 (Kd.R (Kd.int .i64) 3 w10 w.heap.size (fun k_ => some k_ ≠ (v310 : Value).ownBlock) v304 t303) := ⟨h0_⟩
         have HO311 : Aside0 (Kd.R (Kd.int .i64) 3 w10 w.heap.size (fun k_ => some k_ ≠ (v304 : Value).ownBlock) v310 t309) := ⟨h1_⟩
         replace BK302 : Aside0 (w10.heap[gb302]? = some (.cells #[.slice none 0 0, .slice none 0 0, .slice none 0 0, .slice none 0 0] 27 (0, 0))) := ⟨h2_⟩
         replace HB : Aside0 (Below w.heap.size w w10) := ⟨h3_⟩
         clear h0_ h1_ h2_ h3_
         have hHeld := trivial
         refine norm_ (a' := ?_) ?_ ?_
         rotate_left
         ·simp only [putAll, Act.put, Z0, Z1, Z2]
          rfl
         refine two_ (i := 3) (j := 8) (Ni := some 10) (Nj := some 4) (YA 10 127) (YA 10 375) rfl rfl rfl rfl (two_of HT_.out (by kernel_rfl)) (by decide) (by decide) (fun K hK => ?_) (fun K hK => ?_)
         ·skip
          refine Kd.R_make_step (Kd.int .i64) _ 3 (by rfl) (N := 10) rfl 22 _ _ rfl (l0.length : Int) rfl rfl Try.underlying22 (.int .i64 0) 8 info3 rfl (by decide) (by omega) 0 (ok := fun _ => True) (okp := fun _ => True) rfl (fun _ hk => hk) trivial (Z30 Q1) (Nat.le_trans (Nat.mul_le_mul_right _ (Z30 Q1 : (l0.length : Int).toNat ≤ 35184372088832)) (by omega)) (Below.refl _ _) (Nat.le_refl _) ?_
          intro v307 w11 ho12 hb hg_ hnew_
          clear hg_ hnew_
          (first | rw [← Ny306.out] at ho12 | (simp only [Int.reduceToNat] at ho12; rw [← Ny306.out] at ho12))
          have HO308 := Yl (Kd.R_new' (Kd.R_new' ho12 (Z17 (Yr HO305.out))) (Z17 (Yr HO311.out)))
          replace HO305 := Ya (Kd.R_elder' (Yr HO305.out) (Kd.R_base ho12) hb)
          replace HO311 := Ya (Kd.R_elder' (Yr HO311.out) (Kd.R_base ho12) hb)
          replace BK302 := Yb BK302 hb
          replace HB := Yh hb
          clear hb ho12
          obtain ⟨Ao13, co13, eo13⟩ := Z18 HO311.out
          (first | subst eo13 | (injection eo13 with f1_ f2_ f3_; have f4_ := f1_.symm; have f5_ := f3_.symm; clear f1_ f2_ f3_; subst f4_; subst f5_))
          obtain ⟨Ao14, co14, eo14⟩ := Z18 HO308.out
          (first | subst eo14 | (injection eo14 with f1_ f2_ f3_; have f4_ := f1_.symm; have f5_ := f3_.symm; clear f1_ f2_ f3_; subst f4_; subst f5_))
          obtain ⟨Ao15, co15, eo15⟩ := Z18 HO305.out
          (first | subst eo15 | (injection eo15 with f1_ f2_ f3_; have f4_ := f1_.symm; have f5_ := f3_.symm; clear f1_ f2_ f3_; subst f4_; subst f5_))
          refine hK.out _ _ trivial (fun hHeld => ?_)
          clear hK K
          refine norm_ (a' := ?_) ?_ ?_
          rotate_left
          ·show Act.put _ (some 10) _ = _
           simp only [Act.put, Z0, Z1, Z2, i64_w, i32_w]
           rfl
          refine Yp 7 (some 14) (YA 10 255) rfl HT_.out ?_
          exact norm_ Q3 (hJ1_3_6 (.slice Ao15 t303.length co15, .slice Ao14 y306.length co14, .slice Ao13 t309.length co13) _ ⟨Q163, Q160, (Yr HO311.out), (Yk BK302.out), Q0⟩)
         ·skip
          refine Yy 4 #[.slice none 0 0, .slice none 0 0, .slice none 0 0, .slice none 0 0] 27 ?_
          intro gb312 hg w11 hbox hb
          replace HO305 := Yw HO305 hb
          replace HO311 := Yw HO311 hb
          have BK312 := Ya hbox
          have GW312 := Yg hg
          have GE312 := GW312
          replace HB := Yh hb
          have NB302_312 := Yn BK302 hg
          have NB312_302 := Ym BK302 hg
          replace BK302 := Yb BK302 hb
          clear hb hbox hg
          refine hK.out _ _ trivial (fun hHeld => ?_)
          clear hK K
          refine norm_ (a' := ?_) ?_ ?_
          rotate_left
          ·show Act.put _ (some 4) _ = _
           simp only [Act.put, Z0, Z1, Z2, i64_w, i32_w]
           rfl
          exact norm_ Q3 (hJ1_6_8 (v304, v310, gb312) _ ⟨(Yr HO305.out), (Yr HO311.out), (Yk BK302.out), (Yk BK312.out), GW312.out, GE312.out, NB302_312.out, NB312_302.out, Q0⟩)
       ·skip
        rintro ⟨v304, v307⟩ w11 ⟨h0_, h1_, h2_, h3_⟩
        have HO305 : Aside0 (Kd.R (Kd.int .i64) 3 w11 w.heap.size (fun k_ => some k_ ≠ (v307 : Value).ownBlock) v304 t303) := ⟨h0_⟩
        have HO308 : Aside0 (Kd.R (Kd.int .i64) 3 w11 w.heap.size (fun k_ => some k_ ≠ (v304 : Value).ownBlock) v307 y306) := ⟨h1_⟩
        replace BK302 : Aside0 (w11.heap[gb302]? = some (.cells #[.slice none 0 0, .slice none 0 0, .slice none 0 0, .slice none 0 0] 27 (0, 0))) := ⟨h2_⟩
        replace HB : Aside0 (Below w.heap.size w w11) := ⟨h3_⟩
        clear h0_ h1_ h2_ h3_
        have hHeld := trivial
        refine norm_ (a' := ?_) ?_ ?_
        rotate_left
        ·simp only [putAll, Act.put, Z0, Z1, Z2]
         rfl
        refine two_ (i := 6) (j := 8) (Ni := some 13) (Nj := some 4) (YA 10 127) (YA 10 319) rfl rfl rfl rfl (two_of HT_.out (by kernel_rfl)) (by decide) (by decide) (fun K hK => ?_) (fun K hK => ?_)
        ·skip
         refine goes_ Try.func72 (by kernel_rfl) rfl #[.int .i64 (wrap64 ((l0.length : Int) + 1))] (by rfl) rfl rfl Q4 ?_
         with_reducible refine (impl_identity.calls k (wrap64 ((l0.length : Int) + 1)) t309 _ A5.out).mono ?_
         rintro e w12 ⟨v310, rfl, ho0, hb⟩
         refine ⟨_, rfl, ?_⟩
         have HO311 := Yl (Kd.R_new' (Kd.R_new' ho0 (Z17 (Yr HO305.out))) (Z17 (Yr HO308.out)))
         replace HO305 := Ya (Kd.R_elder' (Yr HO305.out) (Kd.R_base ho0) hb)
         replace HO308 := Ya (Kd.R_elder' (Yr HO308.out) (Kd.R_base ho0) hb)
         replace BK302 := Yb BK302 hb
         replace HB := Yh hb
         (try clear hb ho0)
         obtain ⟨Ao13, co13, eo13⟩ := Z18 HO311.out
         (first | subst eo13 | (injection eo13 with f1_ f2_ f3_; have f4_ := f1_.symm; have f5_ := f3_.symm; clear f1_ f2_ f3_; subst f4_; subst f5_))
         obtain ⟨Ao14, co14, eo14⟩ := Z18 HO308.out
         (first | subst eo14 | (injection eo14 with f1_ f2_ f3_; have f4_ := f1_.symm; have f5_ := f3_.symm; clear f1_ f2_ f3_; subst f4_; subst f5_))
         obtain ⟨Ao15, co15, eo15⟩ := Z18 HO305.out
         (first | subst eo15 | (injection eo15 with f1_ f2_ f3_; have f4_ := f1_.symm; have f5_ := f3_.symm; clear f1_ f2_ f3_; subst f4_; subst f5_))
         refine hK.out _ _ trivial (fun hHeld => ?_)
         clear hK K
         refine norm_ (a' := ?_) ?_ ?_
         rotate_left
         ·show Act.put _ (some 13) _ = _
          simp only [Act.put, Z0, Z1, Z2, i64_w, i32_w]
          rfl
         refine Yp 7 (some 14) (YA 10 255) rfl HT_.out ?_
         exact norm_ Q3 (hJ1_3_6 (.slice Ao15 t303.length co15, .slice Ao14 y306.length co14, .slice Ao13 t309.length co13) _ ⟨(Yr HO305.out), (Yr HO308.out), Q159, (Yk BK302.out), Q0⟩)
        ·skip
         refine Yy 4 #[.slice none 0 0, .slice none 0 0, .slice none 0 0, .slice none 0 0] 27 ?_
         intro gb312 hg w12 hbox hb
         replace HO305 := Yw HO305 hb
         replace HO308 := Yw HO308 hb
         have BK312 := Ya hbox
         have GW312 := Yg hg
         have GE312 := GW312
         replace HB := Yh hb
         have NB302_312 := Yn BK302 hg
         have NB312_302 := Ym BK302 hg
         replace BK302 := Yb BK302 hb
         clear hb hbox hg
         refine hK.out _ _ trivial (fun hHeld => ?_)
         clear hK K
         refine norm_ (a' := ?_) ?_ ?_
         rotate_left
         ·show Act.put _ (some 4) _ = _
          simp only [Act.put, Z0, Z1, Z2, i64_w, i32_w]
          rfl
         exact norm_ Q3 (hJ1_3_8 (v304, v307, gb312) _ ⟨(Yr HO305.out), (Yr HO308.out), (Yk BK302.out), (Yk BK312.out), GW312.out, GE312.out, NB302_312.out, NB312_302.out, Q0⟩)
      ·skip
       rintro ⟨v304, v310, gb312⟩ w11 ⟨h0_, h1_, h2_, h3_, h4_, h5_, h6_, h7_, h8_⟩
       have HO305 : Aside0 (Kd.R (Kd.int .i64) 3 w11 w.heap.size (fun k_ => some k_ ≠ (v310 : Value).ownBlock) v304 t303) := ⟨h0_⟩
       have HO311 : Aside0 (Kd.R (Kd.int .i64) 3 w11 w.heap.size (fun k_ => some k_ ≠ (v304 : Value).ownBlock) v310 t309) := ⟨h1_⟩
       replace BK302 : Aside0 (w11.heap[gb302]? = some (.cells #[.slice none 0 0, .slice none 0 0, .slice none 0 0, .slice none 0 0] 27 (0, 0))) := ⟨h2_⟩
       have BK312 : Aside0 (w11.heap[gb312]? = some (.cells #[.slice none 0 0, .slice none 0 0, .slice none 0 0, .slice none 0 0] 27 (0, 0))) := ⟨h3_⟩
       have GW312 : Aside0 (w.heap.size ≤ gb312) := ⟨h4_⟩
       have GE312 : Aside0 (w.heap.size ≤ gb312) := ⟨h5_⟩
       have NB302_312 : Aside0 (gb302 ≠ gb312) := ⟨h6_⟩
       have NB312_302 : Aside0 (gb312 ≠ gb302) := ⟨h7_⟩
       replace HB : Aside0 (Below w.heap.size w w11) := ⟨h8_⟩
       clear h0_ h1_ h2_ h3_ h4_ h5_ h6_ h7_ h8_
       have hHeld := trivial
       refine norm_ (a' := ?_) ?_ ?_
       rotate_left
       ·simp only [putAll, Act.put, Z0, Z1, Z2]
        rfl
       refine one_ (i := 3) (N := some 10) (YA 10 383) rfl rfl (one_of HT_.out (by kernel_rfl)) (by decide) (fun K hK => ?_)
       refine Kd.R_make_step (Kd.int .i64) _ 3 (by rfl) (N := 10) rfl 22 _ _ rfl (l0.length : Int) rfl rfl Try.underlying22 (.int .i64 0) 8 info3 rfl (by decide) (by omega) 0 (ok := fun _ => True) (okp := fun _ => True) rfl (fun _ hk => hk) trivial (Z30 Q1) (Nat.le_trans (Nat.mul_le_mul_right _ (Z30 Q1 : (l0.length : Int).toNat ≤ 35184372088832)) (by omega)) (Below.refl _ _) (Nat.le_refl _) ?_
       intro v307 w12 ho13 hb hg_ hnew_
       clear hg_ hnew_
       (first | rw [← Ny306.out] at ho13 | (simp only [Int.reduceToNat] at ho13; rw [← Ny306.out] at ho13))
       have HO308 := Yl (Kd.R_new' (Kd.R_new' ho13 (Z17 (Yr HO305.out))) (Z17 (Yr HO311.out)))
       replace HO305 := Ya (Kd.R_elder' (Yr HO305.out) (Kd.R_base ho13) hb)
       replace HO311 := Ya (Kd.R_elder' (Yr HO311.out) (Kd.R_base ho13) hb)
       replace BK302 := Yb BK302 hb
       replace BK312 := Yb BK312 hb
       replace HB := Yh hb
       clear hb ho13
       obtain ⟨Ao14, co14, eo14⟩ := Z18 HO311.out
       (first | subst eo14 | (injection eo14 with f1_ f2_ f3_; have f4_ := f1_.symm; have f5_ := f3_.symm; clear f1_ f2_ f3_; subst f4_; subst f5_))
       obtain ⟨Ao15, co15, eo15⟩ := Z18 HO308.out
       (first | subst eo15 | (injection eo15 with f1_ f2_ f3_; have f4_ := f1_.symm; have f5_ := f3_.symm; clear f1_ f2_ f3_; subst f4_; subst f5_))
       obtain ⟨Ao16, co16, eo16⟩ := Z18 HO305.out
       (first | subst eo16 | (injection eo16 with f1_ f2_ f3_; have f4_ := f1_.symm; have f5_ := f3_.symm; clear f1_ f2_ f3_; subst f4_; subst f5_))
       refine hK.out _ _ trivial (fun hHeld => ?_)
       clear hK K
       refine norm_ (a' := ?_) ?_ ?_
       rotate_left
       ·show Act.put _ (some 10) _ = _
        simp only [Act.put, Z0, Z1, Z2, i64_w, i32_w]
        rfl
       refine Yp 7 (some 14) (YA 10 511) rfl HT_.out ?_
       exact norm_ Q3 (hJ1_3_6_8 (.slice Ao16 t303.length co16, .slice Ao15 y306.length co15, .slice Ao14 t309.length co14, gb312) _ ⟨Q163, Q160, (Yr HO311.out), (Yk BK302.out), (Yk BK312.out), GW312.out, GE312.out, NB302_312.out, NB312_302.out, Q0⟩)
     ·skip
      rintro ⟨v304, v307, gb312⟩ w12 ⟨h0_, h1_, h2_, h3_, h4_, h5_, h6_, h7_, h8_⟩
      have HO305 : Aside0 (Kd.R (Kd.int .i64) 3 w12 w.heap.size (fun k_ => some k_ ≠ (v307 : Value).ownBlock) v304 t303) := ⟨h0_⟩
      have HO308 : Aside0 (Kd.R (Kd.int .i64) 3 w12 w.heap.size (fun k_ => some k_ ≠ (v304 : Value).ownBlock) v307 y306) := ⟨h1_⟩
      replace BK302 : Aside0 (w12.heap[gb302]? = some (.cells #[.slice none 0 0, .slice none 0 0, .slice none 0 0, .slice none 0 0] 27 (0, 0))) := ⟨h2_⟩
      have BK312 : Aside0 (w12.heap[gb312]? = some (.cells #[.slice none 0 0, .slice none 0 0, .slice none 0 0, .slice none 0 0] 27 (0, 0))) := ⟨h3_⟩
      have GW312 : Aside0 (w.heap.size ≤ gb312) := ⟨h4_⟩
      have GE312 : Aside0 (w.heap.size ≤ gb312) := ⟨h5_⟩
      have NB302_312 : Aside0 (gb302 ≠ gb312) := ⟨h6_⟩
      have NB312_302 : Aside0 (gb312 ≠ gb302) := ⟨h7_⟩
      replace HB : Aside0 (Below w.heap.size w w12) := ⟨h8_⟩
      clear h0_ h1_ h2_ h3_ h4_ h5_ h6_ h7_ h8_
      have hHeld := trivial
      refine norm_ (a' := ?_) ?_ ?_
      rotate_left
      ·simp only [putAll, Act.put, Z0, Z1, Z2]
       rfl
      refine one_ (i := 6) (N := some 13) (YA 10 383) rfl rfl (one_of HT_.out (by kernel_rfl)) (by decide) (fun K hK => ?_)
      refine goes_ Try.func72 (by kernel_rfl) rfl #[.int .i64 (wrap64 ((l0.length : Int) + 1))] (by rfl) rfl rfl Q4 ?_
      with_reducible refine (impl_identity.calls k (wrap64 ((l0.length : Int) + 1)) t309 _ A5.out).mono ?_
      rintro e w13 ⟨v310, rfl, ho0, hb⟩
      refine ⟨_, rfl, ?_⟩
      have HO311 := Yl (Kd.R_new' (Kd.R_new' ho0 (Z17 (Yr HO305.out))) (Z17 (Yr HO308.out)))
      replace HO305 := Ya (Kd.R_elder' (Yr HO305.out) (Kd.R_base ho0) hb)
      replace HO308 := Ya (Kd.R_elder' (Yr HO308.out) (Kd.R_base ho0) hb)
      replace BK302 := Yb BK302 hb
      replace BK312 := Yb BK312 hb
      replace HB := Yh hb
      (try clear hb ho0)
      obtain ⟨Ao14, co14, eo14⟩ := Z18 HO311.out
      (first | subst eo14 | (injection eo14 with f1_ f2_ f3_; have f4_ := f1_.symm; have f5_ := f3_.symm; clear f1_ f2_ f3_; subst f4_; subst f5_))
      obtain ⟨Ao15, co15, eo15⟩ := Z18 HO308.out
      (first | subst eo15 | (injection eo15 with f1_ f2_ f3_; have f4_ := f1_.symm; have f5_ := f3_.symm; clear f1_ f2_ f3_; subst f4_; subst f5_))
      obtain ⟨Ao16, co16, eo16⟩ := Z18 HO305.out
      (first | subst eo16 | (injection eo16 with f1_ f2_ f3_; have f4_ := f1_.symm; have f5_ := f3_.symm; clear f1_ f2_ f3_; subst f4_; subst f5_))
      refine hK.out _ _ trivial (fun hHeld => ?_)
      clear hK K
      refine norm_ (a' := ?_) ?_ ?_
      rotate_left
      ·show Act.put _ (some 13) _ = _
       simp only [Act.put, Z0, Z1, Z2, i64_w, i32_w]
       rfl
      refine Yp 7 (some 14) (YA 10 511) rfl HT_.out ?_
      exact norm_ Q3 (hJ1_3_6_8 (.slice Ao16 t303.length co16, .slice Ao15 y306.length co15, .slice Ao14 t309.length co14, gb312) _ ⟨(Yr HO305.out), (Yr HO308.out), Q159, (Yk BK302.out), (Yk BK312.out), GW312.out, GE312.out, NB302_312.out, NB312_302.out, Q0⟩)
    ·skip
     rintro ⟨v304, v307, v310⟩ w15 ⟨h0_, h1_, h2_, h3_, h4_⟩
     have HO305 : Aside0 (Kd.R (Kd.int .i64) 3 w15 w.heap.size (fun k_ => some k_ ≠ (v307 : Value).ownBlock ∧ some k_ ≠ (v310 : Value).ownBlock) v304 t303) := ⟨h0_⟩
     have HO308 : Aside0 (Kd.R (Kd.int .i64) 3 w15 w.heap.size (fun k_ => some k_ ≠ (v304 : Value).ownBlock ∧ some k_ ≠ (v310 : Value).ownBlock) v307 y306) := ⟨h1_⟩
     have HO311 : Aside0 (Kd.R (Kd.int .i64) 3 w15 w.heap.size (fun k_ => some k_ ≠ (v304 : Value).ownBlock ∧ some k_ ≠ (v307 : Value).ownBlock) v310 t309) := ⟨h2_⟩
     replace BK302 : Aside0 (w15.heap[gb302]? = some (.cells #[.slice none 0 0, .slice none 0 0, .slice none 0 0, .slice none 0 0] 27 (0, 0))) := ⟨h3_⟩
     replace HB : Aside0 (Below w.heap.size w w15) := ⟨h4_⟩
     clear h0_ h1_ h2_ h3_ h4_
     have hHeld := trivial
     obtain ⟨Ao16, co16, eo16⟩ := Z18 HO311.out
     (first | subst eo16 | (injection eo16 with f1_ f2_ f3_; have f4_ := f1_.symm; have f5_ := f3_.symm; clear f1_ f2_ f3_; subst f4_; subst f5_))
     obtain ⟨Ao17, co17, eo17⟩ := Z18 HO308.out
     (first | subst eo17 | (injection eo17 with f1_ f2_ f3_; have f4_ := f1_.symm; have f5_ := f3_.symm; clear f1_ f2_ f3_; subst f4_; subst f5_))
     obtain ⟨Ao18, co18, eo18⟩ := Z18 HO305.out
     (first | subst eo18 | (injection eo18 with f1_ f2_ f3_; have f4_ := f1_.symm; have f5_ := f3_.symm; clear f1_ f2_ f3_; subst f4_; subst f5_))
     refine norm_ (a' := ?_) ?_ ?_
     rotate_left
     ·simp only [putAll, Act.put, Z0, Z1, Z2]
      rfl
     refine one_ (i := 8) (N := some 4) (YA 10 511) rfl rfl (one_of HT_.out (by kernel_rfl)) (by decide) (fun K hK => ?_)
     refine Yy 4 #[.slice none 0 0, .slice none 0 0, .slice none 0 0, .slice none 0 0] 27 ?_
     intro gb312 hg w19 hbox hb
     replace HO305 := Yw HO305 hb
     replace HO308 := Yw HO308 hb
     replace HO311 := Yw HO311 hb
     have BK312 := Ya hbox
     have GW312 := Yg hg
     have GE312 := GW312
     replace HB := Yh hb
     have NB302_312 := Yn BK302 hg
     have NB312_302 := Ym BK302 hg
     replace BK302 := Yb BK302 hb
     clear hb hbox hg
     refine hK.out _ _ trivial (fun hHeld => ?_)
     clear hK K
     refine norm_ (a' := ?_) ?_ ?_
     rotate_left
     ·show Act.put _ (some 4) _ = _
      simp only [Act.put, Z0, Z1, Z2, i64_w, i32_w]
      rfl
     exact norm_ Q3 (hJ1_3_6_8 (.slice Ao18 t303.length co18, .slice Ao17 y306.length co17, .slice Ao16 t309.length co16, gb312) _ ⟨(Yr HO305.out), (Yr HO308.out), (Yr HO311.out), (Yk BK302.out), (Yk BK312.out), GW312.out, GE312.out, NB302_312.out, NB312_302.out, Q0⟩)
   rintro ⟨v304, v307, v310, gb312⟩ w16 ⟨h0_, h1_, h2_, h3_, h4_, h5_, h6_, h7_, h8_, h9_⟩
   have HO305 : Aside0 (Kd.R (Kd.int .i64) 3 w16 w.heap.size (fun k_ => some k_ ≠ (v307 : Value).ownBlock ∧ some k_ ≠ (v310 : Value).ownBlock) v304 t303) := ⟨h0_⟩
   have HO308 : Aside0 (Kd.R (Kd.int .i64) 3 w16 w.heap.size (fun k_ => some k_ ≠ (v304 : Value).ownBlock ∧ some k_ ≠ (v310 : Value).ownBlock) v307 y306) := ⟨h1_⟩
   have HO311 : Aside0 (Kd.R (Kd.int .i64) 3 w16 w.heap.size (fun k_ => some k_ ≠ (v304 : Value).ownBlock ∧ some k_ ≠ (v307 : Value).ownBlock) v310 t309) := ⟨h2_⟩
   replace BK302 : Aside0 (w16.heap[gb302]? = some (.cells #[.slice none 0 0, .slice none 0 0, .slice none 0 0, .slice none 0 0] 27 (0, 0))) := ⟨h3_⟩
   have BK312 : Aside0 (w16.heap[gb312]? = some (.cells #[.slice none 0 0, .slice none 0 0, .slice none 0 0, .slice none 0 0] 27 (0, 0))) := ⟨h4_⟩
   have GW312 : Aside0 (w.heap.size ≤ gb312) := ⟨h5_⟩
   have GE312 : Aside0 (w.heap.size ≤ gb312) := ⟨h6_⟩
   have NB302_312 : Aside0 (gb302 ≠ gb312) := ⟨h7_⟩
   have NB312_302 : Aside0 (gb312 ≠ gb302) := ⟨h8_⟩
   replace HB : Aside0 (Below w.heap.size w w16) := ⟨h9_⟩
   clear h0_ h1_ h2_ h3_ h4_ h5_ h6_ h7_ h8_ h9_
   have hHeld := trivial
   obtain ⟨Ao17, co17, eo17⟩ := Z18 HO311.out
   (first | subst eo17 | (injection eo17 with f1_ f2_ f3_; have f4_ := f1_.symm; have f5_ := f3_.symm; clear f1_ f2_ f3_; subst f4_; subst f5_))
   obtain ⟨Ao18, co18, eo18⟩ := Z18 HO308.out
   (first | subst eo18 | (injection eo18 with f1_ f2_ f3_; have f4_ := f1_.symm; have f5_ := f3_.symm; clear f1_ f2_ f3_; subst f4_; subst f5_))
   obtain ⟨Ao19, co19, eo19⟩ := Z18 HO305.out
   (first | subst eo19 | (injection eo19 with f1_ f2_ f3_; have f4_ := f1_.symm; have f5_ := f3_.symm; clear f1_ f2_ f3_; subst f4_; subst f5_))
   refine norm_ (a' := ?_) ?_ ?_
   rotate_left
   ·simp only [putAll, Act.put, Z0, Z1, Z2]
    rfl
   refine one_ (i := 9) (N := none) (YA 10 1023) rfl rfl (one_of HT_.out (by kernel_rfl)) (by decide) (fun K hK => ?_)
   have hs20 : w16.cell? ⟨gb312, 0, none⟩ = some (.slice none 0 0) := (Z23 BK312.out 0).trans rfl
   have hfs20 := Z24 BK312.out 0
   have hns20_0 := NB302_312.out
   have hms20_0 := NB312_302.out
   have hs21 : w16.cell? ⟨gb312, 1, none⟩ = some (.slice none 0 0) := (Z23 BK312.out 1).trans rfl
   have hfs21 := Z24 BK312.out 1
   have hns21_0 := NB302_312.out
   have hms21_0 := NB312_302.out
   have hs22 : w16.cell? ⟨gb312, 2, none⟩ = some (.slice none 0 0) := (Z23 BK312.out 2).trans rfl
   have hfs22 := Z24 BK312.out 2
   have hns22_0 := NB302_312.out
   have hms22_0 := NB312_302.out
   have hs23 : w16.cell? ⟨gb312, 3, none⟩ = some (.slice none 0 0) := (Z23 BK312.out 3).trans rfl
   have hfs23 := Z24 BK312.out 3
   have hns23_0 := NB302_312.out
   have hms23_0 := NB312_302.out
   refine skip_ (w1 := ?_) (by rfl) rfl ?_ ?_
   rotate_left
   ·go_simp
    rfl
   refine hK.out _ _ trivial (fun hHeld => ?_)
   clear hK K
   refine done_ (done_of HT_.out (by kernel_rfl)) ?_
   try go_wp2
   go_loopg [16] k (fun kq v16 w' => ∃ (x16_1 : Int) (x313002_1 : List Bool) (u313002 : Value), v16 = .int .i64 x16_1 ∧ Aside0 (impl_startFocus.l0 kq (l0.length : Int) x16_1 t303 y306 x313002_1 t309 = some (r1, r2, r3, r4)) ∧ Aside0 (kq ≤ k) ∧ Aside0 (Kd.R (Kd.int .i64) 3 w' w.heap.size (fun k_ => some k_ ≠ ((.slice Ao18 y306.length co18) : Value).ownBlock ∧ some k_ ≠ ((.slice Ao17 t309.length co17) : Value).ownBlock) (.slice Ao19 t303.length co19) t303) ∧ Aside0 (Kd.R (Kd.int .i64) 3 w' w.heap.size (fun k_ => some k_ ≠ ((.slice Ao19 t303.length co19) : Value).ownBlock ∧ some k_ ≠ ((.slice Ao17 t309.length co17) : Value).ownBlock) (.slice Ao18 y306.length co18) y306) ∧ Aside0 (Kd.R Kd.bool 4 w' w.heap.size (fun _ => True) u313002 x313002_1) ∧ Aside0 (Kd.R (Kd.int .i64) 3 w' w.heap.size (fun k_ => some k_ ≠ ((.slice Ao19 t303.length co19) : Value).ownBlock ∧ some k_ ≠ ((.slice Ao18 y306.length co18) : Value).ownBlock) (.slice Ao17 t309.length co17) t309) ∧ Aside0 (w'.heap[gb302]? = some (.cells #[(.slice none 0 0), (.slice none 0 0), (.slice none 0 0), (.slice none 0 0)] 27 (0, 0))) ∧ Aside0 (w'.heap[gb312]? = some (.cells #[(.slice Ao19 t303.length co19), (.slice Ao18 y306.length co18), u313002, (.slice Ao17 t309.length co17)] 27 (0, 0))) ∧ Aside0 (Below w.heap.size w w'))
   case atStart => exact ⟨(0), (([] : List Bool)), (.slice none 0 0), Q7, H', ⟨Nat.le_refl _⟩, ⟨by (with_reducible repeat (first | apply Z8 | apply Z9 | apply Z10)); exact Z11 (Yf4 HO305.out BK312.out) (fun _ hk => ⟨hk.1.1, hk.1.2⟩)⟩, ⟨by (with_reducible repeat (first | apply Z8 | apply Z9 | apply Z10)); exact Z11 (Yf4 HO308.out BK312.out) (fun _ hk => ⟨hk.1.1, hk.1.2⟩)⟩, ⟨Q8⟩, ⟨by (with_reducible repeat (first | apply Z8 | apply Z9 | apply Z10)); exact Z11 (Yf4 HO311.out BK312.out) (fun _ hk => ⟨hk.1.1, hk.1.2⟩)⟩, ⟨by (with_reducible repeat (first | refine Z25 ?_ _ | refine Z26 ?_ | refine Z27 ?_ _)); refine blk_far ?_ NB302_312.out _; (with_reducible repeat (first | refine Z25 ?_ _ | refine Z26 ?_ | refine Z27 ?_ _)); refine blk_far ?_ NB302_312.out _; (with_reducible repeat (first | refine Z25 ?_ _ | refine Z26 ?_ | refine Z27 ?_ _)); refine blk_far ?_ NB302_312.out _; (with_reducible repeat (first | refine Z25 ?_ _ | refine Z26 ?_ | refine Z27 ?_ _)); refine blk_far ?_ NB302_312.out _; (with_reducible repeat (first | refine Z25 ?_ _ | refine Z26 ?_ | refine Z27 ?_ _)); exact BK302.out⟩, ⟨by (with_reducible repeat (first | refine Z25 ?_ _ | refine Z26 ?_ | refine Z27 ?_ _)); refine Z29 (cs := #[.slice Ao19 t303.length co19, .slice Ao18 y306.length co18, .slice none 0 0, .slice none 0 0]) ?_ 3 _ rfl; (with_reducible repeat (first | refine Z25 ?_ _ | refine Z26 ?_ | refine Z27 ?_ _)); refine Z29 (cs := #[.slice Ao19 t303.length co19, .slice Ao18 y306.length co18, .slice none 0 0, .slice none 0 0]) ?_ 2 _ rfl; (with_reducible repeat (first | refine Z25 ?_ _ | refine Z26 ?_ | refine Z27 ?_ _)); refine Z29 (cs := #[.slice Ao19 t303.length co19, .slice none 0 0, .slice none 0 0, .slice none 0 0]) ?_ 1 _ rfl; (with_reducible repeat (first | refine Z25 ?_ _ | refine Z26 ?_ | refine Z27 ?_ _)); refine Z29 (cs := #[.slice none 0 0, .slice none 0 0, .slice none 0 0, .slice none 0 0]) ?_ 0 _ rfl; (with_reducible repeat (first | refine Z25 ?_ _ | refine Z26 ?_ | refine Z27 ?_ _)); exact BK312.out⟩, ⟨Q12⟩⟩
   case round =>
    clear H'
    try clear p2
    try clear p6
    try clear c7
    obtain ⟨x16_1, x313002_1, u313002, rfl, HA, HK1, HO_313000, HO_313001, HO_313002, HO_313003, BK302, BK312, HB⟩ := hrel
    cases gk with
    | zero => exact absurd HA.out (by simp [impl_startFocus.l0])
    | succ k1 =>
     have H := HA.out
     clear HA
     simp only [impl_startFocus.l0] at H
     by_cases c24 : x16_1 < (l0.length : Int)
     ·rw [if_pos c24] at H
      have c24b0 : decide (x16_1 < (l0.length : Int)) = true := Z38 c24
      clear c24
      by_cases c25 : x313002_1.length < 140737488355328
      ·rw [if_pos c25] at H
       have LMc25 := Ya c25
       clear c25
       obtain ⟨y313, hy313⟩ : ∃ y_ : List Bool, y_ = (x313002_1 ++ [true]) := ⟨_, rfl⟩
       replace H : (impl_startFocus.l0 k1 (l0.length : Int) (wrap64 (x16_1 + 1)) t303 y306 y313 t309) = some (r1, r2, r3, r4) := by first | (rw [hy313]; with_reducible exact H) | (have H2_ := (Option.bind_some _ _).symm.trans H; rw [hy313]; with_reducible exact H2_) | (have H2_ := (Option.bind_some _ _).symm.trans H; with_reducible exact H2_) | with_reducible exact H | (rw [hy313]; exact H) | exact H
       have Ny313 := Ya hy313
       clear hy313
       have H' := Ya H
       clear H
       have hnb26 := NB312_302.out
       have hnc26 := NB302_312.out
       have hz27 := Y4 BK312.out
       go_wp2_with (first | ((with_reducible refine gate_builtin (b := .append) (xs := #[.tmp 19, .tmp 20]) rfl ?_); at_builtin; refine Kd.R_append Kd.bool (w0 := w) w.heap.size rfl (.tmp 19) (.tmp 20) 23 4 (.bool false) 1 rfl Try.underlying23 info4 rfl (by decide) (by omega) u313002 x313002_1 true [.bool true] (fun _ => True) (fun _ => False) rfl rfl ?aP (fun _ hk => hk.elim) ?aF ?aO ?aB ?aS ?aL ?_; (case aP => exact rfl); (case aB => exact Q0); (case aF => exact (fun _ _ => trivial)); (case aO => exact (Yr HO_313002.out)); (case aS => exact (Z7 Q0)); (case aL => have := LMc25.out; omega); intro v314 w28 ho hb hg hat; rw [← Ny313.out] at ho; replace HO_313000 := Ya (Kd.R_over' (Yr HO_313000.out) (Kd.R_typed (Yr HO_313002.out)) (by decide) hg); replace HO_313001 := Ya (Kd.R_over' (Yr HO_313001.out) (Kd.R_typed (Yr HO_313002.out)) (by decide) hg); replace HO_313003 := Ya (Kd.R_over' (Yr HO_313003.out) (Kd.R_typed (Yr HO_313002.out)) (by decide) hg); replace BK302 := Ya (blk_grown (g := gb302) (o := .cells #[.slice none 0 0, .slice none 0 0, .slice none 0 0, .slice none 0 0] 27 (0, 0)) (Yk BK302.out) hg (Kd.R_ne HO_313002.out BK302.out (by decide))); replace BK312 := Ya (blk_grown (g := gb312) (o := .cells #[.slice Ao19 t303.length co19, .slice Ao18 y306.length co18, u313002, .slice Ao17 t309.length co17] 27 (0, 0)) (Yk BK312.out) hg (Kd.R_ne HO_313002.out BK312.out (by decide))); replace HB := Ya hb; have HO315 := Ya ho; clear HO_313002; clear ho hb hg hat; obtain ⟨Ao29, co29, rfl⟩ := Z18 HO315.out; have hz30 := Y4 BK312.out))
       go_roundg k1
       case measure => have := HK1.out; omega
       case rel => exact ⟨(wrap64 (x16_1 + 1)), (y313), (.slice Ao29 y313.length co29), Q7, H', ⟨Q80⟩, ⟨by (with_reducible repeat (first | apply Z8 | apply Z9 | apply Z10)); exact Z11 (Z12 (p := ⟨gb312, 2, none⟩) (Z14 HO_313000.out BK312.out (by decide)) (fun _ hk => hk.2) (.slice Ao29 y313.length co29)) (fun _ hk => ⟨hk.1.1, hk.1.2⟩)⟩, ⟨by (with_reducible repeat (first | apply Z8 | apply Z9 | apply Z10)); exact Z11 (Z12 (p := ⟨gb312, 2, none⟩) (Z14 HO_313001.out BK312.out (by decide)) (fun _ hk => hk.2) (.slice Ao29 y313.length co29)) (fun _ hk => ⟨hk.1.1, hk.1.2⟩)⟩, ⟨by (with_reducible repeat (first | apply Z8 | apply Z9 | apply Z10)); exact Z11 (Z12 (p := ⟨gb312, 2, none⟩) (Z14 HO315.out BK312.out (by decide)) (fun _ hk => hk.2) (.slice Ao29 y313.length co29)) (fun _ hk => trivial)⟩, ⟨by (with_reducible repeat (first | apply Z8 | apply Z9 | apply Z10)); exact Z11 (Z12 (p := ⟨gb312, 2, none⟩) (Z14 HO_313003.out BK312.out (by decide)) (fun _ hk => hk.2) (.slice Ao29 y313.length co29)) (fun _ hk => ⟨hk.1.1, hk.1.2⟩)⟩, ⟨by (with_reducible repeat (first | refine Z25 ?_ _ | refine Z26 ?_ | refine Z27 ?_ _)); refine blk_far ?_ NB302_312.out _; (with_reducible repeat (first | refine Z25 ?_ _ | refine Z26 ?_ | refine Z27 ?_ _)); exact BK302.out⟩, ⟨by (with_reducible repeat (first | refine Z25 ?_ _ | refine Z26 ?_ | refine Z27 ?_ _)); refine Z29 (cs := #[.slice Ao19 t303.length co19, .slice Ao18 y306.length co18, u313002, .slice Ao17 t309.length co17]) ?_ 2 _ rfl; (with_reducible repeat (first | refine Z25 ?_ _ | refine Z26 ?_ | refine Z27 ?_ _)); exact BK312.out⟩, ⟨Q12⟩⟩
      ·rw [if_neg c25] at H
       exact absurd H (by simp)
     ·rw [if_neg c24] at H
      have c24b0 : decide (x16_1 < (l0.length : Int)) = false := Z37 c24
      clear c24
      simp only [Option.some.injEq, Prod.mk.injEq] at H
      obtain ⟨rfl, rfl, rfl, rfl⟩ := H
      have hnb31 := NB312_302.out
      have hnc31 := NB302_312.out
      have hz32 := Y4 BK312.out
      have hz33 := Y4 BK302.out
      obtain ⟨Ao34, co34, rfl⟩ := Z18 HO_313002.out
      go_wp2
      refine bodyPost_ret (results_cell_row rfl _ _ gb302 27 #[.slice Ao19 t303.length co19, .slice Ao18 y306.length co18, .slice Ao34 x313002_1.length co34, .slice Ao17 t309.length co17] (0, 0) _ rfl (Yk (Yv4 BK302.out)) Try.underlying27 rfl (by kernel_rfl)) rfl ?_
      exact ⟨_, _, _, _, Q2, by (with_reducible repeat (first | apply Z8 | apply Z9 | apply Z10)); exact Z11 (Yf4 HO_313000.out BK302.out) (fun _ hk => ⟨hk.1.1, hk.1.2⟩), by (with_reducible repeat (first | apply Z8 | apply Z9 | apply Z10)); exact Z11 (Yf4 HO_313001.out BK302.out) (fun _ hk => ⟨hk.1.1, hk.1.2⟩), by (with_reducible repeat (first | apply Z8 | apply Z9 | apply Z10)); exact Z11 (Yf4 HO_313002.out BK302.out) (fun _ hk => trivial), by (with_reducible repeat (first | apply Z8 | apply Z9 | apply Z10)); exact Z11 (Yf4 HO_313003.out BK302.out) (fun _ hk => ⟨hk.1.1, hk.1.2⟩), Q12⟩
  ·rw [if_neg c4] at H
   exact absurd H (by simp)
 ·rw [if_neg c3] at H
  exact absurd H (by simp)
end Go.Proofs.Ytpfakdhfffehaaa.MFnExactStepFocus
