import Derived.Test.YtpfakdhfffehaaaMFnExactStepSwapperx0
import Derived.Test.YtpfakdhfffehaaaMFnExactStepSwapperx8
import Derived.Test.YtpfakdhfffehaaaMFnExactStepSwapperx9
namespace Go.Proofs.Ytpfakdhfffehaaa.MFnExactStepSwapper
open Go.RowKit Go.Proofs.YtpfakdhfffehaaaW.PrintWords Go.Proofs.YtpfakdhfffehaaaW.PrintLast Go.Proofs.YtpfakdhfffehaaaW.PrintMore
attribute [local go_sem] max2_int min2_int max_two min_two max_three min_three max_four min_four   
set_option linter.unusedVariables false
set_option linter.unusedSimpArgs false
def impl_startFocus.l0 : Nat → Int → Int → List Int → List Int → List Bool → List Int → Option (List Int × List Int × List Bool × List Int)
 | 0, _, _, _, _, _, _ => none
 | k + 1, x15, x16, x535000, x535001, x535002, x535003 => if x16 < x15 then (if x535002.length < 140737488355328 then (impl_startFocus.l0 k x15 (wrap64 (x16 + 1)) x535000 x535001 (x535002 ++ [true]) x535003) else (none)) else (some (x535000, x535001, x535002, x535003))
def impl_startFocus.f (k : Nat) (l0 : List Int) : Option (List Int × List Int × List Bool × List Int) := (impl_copied.f l0).bind fun t525 => (if 0 ≤ (l0.length : Int) then (if ((l0.length : Int) : Int).toNat ≤ 35184372088832 then ((impl_identity.f k (wrap64 ((l0.length : Int) + 1))).bind fun t531 => (impl_startFocus.l0 k (l0.length : Int) 0 t525 (List.replicate ((l0.length : Int) : Int).toNat 0) ([] : List Bool) t531)) else (none)) else (none))
theorem impl_startFocus.mono_l : ∀ k, (∀ y0 y1 y2 y3 y4 y5, LeO (impl_startFocus.l0 k y0 y1 y2 y3 y4 y5) (impl_startFocus.l0 (k + 1) y0 y1 y2 y3 y4 y5))
 | 0 => fun _ _ _ _ _ _ r h => by simp [impl_startFocus.l0] at h
 | k + 1 => by
  have ih0 := impl_startFocus.mono_l k
  ·intro y0 y1 y2 y3 y4 y5
   unfold impl_startFocus.l0
   repeat' first
   | (with_reducible exact ih0 _ _ _ _ _ _)
   | (with_reducible exact impl_identity.mono _ _)
   | (with_reducible exact LeO.refl _)
   | (with_reducible exact LeO.none _)
   | (with_reducible refine LeO.ite ?_ ?_)
   | (with_reducible refine LeO.bind ?_ (fun _ => ?_))
   | exact ih0 _ _ _ _ _ _
   | exact impl_identity.mono _ _
   | exact LeO.none _
   | refine LeO.ite ?_ ?_
   | refine LeO.bind ?_ (fun _ => ?_)
theorem impl_startFocus.mono : ∀ a0 k, LeO (impl_startFocus.f k a0) (impl_startFocus.f (k + 1) a0) := by
 intro a0 k
 have ih0 := impl_startFocus.mono_l k
 unfold impl_startFocus.f
 repeat' first
   | (with_reducible exact ih0 _ _ _ _ _ _)
   | (with_reducible exact impl_identity.mono _ _)
   | (with_reducible exact LeO.refl _)
   | (with_reducible exact LeO.none _)
   | (with_reducible refine LeO.ite ?_ ?_)
   | (with_reducible refine LeO.bind ?_ (fun _ => ?_))
   | exact ih0 _ _ _ _ _ _
   | exact impl_identity.mono _ _
   | exact LeO.none _
   | refine LeO.ite ?_ ?_
   | refine LeO.bind ?_ (fun _ => ?_)
def impl_startFocus.T2 : Bool × List (List Nat × List Nat) := (true, [([], []), ([0], [0]), ([], []), ([2, 2], [2]), ([], []), ([4], [4]), ([5, 1], [5]), ([1, 3, 6], [1, 3, 6]), ([], []), ([8, 7, 6, 0, 1, 2, 3, 4, 5, 6, 7, 8], [7, 8])])
def impl_startFocus.B2 : List Nat := [0, 1, 0, 4, 0, 16, 51, 127, 0, 511]
theorem impl_startFocus.tab2 : rtab .any (opsOf Try.f71 2) = impl_startFocus.T2 := by kernel_rfl
theorem impl_startFocus.bits2 : waitsOk impl_startFocus.T2.2 impl_startFocus.B2 = true := by kernel_rfl
set_option maxHeartbeats 8000000 in
set_option maxRecDepth 100000 in
theorem impl_startFocus.calls (k : Nat) (A0 : Option Addr) (c0 : Nat) (l0 : List Int) (r1 : List Int) (r2 : List Int) (r3 : List Bool) (r4 : List Int) (w : World) (hr0 : Kd.C (Kd.int .i64) w A0 l0.length l0) (hc0 : l0.length ≤ c0) (h : impl_startFocus.f k l0 = some (r1, r2, r3, r4)) :
  Calls Try.prog 71 #[.slice A0 l0.length c0] w fun e w' => ∃ v0_ v1_ v2_ v3_ : Value, e = .returned (.agg #[v0_, v1_, v2_, v3_]) ∧ Kd.R (Kd.int .i64) 3 w' w.heap.size (fun k_ => some k_ ≠ (v1_ : Value).ownBlock ∧ some k_ ≠ (v3_ : Value).ownBlock) v0_ r1 ∧ Kd.R (Kd.int .i64) 3 w' w.heap.size (fun k_ => some k_ ≠ (v0_ : Value).ownBlock ∧ some k_ ≠ (v3_ : Value).ownBlock) v1_ r2 ∧ Kd.R Kd.bool 4 w' w.heap.size (fun _ => True) v2_ r3 ∧ Kd.R (Kd.int .i64) 3 w' w.heap.size (fun k_ => some k_ ≠ (v0_ : Value).ownBlock ∧ some k_ ≠ (v1_ : Value).ownBlock) v3_ r4 ∧ Below w.heap.size w w' := by
 have hu27 := Try.underlying27
 have HR0 := Ya hr0
 have HC0 := Ya hc0
 clear hr0 hc0
 have HB := Ya (Below.refl w.heap.size w)
 have H : ((impl_copied.f l0).bind fun t525 => (if 0 ≤ (l0.length : Int) then (if ((l0.length : Int) : Int).toNat ≤ 35184372088832 then ((impl_identity.f k (wrap64 ((l0.length : Int) + 1))).bind fun t531 => (impl_startFocus.l0 k (l0.length : Int) 0 t525 (List.replicate ((l0.length : Int) : Int).toNat 0) ([] : List Bool) t531)) else (none)) else (none))) = some (r1, r2, r3, r4) := h
 clear h
 replace H := Z36.mp H
 obtain ⟨t525, A20, H⟩ := H
 replace H : (if 0 ≤ (l0.length : Int) then (if ((l0.length : Int) : Int).toNat ≤ 35184372088832 then ((impl_identity.f k (wrap64 ((l0.length : Int) + 1))).bind fun t531 => (impl_startFocus.l0 k (l0.length : Int) 0 t525 (List.replicate ((l0.length : Int) : Int).toNat 0) ([] : List Bool) t531)) else (none)) else (none)) = some (r1, r2, r3, r4) := H
 have A2 := Ya A20
 clear A20
 by_cases c3 : 0 ≤ (l0.length : Int)
 ·rw [if_pos c3] at H
  have c3b0 := eq_true c3
  have c3b1 := Z38 c3
  have HLEc3 := Ya c3
  clear c3
  by_cases c4 : ((l0.length : Int) : Int).toNat ≤ 35184372088832
  ·rw [if_pos c4] at H
   have c4b0 := eq_true c4
   have c4b1 := Z38 c4
   clear c4
   obtain ⟨y528, hy528⟩ : ∃ y_ : List Int, y_ = (List.replicate ((l0.length : Int) : Int).toNat 0) := ⟨_, rfl⟩
   replace H : ((impl_identity.f k (wrap64 ((l0.length : Int) + 1))).bind fun t531 => (impl_startFocus.l0 k (l0.length : Int) 0 t525 y528 ([] : List Bool) t531)) = some (r1, r2, r3, r4) := by first | (rw [hy528]; with_reducible exact H) | (have H2_ := (Option.bind_some _ _).symm.trans H; rw [hy528]; with_reducible exact H2_) | (have H2_ := (Option.bind_some _ _).symm.trans H; with_reducible exact H2_) | with_reducible exact H | (rw [hy528]; exact H) | exact H
   have Ny528 := Ya hy528
   clear hy528
   replace H := Z36.mp H
   obtain ⟨t531, A50, H⟩ := H
   replace H : (impl_startFocus.l0 k (l0.length : Int) 0 t525 y528 ([] : List Bool) t531) = some (r1, r2, r3, r4) := H
   have A5 := Ya A50
   clear A50
   have H' := Ya H
   clear H
   go_enter Try.func71, Try.ntmps71
   try go_wp2_with (first | ((with_reducible refine gate_dst (N := 2) rfl ?_); refine Yx 2 YN4 27 ?_; intro gb524 hg w6 hbox hb; have BK524 := Ya hbox; have GW524 := Yg hg; have GE524 := GW524; replace HB := Yh hb; clear hb hbox hg))
   replace BK524 := Ya (Z26 BK524.out)
   replace HB := Ya (Z4 HB.out)
   refine start_ (n := 10) (S := fun w' => True) (ds := []) (YA 10 0) (by kernel_rfl) rfl rfl trivial (fun hHeld => ?_); refine with_tabW impl_startFocus.tab2 impl_startFocus.bits2 (fun HT_ HW_ => ?_)
   generalize w6.drew = w7 at BK524 HB hHeld ⊢
   refine Yp 0 (some 7) (YA 10 1) rfl HT_.out ?_
   refine Yp 2 (some 9) (YA 10 5) rfl HT_.out ?_
   refine Yp 4 (some 11) (YA 10 21) rfl HT_.out ?_
   refine Yp 5 (some 12) (YA 10 53) rfl HT_.out ?_
   refine join_ (σ := Value × Value × Value × Nat) 1 (YA 10 511) (fun s_ => [(8, s_.1), (10, s_.2.1), (13, s_.2.2.1), (4, .pointer (some ⟨s_.2.2.2, 0, none⟩)), (14, .agg #[s_.1, s_.2.1, .slice none 0 0, s_.2.2.1])]) (fun s_ w' => (Kd.R (Kd.int .i64) 3 w' w.heap.size (fun k_ => some k_ ≠ (s_.2.1 : Value).ownBlock ∧ some k_ ≠ (s_.2.2.1 : Value).ownBlock) s_.1 t525) ∧ (Kd.R (Kd.int .i64) 3 w' w.heap.size (fun k_ => some k_ ≠ (s_.1 : Value).ownBlock ∧ some k_ ≠ (s_.2.2.1 : Value).ownBlock) s_.2.1 y528) ∧ (Kd.R (Kd.int .i64) 3 w' w.heap.size (fun k_ => some k_ ≠ (s_.1 : Value).ownBlock ∧ some k_ ≠ (s_.2.1 : Value).ownBlock) s_.2.2.1 t531) ∧ (w'.heap[gb524]? = some (.cells YN4 27 (0, 0))) ∧ (w'.heap[s_.2.2.2]? = some (.cells YN4 27 (0, 0))) ∧ (w.heap.size ≤ s_.2.2.2) ∧ (w.heap.size ≤ s_.2.2.2) ∧ (gb524 ≠ s_.2.2.2) ∧ (s_.2.2.2 ≠ gb524) ∧ (Below w.heap.size w w')) ?_ ?_
   rotate_left
   ·intro hJ1_3_6_8
    refine join_ (σ := Value × Value × Value) 2 (YA 10 255) (fun s_ => [(8, s_.1), (10, s_.2.1), (13, s_.2.2), (14, .agg #[s_.1, s_.2.1, .slice none 0 0, s_.2.2])]) (fun s_ w' => (Kd.R (Kd.int .i64) 3 w' w.heap.size (fun k_ => some k_ ≠ (s_.2.1 : Value).ownBlock ∧ some k_ ≠ (s_.2.2 : Value).ownBlock) s_.1 t525) ∧ (Kd.R (Kd.int .i64) 3 w' w.heap.size (fun k_ => some k_ ≠ (s_.1 : Value).ownBlock ∧ some k_ ≠ (s_.2.2 : Value).ownBlock) s_.2.1 y528) ∧ (Kd.R (Kd.int .i64) 3 w' w.heap.size (fun k_ => some k_ ≠ (s_.1 : Value).ownBlock ∧ some k_ ≠ (s_.2.1 : Value).ownBlock) s_.2.2 t531) ∧ (w'.heap[gb524]? = some (.cells YN4 27 (0, 0))) ∧ (Below w.heap.size w w')) ?_ ?_
    rotate_left
    ·intro hJ1_3_6
     refine join_ (σ := Value × Value × Nat) 3 (YA 10 319) (fun s_ => [(8, s_.1), (10, s_.2.1), (4, .pointer (some ⟨s_.2.2, 0, none⟩))]) (fun s_ w' => (Kd.R (Kd.int .i64) 3 w' w.heap.size (fun k_ => some k_ ≠ (s_.2.1 : Value).ownBlock) s_.1 t525) ∧ (Kd.R (Kd.int .i64) 3 w' w.heap.size (fun k_ => some k_ ≠ (s_.1 : Value).ownBlock) s_.2.1 y528) ∧ (w'.heap[gb524]? = some (.cells YN4 27 (0, 0))) ∧ (w'.heap[s_.2.2]? = some (.cells YN4 27 (0, 0))) ∧ (w.heap.size ≤ s_.2.2) ∧ (w.heap.size ≤ s_.2.2) ∧ (gb524 ≠ s_.2.2) ∧ (s_.2.2 ≠ gb524) ∧ (Below w.heap.size w w')) ?_ ?_
     rotate_left
     ·intro hJ1_3_8
      refine join_ (σ := Value × Value × Nat) 3 (YA 10 375) (fun s_ => [(8, s_.1), (13, s_.2.1), (4, .pointer (some ⟨s_.2.2, 0, none⟩))]) (fun s_ w' => (Kd.R (Kd.int .i64) 3 w' w.heap.size (fun k_ => some k_ ≠ (s_.2.1 : Value).ownBlock) s_.1 t525) ∧ (Kd.R (Kd.int .i64) 3 w' w.heap.size (fun k_ => some k_ ≠ (s_.1 : Value).ownBlock) s_.2.1 t531) ∧ (w'.heap[gb524]? = some (.cells YN4 27 (0, 0))) ∧ (w'.heap[s_.2.2]? = some (.cells YN4 27 (0, 0))) ∧ (w.heap.size ≤ s_.2.2) ∧ (w.heap.size ≤ s_.2.2) ∧ (gb524 ≠ s_.2.2) ∧ (s_.2.2 ≠ gb524) ∧ (Below w.heap.size w w')) ?_ ?_
      rotate_left
      ·intro hJ1_6_8
       refine join_ (σ := Value × Value) 4 (YA 10 63) (fun s_ => [(8, s_.1), (10, s_.2)]) (fun s_ w' => (Kd.R (Kd.int .i64) 3 w' w.heap.size (fun k_ => some k_ ≠ (s_.2 : Value).ownBlock) s_.1 t525) ∧ (Kd.R (Kd.int .i64) 3 w' w.heap.size (fun k_ => some k_ ≠ (s_.1 : Value).ownBlock) s_.2 y528) ∧ (w'.heap[gb524]? = some (.cells YN4 27 (0, 0))) ∧ (Below w.heap.size w w')) ?_ ?_
       rotate_left
       ·intro hJ1_3
        refine join_ (σ := Value × Value) 4 (YA 10 119) (fun s_ => [(8, s_.1), (13, s_.2)]) (fun s_ w' => (Kd.R (Kd.int .i64) 3 w' w.heap.size (fun k_ => some k_ ≠ (s_.2 : Value).ownBlock) s_.1 t525) ∧ (Kd.R (Kd.int .i64) 3 w' w.heap.size (fun k_ => some k_ ≠ (s_.1 : Value).ownBlock) s_.2 t531) ∧ (w'.heap[gb524]? = some (.cells YN4 27 (0, 0))) ∧ (Below w.heap.size w w')) ?_ ?_
        rotate_left
        ·intro hJ1_6
         refine join_ (σ := Value × Nat) 4 (YA 10 311) (fun s_ => [(8, s_.1), (4, .pointer (some ⟨s_.2, 0, none⟩))]) (fun s_ w' => (Kd.R (Kd.int .i64) 3 w' w.heap.size (fun _ => True) s_.1 t525) ∧ (w'.heap[gb524]? = some (.cells YN4 27 (0, 0))) ∧ (w'.heap[s_.2]? = some (.cells YN4 27 (0, 0))) ∧ (w.heap.size ≤ s_.2) ∧ (w.heap.size ≤ s_.2) ∧ (gb524 ≠ s_.2) ∧ (s_.2 ≠ gb524) ∧ (Below w.heap.size w w')) ?_ ?_
         rotate_left
         ·intro hJ1_8
          refine join_ (σ := Value × Nat) 4 (YA 10 317) (fun s_ => [(10, s_.1), (4, .pointer (some ⟨s_.2, 0, none⟩))]) (fun s_ w' => (Kd.R (Kd.int .i64) 3 w' w.heap.size (fun _ => True) s_.1 y528) ∧ (w'.heap[gb524]? = some (.cells YN4 27 (0, 0))) ∧ (w'.heap[s_.2]? = some (.cells YN4 27 (0, 0))) ∧ (w.heap.size ≤ s_.2) ∧ (w.heap.size ≤ s_.2) ∧ (gb524 ≠ s_.2) ∧ (s_.2 ≠ gb524) ∧ (Below w.heap.size w w')) ?_ ?_
          rotate_left
          ·intro hJ3_8
           refine join_ (σ := Value) 5 (YA 10 55) (fun s_ => [(8, s_)]) (fun s_ w' => (Kd.R (Kd.int .i64) 3 w' w.heap.size (fun _ => True) s_ t525) ∧ (w'.heap[gb524]? = some (.cells YN4 27 (0, 0))) ∧ (Below w.heap.size w w')) ?_ ?_
           rotate_left
           ·intro hJ1
            refine join_ (σ := Value) 5 (YA 10 61) (fun s_ => [(10, s_)]) (fun s_ w' => (Kd.R (Kd.int .i64) 3 w' w.heap.size (fun _ => True) s_ y528) ∧ (w'.heap[gb524]? = some (.cells YN4 27 (0, 0))) ∧ (Below w.heap.size w w')) ?_ ?_
            rotate_left
            ·intro hJ3
             refine join_ (σ := Nat) 5 (YA 10 309) (fun s_ => [(4, .pointer (some ⟨s_, 0, none⟩))]) (fun s_ w' => (w'.heap[gb524]? = some (.cells YN4 27 (0, 0))) ∧ (w'.heap[s_]? = some (.cells YN4 27 (0, 0))) ∧ (w.heap.size ≤ s_) ∧ (w.heap.size ≤ s_) ∧ (gb524 ≠ s_) ∧ (s_ ≠ gb524) ∧ (Below w.heap.size w w')) ?_ ?_
             rotate_left
             ·intro hJ8
              refine three_ (i := 1) (j := 3) (k := 8) (Ni := some 8) (Nj := some 10) (Nk := some 4) (YA 10 55) (YA 10 61) (YA 10 309) rfl rfl rfl rfl rfl rfl (three_of HT_.out (by kernel_rfl)) (by decide) (by decide) (by decide) (fun K hK => ?_) (fun K hK => ?_) (fun K hK => ?_)
              ·skip
               refine goes_ Try.func56 (by kernel_rfl) rfl #[.slice A0 l0.length c0] (by rfl) rfl rfl Q7 ?_
               with_reducible refine (impl_copied.calls _ _ l0 t525 _ ?side1 ?side2 A2.out).mono ?_
               (case side1 => exact Yc (Z22 HR0.out HB.out))
               (case side2 => exact HC0.out)
               rintro e w8 ⟨v526, rfl, ho0, hb⟩
               refine ⟨_, rfl, ?_⟩
               have HO527 := Yl ho0
               replace BK524 := Yb BK524 hb
               replace HB := Yh hb
               (try clear hb ho0)
               refine hK.out _ _ trivial (fun hHeld => ?_)
               clear hK K
               refine norm_ (a' := ?_) ?_ ?_
               rotate_left
               ·show Act.put _ (some 8) _ = _
                simp only [Act.put, Z0, Z1, Z2, i64_w, i32_w]
                rfl
               exact norm_ Q4 (hJ1 (v526) _ ⟨(Yr HO527.out), (Yk BK524.out), Q0⟩)
              ·skip
               refine Kd.R_make_step (Kd.int .i64) _ 3 (by rfl) (N := 10) rfl 22 _ _ rfl (l0.length : Int) rfl rfl Try.underlying22 (.int .i64 0) 8 info3 rfl (by decide) (by omega) 0 (ok := fun _ => True) (okp := fun _ => True) rfl (fun _ hk => hk) trivial (Z30 Q1) (Nat.le_trans (Nat.mul_le_mul_right _ (Z30 Q1 : (l0.length : Int).toNat ≤ 35184372088832)) (by omega)) (Below.refl _ _) (Nat.le_refl _) ?_
               intro v529 w8 ho9 hb hg_ hnew_
               clear hg_ hnew_
               (first | rw [← Ny528.out] at ho9 | (simp only [Int.reduceToNat] at ho9; rw [← Ny528.out] at ho9))
               have HO530 := Yl ho9
               replace BK524 := Yb BK524 hb
               replace HB := Yh hb
               clear hb ho9
               refine hK.out _ _ trivial (fun hHeld => ?_)
               clear hK K
               refine norm_ (a' := ?_) ?_ ?_
               rotate_left
               ·show Act.put _ (some 10) _ = _
                simp only [Act.put, Z0, Z1, Z2, i64_w, i32_w]
                rfl
               exact norm_ Q4 (hJ3 (v529) _ ⟨(Yr HO530.out), (Yk BK524.out), Q0⟩)
              ·skip
               refine Yy 4 YN4 27 ?_
               intro gb534 hg w8 hbox hb
               have BK534 := Ya hbox
               have GW534 := Yg hg
               have GE534 := GW534
               replace HB := Yh hb
               have NB524_534 := Yn BK524 hg
               have NB534_524 := Ym BK524 hg
               replace BK524 := Yb BK524 hb
               clear hb hbox hg
               refine hK.out _ _ trivial (fun hHeld => ?_)
               clear hK K
               refine norm_ (a' := ?_) ?_ ?_
               rotate_left
               ·show Act.put _ (some 4) _ = _
                simp only [Act.put, Z0, Z1, Z2, i64_w, i32_w]
                rfl
               exact norm_ Q4 (hJ8 (gb534) _ ⟨(Yk BK524.out), (Yk BK534.out), GW534.out, GE534.out, NB524_534.out, NB534_524.out, Q0⟩)
             ·skip
              rintro gb534 w9 ⟨h0_, h1_, h2_, h3_, h4_, h5_, h6_⟩
              replace BK524 : Aside0 (w9.heap[gb524]? = some (.cells YN4 27 (0, 0))) := ⟨h0_⟩
              have BK534 : Aside0 (w9.heap[gb534]? = some (.cells YN4 27 (0, 0))) := ⟨h1_⟩
              have GW534 : Aside0 (w.heap.size ≤ gb534) := ⟨h2_⟩
              have GE534 : Aside0 (w.heap.size ≤ gb534) := ⟨h3_⟩
              have NB524_534 : Aside0 (gb524 ≠ gb534) := ⟨h4_⟩
              have NB534_524 : Aside0 (gb534 ≠ gb524) := ⟨h5_⟩
              replace HB : Aside0 (Below w.heap.size w w9) := ⟨h6_⟩
              clear h0_ h1_ h2_ h3_ h4_ h5_ h6_
              have hHeld := trivial
              refine norm_ (a' := ?_) ?_ ?_
              rotate_left
              ·simp only [putAll, Act.put, Z0, Z1, Z2]
               rfl
              refine two_ (i := 1) (j := 3) (Ni := some 8) (Nj := some 10) (YA 10 311) (YA 10 317) rfl rfl rfl rfl (two_of HT_.out (by kernel_rfl)) (by decide) (by decide) (fun K hK => ?_) (fun K hK => ?_)
              ·skip
               refine goes_ Try.func56 (by kernel_rfl) rfl #[.slice A0 l0.length c0] (by rfl) rfl rfl Q7 ?_
               with_reducible refine (impl_copied.calls _ _ l0 t525 _ ?side1 ?side2 A2.out).mono ?_
               (case side1 => exact Yc (Z22 HR0.out HB.out))
               (case side2 => exact HC0.out)
               rintro e w10 ⟨v526, rfl, ho0, hb⟩
               refine ⟨_, rfl, ?_⟩
               have HO527 := Yl ho0
               replace BK524 := Yb BK524 hb
               replace BK534 := Yb BK534 hb
               replace HB := Yh hb
               (try clear hb ho0)
               refine hK.out _ _ trivial (fun hHeld => ?_)
               clear hK K
               refine norm_ (a' := ?_) ?_ ?_
               rotate_left
               ·show Act.put _ (some 8) _ = _
                simp only [Act.put, Z0, Z1, Z2, i64_w, i32_w]
                rfl
               exact norm_ Q4 (hJ1_8 (v526, gb534) _ ⟨(Yr HO527.out), (Yk BK524.out), (Yk BK534.out), GW534.out, GE534.out, NB524_534.out, NB534_524.out, Q0⟩)
              ·skip
               refine Kd.R_make_step (Kd.int .i64) _ 3 (by rfl) (N := 10) rfl 22 _ _ rfl (l0.length : Int) rfl rfl Try.underlying22 (.int .i64 0) 8 info3 rfl (by decide) (by omega) 0 (ok := fun _ => True) (okp := fun _ => True) rfl (fun _ hk => hk) trivial (Z30 Q1) (Nat.le_trans (Nat.mul_le_mul_right _ (Z30 Q1 : (l0.length : Int).toNat ≤ 35184372088832)) (by omega)) (Below.refl _ _) (Nat.le_refl _) ?_
               intro v529 w10 ho11 hb hg_ hnew_
               clear hg_ hnew_
               (first | rw [← Ny528.out] at ho11 | (simp only [Int.reduceToNat] at ho11; rw [← Ny528.out] at ho11))
               have HO530 := Yl ho11
               replace BK524 := Yb BK524 hb
               replace BK534 := Yb BK534 hb
               replace HB := Yh hb
               clear hb ho11
               refine hK.out _ _ trivial (fun hHeld => ?_)
               clear hK K
               refine norm_ (a' := ?_) ?_ ?_
               rotate_left
               ·show Act.put _ (some 10) _ = _
                simp only [Act.put, Z0, Z1, Z2, i64_w, i32_w]
                rfl
               exact norm_ Q4 (hJ3_8 (v529, gb534) _ ⟨(Yr HO530.out), (Yk BK524.out), (Yk BK534.out), GW534.out, GE534.out, NB524_534.out, NB534_524.out, Q0⟩)
            ·skip
             rintro v529 w10 ⟨h0_, h1_, h2_⟩
             have HO530 : Aside0 (Kd.R (Kd.int .i64) 3 w10 w.heap.size (fun _ => True) v529 y528) := ⟨h0_⟩
             replace BK524 : Aside0 (w10.heap[gb524]? = some (.cells YN4 27 (0, 0))) := ⟨h1_⟩
             replace HB : Aside0 (Below w.heap.size w w10) := ⟨h2_⟩
             clear h0_ h1_ h2_
             have hHeld := trivial
             refine norm_ (a' := ?_) ?_ ?_
             rotate_left
             ·simp only [putAll, Act.put, Z0, Z1, Z2]
              rfl
             refine two_ (i := 1) (j := 8) (Ni := some 8) (Nj := some 4) (YA 10 63) (YA 10 317) rfl rfl rfl rfl (two_of HT_.out (by kernel_rfl)) (by decide) (by decide) (fun K hK => ?_) (fun K hK => ?_)
             ·skip
              refine goes_ Try.func56 (by kernel_rfl) rfl #[.slice A0 l0.length c0] (by rfl) rfl rfl Q7 ?_
              with_reducible refine (impl_copied.calls _ _ l0 t525 _ ?side1 ?side2 A2.out).mono ?_
              (case side1 => exact Yc (Z22 HR0.out HB.out))
              (case side2 => exact HC0.out)
              rintro e w11 ⟨v526, rfl, ho0, hb⟩
              refine ⟨_, rfl, ?_⟩
              have HO527 := Yl (Kd.R_new' ho0 (Z18 (Yr HO530.out)))
              replace HO530 := Ya (Kd.R_elder' (Yr HO530.out) (Kd.R_base ho0) hb)
              replace BK524 := Yb BK524 hb
              replace HB := Yh hb
              (try clear hb ho0)
              refine hK.out _ _ trivial (fun hHeld => ?_)
              clear hK K
              refine norm_ (a' := ?_) ?_ ?_
              rotate_left
              ·show Act.put _ (some 8) _ = _
               simp only [Act.put, Z0, Z1, Z2, i64_w, i32_w]
               rfl
              exact norm_ Q4 (hJ1_3 (v526, v529) _ ⟨(Yj HO527.out (fun _ hk => hk.2)), (Yj HO530.out (fun _ hk => hk.2)), (Yk BK524.out), Q0⟩)
             ·skip
              refine Yy 4 YN4 27 ?_
              intro gb534 hg w11 hbox hb
              replace HO530 := Yw HO530 hb
              have BK534 := Ya hbox
              have GW534 := Yg hg
              have GE534 := GW534
              replace HB := Yh hb
              have NB524_534 := Yn BK524 hg
              have NB534_524 := Ym BK524 hg
              replace BK524 := Yb BK524 hb
              clear hb hbox hg
              refine hK.out _ _ trivial (fun hHeld => ?_)
              clear hK K
              refine norm_ (a' := ?_) ?_ ?_
              rotate_left
              ·show Act.put _ (some 4) _ = _
               simp only [Act.put, Z0, Z1, Z2, i64_w, i32_w]
               rfl
              exact norm_ Q4 (hJ3_8 (v529, gb534) _ ⟨(Yr HO530.out), (Yk BK524.out), (Yk BK534.out), GW534.out, GE534.out, NB524_534.out, NB534_524.out, Q0⟩)
           ·skip
            rintro v526 w9 ⟨h0_, h1_, h2_⟩
            have HO527 : Aside0 (Kd.R (Kd.int .i64) 3 w9 w.heap.size (fun _ => True) v526 t525) := ⟨h0_⟩
            replace BK524 : Aside0 (w9.heap[gb524]? = some (.cells YN4 27 (0, 0))) := ⟨h1_⟩
            replace HB : Aside0 (Below w.heap.size w w9) := ⟨h2_⟩
            clear h0_ h1_ h2_
            have hHeld := trivial
            refine norm_ (a' := ?_) ?_ ?_
            rotate_left
            ·simp only [putAll, Act.put, Z0, Z1, Z2]
             rfl
            refine three_ (i := 3) (j := 6) (k := 8) (Ni := some 10) (Nj := some 13) (Nk := some 4) (YA 10 63) (YA 10 119) (YA 10 311) rfl rfl rfl rfl rfl rfl (three_of HT_.out (by kernel_rfl)) (by decide) (by decide) (by decide) (fun K hK => ?_) (fun K hK => ?_) (fun K hK => ?_)
            ·skip
             refine Kd.R_make_step (Kd.int .i64) _ 3 (by rfl) (N := 10) rfl 22 _ _ rfl (l0.length : Int) rfl rfl Try.underlying22 (.int .i64 0) 8 info3 rfl (by decide) (by omega) 0 (ok := fun _ => True) (okp := fun _ => True) rfl (fun _ hk => hk) trivial (Z30 Q1) (Nat.le_trans (Nat.mul_le_mul_right _ (Z30 Q1 : (l0.length : Int).toNat ≤ 35184372088832)) (by omega)) (Below.refl _ _) (Nat.le_refl _) ?_
             intro v529 w10 ho11 hb hg_ hnew_
             clear hg_ hnew_
             (first | rw [← Ny528.out] at ho11 | (simp only [Int.reduceToNat] at ho11; rw [← Ny528.out] at ho11))
             have HO530 := Yl (Kd.R_new' ho11 (Z18 (Yr HO527.out)))
             replace HO527 := Ya (Kd.R_elder' (Yr HO527.out) (Kd.R_base ho11) hb)
             replace BK524 := Yb BK524 hb
             replace HB := Yh hb
             clear hb ho11
             refine hK.out _ _ trivial (fun hHeld => ?_)
             clear hK K
             refine norm_ (a' := ?_) ?_ ?_
             rotate_left
             ·show Act.put _ (some 10) _ = _
              simp only [Act.put, Z0, Z1, Z2, i64_w, i32_w]
              rfl
             exact norm_ Q4 (hJ1_3 (v526, v529) _ ⟨(Yj HO527.out (fun _ hk => hk.2)), (Yj HO530.out (fun _ hk => hk.2)), (Yk BK524.out), Q0⟩)
            ·skip
             refine goes_ Try.func72 (by kernel_rfl) rfl #[.int .i64 (wrap64 ((l0.length : Int) + 1))] (by rfl) rfl rfl Q7 ?_
             with_reducible refine (impl_identity.calls k (wrap64 ((l0.length : Int) + 1)) t531 _ A5.out).mono ?_
             rintro e w10 ⟨v532, rfl, ho0, hb⟩
             refine ⟨_, rfl, ?_⟩
             have HO533 := Yl (Kd.R_new' ho0 (Z18 (Yr HO527.out)))
             replace HO527 := Ya (Kd.R_elder' (Yr HO527.out) (Kd.R_base ho0) hb)
             replace BK524 := Yb BK524 hb
             replace HB := Yh hb
             (try clear hb ho0)
             refine hK.out _ _ trivial (fun hHeld => ?_)
             clear hK K
             refine norm_ (a' := ?_) ?_ ?_
             rotate_left
             ·show Act.put _ (some 13) _ = _
              simp only [Act.put, Z0, Z1, Z2, i64_w, i32_w]
              rfl
             exact norm_ Q4 (hJ1_6 (v526, v532) _ ⟨(Yj HO527.out (fun _ hk => hk.2)), (Yj HO533.out (fun _ hk => hk.2)), (Yk BK524.out), Q0⟩)
            ·skip
             refine Yy 4 YN4 27 ?_
             intro gb534 hg w10 hbox hb
             replace HO527 := Yw HO527 hb
             have BK534 := Ya hbox
             have GW534 := Yg hg
             have GE534 := GW534
             replace HB := Yh hb
             have NB524_534 := Yn BK524 hg
             have NB534_524 := Ym BK524 hg
             replace BK524 := Yb BK524 hb
             clear hb hbox hg
             refine hK.out _ _ trivial (fun hHeld => ?_)
             clear hK K
             refine norm_ (a' := ?_) ?_ ?_
             rotate_left
             ·show Act.put _ (some 4) _ = _
              simp only [Act.put, Z0, Z1, Z2, i64_w, i32_w]
              rfl
             exact norm_ Q4 (hJ1_8 (v526, gb534) _ ⟨(Yr HO527.out), (Yk BK524.out), (Yk BK534.out), GW534.out, GE534.out, NB524_534.out, NB534_524.out, Q0⟩)
          ·skip
           rintro ⟨v529, gb534⟩ w11 ⟨h0_, h1_, h2_, h3_, h4_, h5_, h6_, h7_⟩
           have HO530 : Aside0 (Kd.R (Kd.int .i64) 3 w11 w.heap.size (fun _ => True) v529 y528) := ⟨h0_⟩
           replace BK524 : Aside0 (w11.heap[gb524]? = some (.cells YN4 27 (0, 0))) := ⟨h1_⟩
           have BK534 : Aside0 (w11.heap[gb534]? = some (.cells YN4 27 (0, 0))) := ⟨h2_⟩
           have GW534 : Aside0 (w.heap.size ≤ gb534) := ⟨h3_⟩
           have GE534 : Aside0 (w.heap.size ≤ gb534) := ⟨h4_⟩
           have NB524_534 : Aside0 (gb524 ≠ gb534) := ⟨h5_⟩
           have NB534_524 : Aside0 (gb534 ≠ gb524) := ⟨h6_⟩
           replace HB : Aside0 (Below w.heap.size w w11) := ⟨h7_⟩
           clear h0_ h1_ h2_ h3_ h4_ h5_ h6_ h7_
           have hHeld := trivial
           refine norm_ (a' := ?_) ?_ ?_
           rotate_left
           ·simp only [putAll, Act.put, Z0, Z1, Z2]
            rfl
           refine one_ (i := 1) (N := some 8) (YA 10 319) rfl rfl (one_of HT_.out (by kernel_rfl)) (by decide) (fun K hK => ?_)
           refine goes_ Try.func56 (by kernel_rfl) rfl #[.slice A0 l0.length c0] (by rfl) rfl rfl Q7 ?_
           with_reducible refine (impl_copied.calls _ _ l0 t525 _ ?side1 ?side2 A2.out).mono ?_
           (case side1 => exact Yc (Z22 HR0.out HB.out))
           (case side2 => exact HC0.out)
           rintro e w12 ⟨v526, rfl, ho0, hb⟩
           refine ⟨_, rfl, ?_⟩
           have HO527 := Yl (Kd.R_new' ho0 (Z18 (Yr HO530.out)))
           replace HO530 := Ya (Kd.R_elder' (Yr HO530.out) (Kd.R_base ho0) hb)
           replace BK524 := Yb BK524 hb
           replace BK534 := Yb BK534 hb
           replace HB := Yh hb
           (try clear hb ho0)
           refine hK.out _ _ trivial (fun hHeld => ?_)
           clear hK K
           refine norm_ (a' := ?_) ?_ ?_
           rotate_left
           ·show Act.put _ (some 8) _ = _
            simp only [Act.put, Z0, Z1, Z2, i64_w, i32_w]
            rfl
           exact norm_ Q4 (hJ1_3_8 (v526, v529, gb534) _ ⟨(Yj HO527.out (fun _ hk => hk.2)), (Yj HO530.out (fun _ hk => hk.2)), (Yk BK524.out), (Yk BK534.out), GW534.out, GE534.out, NB524_534.out, NB534_524.out, Q0⟩)
         ·skip
          rintro ⟨v526, gb534⟩ w10 ⟨h0_, h1_, h2_, h3_, h4_, h5_, h6_, h7_⟩
          have HO527 : Aside0 (Kd.R (Kd.int .i64) 3 w10 w.heap.size (fun _ => True) v526 t525) := ⟨h0_⟩
          replace BK524 : Aside0 (w10.heap[gb524]? = some (.cells YN4 27 (0, 0))) := ⟨h1_⟩
          have BK534 : Aside0 (w10.heap[gb534]? = some (.cells YN4 27 (0, 0))) := ⟨h2_⟩
          have GW534 : Aside0 (w.heap.size ≤ gb534) := ⟨h3_⟩
          have GE534 : Aside0 (w.heap.size ≤ gb534) := ⟨h4_⟩
          have NB524_534 : Aside0 (gb524 ≠ gb534) := ⟨h5_⟩
          have NB534_524 : Aside0 (gb534 ≠ gb524) := ⟨h6_⟩
          replace HB : Aside0 (Below w.heap.size w w10) := ⟨h7_⟩
          clear h0_ h1_ h2_ h3_ h4_ h5_ h6_ h7_
          have hHeld := trivial
          refine norm_ (a' := ?_) ?_ ?_
          rotate_left
          ·simp only [putAll, Act.put, Z0, Z1, Z2]
           rfl
          refine two_ (i := 3) (j := 6) (Ni := some 10) (Nj := some 13) (YA 10 319) (YA 10 375) rfl rfl rfl rfl (two_of HT_.out (by kernel_rfl)) (by decide) (by decide) (fun K hK => ?_) (fun K hK => ?_)
          ·skip
           refine Kd.R_make_step (Kd.int .i64) _ 3 (by rfl) (N := 10) rfl 22 _ _ rfl (l0.length : Int) rfl rfl Try.underlying22 (.int .i64 0) 8 info3 rfl (by decide) (by omega) 0 (ok := fun _ => True) (okp := fun _ => True) rfl (fun _ hk => hk) trivial (Z30 Q1) (Nat.le_trans (Nat.mul_le_mul_right _ (Z30 Q1 : (l0.length : Int).toNat ≤ 35184372088832)) (by omega)) (Below.refl _ _) (Nat.le_refl _) ?_
           intro v529 w11 ho12 hb hg_ hnew_
           clear hg_ hnew_
           (first | rw [← Ny528.out] at ho12 | (simp only [Int.reduceToNat] at ho12; rw [← Ny528.out] at ho12))
           have HO530 := Yl (Kd.R_new' ho12 (Z18 (Yr HO527.out)))
           replace HO527 := Ya (Kd.R_elder' (Yr HO527.out) (Kd.R_base ho12) hb)
           replace BK524 := Yb BK524 hb
           replace BK534 := Yb BK534 hb
           replace HB := Yh hb
           clear hb ho12
           refine hK.out _ _ trivial (fun hHeld => ?_)
           clear hK K
           refine norm_ (a' := ?_) ?_ ?_
           rotate_left
           ·show Act.put _ (some 10) _ = _
            simp only [Act.put, Z0, Z1, Z2, i64_w, i32_w]
            rfl
           exact norm_ Q4 (hJ1_3_8 (v526, v529, gb534) _ ⟨(Yj HO527.out (fun _ hk => hk.2)), (Yj HO530.out (fun _ hk => hk.2)), (Yk BK524.out), (Yk BK534.out), GW534.out, GE534.out, NB524_534.out, NB534_524.out, Q0⟩)
          ·skip
           refine goes_ Try.func72 (by kernel_rfl) rfl #[.int .i64 (wrap64 ((l0.length : Int) + 1))] (by rfl) rfl rfl Q7 ?_
           with_reducible refine (impl_identity.calls k (wrap64 ((l0.length : Int) + 1)) t531 _ A5.out).mono ?_
           rintro e w11 ⟨v532, rfl, ho0, hb⟩
           refine ⟨_, rfl, ?_⟩
           have HO533 := Yl (Kd.R_new' ho0 (Z18 (Yr HO527.out)))
           replace HO527 := Ya (Kd.R_elder' (Yr HO527.out) (Kd.R_base ho0) hb)
           replace BK524 := Yb BK524 hb
           replace BK534 := Yb BK534 hb
           replace HB := Yh hb
           (try clear hb ho0)
           refine hK.out _ _ trivial (fun hHeld => ?_)
           clear hK K
           refine norm_ (a' := ?_) ?_ ?_
           rotate_left
           ·show Act.put _ (some 13) _ = _
            simp only [Act.put, Z0, Z1, Z2, i64_w, i32_w]
            rfl
           exact norm_ Q4 (hJ1_6_8 (v526, v532, gb534) _ ⟨(Yj HO527.out (fun _ hk => hk.2)), (Yj HO533.out (fun _ hk => hk.2)), (Yk BK524.out), (Yk BK534.out), GW534.out, GE534.out, NB524_534.out, NB534_524.out, Q0⟩)
        ·skip
         rintro ⟨v526, v532⟩ w10 ⟨h0_, h1_, h2_, h3_⟩
         have HO527 : Aside0 (Kd.R (Kd.int .i64) 3 w10 w.heap.size (fun k_ => some k_ ≠ (v532 : Value).ownBlock) v526 t525) := ⟨h0_⟩
         have HO533 : Aside0 (Kd.R (Kd.int .i64) 3 w10 w.heap.size (fun k_ => some k_ ≠ (v526 : Value).ownBlock) v532 t531) := ⟨h1_⟩
         replace BK524 : Aside0 (w10.heap[gb524]? = some (.cells YN4 27 (0, 0))) := ⟨h2_⟩
         replace HB : Aside0 (Below w.heap.size w w10) := ⟨h3_⟩
         clear h0_ h1_ h2_ h3_
         have hHeld := trivial
         refine norm_ (a' := ?_) ?_ ?_
         rotate_left
         ·simp only [putAll, Act.put, Z0, Z1, Z2]
          rfl
         refine two_ (i := 3) (j := 8) (Ni := some 10) (Nj := some 4) (YA 10 127) (YA 10 375) rfl rfl rfl rfl (two_of HT_.out (by kernel_rfl)) (by decide) (by decide) (fun K hK => ?_) (fun K hK => ?_)
         ·skip
          refine Kd.R_make_step (Kd.int .i64) _ 3 (by rfl) (N := 10) rfl 22 _ _ rfl (l0.length : Int) rfl rfl Try.underlying22 (.int .i64 0) 8 info3 rfl (by decide) (by omega) 0 (ok := fun _ => True) (okp := fun _ => True) rfl (fun _ hk => hk) trivial (Z30 Q1) (Nat.le_trans (Nat.mul_le_mul_right _ (Z30 Q1 : (l0.length : Int).toNat ≤ 35184372088832)) (by omega)) (Below.refl _ _) (Nat.le_refl _) ?_
          intro v529 w11 ho12 hb hg_ hnew_
          clear hg_ hnew_
          (first | rw [← Ny528.out] at ho12 | (simp only [Int.reduceToNat] at ho12; rw [← Ny528.out] at ho12))
          have HO530 := Yl (Kd.R_new' (Kd.R_new' ho12 (Z18 (Yr HO527.out))) (Z18 (Yr HO533.out)))
          replace HO527 := Ya (Kd.R_elder' (Yr HO527.out) (Kd.R_base ho12) hb)
          replace HO533 := Ya (Kd.R_elder' (Yr HO533.out) (Kd.R_base ho12) hb)
          replace BK524 := Yb BK524 hb
          replace HB := Yh hb
          clear hb ho12
          obtain ⟨Ao13, co13, eo13⟩ := Z19 HO533.out
          (first | subst eo13 | (injection eo13 with f1_ f2_ f3_; have f4_ := f1_.symm; have f5_ := f3_.symm; clear f1_ f2_ f3_; subst f4_; subst f5_))
          obtain ⟨Ao14, co14, eo14⟩ := Z19 HO530.out
          (first | subst eo14 | (injection eo14 with f1_ f2_ f3_; have f4_ := f1_.symm; have f5_ := f3_.symm; clear f1_ f2_ f3_; subst f4_; subst f5_))
          obtain ⟨Ao15, co15, eo15⟩ := Z19 HO527.out
          (first | subst eo15 | (injection eo15 with f1_ f2_ f3_; have f4_ := f1_.symm; have f5_ := f3_.symm; clear f1_ f2_ f3_; subst f4_; subst f5_))
          refine hK.out _ _ trivial (fun hHeld => ?_)
          clear hK K
          refine norm_ (a' := ?_) ?_ ?_
          rotate_left
          ·show Act.put _ (some 10) _ = _
           simp only [Act.put, Z0, Z1, Z2, i64_w, i32_w]
           rfl
          refine Yp 7 (some 14) (YA 10 255) rfl HT_.out ?_
          exact norm_ Q4 (hJ1_3_6 (.slice Ao15 t525.length co15, .slice Ao14 y528.length co14, .slice Ao13 t531.length co13) _ ⟨(Yj HO527.out (fun _ hk => ⟨hk.2, hk.1⟩)), (Yj HO530.out (fun _ hk => ⟨hk.1.2, hk.2⟩)), (Yr HO533.out), (Yk BK524.out), Q0⟩)
         ·skip
          refine Yy 4 YN4 27 ?_
          intro gb534 hg w11 hbox hb
          replace HO527 := Yw HO527 hb
          replace HO533 := Yw HO533 hb
          have BK534 := Ya hbox
          have GW534 := Yg hg
          have GE534 := GW534
          replace HB := Yh hb
          have NB524_534 := Yn BK524 hg
          have NB534_524 := Ym BK524 hg
          replace BK524 := Yb BK524 hb
          clear hb hbox hg
          refine hK.out _ _ trivial (fun hHeld => ?_)
          clear hK K
          refine norm_ (a' := ?_) ?_ ?_
          rotate_left
          ·show Act.put _ (some 4) _ = _
           simp only [Act.put, Z0, Z1, Z2, i64_w, i32_w]
           rfl
          exact norm_ Q4 (hJ1_6_8 (v526, v532, gb534) _ ⟨(Yr HO527.out), (Yr HO533.out), (Yk BK524.out), (Yk BK534.out), GW534.out, GE534.out, NB524_534.out, NB534_524.out, Q0⟩)
       ·skip
        rintro ⟨v526, v529⟩ w11 ⟨h0_, h1_, h2_, h3_⟩
        have HO527 : Aside0 (Kd.R (Kd.int .i64) 3 w11 w.heap.size (fun k_ => some k_ ≠ (v529 : Value).ownBlock) v526 t525) := ⟨h0_⟩
        have HO530 : Aside0 (Kd.R (Kd.int .i64) 3 w11 w.heap.size (fun k_ => some k_ ≠ (v526 : Value).ownBlock) v529 y528) := ⟨h1_⟩
        replace BK524 : Aside0 (w11.heap[gb524]? = some (.cells YN4 27 (0, 0))) := ⟨h2_⟩
        replace HB : Aside0 (Below w.heap.size w w11) := ⟨h3_⟩
        clear h0_ h1_ h2_ h3_
        have hHeld := trivial
        refine norm_ (a' := ?_) ?_ ?_
        rotate_left
        ·simp only [putAll, Act.put, Z0, Z1, Z2]
         rfl
        refine two_ (i := 6) (j := 8) (Ni := some 13) (Nj := some 4) (YA 10 127) (YA 10 319) rfl rfl rfl rfl (two_of HT_.out (by kernel_rfl)) (by decide) (by decide) (fun K hK => ?_) (fun K hK => ?_)
        ·skip
         refine goes_ Try.func72 (by kernel_rfl) rfl #[.int .i64 (wrap64 ((l0.length : Int) + 1))] (by rfl) rfl rfl Q7 ?_
         with_reducible refine (impl_identity.calls k (wrap64 ((l0.length : Int) + 1)) t531 _ A5.out).mono ?_
         rintro e w12 ⟨v532, rfl, ho0, hb⟩
         refine ⟨_, rfl, ?_⟩
         have HO533 := Yl (Kd.R_new' (Kd.R_new' ho0 (Z18 (Yr HO527.out))) (Z18 (Yr HO530.out)))
         replace HO527 := Ya (Kd.R_elder' (Yr HO527.out) (Kd.R_base ho0) hb)
         replace HO530 := Ya (Kd.R_elder' (Yr HO530.out) (Kd.R_base ho0) hb)
         replace BK524 := Yb BK524 hb
         replace HB := Yh hb
         (try clear hb ho0)
         obtain ⟨Ao13, co13, eo13⟩ := Z19 HO533.out
         (first | subst eo13 | (injection eo13 with f1_ f2_ f3_; have f4_ := f1_.symm; have f5_ := f3_.symm; clear f1_ f2_ f3_; subst f4_; subst f5_))
         obtain ⟨Ao14, co14, eo14⟩ := Z19 HO530.out
         (first | subst eo14 | (injection eo14 with f1_ f2_ f3_; have f4_ := f1_.symm; have f5_ := f3_.symm; clear f1_ f2_ f3_; subst f4_; subst f5_))
         obtain ⟨Ao15, co15, eo15⟩ := Z19 HO527.out
         (first | subst eo15 | (injection eo15 with f1_ f2_ f3_; have f4_ := f1_.symm; have f5_ := f3_.symm; clear f1_ f2_ f3_; subst f4_; subst f5_))
         refine hK.out _ _ trivial (fun hHeld => ?_)
         clear hK K
         refine norm_ (a' := ?_) ?_ ?_
         rotate_left
         ·show Act.put _ (some 13) _ = _
          simp only [Act.put, Z0, Z1, Z2, i64_w, i32_w]
          rfl
         refine Yp 7 (some 14) (YA 10 255) rfl HT_.out ?_
         exact norm_ Q4 (hJ1_3_6 (.slice Ao15 t525.length co15, .slice Ao14 y528.length co14, .slice Ao13 t531.length co13) _ ⟨(Yr HO527.out), (Yr HO530.out), (Yj HO533.out (fun _ hk => ⟨hk.1.2, hk.2⟩)), (Yk BK524.out), Q0⟩)
        ·skip
         refine Yy 4 YN4 27 ?_
         intro gb534 hg w12 hbox hb
         replace HO527 := Yw HO527 hb
         replace HO530 := Yw HO530 hb
         have BK534 := Ya hbox
         have GW534 := Yg hg
         have GE534 := GW534
         replace HB := Yh hb
         have NB524_534 := Yn BK524 hg
         have NB534_524 := Ym BK524 hg
         replace BK524 := Yb BK524 hb
         clear hb hbox hg
         refine hK.out _ _ trivial (fun hHeld => ?_)
         clear hK K
         refine norm_ (a' := ?_) ?_ ?_
         rotate_left
         ·show Act.put _ (some 4) _ = _
          simp only [Act.put, Z0, Z1, Z2, i64_w, i32_w]
          rfl
         exact norm_ Q4 (hJ1_3_8 (v526, v529, gb534) _ ⟨(Yr HO527.out), (Yr HO530.out), (Yk BK524.out), (Yk BK534.out), GW534.out, GE534.out, NB524_534.out, NB534_524.out, Q0⟩)
      ·skip
       rintro ⟨v526, v532, gb534⟩ w11 ⟨h0_, h1_, h2_, h3_, h4_, h5_, h6_, h7_, h8_⟩
       have HO527 : Aside0 (Kd.R (Kd.int .i64) 3 w11 w.heap.size (fun k_ => some k_ ≠ (v532 : Value).ownBlock) v526 t525) := ⟨h0_⟩
       have HO533 : Aside0 (Kd.R (Kd.int .i64) 3 w11 w.heap.size (fun k_ => some k_ ≠ (v526 : Value).ownBlock) v532 t531) := ⟨h1_⟩
       replace BK524 : Aside0 (w11.heap[gb524]? = some (.cells YN4 27 (0, 0))) := ⟨h2_⟩
       have BK534 : Aside0 (w11.heap[gb534]? = some (.cells YN4 27 (0, 0))) := ⟨h3_⟩
       have GW534 : Aside0 (w.heap.size ≤ gb534) := ⟨h4_⟩
       have GE534 : Aside0 (w.heap.size ≤ gb534) := ⟨h5_⟩
       have NB524_534 : Aside0 (gb524 ≠ gb534) := ⟨h6_⟩
       have NB534_524 : Aside0 (gb534 ≠ gb524) := ⟨h7_⟩
       replace HB : Aside0 (Below w.heap.size w w11) := ⟨h8_⟩
       clear h0_ h1_ h2_ h3_ h4_ h5_ h6_ h7_ h8_
       have hHeld := trivial
       refine norm_ (a' := ?_) ?_ ?_
       rotate_left
       ·simp only [putAll, Act.put, Z0, Z1, Z2]
        rfl
       refine one_ (i := 3) (N := some 10) (YA 10 383) rfl rfl (one_of HT_.out (by kernel_rfl)) (by decide) (fun K hK => ?_)
       refine Kd.R_make_step (Kd.int .i64) _ 3 (by rfl) (N := 10) rfl 22 _ _ rfl (l0.length : Int) rfl rfl Try.underlying22 (.int .i64 0) 8 info3 rfl (by decide) (by omega) 0 (ok := fun _ => True) (okp := fun _ => True) rfl (fun _ hk => hk) trivial (Z30 Q1) (Nat.le_trans (Nat.mul_le_mul_right _ (Z30 Q1 : (l0.length : Int).toNat ≤ 35184372088832)) (by omega)) (Below.refl _ _) (Nat.le_refl _) ?_
       intro v529 w12 ho13 hb hg_ hnew_
       clear hg_ hnew_
       (first | rw [← Ny528.out] at ho13 | (simp only [Int.reduceToNat] at ho13; rw [← Ny528.out] at ho13))
       have HO530 := Yl (Kd.R_new' (Kd.R_new' ho13 (Z18 (Yr HO527.out))) (Z18 (Yr HO533.out)))
       replace HO527 := Ya (Kd.R_elder' (Yr HO527.out) (Kd.R_base ho13) hb)
       replace HO533 := Ya (Kd.R_elder' (Yr HO533.out) (Kd.R_base ho13) hb)
       replace BK524 := Yb BK524 hb
       replace BK534 := Yb BK534 hb
       replace HB := Yh hb
       clear hb ho13
       obtain ⟨Ao14, co14, eo14⟩ := Z19 HO533.out
       (first | subst eo14 | (injection eo14 with f1_ f2_ f3_; have f4_ := f1_.symm; have f5_ := f3_.symm; clear f1_ f2_ f3_; subst f4_; subst f5_))
       obtain ⟨Ao15, co15, eo15⟩ := Z19 HO530.out
       (first | subst eo15 | (injection eo15 with f1_ f2_ f3_; have f4_ := f1_.symm; have f5_ := f3_.symm; clear f1_ f2_ f3_; subst f4_; subst f5_))
       obtain ⟨Ao16, co16, eo16⟩ := Z19 HO527.out
       (first | subst eo16 | (injection eo16 with f1_ f2_ f3_; have f4_ := f1_.symm; have f5_ := f3_.symm; clear f1_ f2_ f3_; subst f4_; subst f5_))
       refine hK.out _ _ trivial (fun hHeld => ?_)
       clear hK K
       refine norm_ (a' := ?_) ?_ ?_
       rotate_left
       ·show Act.put _ (some 10) _ = _
        simp only [Act.put, Z0, Z1, Z2, i64_w, i32_w]
        rfl
       refine Yp 7 (some 14) (YA 10 511) rfl HT_.out ?_
       exact norm_ Q4 (hJ1_3_6_8 (.slice Ao16 t525.length co16, .slice Ao15 y528.length co15, .slice Ao14 t531.length co14, gb534) _ ⟨(Yj HO527.out (fun _ hk => ⟨hk.2, hk.1⟩)), (Yj HO530.out (fun _ hk => ⟨hk.1.2, hk.2⟩)), (Yr HO533.out), (Yk BK524.out), (Yk BK534.out), GW534.out, GE534.out, NB524_534.out, NB534_524.out, Q0⟩)
     ·skip
      rintro ⟨v526, v529, gb534⟩ w12 ⟨h0_, h1_, h2_, h3_, h4_, h5_, h6_, h7_, h8_⟩
      have HO527 : Aside0 (Kd.R (Kd.int .i64) 3 w12 w.heap.size (fun k_ => some k_ ≠ (v529 : Value).ownBlock) v526 t525) := ⟨h0_⟩
      have HO530 : Aside0 (Kd.R (Kd.int .i64) 3 w12 w.heap.size (fun k_ => some k_ ≠ (v526 : Value).ownBlock) v529 y528) := ⟨h1_⟩
      replace BK524 : Aside0 (w12.heap[gb524]? = some (.cells YN4 27 (0, 0))) := ⟨h2_⟩
      have BK534 : Aside0 (w12.heap[gb534]? = some (.cells YN4 27 (0, 0))) := ⟨h3_⟩
      have GW534 : Aside0 (w.heap.size ≤ gb534) := ⟨h4_⟩
      have GE534 : Aside0 (w.heap.size ≤ gb534) := ⟨h5_⟩
      have NB524_534 : Aside0 (gb524 ≠ gb534) := ⟨h6_⟩
      have NB534_524 : Aside0 (gb534 ≠ gb524) := ⟨h7_⟩
      replace HB : Aside0 (Below w.heap.size w w12) := ⟨h8_⟩
      clear h0_ h1_ h2_ h3_ h4_ h5_ h6_ h7_ h8_
      have hHeld := trivial
      refine norm_ (a' := ?_) ?_ ?_
      rotate_left
      ·simp only [putAll, Act.put, Z0, Z1, Z2]
       rfl
      refine one_ (i := 6) (N := some 13) (YA 10 383) rfl rfl (one_of HT_.out (by kernel_rfl)) (by decide) (fun K hK => ?_)
      refine goes_ Try.func72 (by kernel_rfl) rfl #[.int .i64 (wrap64 ((l0.length : Int) + 1))] (by rfl) rfl rfl Q7 ?_
      with_reducible refine (impl_identity.calls k (wrap64 ((l0.length : Int) + 1)) t531 _ A5.out).mono ?_
      rintro e w13 ⟨v532, rfl, ho0, hb⟩
      refine ⟨_, rfl, ?_⟩
      have HO533 := Yl (Kd.R_new' (Kd.R_new' ho0 (Z18 (Yr HO527.out))) (Z18 (Yr HO530.out)))
      replace HO527 := Ya (Kd.R_elder' (Yr HO527.out) (Kd.R_base ho0) hb)
      replace HO530 := Ya (Kd.R_elder' (Yr HO530.out) (Kd.R_base ho0) hb)
      replace BK524 := Yb BK524 hb
      replace BK534 := Yb BK534 hb
      replace HB := Yh hb
      (try clear hb ho0)
      obtain ⟨Ao14, co14, eo14⟩ := Z19 HO533.out
      (first | subst eo14 | (injection eo14 with f1_ f2_ f3_; have f4_ := f1_.symm; have f5_ := f3_.symm; clear f1_ f2_ f3_; subst f4_; subst f5_))
      obtain ⟨Ao15, co15, eo15⟩ := Z19 HO530.out
      (first | subst eo15 | (injection eo15 with f1_ f2_ f3_; have f4_ := f1_.symm; have f5_ := f3_.symm; clear f1_ f2_ f3_; subst f4_; subst f5_))
      obtain ⟨Ao16, co16, eo16⟩ := Z19 HO527.out
      (first | subst eo16 | (injection eo16 with f1_ f2_ f3_; have f4_ := f1_.symm; have f5_ := f3_.symm; clear f1_ f2_ f3_; subst f4_; subst f5_))
      refine hK.out _ _ trivial (fun hHeld => ?_)
      clear hK K
      refine norm_ (a' := ?_) ?_ ?_
      rotate_left
      ·show Act.put _ (some 13) _ = _
       simp only [Act.put, Z0, Z1, Z2, i64_w, i32_w]
       rfl
      refine Yp 7 (some 14) (YA 10 511) rfl HT_.out ?_
      exact norm_ Q4 (hJ1_3_6_8 (.slice Ao16 t525.length co16, .slice Ao15 y528.length co15, .slice Ao14 t531.length co14, gb534) _ ⟨(Yr HO527.out), (Yr HO530.out), (Yj HO533.out (fun _ hk => ⟨hk.1.2, hk.2⟩)), (Yk BK524.out), (Yk BK534.out), GW534.out, GE534.out, NB524_534.out, NB534_524.out, Q0⟩)
    ·skip
     rintro ⟨v526, v529, v532⟩ w15 ⟨h0_, h1_, h2_, h3_, h4_⟩
     have HO527 : Aside0 (Kd.R (Kd.int .i64) 3 w15 w.heap.size (fun k_ => some k_ ≠ (v529 : Value).ownBlock ∧ some k_ ≠ (v532 : Value).ownBlock) v526 t525) := ⟨h0_⟩
     have HO530 : Aside0 (Kd.R (Kd.int .i64) 3 w15 w.heap.size (fun k_ => some k_ ≠ (v526 : Value).ownBlock ∧ some k_ ≠ (v532 : Value).ownBlock) v529 y528) := ⟨h1_⟩
     have HO533 : Aside0 (Kd.R (Kd.int .i64) 3 w15 w.heap.size (fun k_ => some k_ ≠ (v526 : Value).ownBlock ∧ some k_ ≠ (v529 : Value).ownBlock) v532 t531) := ⟨h2_⟩
     replace BK524 : Aside0 (w15.heap[gb524]? = some (.cells YN4 27 (0, 0))) := ⟨h3_⟩
     replace HB : Aside0 (Below w.heap.size w w15) := ⟨h4_⟩
     clear h0_ h1_ h2_ h3_ h4_
     have hHeld := trivial
     obtain ⟨Ao16, co16, eo16⟩ := Z19 HO533.out
     (first | subst eo16 | (injection eo16 with f1_ f2_ f3_; have f4_ := f1_.symm; have f5_ := f3_.symm; clear f1_ f2_ f3_; subst f4_; subst f5_))
     obtain ⟨Ao17, co17, eo17⟩ := Z19 HO530.out
     (first | subst eo17 | (injection eo17 with f1_ f2_ f3_; have f4_ := f1_.symm; have f5_ := f3_.symm; clear f1_ f2_ f3_; subst f4_; subst f5_))
     obtain ⟨Ao18, co18, eo18⟩ := Z19 HO527.out
     (first | subst eo18 | (injection eo18 with f1_ f2_ f3_; have f4_ := f1_.symm; have f5_ := f3_.symm; clear f1_ f2_ f3_; subst f4_; subst f5_))
     refine norm_ (a' := ?_) ?_ ?_
     rotate_left
     ·simp only [putAll, Act.put, Z0, Z1, Z2]
      rfl
     refine one_ (i := 8) (N := some 4) (YA 10 511) rfl rfl (one_of HT_.out (by kernel_rfl)) (by decide) (fun K hK => ?_)
     refine Yy 4 YN4 27 ?_
     intro gb534 hg w19 hbox hb
     replace HO527 := Yw HO527 hb
     replace HO530 := Yw HO530 hb
     replace HO533 := Yw HO533 hb
     have BK534 := Ya hbox
     have GW534 := Yg hg
     have GE534 := GW534
     replace HB := Yh hb
     have NB524_534 := Yn BK524 hg
     have NB534_524 := Ym BK524 hg
     replace BK524 := Yb BK524 hb
     clear hb hbox hg
     refine hK.out _ _ trivial (fun hHeld => ?_)
     clear hK K
     refine norm_ (a' := ?_) ?_ ?_
     rotate_left
     ·show Act.put _ (some 4) _ = _
      simp only [Act.put, Z0, Z1, Z2, i64_w, i32_w]
      rfl
     exact norm_ Q4 (hJ1_3_6_8 (.slice Ao18 t525.length co18, .slice Ao17 y528.length co17, .slice Ao16 t531.length co16, gb534) _ ⟨(Yr HO527.out), (Yr HO530.out), (Yr HO533.out), (Yk BK524.out), (Yk BK534.out), GW534.out, GE534.out, NB524_534.out, NB534_524.out, Q0⟩)
   rintro ⟨v526, v529, v532, gb534⟩ w16 ⟨h0_, h1_, h2_, h3_, h4_, h5_, h6_, h7_, h8_, h9_⟩
   have HO527 : Aside0 (Kd.R (Kd.int .i64) 3 w16 w.heap.size (fun k_ => some k_ ≠ (v529 : Value).ownBlock ∧ some k_ ≠ (v532 : Value).ownBlock) v526 t525) := ⟨h0_⟩
   have HO530 : Aside0 (Kd.R (Kd.int .i64) 3 w16 w.heap.size (fun k_ => some k_ ≠ (v526 : Value).ownBlock ∧ some k_ ≠ (v532 : Value).ownBlock) v529 y528) := ⟨h1_⟩
   have HO533 : Aside0 (Kd.R (Kd.int .i64) 3 w16 w.heap.size (fun k_ => some k_ ≠ (v526 : Value).ownBlock ∧ some k_ ≠ (v529 : Value).ownBlock) v532 t531) := ⟨h2_⟩
   replace BK524 : Aside0 (w16.heap[gb524]? = some (.cells YN4 27 (0, 0))) := ⟨h3_⟩
   have BK534 : Aside0 (w16.heap[gb534]? = some (.cells YN4 27 (0, 0))) := ⟨h4_⟩
   have GW534 : Aside0 (w.heap.size ≤ gb534) := ⟨h5_⟩
   have GE534 : Aside0 (w.heap.size ≤ gb534) := ⟨h6_⟩
   have NB524_534 : Aside0 (gb524 ≠ gb534) := ⟨h7_⟩
   have NB534_524 : Aside0 (gb534 ≠ gb524) := ⟨h8_⟩
   replace HB : Aside0 (Below w.heap.size w w16) := ⟨h9_⟩
   clear h0_ h1_ h2_ h3_ h4_ h5_ h6_ h7_ h8_ h9_
   have hHeld := trivial
   obtain ⟨Ao17, co17, eo17⟩ := Z19 HO533.out
   (first | subst eo17 | (injection eo17 with f1_ f2_ f3_; have f4_ := f1_.symm; have f5_ := f3_.symm; clear f1_ f2_ f3_; subst f4_; subst f5_))
   obtain ⟨Ao18, co18, eo18⟩ := Z19 HO530.out
   (first | subst eo18 | (injection eo18 with f1_ f2_ f3_; have f4_ := f1_.symm; have f5_ := f3_.symm; clear f1_ f2_ f3_; subst f4_; subst f5_))
   obtain ⟨Ao19, co19, eo19⟩ := Z19 HO527.out
   (first | subst eo19 | (injection eo19 with f1_ f2_ f3_; have f4_ := f1_.symm; have f5_ := f3_.symm; clear f1_ f2_ f3_; subst f4_; subst f5_))
   refine norm_ (a' := ?_) ?_ ?_
   rotate_left
   ·simp only [putAll, Act.put, Z0, Z1, Z2]
    rfl
   refine one_ (i := 9) (N := none) (YA 10 1023) rfl rfl (one_of HT_.out (by kernel_rfl)) (by decide) (fun K hK => ?_)
   have hs20 : w16.cell? ⟨gb534, 0, none⟩ = some (.slice none 0 0) := (Z23 BK534.out 0).trans rfl
   have hfs20 := Z24 BK534.out 0
   have hns20_0 := NB524_534.out
   have hms20_0 := NB534_524.out
   have hs21 : w16.cell? ⟨gb534, 1, none⟩ = some (.slice none 0 0) := (Z23 BK534.out 1).trans rfl
   have hfs21 := Z24 BK534.out 1
   have hns21_0 := NB524_534.out
   have hms21_0 := NB534_524.out
   have hs22 : w16.cell? ⟨gb534, 2, none⟩ = some (.slice none 0 0) := (Z23 BK534.out 2).trans rfl
   have hfs22 := Z24 BK534.out 2
   have hns22_0 := NB524_534.out
   have hms22_0 := NB534_524.out
   have hs23 : w16.cell? ⟨gb534, 3, none⟩ = some (.slice none 0 0) := (Z23 BK534.out 3).trans rfl
   have hfs23 := Z24 BK534.out 3
   have hns23_0 := NB524_534.out
   have hms23_0 := NB534_524.out
   refine skip_ (w1 := ?_) (by rfl) rfl ?_ ?_
   rotate_left
   ·go_simp
    rfl
   refine hK.out _ _ trivial (fun hHeld => ?_)
   clear hK K
   refine done_ (done_of HT_.out (by kernel_rfl)) ?_
   try go_wp2
   go_loopg [16] k (fun kq v16 w' => ∃ (x16_1 : Int) (x535002_1 : List Bool) (u535002 : Value), v16 = .int .i64 x16_1 ∧ Aside0 (impl_startFocus.l0 kq (l0.length : Int) x16_1 t525 y528 x535002_1 t531 = some (r1, r2, r3, r4)) ∧ Aside0 (kq ≤ k) ∧ Aside0 (Kd.R (Kd.int .i64) 3 w' w.heap.size (fun k_ => some k_ ≠ ((.slice Ao18 y528.length co18) : Value).ownBlock ∧ some k_ ≠ ((.slice Ao17 t531.length co17) : Value).ownBlock) (.slice Ao19 t525.length co19) t525) ∧ Aside0 (Kd.R (Kd.int .i64) 3 w' w.heap.size (fun k_ => some k_ ≠ ((.slice Ao19 t525.length co19) : Value).ownBlock ∧ some k_ ≠ ((.slice Ao17 t531.length co17) : Value).ownBlock) (.slice Ao18 y528.length co18) y528) ∧ Aside0 (Kd.R Kd.bool 4 w' w.heap.size (fun _ => True) u535002 x535002_1) ∧ Aside0 (Kd.R (Kd.int .i64) 3 w' w.heap.size (fun k_ => some k_ ≠ ((.slice Ao19 t525.length co19) : Value).ownBlock ∧ some k_ ≠ ((.slice Ao18 y528.length co18) : Value).ownBlock) (.slice Ao17 t531.length co17) t531) ∧ Aside0 (w'.heap[gb524]? = some (.cells #[(.slice none 0 0), (.slice none 0 0), (.slice none 0 0), (.slice none 0 0)] 27 (0, 0))) ∧ Aside0 (w'.heap[gb534]? = some (.cells #[(.slice Ao19 t525.length co19), (.slice Ao18 y528.length co18), u535002, (.slice Ao17 t531.length co17)] 27 (0, 0))) ∧ Aside0 (Below w.heap.size w w'))
   case atStart => exact ⟨(0), (([] : List Bool)), (.slice none 0 0), Q8, H', ⟨Nat.le_refl _⟩, ⟨Yj (Yf4 HO527.out BK534.out) (fun _ hk => ⟨hk.1.1, hk.1.2⟩)⟩, ⟨Yj (Yf4 HO530.out BK534.out) (fun _ hk => ⟨hk.1.1, hk.1.2⟩)⟩, ⟨Q6⟩, ⟨Yj (Yf4 HO533.out BK534.out) (fun _ hk => ⟨hk.1.1, hk.1.2⟩)⟩, ⟨by (with_reducible repeat (first | refine Z25 ?_ _ | refine Z26 ?_ | refine Z27 ?_ _)); refine blk_far ?_ NB524_534.out _; (with_reducible repeat (first | refine Z25 ?_ _ | refine Z26 ?_ | refine Z27 ?_ _)); refine blk_far ?_ NB524_534.out _; (with_reducible repeat (first | refine Z25 ?_ _ | refine Z26 ?_ | refine Z27 ?_ _)); refine blk_far ?_ NB524_534.out _; (with_reducible repeat (first | refine Z25 ?_ _ | refine Z26 ?_ | refine Z27 ?_ _)); refine blk_far ?_ NB524_534.out _; (with_reducible repeat (first | refine Z25 ?_ _ | refine Z26 ?_ | refine Z27 ?_ _)); exact BK524.out⟩, ⟨by (with_reducible repeat (first | refine Z25 ?_ _ | refine Z26 ?_ | refine Z27 ?_ _)); refine Z29 (cs := #[.slice Ao19 t525.length co19, .slice Ao18 y528.length co18, .slice none 0 0, .slice none 0 0]) ?_ 3 _ rfl; (with_reducible repeat (first | refine Z25 ?_ _ | refine Z26 ?_ | refine Z27 ?_ _)); refine Z29 (cs := #[.slice Ao19 t525.length co19, .slice Ao18 y528.length co18, .slice none 0 0, .slice none 0 0]) ?_ 2 _ rfl; (with_reducible repeat (first | refine Z25 ?_ _ | refine Z26 ?_ | refine Z27 ?_ _)); refine Z29 (cs := #[.slice Ao19 t525.length co19, .slice none 0 0, .slice none 0 0, .slice none 0 0]) ?_ 1 _ rfl; (with_reducible repeat (first | refine Z25 ?_ _ | refine Z26 ?_ | refine Z27 ?_ _)); refine Z29 (cs := YN4) ?_ 0 _ rfl; (with_reducible repeat (first | refine Z25 ?_ _ | refine Z26 ?_ | refine Z27 ?_ _)); exact BK534.out⟩, ⟨Q12⟩⟩
   case round =>
    clear H'
    try clear p2
    try clear p6
    try clear c7
    obtain ⟨x16_1, x535002_1, u535002, rfl, HA, HK1, HO_535000, HO_535001, HO_535002, HO_535003, BK524, BK534, HB⟩ := hrel
    cases gk with
    | zero => exact absurd HA.out (by simp [impl_startFocus.l0])
    | succ k1 =>
     have H := HA.out
     clear HA
     simp only [impl_startFocus.l0] at H
     by_cases c24 : x16_1 < (l0.length : Int)
     ·rw [if_pos c24] at H
      have c24b0 := Z38 c24
      clear c24
      by_cases c25 : x535002_1.length < 140737488355328
      ·rw [if_pos c25] at H
       have LMc25 := Ya c25
       clear c25
       obtain ⟨y535, hy535⟩ : ∃ y_ : List Bool, y_ = (x535002_1 ++ [true]) := ⟨_, rfl⟩
       replace H : (impl_startFocus.l0 k1 (l0.length : Int) (wrap64 (x16_1 + 1)) t525 y528 y535 t531) = some (r1, r2, r3, r4) := by first | (rw [hy535]; with_reducible exact H) | (have H2_ := (Option.bind_some _ _).symm.trans H; rw [hy535]; with_reducible exact H2_) | (have H2_ := (Option.bind_some _ _).symm.trans H; with_reducible exact H2_) | with_reducible exact H | (rw [hy535]; exact H) | exact H
       have Ny535 := Ya hy535
       clear hy535
       have H' := Ya H
       clear H
       have hnb26 := NB534_524.out
       have hnc26 := NB524_534.out
       have hz27 := Y4 BK534.out
       go_wp2_with (first | ((with_reducible refine gate_builtin (b := .append) (xs := #[.tmp 19, .tmp 20]) rfl ?_); at_builtin; refine Kd.R_append Kd.bool (w0 := w) w.heap.size rfl (.tmp 19) (.tmp 20) 23 4 (.bool false) 1 rfl Try.underlying23 info4 rfl (by decide) (by omega) u535002 x535002_1 true [.bool true] (fun _ => True) (fun _ => False) rfl rfl ?aP (fun _ hk => hk.elim) ?aF ?aO ?aB ?aS ?aL ?_; (case aP => exact rfl); (case aB => exact Q0); (case aF => exact (fun _ _ => trivial)); (case aO => exact (Yr HO_535002.out)); (case aS => exact (Z7 Q0)); (case aL => have := LMc25.out; omega); intro v536 w28 ho hb hg hat; rw [← Ny535.out] at ho; replace HO_535000 := Ya (Kd.R_over' (Yr HO_535000.out) (Kd.R_typed (Yr HO_535002.out)) (by decide) hg); replace HO_535001 := Ya (Kd.R_over' (Yr HO_535001.out) (Kd.R_typed (Yr HO_535002.out)) (by decide) hg); replace HO_535003 := Ya (Kd.R_over' (Yr HO_535003.out) (Kd.R_typed (Yr HO_535002.out)) (by decide) hg); replace BK524 := Ya (blk_grown (g := gb524) (o := .cells YN4 27 (0, 0)) (Yk BK524.out) hg (Kd.R_ne HO_535002.out BK524.out (by decide))); replace BK534 := Ya (blk_grown (g := gb534) (o := .cells #[.slice Ao19 t525.length co19, .slice Ao18 y528.length co18, u535002, .slice Ao17 t531.length co17] 27 (0, 0)) (Yk BK534.out) hg (Kd.R_ne HO_535002.out BK534.out (by decide))); replace HB := Ya hb; have HO537 := Ya ho; clear HO_535002; clear ho hb hg hat; obtain ⟨Ao29, co29, rfl⟩ := Z19 HO537.out; have hz30 := Y4 BK534.out))
       go_roundg k1
       case measure => have := HK1.out; omega
       case rel => exact ⟨(wrap64 (x16_1 + 1)), (y535), (.slice Ao29 y535.length co29), Q8, H', ⟨Q20⟩, ⟨Yj (Z13 (p := ⟨gb534, 2, none⟩) (Z15 HO_535000.out BK534.out (by decide)) (fun _ hk => hk.2) (.slice Ao29 y535.length co29)) (fun _ hk => ⟨hk.1.1, hk.1.2⟩)⟩, ⟨Yj (Z13 (p := ⟨gb534, 2, none⟩) (Z15 HO_535001.out BK534.out (by decide)) (fun _ hk => hk.2) (.slice Ao29 y535.length co29)) (fun _ hk => ⟨hk.1.1, hk.1.2⟩)⟩, ⟨Yj (Z13 (p := ⟨gb534, 2, none⟩) (Z15 HO537.out BK534.out (by decide)) (fun _ hk => hk.2) (.slice Ao29 y535.length co29)) (fun _ hk => trivial)⟩, ⟨Yj (Z13 (p := ⟨gb534, 2, none⟩) (Z15 HO_535003.out BK534.out (by decide)) (fun _ hk => hk.2) (.slice Ao29 y535.length co29)) (fun _ hk => ⟨hk.1.1, hk.1.2⟩)⟩, ⟨by (with_reducible repeat (first | refine Z25 ?_ _ | refine Z26 ?_ | refine Z27 ?_ _)); refine blk_far ?_ NB524_534.out _; (with_reducible repeat (first | refine Z25 ?_ _ | refine Z26 ?_ | refine Z27 ?_ _)); exact BK524.out⟩, ⟨by (with_reducible repeat (first | refine Z25 ?_ _ | refine Z26 ?_ | refine Z27 ?_ _)); refine Z29 (cs := #[.slice Ao19 t525.length co19, .slice Ao18 y528.length co18, u535002, .slice Ao17 t531.length co17]) ?_ 2 _ rfl; (with_reducible repeat (first | refine Z25 ?_ _ | refine Z26 ?_ | refine Z27 ?_ _)); exact BK534.out⟩, ⟨Q12⟩⟩
      ·rw [if_neg c25] at H
       exact absurd H (by simp)
     ·rw [if_neg c24] at H
      have c24b0 := Z37 c24
      clear c24
      simp only [Option.some.injEq, Prod.mk.injEq] at H
      obtain ⟨rfl, rfl, rfl, rfl⟩ := H
      have hnb31 := NB534_524.out
      have hnc31 := NB524_534.out
      have hz32 := Y4 BK534.out
      have hz33 := Y4 BK524.out
      obtain ⟨Ao34, co34, rfl⟩ := Z19 HO_535002.out
      go_wp2
      refine bodyPost_ret (results_cell_row rfl _ _ gb524 27 #[.slice Ao19 t525.length co19, .slice Ao18 y528.length co18, .slice Ao34 x535002_1.length co34, .slice Ao17 t531.length co17] (0, 0) _ rfl (Yk (Yv4 BK524.out)) Try.underlying27 rfl (by kernel_rfl)) rfl ?_
      exact ⟨_, _, _, _, Q2, Yj (Yf4 HO_535000.out BK524.out) (fun _ hk => ⟨hk.1.1, hk.1.2⟩), Yj (Yf4 HO_535001.out BK524.out) (fun _ hk => ⟨hk.1.1, hk.1.2⟩), Yj (Yf4 HO_535002.out BK524.out) (fun _ hk => trivial), Yj (Yf4 HO_535003.out BK524.out) (fun _ hk => ⟨hk.1.1, hk.1.2⟩), Q12⟩
  ·rw [if_neg c4] at H
   exact absurd H (by simp)
 ·rw [if_neg c3] at H
  exact absurd H (by simp)
mutual
def impl_focusAt.l0 : Nat → Int → Int → List Int → List Int → List Bool → List Int → Option (List Int × List Int × List Bool × List Int)
 | 0, _, _, _, _, _, _ => none
 | k + 1, n, i, b, d, u, p => if i < n then ((Go.Proofs.Ytpfakdhfffehaaa.FoW.stepF b d u p).bind fun r => (impl_focusAt.l0 k n (wrap64 (i + 1)) b r.1 r.2.1 r.2.2.1)) else (some (b, d, u, p))
end
def impl_focusAt.f (k : Nat) (l0 : List Int) (a1 : Int) : Option (List Int × List Int × List Bool × List Int) := (impl_startFocus.f k l0).bind fun t => (impl_focusAt.l0 k a1 0 t.1 t.2.1 t.2.2.1 t.2.2.2)
theorem impl_focusAt.mono_l : ∀ k, (∀ y0 y1 y2 y3 y4 y5, LeO (impl_focusAt.l0 k y0 y1 y2 y3 y4 y5) (impl_focusAt.l0 (k + 1) y0 y1 y2 y3 y4 y5))
 | 0 => fun _ _ _ _ _ _ r h => by simp [impl_focusAt.l0] at h
 | k + 1 => by
  have ih0 := impl_focusAt.mono_l k
  ·intro y0 y1 y2 y3 y4 y5
   unfold impl_focusAt.l0
   repeat' first
   | (with_reducible exact ih0 _ _ _ _ _ _)
   | (with_reducible exact impl_startFocus.mono _ _)
   | (with_reducible exact LeO.refl _)
   | (with_reducible exact LeO.none _)
   | (with_reducible refine LeO.ite ?_ ?_)
   | (with_reducible refine LeO.bind ?_ (fun _ => ?_))
   | exact ih0 _ _ _ _ _ _
   | exact impl_startFocus.mono _ _
   | exact LeO.none _
   | refine LeO.ite ?_ ?_
   | refine LeO.bind ?_ (fun _ => ?_)
theorem impl_focusAt.mono : ∀ a0 a1 k, LeO (impl_focusAt.f k a0 a1) (impl_focusAt.f (k + 1) a0 a1) := by
 intro a0 a1 k
 have ih0 := impl_focusAt.mono_l k
 unfold impl_focusAt.f
 repeat' first
   | (with_reducible exact ih0 _ _ _ _ _ _)
   | (with_reducible exact impl_startFocus.mono _ _)
   | (with_reducible exact LeO.refl _)
   | (with_reducible exact LeO.none _)
   | (with_reducible refine LeO.ite ?_ ?_)
   | (with_reducible refine LeO.bind ?_ (fun _ => ?_))
   | exact ih0 _ _ _ _ _ _
   | exact impl_startFocus.mono _ _
   | exact LeO.none _
   | refine LeO.ite ?_ ?_
   | refine LeO.bind ?_ (fun _ => ?_)
open Go.Proofs.Ytpfakdhfffehaaa.FoW in
set_option maxHeartbeats 8000000 in
set_option maxRecDepth 100000 in
theorem impl_focusAt.calls (k : Nat) (A0_ : Option Addr) (c0_ : Nat) (l0 : List Int) (a1 : Int) (r1 : List Int) (r2 : List Int) (r3 : List Bool) (r4 : List Int) (w : World) (hr0 : Kd.C (Kd.int .i64) w A0_ l0.length l0) (hc0 : l0.length ≤ c0_) (h : impl_focusAt.f k l0 a1 = some (r1, r2, r3, r4)) :
  Calls Try.prog 67 #[.slice A0_ l0.length c0_, .int .i64 a1] w fun e w' => ∃ v0_ v1_ v2_ v3_ : Value, e = .returned (.agg #[v0_, v1_, v2_, v3_]) ∧ Kd.R (Kd.int .i64) 3 w' w.heap.size (fun k_ => some k_ ≠ (v1_ : Value).ownBlock ∧ some k_ ≠ (v3_ : Value).ownBlock) v0_ r1 ∧ Kd.R (Kd.int .i64) 3 w' w.heap.size (fun k_ => some k_ ≠ (v0_ : Value).ownBlock ∧ some k_ ≠ (v3_ : Value).ownBlock) v1_ r2 ∧ Kd.R Kd.bool 4 w' w.heap.size (fun _ => True) v2_ r3 ∧ Kd.R (Kd.int .i64) 3 w' w.heap.size (fun k_ => some k_ ≠ (v0_ : Value).ownBlock ∧ some k_ ≠ (v1_ : Value).ownBlock) v3_ r4 ∧ Below w.heap.size w w' := by
 have hu := Try.underlying27
 unfold impl_focusAt.f at h
 obtain ⟨⟨b, D1, U1, P1⟩, h1, h⟩ := Z36.mp h
 have A1_ := Ya h1
 have H' := Ya h
 have HR0 := Ya hr0
 have HC0 := Ya hc0
 have HB := Ya (Below.refl w.heap.size w)
 clear h h1 hr0 hc0
 go_enter Try.func67, Try.ntmps67
 go_upto_region 3 with (first | ((with_reducible refine gate_dst (N := 4) rfl ?_); refine Yx 4 #[.slice none 0 0, .slice none 0 0, .slice none 0 0, .slice none 0 0] 27 ?_; intro gb4 hg w34 hbox hb; have n0_ := Yh hb; have BK4 := Ya hbox; have GE4 := Ya (by rw [hg]; exact Z7 Q0 : w.heap.size ≤ gb4); clear HB; have HB := n0_; clear n0_; clear hb hbox hg) | ((with_reducible refine gate_callee (f := 71) rfl ?_); refine Yz 7 Try.func71 #[.slice A0_ l0.length c0_] ?_ (hargs := Q17); (with_reducible refine (impl_startFocus.calls k _ _ l0 b D1 U1 P1 _ ?s1 ?s2 A1_.out).mono ?_); (case s1 => exact Q45); (case s2 => exact HC0.out); rintro e w2 ⟨v0, v1, v2, v3, rfl, ho0, ho1, ho2, ho3, hb⟩; refine ⟨_, rfl, ?_⟩; have hFV : FoV w2 w.heap.size v0 v1 v2 v3 b D1 U1 P1 := ⟨Kd.R_lower ho0 (Z7 Q0), Kd.R_lower ho1 (Z7 Q0), Kd.R_lower ho2 (Z7 Q0), Kd.R_lower ho3 (Z7 Q0)⟩; obtain ⟨A0, c0, rfl⟩ := Z19 ho0; obtain ⟨A1, c1', rfl⟩ := Z19 ho1; obtain ⟨A2, c2, rfl⟩ := Z19 ho2; obtain ⟨A3, c3, rfl⟩ := Z19 ho3; have n0_ := Yh hb; have n1_ := Ya (Z28 (by first | exact BK4.out | (exact Z26 BK4.out)) hb); have HV := Ya hFV; clear HB BK4 ho0 ho1 ho2 ho3 hb hFV; have HB := n0_; have BK4 := n1_; clear n0_ n1_) | ((with_reducible refine gate_dst (N := 5) rfl ?_); refine Yx 5 #[.slice none 0 0, .slice none 0 0, .slice none 0 0, .slice none 0 0] 27 ?_; intro gb5 hg w35 hbox hb; have n0_ := Yh hb; have BK := Ya hbox; have GE5 := Ya (by rw [hg]; exact Z7 Q0 : w.heap.size ≤ gb5); have NE := Ya (by rw [hg]; exact Nat.ne_of_lt (blk_lt BK4.out) : gb4 ≠ gb5); have n1_ := Ya (FoV.below (Qm0 HV.out) hb); have n2_ := Ya (Z28 BK4.out hb); clear HV BK4; have HV := n1_; have BK4 := n2_; clear n1_ n2_; clear HB; have HB := n0_; clear n0_; have hd0 := (Z23 BK.out 0).trans rfl; have hd1 := (Z23 BK.out 1).trans rfl; have hd2 := (Z23 BK.out 2).trans rfl; have hd3 := (Z23 BK.out 3).trans rfl; have hf0 := Z24 BK.out 0; have hf1 := Z24 BK.out 1; have hf2 := Z24 BK.out 2; have hf3 := Z24 BK.out 3; clear hb hbox hg))
 replace HV := Ya (FoV.set4 HV.out BK.out (by decide) (by decide) (.slice A0 b.length c0) (.slice A1 D1.length c1') (.slice A2 U1.length c2) (.slice A3 P1.length c3))
 replace BK := Ya (set4_at BK.out (.slice A0 b.length c0) (.slice A1 D1.length c1') (.slice A2 U1.length c2) (.slice A3 P1.length c3))
 replace BK4 := Ya ((set4_far _ gb5 (.slice A0 b.length c0) (.slice A1 D1.length c1') (.slice A2 U1.length c2) (.slice A3 P1.length c3) gb4 NE.out).trans BK4.out)
 replace HB := Ya (set4_below HB.out GE5.out (.slice A0 b.length c0) (.slice A1 D1.length c1') (.slice A2 U1.length c2) (.slice A3 P1.length c3))
 clear hd0 hd1 hd2 hd3 hf0 hf1 hf2 hf3
 unfold set4 at BK HV BK4 HB
 generalize ((((w35.setCell ⟨gb5, 0, none⟩ (.slice A0 b.length c0)).setCell ⟨gb5, 1, none⟩ (.slice A1 D1.length c1')).setCell ⟨gb5, 2, none⟩ (.slice A2 U1.length c2)).setCell ⟨gb5, 3, none⟩ (.slice A3 P1.length c3)) = w4 at BK HV BK4 HB ⊢
 go_loopg [9] k (fun kq v9 w' => ∃ (i : Int) (d : List Int) (u : List Bool) (p : List Int), v9 = .int .i64 i ∧ Aside0 (impl_focusAt.l0 kq a1 i b d u p = some (r1, r2, r3, r4)) ∧ Aside0 (kq ≤ k) ∧ Aside0 (d.length = D1.length ∧ u.length = U1.length ∧ p.length = P1.length) ∧ Aside0 (w'.heap[gb5]? = some (.cells #[.slice A0 b.length c0, .slice A1 D1.length c1', .slice A2 U1.length c2, .slice A3 P1.length c3] 27 (0, 0))) ∧ Aside0 (w'.heap[gb4]? = some (.cells #[.slice none 0 0, .slice none 0 0, .slice none 0 0, .slice none 0 0] 27 (0, 0))) ∧ Aside0 (FoV w' w.heap.size (.slice A0 b.length c0) (.slice A1 D1.length c1') (.slice A2 U1.length c2) (.slice A3 P1.length c3) b d u p) ∧ Aside0 (Below w.heap.size w w'))
 case atStart => exact ⟨0, D1, U1, P1, by first | rfl | (simp; done), H', ⟨Nat.le_refl _⟩, ⟨rfl, rfl, rfl⟩, BK, BK4, HV, HB⟩
 case round =>
  clear H' BK HV BK4 HB
  obtain ⟨i, d, u, p, rfl, HA, HK1, HL, BK, BK4, HV, HB⟩ := hrel
  cases gk with
  | zero => exact absurd HA.out (by simp [impl_focusAt.l0])
  | succ k1 =>
   have H := HA.out
   clear HA
   simp only [impl_focusAt.l0] at H
   by_cases c1 : i < a1
   rotate_left
   ·rw [if_neg c1] at H
    have b1 : decide (i < a1) = false := Z37 c1
    clear c1
    simp only [Option.some.injEq, Prod.mk.injEq] at H
    obtain ⟨rfl, rfl, rfl, rfl⟩ := H
    have hc0 := (Z23 BK.out 0).trans rfl
    have hc1 := (Z23 BK.out 1).trans rfl
    have hc2 := (Z23 BK.out 2).trans rfl
    have hc3 := (Z23 BK.out 3).trans rfl
    have hf0 := Z24 BK.out 0
    have hf1 := Z24 BK.out 1
    have hf2 := Z24 BK.out 2
    have hf3 := Z24 BK.out 3
    have hd0 := (Z23 BK4.out 0).trans rfl
    have hd1 := (Z23 BK4.out 1).trans rfl
    have hd2 := (Z23 BK4.out 2).trans rfl
    have hd3 := (Z23 BK4.out 3).trans rfl
    have he0 := Z24 BK4.out 0
    have he1 := Z24 BK4.out 1
    have he2 := Z24 BK4.out 2
    have he3 := Z24 BK4.out 3
    have hne := NE.out
    have hne' := NE.out.symm
    go_wp2
    refine bodyPost_ret (results_cell_row rfl _ _ gb4 27 #[.slice A0 b.length c0, .slice A1 D1.length c1', .slice A2 U1.length c2, .slice A3 P1.length c3] (0, 0) _ rfl (by have h_ := set4_at BK4.out (.slice A0 b.length c0) (.slice A1 D1.length c1') (.slice A2 U1.length c2) (.slice A3 P1.length c3); unfold set4 at h_; exact h_) hu rfl (by kernel_rfl)) rfl ?_
    have hv := FoV.set4 HV.out BK4.out (by decide) (by decide) (.slice A0 b.length c0) (.slice A1 D1.length c1') (.slice A2 U1.length c2) (.slice A3 P1.length c3)
    have hbb := set4_below HB.out GE4.out (.slice A0 b.length c0) (.slice A1 D1.length c1') (.slice A2 U1.length c2) (.slice A3 P1.length c3)
    unfold set4 at hv hbb
    exact ⟨_, _, _, _, rfl, hv.r0, hv.r1, hv.r2, hv.r3, hbb⟩
   rw [if_pos c1] at H
   have b1 : decide (i < a1) = true := Z38 c1
   obtain ⟨⟨d', u', p', r⟩, hs, H⟩ := Z36.mp H
   obtain ⟨hd, hu', hp⟩ := HL.out
   have hbk := BK.out
   rw [← hd, ← hu', ← hp] at hbk
   have HBK := Ya hbk
   clear hbk c1
   have HV2 : Aside0 (FoV _ w.heap.size (.slice A0 b.length c0) (.slice A1 d.length c1') (.slice A2 u.length c2) (.slice A3 p.length c3) b d u p) := ⟨by have := HV.out; rw [← hd, ← hu', ← hp] at this; exact this⟩
   have H' := Ya H
   have HS := Ya hs
   obtain ⟨hl, hl0, hl1, hl2, hl3⟩ := stepF_len hs
   have HL2 := Ya hl
   obtain ⟨g0, q0, g1, q1, g2, q2, g3, q3, e0, e1, e2, e3, hF⟩ := FoR.of HV2.out.r0 HV2.out.r1 HV2.out.r2 HV2.out.r3 hl0 hl1 hl2 hl3
   injection e0 with x0 _ z0
   injection e1 with x1 _ z1
   injection e2 with x2 _ z2
   injection e3 with x3 _ z3
   subst x0 z0 x1 z1 x2 z2 x3 z3
   have HF := Ya hF
   clear H hs hl hl0 hl1 hl2 hl3 hF hd hu' hp HV HV2
   go_wp2_with (first | ((with_reducible refine gate_callee (f := 36) rfl ?_); refine Yz 11 Try.func36 #[.pointer (some ⟨gb5, 0, none⟩)] ?_ (hargs := Q17); (with_reducible refine (impl_Focus_step.calls w gb5 g0 c0 g1 c1' g2 c2 g3 c3 b d u p d' u' p' r _ HBK.out HF.out HB.out HS.out).mono ?_); rintro e w7 ⟨rfl, hk1, hk2, hk3, hk4⟩; refine ⟨_, rfl, ?_⟩; have ap_ := FoR.apart HF.out BK4.out (by decide) (by decide); have n1_ := Ya (blk_kept BK4.out hk3 (fun hs_ => by rcases hs_ with e | e | e; exact ap_.2.1 e; exact ap_.2.2.1 e; exact ap_.2.2.2 e)); have n0_ := Ya (hk1.trans BK.out); clear HBK BK HF BK4 HB ap_; have BK := n0_; have HF := Ya hk2; have BK4 := n1_; have HB := Ya hk4; clear n0_ n1_ hk1 hk2 hk3 hk4; have hv := FoR.back HF.out; have hV7 : FoV w7 w.heap.size (.slice (some ⟨g0, 0, none⟩) b.length c0) (.slice (some ⟨g1, 0, none⟩) d'.length c1') (.slice (some ⟨g2, 0, none⟩) u'.length c2) (.slice (some ⟨g3, 0, none⟩) p'.length c3) b d' u' p' := ⟨hv.1, hv.2.1, hv.2.2.1, hv.2.2.2⟩; rw [HL2.out.1, HL2.out.2.1, HL2.out.2.2, HL.out.1, HL.out.2.1, HL.out.2.2] at hV7; have HV := Ya hV7; clear hv hV7))
   go_roundg k1
   case measure => have := HK1.out; omega
   case rel => exact ⟨_, d', u', p', by first | rfl | (simp; done), H', ⟨Q20⟩, ⟨by obtain ⟨a_, b_, c_⟩ := HL2.out; obtain ⟨x_, y_, z_⟩ := HL.out; exact ⟨a_.trans x_, b_.trans y_, c_.trans z_⟩⟩, BK, BK4, HV, HB⟩
def impl_IsFocus.f (k : Nat) (l0_0 : List Int) (l0_1 : List Int) (l0_2 : List Bool) (l0_3 : List Int) : Option (Bool) := (impl_areFocusBases.f k l0_0).bind fun t539 => (if t539 = true then ((impl_areDigits.f k l0_0 l0_1).bind fun t540 => (if t540 = true then ((impl_mixedRank.f k l0_0 l0_1).bind fun t541 => ((impl_focusAt.f k l0_0 t541).bind fun bt542 => ((impl_Focus_same.f k l0_0 l0_1 l0_2 l0_3 bt542.1 bt542.2.1 bt542.2.2.1 bt542.2.2.2).bind fun t554 => (some t554)))) else (some false))) else (some false))
theorem impl_IsFocus.mono : ∀ a0 a1 a2 a3 k, LeO (impl_IsFocus.f k a0 a1 a2 a3) (impl_IsFocus.f (k + 1) a0 a1 a2 a3) := by
 intro a0 a1 a2 a3 k
 unfold impl_IsFocus.f
 repeat' first
   | (with_reducible exact impl_Focus_same.mono _ _ _ _ _ _ _ _ _)
   | (with_reducible exact impl_areDigits.mono _ _ _)
   | (with_reducible exact impl_areFocusBases.mono _ _)
   | (with_reducible exact impl_focusAt.mono _ _ _)
   | (with_reducible exact impl_mixedRank.mono _ _ _)
   | (with_reducible exact LeO.refl _)
   | (with_reducible exact LeO.none _)
   | (with_reducible refine LeO.ite ?_ ?_)
   | (with_reducible refine LeO.bind ?_ (fun _ => ?_))
   | exact impl_Focus_same.mono _ _ _ _ _ _ _ _ _
   | exact impl_areDigits.mono _ _ _
   | exact impl_areFocusBases.mono _ _
   | exact impl_focusAt.mono _ _ _
   | exact impl_mixedRank.mono _ _ _
   | exact LeO.none _
   | refine LeO.ite ?_ ?_
   | refine LeO.bind ?_ (fun _ => ?_)
def impl_IsFocus.T1 : Bool × List (List Nat × List Nat) := (true, [([], []), ([0], [0]), ([1], [1]), ([2, 2], [2]), ([3], [3]), ([4, 3], [3, 4]), ([3], [3]), ([6, 3], [3, 6]), ([5, 7, 3, 3], [3, 5, 7]), ([3, 8], [3, 8]), ([9, 8], [9]), ([10], [10]), ([10], [10]), ([12, 10], [10, 12]), ([10], [10]), ([14, 10], [10, 14]), ([10], [10]), ([16, 10], [10, 16]), ([15, 17, 10, 10], [10, 15, 17]), ([13, 18, 18, 10], [10, 13, 18]), ([11, 19, 19, 10], [10, 11, 19]), ([10, 20], [10, 20]), ([21, 20, 0, 1, 2, 3, 4, 5, 6, 7, 8, 9, 10, 11, 12, 13, 14, 15, 16, 17, 18, 19, 20, 21], [21])])
def impl_IsFocus.B1 : List Nat := [0, 1, 3, 7, 15, 31, 15, 79, 255, 511, 1023, 2047, 2047, 6143, 2047, 18431, 2047, 67583, 247807, 522239, 1048575, 2097151, 4194303]
theorem impl_IsFocus.tab1 : rtab .any (opsOf Try.f34 1) = impl_IsFocus.T1 := by kernel_rfl
theorem impl_IsFocus.bits1 : waitsOk impl_IsFocus.T1.2 impl_IsFocus.B1 = true := by kernel_rfl
set_option maxHeartbeats 8000000 in
set_option maxRecDepth 100000 in
theorem impl_IsFocus.calls (k : Nat) (A0_0 : Option Addr) (c0_0 : Nat) (l0_0 : List Int) (A0_1 : Option Addr) (c0_1 : Nat) (l0_1 : List Int) (A0_2 : Option Addr) (c0_2 : Nat) (l0_2 : List Bool) (A0_3 : Option Addr) (c0_3 : Nat) (l0_3 : List Int) (r : Bool) (w : World) (hr0_0 : Kd.C (Kd.int .i64) w A0_0 l0_0.length l0_0) (hc0_0 : l0_0.length ≤ c0_0) (hr0_1 : Kd.C (Kd.int .i64) w A0_1 l0_1.length l0_1) (hc0_1 : l0_1.length ≤ c0_1) (hr0_2 : Kd.C Kd.bool w A0_2 l0_2.length l0_2) (hc0_2 : l0_2.length ≤ c0_2) (hr0_3 : Kd.C (Kd.int .i64) w A0_3 l0_3.length l0_3) (hc0_3 : l0_3.length ≤ c0_3) (h : impl_IsFocus.f k l0_0 l0_1 l0_2 l0_3 = some r) :
  Calls Try.prog 34 #[.agg #[.slice A0_0 l0_0.length c0_0, .slice A0_1 l0_1.length c0_1, .slice A0_2 l0_2.length c0_2, .slice A0_3 l0_3.length c0_3]] w fun e w' => e = .returned (.bool r) ∧ Below w.heap.size w w' := by
 have hu27 := Try.underlying27
 have HR0_0 := Ya hr0_0
 have HC0_0 := Ya hc0_0
 clear hr0_0 hc0_0
 have HR0_1 := Ya hr0_1
 have HC0_1 := Ya hc0_1
 clear hr0_1 hc0_1
 have HR0_2 := Ya hr0_2
 have HC0_2 := Ya hc0_2
 clear hr0_2 hc0_2
 have HR0_3 := Ya hr0_3
 have HC0_3 := Ya hc0_3
 clear hr0_3 hc0_3
 have HB := Ya (Below.refl w.heap.size w)
 have H : ((impl_areFocusBases.f k l0_0).bind fun t539 => (if t539 = true then ((impl_areDigits.f k l0_0 l0_1).bind fun t540 => (if t540 = true then ((impl_mixedRank.f k l0_0 l0_1).bind fun t541 => ((impl_focusAt.f k l0_0 t541).bind fun bt542 => ((impl_Focus_same.f k l0_0 l0_1 l0_2 l0_3 bt542.1 bt542.2.1 bt542.2.2.1 bt542.2.2.2).bind fun t554 => (some t554)))) else (some false))) else (some false))) = some r := h
 clear h
 replace H := Z36.mp H
 obtain ⟨t539, A20, H⟩ := H
 replace H : (if t539 = true then ((impl_areDigits.f k l0_0 l0_1).bind fun t540 => (if t540 = true then ((impl_mixedRank.f k l0_0 l0_1).bind fun t541 => ((impl_focusAt.f k l0_0 t541).bind fun bt542 => ((impl_Focus_same.f k l0_0 l0_1 l0_2 l0_3 bt542.1 bt542.2.1 bt542.2.2.1 bt542.2.2.2).bind fun t554 => (some t554)))) else (some false))) else (some false)) = some r := H
 have A2 := Ya A20
 clear A20
 by_cases c3 : t539 = true
 ·subst c3
  have H1 : ((impl_areDigits.f k l0_0 l0_1).bind fun t540 => (if t540 = true then ((impl_mixedRank.f k l0_0 l0_1).bind fun t541 => ((impl_focusAt.f k l0_0 t541).bind fun bt542 => ((impl_Focus_same.f k l0_0 l0_1 l0_2 l0_3 bt542.1 bt542.2.1 bt542.2.2.1 bt542.2.2.2).bind fun t554 => (some t554)))) else (some false))) = some r := by rw [if_pos rfl] at H; exact H
  clear H
  have H := H1
  clear H1
  replace H := Z36.mp H
  obtain ⟨t540, A40, H⟩ := H
  replace H : (if t540 = true then ((impl_mixedRank.f k l0_0 l0_1).bind fun t541 => ((impl_focusAt.f k l0_0 t541).bind fun bt542 => ((impl_Focus_same.f k l0_0 l0_1 l0_2 l0_3 bt542.1 bt542.2.1 bt542.2.2.1 bt542.2.2.2).bind fun t554 => (some t554)))) else (some false)) = some r := H
  have A4 := Ya A40
  clear A40
  by_cases c5 : t540 = true
  ·subst c5
   have H1 : ((impl_mixedRank.f k l0_0 l0_1).bind fun t541 => ((impl_focusAt.f k l0_0 t541).bind fun bt542 => ((impl_Focus_same.f k l0_0 l0_1 l0_2 l0_3 bt542.1 bt542.2.1 bt542.2.2.1 bt542.2.2.2).bind fun t554 => (some t554)))) = some r := by rw [if_pos rfl] at H; exact H
   clear H
   have H := H1
   clear H1
   replace H := Z36.mp H
   obtain ⟨t541, A60, H⟩ := H
   replace H : ((impl_focusAt.f k l0_0 t541).bind fun bt542 => ((impl_Focus_same.f k l0_0 l0_1 l0_2 l0_3 bt542.1 bt542.2.1 bt542.2.2.1 bt542.2.2.2).bind fun t554 => (some t554))) = some r := H
   have A6 := Ya A60
   clear A60
   replace H := Z36.mp H
   obtain ⟨⟨t542, t545, t548, t551⟩, A70, H⟩ := H
   replace H : ((impl_Focus_same.f k l0_0 l0_1 l0_2 l0_3 t542 t545 t548 t551).bind fun t554 => (some t554)) = some r := H
   have A7 := Ya A70
   clear A70
   replace H := Z36.mp H
   obtain ⟨t554, A80, H⟩ := H
   replace H : (some t554) = some r := H
   have A8 := Ya A80
   clear A80
   obtain rfl := Option.some.inj H
   go_enter Try.func34, Try.ntmps34
   try go_wp2_with (first | ((with_reducible refine gate_dst (N := 1) rfl ?_); refine Yx 1 #[.slice A0_0 l0_0.length c0_0, .slice A0_1 l0_1.length c0_1, .slice A0_2 l0_2.length c0_2, .slice A0_3 l0_3.length c0_3] 27 ?_; intro gb538 hg w9 hbox hb; have BK538 := Ya hbox; have GE538 := Yg hg; replace HB := Yh hb; clear hb hbox hg))
   replace BK538 := Ya (Z26 BK538.out)
   replace HB := Ya (Z4 HB.out)
   refine start_ (n := 23) (S := fun w' => w'.cell? ⟨gb538, 0, none⟩ = some (.slice A0_0 l0_0.length c0_0) ∧ w'.cell? ⟨gb538, 1, none⟩ = some (.slice A0_1 l0_1.length c0_1) ∧ w'.cell? ⟨gb538, 2, none⟩ = some (.slice A0_2 l0_2.length c0_2) ∧ w'.cell? ⟨gb538, 3, none⟩ = some (.slice A0_3 l0_3.length c0_3)) (ds := []) (YA 23 0) (by kernel_rfl) rfl rfl (Yz4 BK538.out) (fun hHeld => ?_); refine with_tabW impl_IsFocus.tab1 impl_IsFocus.bits1 (fun HT_ HW_ => ?_)
   generalize w9.drew = w10 at BK538 HB hHeld ⊢
   refine Yp 0 (some 3) (YA 23 1) rfl HT_.out ?_
   refine Yt 1 (some 4) (YA 23 3) rfl HT_.out HW_.out hHeld Q3 ?_
   refine one_ (i := 2) (N := some 5) (YA 23 7) rfl rfl (one_of HT_.out (by kernel_rfl)) (by decide) (fun K hK => ?_)
   refine goes_ Try.func64 (by kernel_rfl) rfl #[.slice A0_0 l0_0.length c0_0] (by rfl) rfl rfl Q7 ?_
   with_reducible refine (impl_areFocusBases.calls k _ _ l0_0 true _ ?side1 ?side2 A2.out).mono ?_
   (case side1 => exact Yc (Z22 HR0_0.out HB.out))
   (case side2 => exact HC0_0.out)
   rintro e w11 ⟨rfl, hb⟩
   refine ⟨_, rfl, ?_⟩
   replace BK538 := Yb BK538 hb
   replace HB := Yh hb
   (try clear hb)
   refine hK.out _ _ (Yz4 BK538.out) (fun hHeld => ?_)
   clear hK K
   refine norm_ (a' := ?_) ?_ ?_
   rotate_left
   ·show Act.put _ (some 5) _ = _
    simp only [Act.put, Z0, Z1, Z2, i64_w, i32_w]
    rfl
   refine Yp 3 (some 6) (YA 23 15) rfl HT_.out ?_
   refine Yp 4 (some 7) (YA 23 31) rfl HT_.out ?_
   refine Yp 6 (some 9) (YA 23 95) rfl HT_.out ?_
   refine Yt 5 (some 8) (YA 23 127) rfl HT_.out HW_.out hHeld Q3 ?_
   refine Yt 7 (some 10) (YA 23 255) rfl HT_.out HW_.out hHeld Q3 ?_
   refine one_ (i := 8) (N := some 11) (YA 23 511) rfl rfl (one_of HT_.out (by kernel_rfl)) (by decide) (fun K hK => ?_)
   refine goes_ Try.func65 (by kernel_rfl) rfl #[.slice A0_0 l0_0.length c0_0, .slice A0_1 l0_1.length c0_1] (by rfl) rfl rfl Q7 ?_
   with_reducible refine (impl_areDigits.calls k _ _ l0_0 _ _ l0_1 true _ ?side1 ?side2 ?side3 ?side4 A4.out).mono ?_
   (case side1 => exact Yc (Z22 HR0_0.out HB.out))
   (case side2 => exact HC0_0.out)
   (case side3 => exact Yc (Z22 HR0_1.out HB.out))
   (case side4 => exact HC0_1.out)
   rintro e w' ⟨rfl, ⟨nd, rfl⟩⟩
   refine ⟨_, rfl, ?_⟩
   refine hK.out _ _ (Yz4 BK538.out) (fun hHeld => ?_)
   clear hK K
   refine norm_ (a' := ?_) ?_ ?_
   rotate_left
   ·show Act.put _ (some 11) _ = _
    simp only [Act.put, Z0, Z1, Z2, i64_w, i32_w]
    rfl
   refine Yp 9 (some 12) (YA 23 1023) rfl HT_.out ?_
   refine Yp 10 (some 13) (YA 23 2047) rfl HT_.out ?_
   refine Yp 12 (some 15) (YA 23 6143) rfl HT_.out ?_
   refine Yp 14 (some 17) (YA 23 22527) rfl HT_.out ?_
   refine Yp 16 (some 19) (YA 23 88063) rfl HT_.out ?_
   refine Yt 11 (some 14) (YA 23 90111) rfl HT_.out HW_.out hHeld Q3 ?_
   refine Yt 13 (some 16) (YA 23 98303) rfl HT_.out HW_.out hHeld Q3 ?_
   refine Yt 15 (some 18) (YA 23 131071) rfl HT_.out HW_.out hHeld Q3 ?_
   refine Yt 17 (some 20) (YA 23 262143) rfl HT_.out HW_.out hHeld Q3 ?_
   refine one_ (i := 18) (N := some 21) (YA 23 524287) rfl rfl (one_of HT_.out (by kernel_rfl)) (by decide) (fun K hK => ?_)
   refine goes_ Try.func54 (by kernel_rfl) rfl #[.slice A0_0 l0_0.length c0_0, .slice A0_1 l0_1.length c0_1] (by rfl) rfl rfl Q7 ?_
   with_reducible refine (impl_mixedRank.calls k _ _ l0_0 _ _ l0_1 t541 _ ?side1 ?side2 ?side3 ?side4 A6.out).mono ?_
   (case side1 => exact Yc (Z22 HR0_0.out Q0))
   (case side2 => exact HC0_0.out)
   (case side3 => exact Yc (Z22 HR0_1.out Q0))
   (case side4 => exact HC0_1.out)
   rintro e w12 ⟨rfl, hb⟩
   refine ⟨_, rfl, ?_⟩
   replace BK538 := Yb BK538 hb
   replace HB := Yh hb
   (try clear hb)
   refine hK.out _ _ (Yz4 BK538.out) (fun hHeld => ?_)
   clear hK K
   refine norm_ (a' := ?_) ?_ ?_
   rotate_left
   ·show Act.put _ (some 21) _ = _
    simp only [Act.put, Z0, Z1, Z2, i64_w, i32_w]
    rfl
   refine one_ (i := 19) (N := some 22) (YA 23 1048575) rfl rfl (one_of HT_.out (by kernel_rfl)) (by decide) (fun K hK => ?_)
   refine goes_ Try.func67 (by kernel_rfl) rfl #[.slice A0_0 l0_0.length c0_0, .int .i64 t541] (by rfl) rfl rfl Q7 ?_
   with_reducible refine (impl_focusAt.calls k _ _ l0_0 t541 t542 t545 t548 t551 _ ?side1 ?side2 A7.out).mono ?_
   (case side1 => exact Yc (Z22 HR0_0.out HB.out))
   (case side2 => exact HC0_0.out)
   rintro e w13 ⟨v543, v546, v549, v552, rfl, ho0, ho1, ho2, ho3, hb⟩
   refine ⟨_, rfl, ?_⟩
   have HO544 := Yl ho0
   have HO547 := Yl ho1
   have HO550 := Yl ho2
   have HO553 := Yl ho3
   replace BK538 := Yb BK538 hb
   replace HB := Yh hb
   (try clear hb ho0 ho1 ho2 ho3)
   obtain ⟨Ao14, co14, eo14⟩ := Z19 HO544.out
   (first | subst eo14 | (injection eo14 with f1_ f2_ f3_; have f4_ := f1_.symm; have f5_ := f3_.symm; clear f1_ f2_ f3_; subst f4_; subst f5_))
   obtain ⟨Ao15, co15, eo15⟩ := Z19 HO547.out
   (first | subst eo15 | (injection eo15 with f1_ f2_ f3_; have f4_ := f1_.symm; have f5_ := f3_.symm; clear f1_ f2_ f3_; subst f4_; subst f5_))
   obtain ⟨Ao16, co16, eo16⟩ := Z19 HO550.out
   (first | subst eo16 | (injection eo16 with f1_ f2_ f3_; have f4_ := f1_.symm; have f5_ := f3_.symm; clear f1_ f2_ f3_; subst f4_; subst f5_))
   obtain ⟨Ao17, co17, eo17⟩ := Z19 HO553.out
   (first | subst eo17 | (injection eo17 with f1_ f2_ f3_; have f4_ := f1_.symm; have f5_ := f3_.symm; clear f1_ f2_ f3_; subst f4_; subst f5_))
   refine hK.out _ _ (Yz4 BK538.out) (fun hHeld => ?_)
   clear hK K
   refine norm_ (a' := ?_) ?_ ?_
   rotate_left
   ·show Act.put _ (some 22) _ = _
    simp only [Act.put, Z0, Z1, Z2, i64_w, i32_w]
    rfl
   refine one_ (i := 20) (N := some 23) (YA 23 2097151) rfl rfl (one_of HT_.out (by kernel_rfl)) (by decide) (fun K hK => ?_)
   refine goes_ Try.func66 (by kernel_rfl) rfl #[.agg #[.slice A0_0 l0_0.length c0_0, .slice A0_1 l0_1.length c0_1, .slice A0_2 l0_2.length c0_2, .slice A0_3 l0_3.length c0_3], .agg #[.slice Ao14 t542.length co14, .slice Ao15 t545.length co15, .slice Ao16 t548.length co16, .slice Ao17 t551.length co17]] (by rfl) rfl rfl Q7 ?_
   with_reducible refine (impl_Focus_same.calls k _ _ l0_0 _ _ l0_1 _ _ l0_2 _ _ l0_3 _ _ t542 _ _ t545 _ _ t548 _ _ t551 t554 _ ?side1 ?side2 ?side3 ?side4 ?side5 ?side6 ?side7 ?side8 ?side9 ?side10 ?side11 ?side12 ?side13 ?side14 ?side15 ?side16 A8.out).mono ?_
   (case side1 => exact Yc (Z22 HR0_0.out HB.out))
   (case side2 => exact HC0_0.out)
   (case side3 => exact Yc (Z22 HR0_1.out HB.out))
   (case side4 => exact HC0_1.out)
   (case side5 => exact Yc (Z22 HR0_2.out HB.out))
   (case side6 => exact HC0_2.out)
   (case side7 => exact Yc (Z22 HR0_3.out HB.out))
   (case side8 => exact HC0_3.out)
   (case side9 => exact Yc (Kd.R_reads' HO544.out).2.2)
   (case side10 => exact (Kd.R_reads' HO544.out).2.1)
   (case side11 => exact Yc (Kd.R_reads' HO547.out).2.2)
   (case side12 => exact (Kd.R_reads' HO547.out).2.1)
   (case side13 => exact Yc (Kd.R_reads' HO550.out).2.2)
   (case side14 => exact (Kd.R_reads' HO550.out).2.1)
   (case side15 => exact Yc (Kd.R_reads' HO553.out).2.2)
   (case side16 => exact (Kd.R_reads' HO553.out).2.1)
   rintro e w18 ⟨rfl, hb⟩
   refine ⟨_, rfl, ?_⟩
   replace HO544 := Yw HO544 hb
   replace HO547 := Yw HO547 hb
   replace HO550 := Yw HO550 hb
   replace HO553 := Yw HO553 hb
   replace BK538 := Yb BK538 hb
   replace HB := Yh hb
   (try clear hb)
   refine hK.out _ _ (Yz4 BK538.out) (fun hHeld => ?_)
   clear hK K
   refine norm_ (a' := ?_) ?_ ?_
   rotate_left
   ·show Act.put _ (some 23) _ = _
    simp only [Act.put, Z0, Z1, Z2, i64_w, i32_w]
    rfl
   refine Yp 21 (some 24) (YA 23 4194303) rfl HT_.out ?_
   refine Yp 22 (some 2) (YA 23 8388607) rfl HT_.out ?_
   refine done_ (done_of HT_.out (by kernel_rfl)) ?_
   try go_wp2
   go_ret
   exact ⟨Q2, Q12⟩
  ·replace c5 := Bool.eq_false_iff.mpr c5
   subst c5
   have H1 : (some false) = some r := by rw [if_neg (show ¬ (false = true) by decide)] at H; exact H
   clear H
   have H := H1
   clear H1
   obtain rfl := Option.some.inj H
   go_enter Try.func34, Try.ntmps34
   try go_wp2_with (first | ((with_reducible refine gate_dst (N := 1) rfl ?_); refine Yx 1 #[.slice A0_0 l0_0.length c0_0, .slice A0_1 l0_1.length c0_1, .slice A0_2 l0_2.length c0_2, .slice A0_3 l0_3.length c0_3] 27 ?_; intro gb538 hg w19 hbox hb; have BK538 := Ya hbox; have GE538 := Yg hg; replace HB := Yh hb; clear hb hbox hg))
   replace BK538 := Ya (Z26 BK538.out)
   replace HB := Ya (Z4 HB.out)
   refine start_ (n := 23) (S := fun w' => w'.cell? ⟨gb538, 0, none⟩ = some (.slice A0_0 l0_0.length c0_0) ∧ w'.cell? ⟨gb538, 1, none⟩ = some (.slice A0_1 l0_1.length c0_1) ∧ w'.cell? ⟨gb538, 2, none⟩ = some (.slice A0_2 l0_2.length c0_2) ∧ w'.cell? ⟨gb538, 3, none⟩ = some (.slice A0_3 l0_3.length c0_3)) (ds := []) (YA 23 0) (by kernel_rfl) rfl rfl (Yz4 BK538.out) (fun hHeld => ?_); refine with_tabW impl_IsFocus.tab1 impl_IsFocus.bits1 (fun HT_ HW_ => ?_)
   generalize w19.drew = w20 at BK538 HB hHeld ⊢
   refine Yp 0 (some 3) (YA 23 1) rfl HT_.out ?_
   refine Yt 1 (some 4) (YA 23 3) rfl HT_.out HW_.out hHeld Q3 ?_
   refine one_ (i := 2) (N := some 5) (YA 23 7) rfl rfl (one_of HT_.out (by kernel_rfl)) (by decide) (fun K hK => ?_)
   refine goes_ Try.func64 (by kernel_rfl) rfl #[.slice A0_0 l0_0.length c0_0] (by rfl) rfl rfl Q7 ?_
   with_reducible refine (impl_areFocusBases.calls k _ _ l0_0 true _ ?side1 ?side2 A2.out).mono ?_
   (case side1 => exact Yc (Z22 HR0_0.out HB.out))
   (case side2 => exact HC0_0.out)
   rintro e w21 ⟨rfl, hb⟩
   refine ⟨_, rfl, ?_⟩
   replace BK538 := Yb BK538 hb
   replace HB := Yh hb
   (try clear hb)
   refine hK.out _ _ (Yz4 BK538.out) (fun hHeld => ?_)
   clear hK K
   refine norm_ (a' := ?_) ?_ ?_
   rotate_left
   ·show Act.put _ (some 5) _ = _
    simp only [Act.put, Z0, Z1, Z2, i64_w, i32_w]
    rfl
   refine Yp 3 (some 6) (YA 23 15) rfl HT_.out ?_
   refine Yp 4 (some 7) (YA 23 31) rfl HT_.out ?_
   refine Yp 6 (some 9) (YA 23 95) rfl HT_.out ?_
   refine Yt 5 (some 8) (YA 23 127) rfl HT_.out HW_.out hHeld Q3 ?_
   refine Yt 7 (some 10) (YA 23 255) rfl HT_.out HW_.out hHeld Q3 ?_
   refine one_ (i := 8) (N := some 11) (YA 23 511) rfl rfl (one_of HT_.out (by kernel_rfl)) (by decide) (fun K hK => ?_)
   refine goes_ Try.func65 (by kernel_rfl) rfl #[.slice A0_0 l0_0.length c0_0, .slice A0_1 l0_1.length c0_1] (by rfl) rfl rfl Q7 ?_
   with_reducible refine (impl_areDigits.calls k _ _ l0_0 _ _ l0_1 false _ ?side1 ?side2 ?side3 ?side4 A4.out).mono ?_
   (case side1 => exact Yc (Z22 HR0_0.out HB.out))
   (case side2 => exact HC0_0.out)
   (case side3 => exact Yc (Z22 HR0_1.out HB.out))
   (case side4 => exact HC0_1.out)
   rintro e w' ⟨rfl, ⟨nd, rfl⟩⟩
   refine ⟨_, rfl, ?_⟩
   refine hK.out _ _ (Yz4 BK538.out) (fun hHeld => ?_)
   clear hK K
   refine norm_ (a' := ?_) ?_ ?_
   rotate_left
   ·show Act.put _ (some 11) _ = _
    simp only [Act.put, Z0, Z1, Z2, i64_w, i32_w]
    rfl
   refine Yp 9 (some 12) (YA 23 1023) rfl HT_.out ?_
   refine Yp 10 (some 13) (YA 23 2047) rfl HT_.out ?_
   refine YU 11 (some 14) (YA 23 4095) rfl HT_.out ?_
   refine YU 12 (some 15) (YA 23 8191) rfl HT_.out ?_
   refine YU 13 (some 16) (YA 23 16383) rfl HT_.out ?_
   refine YU 14 (some 17) (YA 23 32767) rfl HT_.out ?_
   refine YU 15 (some 18) (YA 23 65535) rfl HT_.out ?_
   refine YU 16 (some 19) (YA 23 131071) rfl HT_.out ?_
   refine YU 17 (some 20) (YA 23 262143) rfl HT_.out ?_
   refine YU 18 (some 21) (YA 23 524287) rfl HT_.out ?_
   refine YU 19 (some 22) (YA 23 1048575) rfl HT_.out ?_
   refine YU 20 (some 23) (YA 23 2097151) rfl HT_.out ?_
   refine Yp 21 (some 24) (YA 23 4194303) rfl HT_.out ?_
   refine Yp 22 (some 2) (YA 23 8388607) rfl HT_.out ?_
   refine done_ (done_of HT_.out (by kernel_rfl)) ?_
   try go_wp2
   go_ret
   exact ⟨Q2, Q12⟩
 ·replace c3 := Bool.eq_false_iff.mpr c3
  subst c3
  have H1 : (some false) = some r := by rw [if_neg (show ¬ (false = true) by decide)] at H; exact H
  clear H
  have H := H1
  clear H1
  obtain rfl := Option.some.inj H
  go_enter Try.func34, Try.ntmps34
  try go_wp2_with (first | ((with_reducible refine gate_dst (N := 1) rfl ?_); refine Yx 1 #[.slice A0_0 l0_0.length c0_0, .slice A0_1 l0_1.length c0_1, .slice A0_2 l0_2.length c0_2, .slice A0_3 l0_3.length c0_3] 27 ?_; intro gb538 hg w22 hbox hb; have BK538 := Ya hbox; have GE538 := Yg hg; replace HB := Yh hb; clear hb hbox hg))
  replace BK538 := Ya (Z26 BK538.out)
  replace HB := Ya (Z4 HB.out)
  refine start_ (n := 23) (S := fun w' => w'.cell? ⟨gb538, 0, none⟩ = some (.slice A0_0 l0_0.length c0_0) ∧ w'.cell? ⟨gb538, 1, none⟩ = some (.slice A0_1 l0_1.length c0_1) ∧ w'.cell? ⟨gb538, 2, none⟩ = some (.slice A0_2 l0_2.length c0_2) ∧ w'.cell? ⟨gb538, 3, none⟩ = some (.slice A0_3 l0_3.length c0_3)) (ds := []) (YA 23 0) (by kernel_rfl) rfl rfl (Yz4 BK538.out) (fun hHeld => ?_); refine with_tabW impl_IsFocus.tab1 impl_IsFocus.bits1 (fun HT_ HW_ => ?_)
  generalize w22.drew = w23 at BK538 HB hHeld ⊢
  refine Yp 0 (some 3) (YA 23 1) rfl HT_.out ?_
  refine Yt 1 (some 4) (YA 23 3) rfl HT_.out HW_.out hHeld Q3 ?_
  refine one_ (i := 2) (N := some 5) (YA 23 7) rfl rfl (one_of HT_.out (by kernel_rfl)) (by decide) (fun K hK => ?_)
  refine goes_ Try.func64 (by kernel_rfl) rfl #[.slice A0_0 l0_0.length c0_0] (by rfl) rfl rfl Q7 ?_
  with_reducible refine (impl_areFocusBases.calls k _ _ l0_0 false _ ?side1 ?side2 A2.out).mono ?_
  (case side1 => exact Yc (Z22 HR0_0.out HB.out))
  (case side2 => exact HC0_0.out)
  rintro e w24 ⟨rfl, hb⟩
  refine ⟨_, rfl, ?_⟩
  replace BK538 := Yb BK538 hb
  replace HB := Yh hb
  (try clear hb)
  refine hK.out _ _ (Yz4 BK538.out) (fun hHeld => ?_)
  clear hK K
  refine norm_ (a' := ?_) ?_ ?_
  rotate_left
  ·show Act.put _ (some 5) _ = _
   simp only [Act.put, Z0, Z1, Z2, i64_w, i32_w]
   rfl
  refine Yp 3 (some 6) (YA 23 15) rfl HT_.out ?_
  refine YU 4 (some 7) (YA 23 31) rfl HT_.out ?_
  refine YU 5 (some 8) (YA 23 63) rfl HT_.out ?_
  refine YU 6 (some 9) (YA 23 127) rfl HT_.out ?_
  refine YU 7 (some 10) (YA 23 255) rfl HT_.out ?_
  refine YU 8 (some 11) (YA 23 511) rfl HT_.out ?_
  refine Yp 9 (some 12) (YA 23 1023) rfl HT_.out ?_
  refine Yp 10 (some 13) (YA 23 2047) rfl HT_.out ?_
  refine YU 11 (some 14) (YA 23 4095) rfl HT_.out ?_
  refine YU 12 (some 15) (YA 23 8191) rfl HT_.out ?_
  refine YU 13 (some 16) (YA 23 16383) rfl HT_.out ?_
  refine YU 14 (some 17) (YA 23 32767) rfl HT_.out ?_
  refine YU 15 (some 18) (YA 23 65535) rfl HT_.out ?_
  refine YU 16 (some 19) (YA 23 131071) rfl HT_.out ?_
  refine YU 17 (some 20) (YA 23 262143) rfl HT_.out ?_
  refine YU 18 (some 21) (YA 23 524287) rfl HT_.out ?_
  refine YU 19 (some 22) (YA 23 1048575) rfl HT_.out ?_
  refine YU 20 (some 23) (YA 23 2097151) rfl HT_.out ?_
  refine Yp 21 (some 24) (YA 23 4194303) rfl HT_.out ?_
  refine Yp 22 (some 2) (YA 23 8388607) rfl HT_.out ?_
  refine done_ (done_of HT_.out (by kernel_rfl)) ?_
  try go_wp2
  go_ret
  exact ⟨Q2, Q12⟩
def impl_isSwapperSize.f (a0 : Int) : Option (Bool) := (impl_within.f a0 1 7).bind fun t555 => (some t555)
set_option maxHeartbeats 8000000 in
set_option maxRecDepth 100000 in
theorem impl_isSwapperSize.calls (a0 : Int) (r : Bool) (w : World) (h : impl_isSwapperSize.f a0 = some r) :
  Calls Try.prog 47 #[.int .i64 a0] w fun e w' => e = .returned (.bool r) ∧ Drawn0 w w' := by
 have H : ((impl_within.f a0 1 7).bind fun t555 => (some t555)) = some r := h
 clear h
 replace H := Z36.mp H
 obtain ⟨t555, A20, H⟩ := H
 replace H : (some t555) = some r := H
 have A2 := Ya A20
 clear A20
 obtain rfl := Option.some.inj H
 go_enter Try.func47, Try.ntmps47
 go_wp2_with (first | ((with_reducible refine gate_callee (f := 48) rfl ?_); refine Yz 4 Try.func48 #[.int .i64 a0, .int .i64 1, .int .i64 7] ?_; (with_reducible refine (impl_within.calls a0 1 7 t555 _ A2.out).mono ?_); rintro e w' ⟨rfl, ⟨nd, rfl⟩⟩; refine ⟨_, rfl, ?_⟩))
 go_ret
 exact ⟨Q13, Q5⟩
def impl_startSwapper.l0 : Nat → Int → List Int → Int → Option (List Int × List Int × List Bool × List Int × List Int × List Int)
 | 0, _, _, _ => none
 | k + 1, x0, x3, x4 => if x4 ≤ x0 then (if x3.length < 17592186044416 then (impl_startSwapper.l0 k x0 (x3 ++ [x4]) (wrap64 (x4 + 1))) else (none)) else ((impl_startFocus.f k x3).bind fun bt563 => ((impl_identity.f k x0).bind fun t575 => ((impl_identity.f k x0).bind fun t578 => (some (bt563.1, bt563.2.1, bt563.2.2.1, bt563.2.2.2, t575, t578)))))
def impl_startSwapper.f (k : Nat) (a0 : Int) : Option (List Int × List Int × List Bool × List Int × List Int × List Int) := impl_startSwapper.l0 k a0 (([] : List Int)) 2
theorem impl_startSwapper.mono_l : ∀ k, (∀ y0 y1 y2, LeO (impl_startSwapper.l0 k y0 y1 y2) (impl_startSwapper.l0 (k + 1) y0 y1 y2))
 | 0 => fun _ _ _ r h => by simp [impl_startSwapper.l0] at h
 | k + 1 => by
  have ih0 := impl_startSwapper.mono_l k
  ·intro y0 y1 y2
   unfold impl_startSwapper.l0
   repeat' first
   | (with_reducible exact ih0 _ _ _)
   | (with_reducible exact impl_identity.mono _ _)
   | (with_reducible exact impl_startFocus.mono _ _)
   | (with_reducible exact LeO.refl _)
   | (with_reducible exact LeO.none _)
   | (with_reducible refine LeO.ite ?_ ?_)
   | (with_reducible refine LeO.bind ?_ (fun _ => ?_))
   | exact ih0 _ _ _
   | exact impl_identity.mono _ _
   | exact impl_startFocus.mono _ _
   | exact LeO.none _
   | refine LeO.ite ?_ ?_
   | refine LeO.bind ?_ (fun _ => ?_)
theorem impl_startSwapper.mono : ∀ a0 k, LeO (impl_startSwapper.f k a0) (impl_startSwapper.f (k + 1) a0) := by
 intro a0 k
 have ih0 := impl_startSwapper.mono_l k
 unfold impl_startSwapper.f
 repeat' first
   | (with_reducible exact ih0 _ _ _)
   | (with_reducible exact impl_identity.mono _ _)
   | (with_reducible exact impl_startFocus.mono _ _)
   | (with_reducible exact LeO.refl _)
   | (with_reducible exact LeO.none _)
   | (with_reducible refine LeO.ite ?_ ?_)
   | (with_reducible refine LeO.bind ?_ (fun _ => ?_))
   | exact ih0 _ _ _
   | exact impl_identity.mono _ _
   | exact impl_startFocus.mono _ _
   | exact LeO.none _
   | refine LeO.ite ?_ ?_
   | refine LeO.bind ?_ (fun _ => ?_)
set_option maxHeartbeats 8000000 in
set_option maxRecDepth 100000 in
theorem impl_startSwapper.calls (k : Nat) (a0 : Int) (r1 : List Int) (r2 : List Int) (r3 : List Bool) (r4 : List Int) (r5 : List Int) (r6 : List Int) (w : World) (h : impl_startSwapper.f k a0 = some (r1, r2, r3, r4, r5, r6)) :
  Calls Try.prog 52 #[.int .i64 a0] w fun e w' => ∃ v0_ v1_ v2_ v3_ v4_ v5_ : Value, e = .returned (.agg #[v0_, v1_, v2_, v3_, v4_, v5_]) ∧ Kd.R (Kd.int .i64) 3 w' w.heap.size (fun k_ => some k_ ≠ (v1_ : Value).ownBlock ∧ some k_ ≠ (v3_ : Value).ownBlock ∧ some k_ ≠ (v4_ : Value).ownBlock ∧ some k_ ≠ (v5_ : Value).ownBlock) v0_ r1 ∧ Kd.R (Kd.int .i64) 3 w' w.heap.size (fun k_ => some k_ ≠ (v0_ : Value).ownBlock ∧ some k_ ≠ (v3_ : Value).ownBlock ∧ some k_ ≠ (v4_ : Value).ownBlock ∧ some k_ ≠ (v5_ : Value).ownBlock) v1_ r2 ∧ Kd.R Kd.bool 4 w' w.heap.size (fun _ => True) v2_ r3 ∧ Kd.R (Kd.int .i64) 3 w' w.heap.size (fun k_ => some k_ ≠ (v0_ : Value).ownBlock ∧ some k_ ≠ (v1_ : Value).ownBlock ∧ some k_ ≠ (v4_ : Value).ownBlock ∧ some k_ ≠ (v5_ : Value).ownBlock) v3_ r4 ∧ Kd.R (Kd.int .i64) 3 w' w.heap.size (fun k_ => some k_ ≠ (v0_ : Value).ownBlock ∧ some k_ ≠ (v1_ : Value).ownBlock ∧ some k_ ≠ (v3_ : Value).ownBlock ∧ some k_ ≠ (v5_ : Value).ownBlock) v4_ r5 ∧ Kd.R (Kd.int .i64) 3 w' w.heap.size (fun k_ => some k_ ≠ (v0_ : Value).ownBlock ∧ some k_ ≠ (v1_ : Value).ownBlock ∧ some k_ ≠ (v3_ : Value).ownBlock ∧ some k_ ≠ (v4_ : Value).ownBlock) v5_ r6 ∧ Below w.heap.size w w' := by
 have hu35 := Try.underlying35
 have HB := Ya (Below.refl w.heap.size w)
 have H : (impl_startSwapper.l0 k a0 (([] : List Int)) 2) = some (r1, r2, r3, r4, r5, r6) := h
 clear h
 obtain ⟨y557, hy557⟩ : ∃ y_ : List Int, y_ = (([] : List Int)) := ⟨_, rfl⟩
 replace H : (impl_startSwapper.l0 k a0 y557 2) = some (r1, r2, r3, r4, r5, r6) := by first | (rw [hy557]; with_reducible exact H) | (have H2_ := (Option.bind_some _ _).symm.trans H; rw [hy557]; with_reducible exact H2_) | (have H2_ := (Option.bind_some _ _).symm.trans H; with_reducible exact H2_) | with_reducible exact H | (rw [hy557]; exact H) | exact H
 have Ny557 := Ya hy557
 clear hy557
 have H' := Ya H
 clear H
 go_enter Try.func52, Try.ntmps52
 go_wp2_with (first | ((with_reducible refine gate_dst (N := 2) rfl ?_); refine Yx 2 #[.slice none 0 0, .slice none 0 0, .slice none 0 0, .slice none 0 0, .slice none 0 0, .slice none 0 0] 35 ?_; intro gb556 hg w2 hbox hb; have BK556 := Ya hbox; have GE556 := Yg hg; replace HB := Yh hb; clear hb hbox hg) | ((with_reducible refine gate_dst (N := 5) rfl ?_); refine Kd.R_lit (Kd.int .i64) _ 3 ?hg (N := 5) ?hd (xs := ([] : List Int)) (inner := []) (ok := fun _ => True) (okp := fun _ => True) ?hr ?hp (fun _ hk => hk) trivial (Below.refl _ _) (Nat.le_refl _) (by simp) ?_; (case hd => rfl); (case hg => rfl); (case hr => first | (go_simp; done) | (go_simp; rfl)); (case hp => exact (Reps.none _ _)); intro v558 w3 ho4 hb hg_ hnew_; clear hg_ hnew_; (first | rw [← Ny557.out] at ho4 | (simp only [Int.reduceToNat] at ho4; rw [← Ny557.out] at ho4)); have HO559 := Yl ho4; replace BK556 := Yb BK556 hb; replace HB := Yh hb; clear hb ho4))
 go_loopg [3, 4] k (fun kq v3 v4 w' => ∃ (x3_1 : List Int) (x4_1 : Int), v4 = .int .i64 x4_1 ∧ Aside0 (impl_startSwapper.l0 kq a0 x3_1 x4_1 = some (r1, r2, r3, r4, r5, r6)) ∧ Aside0 (kq ≤ k) ∧ Aside0 (Kd.R (Kd.int .i64) 3 w' w.heap.size (fun _ => True) v3 x3_1) ∧ Aside0 (w'.heap[gb556]? = some (.cells #[(.slice none 0 0), (.slice none 0 0), (.slice none 0 0), (.slice none 0 0), (.slice none 0 0), (.slice none 0 0)] 35 (0, 0))) ∧ Aside0 (Below w.heap.size w w'))
 case atStart => exact ⟨(y557), (2), Q8, H', ⟨Nat.le_refl _⟩, ⟨by (with_reducible repeat (first | apply Z9 | apply Z10 | apply Z11)); exact HO559.out⟩, ⟨by (with_reducible repeat (first | refine Z25 ?_ _ | refine Z26 ?_ | refine Z27 ?_ _)); exact BK556.out⟩, ⟨Q12⟩⟩
 case round =>
  clear H'
  try clear p2
  obtain ⟨x3_1, x4_1, rfl, HA, HK1, HO_3, BK556, HB⟩ := hrel
  cases gk with
  | zero => exact absurd HA.out (by simp [impl_startSwapper.l0])
  | succ k1 =>
   have H := HA.out
   clear HA
   simp only [impl_startSwapper.l0] at H
   by_cases c5 : x4_1 ≤ a0
   ·rw [if_pos c5] at H
    have c5b0 := Z38 c5
    clear c5
    by_cases c6 : x3_1.length < 17592186044416
    ·rw [if_pos c6] at H
     have LMc6 := Ya c6
     clear c6
     obtain ⟨y560, hy560⟩ : ∃ y_ : List Int, y_ = (x3_1 ++ [x4_1]) := ⟨_, rfl⟩
     replace H : (impl_startSwapper.l0 k1 a0 y560 (wrap64 (x4_1 + 1))) = some (r1, r2, r3, r4, r5, r6) := by first | (rw [hy560]; with_reducible exact H) | (have H2_ := (Option.bind_some _ _).symm.trans H; rw [hy560]; with_reducible exact H2_) | (have H2_ := (Option.bind_some _ _).symm.trans H; with_reducible exact H2_) | with_reducible exact H | (rw [hy560]; exact H) | exact H
     have Ny560 := Ya hy560
     clear hy560
     have H' := Ya H
     clear H
     go_wp2_with (first | ((with_reducible refine gate_builtin (b := .append) (xs := #[.tmp 11, .tmp 13]) rfl ?_); at_builtin; refine Kd.R_append (Kd.int .i64) (w0 := w) w.heap.size rfl (.tmp 11) (.tmp 13) 22 3 (.int .i64 0) 8 rfl Try.underlying22 info3 rfl (by decide) (by omega) u3 x3_1 x4_1 [.int .i64 x4_1] (fun _ => True) (fun _ => False) rfl rfl ?aP (fun _ hk => hk.elim) ?aF ?aO ?aB ?aS ?aL ?_; (case aP => exact rfl); (case aB => exact Q0); (case aF => exact (fun _ _ => trivial)); (case aO => exact (Yr HO_3.out)); (case aS => exact (Z7 Q0)); (case aL => have := LMc6.out; omega); intro v561 w7 ho hb hg hat; rw [← Ny560.out] at ho; replace BK556 := Ya (blk_grown (g := gb556) (o := .cells #[.slice none 0 0, .slice none 0 0, .slice none 0 0, .slice none 0 0, .slice none 0 0, .slice none 0 0] 35 (0, 0)) (Yk BK556.out) hg (Kd.R_ne HO_3.out BK556.out (by decide))); replace HB := Ya hb; have HO562 := Ya ho; clear HO_3; clear ho hb hg hat))
     go_roundg k1
     case measure => have := HK1.out; omega
     case rel => exact ⟨(y560), (wrap64 (x4_1 + 1)), Q8, H', ⟨Q20⟩, ⟨by (with_reducible repeat (first | apply Z9 | apply Z10 | apply Z11)); exact HO562.out⟩, ⟨by (with_reducible repeat (first | refine Z25 ?_ _ | refine Z26 ?_ | refine Z27 ?_ _)); exact BK556.out⟩, ⟨Q12⟩⟩
    ·rw [if_neg c6] at H
     exact absurd H (by simp)
   ·rw [if_neg c5] at H
    have c5b0 := Z37 c5
    clear c5
    replace H := Z36.mp H
    obtain ⟨⟨t563, t566, t569, t572⟩, A80, H⟩ := H
    replace H : ((impl_identity.f k1 a0).bind fun t575 => ((impl_identity.f k1 a0).bind fun t578 => (some (t563, t566, t569, t572, t575, t578)))) = some (r1, r2, r3, r4, r5, r6) := H
    have A8 := Ya A80
    clear A80
    replace H := Z36.mp H
    obtain ⟨t575, A90, H⟩ := H
    replace H : ((impl_identity.f k1 a0).bind fun t578 => (some (t563, t566, t569, t572, t575, t578))) = some (r1, r2, r3, r4, r5, r6) := H
    have A9 := Ya A90
    clear A90
    replace H := Z36.mp H
    obtain ⟨t578, A100, H⟩ := H
    replace H : (some (t563, t566, t569, t572, t575, t578)) = some (r1, r2, r3, r4, r5, r6) := H
    have A10 := Ya A100
    clear A100
    simp only [Option.some.injEq, Prod.mk.injEq] at H
    obtain ⟨rfl, rfl, rfl, rfl, rfl, rfl⟩ := H
    obtain ⟨Ao11, co11, rfl⟩ := Z19 HO_3.out
    go_wp2_with (first | ((with_reducible refine gate_callee (f := 71) rfl ?_); refine Yz 16 Try.func71 #[.slice Ao11 x3_1.length co11] ?_; (with_reducible refine (impl_startFocus.calls k1 _ _ x3_1 t563 t566 t569 t572 _ (Yc (Kd.R_reads' HO_3.out).2.2) ((Kd.R_reads' HO_3.out).2.1) A8.out).mono ?_); rintro e w12 ⟨v564, v567, v570, v573, rfl, ho0, ho1, ho2, ho3, hb⟩; refine ⟨_, rfl, ?_⟩; have HO565 := Yl (Kd.R_new' ho0 (Z18 (Yr HO_3.out))); have HO568 := Yl (Kd.R_new' ho1 (Z18 (Yr HO_3.out))); have HO571 := Yl ho2; have HO574 := Yl (Kd.R_new' ho3 (Z18 (Yr HO_3.out))); replace HO_3 := Ya (Z12 (Z16 (Z16 (Z16 (Z17 (Yr HO_3.out) hb) (Kd.R_base ho0)) (Kd.R_base ho1)) (Kd.R_base ho3)) (fun _ h_ => h_.1)); replace BK556 := Yb BK556 hb; replace HB := Yh hb; (try clear hb ho0 ho1 ho2 ho3)) | ((with_reducible refine gate_callee (f := 72) rfl ?_); refine Yz 18 Try.func72 #[.int .i64 a0] ?_; (with_reducible refine (impl_identity.calls k1 a0 t575 _ A9.out).mono ?_); rintro e w13 ⟨v576, rfl, ho0, hb⟩; refine ⟨_, rfl, ?_⟩; replace HO571 := Yw HO571 hb; have HO577 := Yl (Kd.R_new' (Kd.R_new' (Kd.R_new' (Kd.R_new' ho0 (Z18 (Yr HO_3.out))) (Z18 (Yr HO565.out))) (Z18 (Yr HO568.out))) (Z18 (Yr HO574.out))); replace HO_3 := Ya (Kd.R_elder' (Yr HO_3.out) (Kd.R_base ho0) hb); replace HO565 := Ya (Kd.R_elder' (Yr HO565.out) (Kd.R_base ho0) hb); replace HO568 := Ya (Kd.R_elder' (Yr HO568.out) (Kd.R_base ho0) hb); replace HO574 := Ya (Kd.R_elder' (Yr HO574.out) (Kd.R_base ho0) hb); replace BK556 := Yb BK556 hb; replace HB := Yh hb; (try clear hb ho0)) | ((with_reducible refine gate_callee (f := 72) rfl ?_); refine Yz 20 Try.func72 #[.int .i64 a0] ?_; (with_reducible refine (impl_identity.calls k1 a0 t578 _ A10.out).mono ?_); rintro e w14 ⟨v579, rfl, ho0, hb⟩; refine ⟨_, rfl, ?_⟩; replace HO571 := Yw HO571 hb; have HO580 := Yl (Kd.R_new' (Kd.R_new' (Kd.R_new' (Kd.R_new' (Kd.R_new' ho0 (Z18 (Yr HO_3.out))) (Z18 (Yr HO565.out))) (Z18 (Yr HO568.out))) (Z18 (Yr HO574.out))) (Z18 (Yr HO577.out))); replace HO_3 := Ya (Kd.R_elder' (Yr HO_3.out) (Kd.R_base ho0) hb); replace HO565 := Ya (Kd.R_elder' (Yr HO565.out) (Kd.R_base ho0) hb); replace HO568 := Ya (Kd.R_elder' (Yr HO568.out) (Kd.R_base ho0) hb); replace HO574 := Ya (Kd.R_elder' (Yr HO574.out) (Kd.R_base ho0) hb); replace HO577 := Ya (Kd.R_elder' (Yr HO577.out) (Kd.R_base ho0) hb); replace BK556 := Yb BK556 hb; replace HB := Yh hb; (try clear hb ho0); obtain ⟨Ao15, co15, rfl⟩ := Z19 HO580.out; obtain ⟨Ao16, co16, rfl⟩ := Z19 HO577.out; obtain ⟨Ao17, co17, rfl⟩ := Z19 HO574.out; obtain ⟨Ao18, co18, rfl⟩ := Z19 HO571.out; obtain ⟨Ao19, co19, rfl⟩ := Z19 HO568.out; obtain ⟨Ao20, co20, rfl⟩ := Z19 HO565.out; have hz21 := Y6 BK556.out))
    refine bodyPost_ret (results_cell_row rfl _ _ gb556 35 #[.slice Ao20 t563.length co20, .slice Ao19 t566.length co19, .slice Ao18 t569.length co18, .slice Ao17 t572.length co17, .slice Ao16 t575.length co16, .slice Ao15 t578.length co15] (0, 0) _ rfl (Yk (Yv6 BK556.out)) Try.underlying35 rfl (by kernel_rfl)) rfl ?_
    exact ⟨_, _, _, _, _, _, Q2, Yj (Yf6 HO565.out BK556.out) (fun _ hk => ⟨hk.1.1.1.1.1, ⟨hk.1.1.1.1.2, ⟨hk.1.1.2, hk.1.2⟩⟩⟩), Yj (Yf6 HO568.out BK556.out) (fun _ hk => ⟨hk.1.1.1.1.1, ⟨hk.1.1.1.1.2, ⟨hk.1.1.2, hk.1.2⟩⟩⟩), Yj (Yf6 HO571.out BK556.out) (fun _ hk => trivial), Yj (Yf6 HO574.out BK556.out) (fun _ hk => ⟨hk.1.1.1.1.1, ⟨hk.1.1.1.1.2, ⟨hk.1.1.2, hk.1.2⟩⟩⟩), Yj (Yf6 HO577.out BK556.out) (fun _ hk => ⟨hk.1.1.1.1.2, ⟨hk.1.1.1.2, ⟨hk.1.1.2, hk.1.2⟩⟩⟩), Yj (Yf6 HO580.out BK556.out) (fun _ hk => ⟨hk.1.1.1.1.2, ⟨hk.1.1.1.2, ⟨hk.1.1.2, hk.1.2⟩⟩⟩), Q12⟩
end Go.Proofs.Ytpfakdhfffehaaa.MFnExactStepSwapper
