import Derived.Test.YtpfakdhfffehaaaMFnExactSwapperRankx0
import Derived.Test.YtpfakdhfffehaaaMFnExactSwapperRankx8
import Derived.Test.YtpfakdhfffehaaaMFnExactSwapperRankx9
namespace Go.Proofs.Ytpfakdhfffehaaa.MFnExactSwapperRank
open Go.RowKit Go.Proofs.YtpfakdhfffehaaaW.PrintWords Go.Proofs.YtpfakdhfffehaaaW.PrintLast Go.Proofs.YtpfakdhfffehaaaW.PrintMore
attribute [local go_sem] max2_int min2_int max_two min_two max_three min_three max_four min_four   
set_option linter.unusedVariables false
set_option linter.unusedSimpArgs false
def impl_startFocus.l0 : Nat → Int → Int → List Int → List Int → List Bool → List Int → Option (List Int × List Int × List Bool × List Int)
 | 0, _, _, _, _, _, _ => none
 | k + 1, x15, x16, x482000, x482001, x482002, x482003 => if x16 < x15 then (if x482002.length < 140737488355328 then (impl_startFocus.l0 k x15 (wrap64 (x16 + 1)) x482000 x482001 (x482002 ++ [true]) x482003) else (none)) else (some (x482000, x482001, x482002, x482003))
def impl_startFocus.f (k : Nat) (l0 : List Int) : Option (List Int × List Int × List Bool × List Int) := (impl_copied.f l0).bind fun t472 => (if 0 ≤ (l0.length : Int) then (if ((l0.length : Int) : Int).toNat ≤ 35184372088832 then ((impl_identity.f k (wrap64 ((l0.length : Int) + 1))).bind fun t478 => (impl_startFocus.l0 k (l0.length : Int) 0 t472 (List.replicate ((l0.length : Int) : Int).toNat 0) ([] : List Bool) t478)) else (none)) else (none))
theorem impl_startFocus.mono_l : ∀ k, (∀ y0 y1 y2 y3 y4 y5, LeO (impl_startFocus.l0 k y0 y1 y2 y3 y4 y5) (impl_startFocus.l0 (k + 1) y0 y1 y2 y3 y4 y5))
 | 0 => fun _ _ _ _ _ _ r h => by simp [impl_startFocus.l0] at h
 | k + 1 => by
  have ih0 := impl_startFocus.mono_l k
  ·intro y0 y1 y2 y3 y4 y5
   unfold impl_startFocus.l0
   repeat' first
   | (with_reducible exact ih0 _ _ _ _ _ _)
   | (with_reducible exact impl_identity.mono _ _)
   | (with_reducible exact LeO.refl _)
   | (with_reducible exact LeO.none _)
   | (with_reducible refine LeO.ite ?_ ?_)
   | (with_reducible refine LeO.bind ?_ (fun _ => ?_))
   | exact ih0 _ _ _ _ _ _
   | exact impl_identity.mono _ _
   | exact LeO.none _
   | refine LeO.ite ?_ ?_
   | refine LeO.bind ?_ (fun _ => ?_)
theorem impl_startFocus.mono : ∀ a0 k, LeO (impl_startFocus.f k a0) (impl_startFocus.f (k + 1) a0) := by
 intro a0 k
 have ih0 := impl_startFocus.mono_l k
 unfold impl_startFocus.f
 repeat' first
   | (with_reducible exact ih0 _ _ _ _ _ _)
   | (with_reducible exact impl_identity.mono _ _)
   | (with_reducible exact LeO.refl _)
   | (with_reducible exact LeO.none _)
   | (with_reducible refine LeO.ite ?_ ?_)
   | (with_reducible refine LeO.bind ?_ (fun _ => ?_))
   | exact ih0 _ _ _ _ _ _
   | exact impl_identity.mono _ _
   | exact LeO.none _
   | refine LeO.ite ?_ ?_
   | refine LeO.bind ?_ (fun _ => ?_)
def impl_startFocus.T2 : Bool × List (List Nat × List Nat) := (true, [([], []), ([0], [0]), ([], []), ([2, 2], [2]), ([], []), ([4], [4]), ([5, 1], [5]), ([1, 3, 6], [1, 3, 6]), ([], []), ([8, 7, 6, 0, 1, 2, 3, 4, 5, 6, 7, 8], [7, 8])])
def impl_startFocus.B2 : List Nat := [0, 1, 0, 4, 0, 16, 51, 127, 0, 511]
theorem impl_startFocus.tab2 : rtab .any (opsOf Try.f71 2) = impl_startFocus.T2 := by kernel_rfl
theorem impl_startFocus.bits2 : waitsOk impl_startFocus.T2.2 impl_startFocus.B2 = true := by kernel_rfl
set_option maxHeartbeats 8000000 in
set_option maxRecDepth 100000 in
theorem impl_startFocus.calls (k : Nat) (A0 : Option Addr) (c0 : Nat) (l0 : List Int) (r1 : List Int) (r2 : List Int) (r3 : List Bool) (r4 : List Int) (w : World) (hr0 : Kd.C (Kd.int .i64) w A0 l0.length l0) (hc0 : l0.length ≤ c0) (h : impl_startFocus.f k l0 = some (r1, r2, r3, r4)) :
  Calls Try.prog 71 #[.slice A0 l0.length c0] w fun e w' => ∃ v0_ v1_ v2_ v3_ : Value, e = .returned (.agg #[v0_, v1_, v2_, v3_]) ∧ Kd.R (Kd.int .i64) 3 w' w.heap.size (fun k_ => some k_ ≠ (v1_ : Value).ownBlock ∧ some k_ ≠ (v3_ : Value).ownBlock) v0_ r1 ∧ Kd.R (Kd.int .i64) 3 w' w.heap.size (fun k_ => some k_ ≠ (v0_ : Value).ownBlock ∧ some k_ ≠ (v3_ : Value).ownBlock) v1_ r2 ∧ Kd.R Kd.bool 4 w' w.heap.size (fun _ => True) v2_ r3 ∧ Kd.R (Kd.int .i64) 3 w' w.heap.size (fun k_ => some k_ ≠ (v0_ : Value).ownBlock ∧ some k_ ≠ (v1_ : Value).ownBlock) v3_ r4 ∧ Below w.heap.size w w' := by
 have hu27 := Try.underlying27
 have HR0 := Ya hr0
 have HC0 := Ya hc0
 clear hr0 hc0
 have HB := Ya (Below.refl w.heap.size w)
 have H : ((impl_copied.f l0).bind fun t472 => (if 0 ≤ (l0.length : Int) then (if ((l0.length : Int) : Int).toNat ≤ 35184372088832 then ((impl_identity.f k (wrap64 ((l0.length : Int) + 1))).bind fun t478 => (impl_startFocus.l0 k (l0.length : Int) 0 t472 (List.replicate ((l0.length : Int) : Int).toNat 0) ([] : List Bool) t478)) else (none)) else (none))) = some (r1, r2, r3, r4) := h
 clear h
 replace H := Z33.mp H
 obtain ⟨t472, A20, H⟩ := H
 replace H : (if 0 ≤ (l0.length : Int) then (if ((l0.length : Int) : Int).toNat ≤ 35184372088832 then ((impl_identity.f k (wrap64 ((l0.length : Int) + 1))).bind fun t478 => (impl_startFocus.l0 k (l0.length : Int) 0 t472 (List.replicate ((l0.length : Int) : Int).toNat 0) ([] : List Bool) t478)) else (none)) else (none)) = some (r1, r2, r3, r4) := H
 have A2 := Ya A20
 clear A20
 by_cases c3 : 0 ≤ (l0.length : Int)
 ·rw [if_pos c3] at H
  have c3b0 := eq_true c3
  have c3b1 : decide (0 ≤ (l0.length : Int)) = true := Z35 c3
  have HLEc3 := Ya c3
  clear c3
  by_cases c4 : ((l0.length : Int) : Int).toNat ≤ 35184372088832
  ·rw [if_pos c4] at H
   have c4b0 := eq_true c4
   have c4b1 : decide (((l0.length : Int) : Int).toNat ≤ 35184372088832) = true := Z35 c4
   clear c4
   obtain ⟨y475, hy475⟩ : ∃ y_ : List Int, y_ = (List.replicate ((l0.length : Int) : Int).toNat 0) := ⟨_, rfl⟩
   replace H : ((impl_identity.f k (wrap64 ((l0.length : Int) + 1))).bind fun t478 => (impl_startFocus.l0 k (l0.length : Int) 0 t472 y475 ([] : List Bool) t478)) = some (r1, r2, r3, r4) := by first | (rw [hy475]; with_reducible exact H) | (have H2_ := (Option.bind_some _ _).symm.trans H; rw [hy475]; with_reducible exact H2_) | (have H2_ := (Option.bind_some _ _).symm.trans H; with_reducible exact H2_) | with_reducible exact H | (rw [hy475]; exact H) | exact H
   have Ny475 := Ya hy475
   clear hy475
   replace H := Z33.mp H
   obtain ⟨t478, A50, H⟩ := H
   replace H : (impl_startFocus.l0 k (l0.length : Int) 0 t472 y475 ([] : List Bool) t478) = some (r1, r2, r3, r4) := H
   have A5 := Ya A50
   clear A50
   have H' := Ya H
   clear H
   go_enter Try.func71, Try.ntmps71
   try go_wp2_with (first | ((with_reducible refine gate_dst (N := 2) rfl ?_); refine Yx 2 #[.slice none 0 0, .slice none 0 0, .slice none 0 0, .slice none 0 0] 27 ?_; intro gb471 hg w6 hbox hb; have BK471 := Ya hbox; have GW471 := Yg hg; have GE471 := GW471; replace HB := Yh hb; clear hb hbox hg))
   replace BK471 := Ya (Z23 BK471.out)
   replace HB := Ya (Z4 HB.out)
   refine start_ (n := 10) (S := fun w' => True) (ds := []) (YA 10 0) (by kernel_rfl) rfl rfl trivial (fun hHeld => ?_); refine with_tabW impl_startFocus.tab2 impl_startFocus.bits2 (fun HT_ HW_ => ?_)
   generalize w6.drew = w7 at BK471 HB hHeld ⊢
   refine Yp 0 (some 7) (YA 10 1) rfl HT_.out ?_
   refine Yp 2 (some 9) (YA 10 5) rfl HT_.out ?_
   refine Yp 4 (some 11) (YA 10 21) rfl HT_.out ?_
   refine Yp 5 (some 12) (YA 10 53) rfl HT_.out ?_
   refine join_ (σ := Value × Value × Value × Nat) 1 (YA 10 511) (fun s_ => [(8, s_.1), (10, s_.2.1), (13, s_.2.2.1), (4, .pointer (some ⟨s_.2.2.2, 0, none⟩)), (14, .agg #[s_.1, s_.2.1, .slice none 0 0, s_.2.2.1])]) (fun s_ w' => (Kd.R (Kd.int .i64) 3 w' w.heap.size (fun k_ => some k_ ≠ (s_.2.1 : Value).ownBlock ∧ some k_ ≠ (s_.2.2.1 : Value).ownBlock) s_.1 t472) ∧ (Kd.R (Kd.int .i64) 3 w' w.heap.size (fun k_ => some k_ ≠ (s_.1 : Value).ownBlock ∧ some k_ ≠ (s_.2.2.1 : Value).ownBlock) s_.2.1 y475) ∧ (Kd.R (Kd.int .i64) 3 w' w.heap.size (fun k_ => some k_ ≠ (s_.1 : Value).ownBlock ∧ some k_ ≠ (s_.2.1 : Value).ownBlock) s_.2.2.1 t478) ∧ (w'.heap[gb471]? = some (.cells #[.slice none 0 0, .slice none 0 0, .slice none 0 0, .slice none 0 0] 27 (0, 0))) ∧ (w'.heap[s_.2.2.2]? = some (.cells #[.slice none 0 0, .slice none 0 0, .slice none 0 0, .slice none 0 0] 27 (0, 0))) ∧ (w.heap.size ≤ s_.2.2.2) ∧ (w.heap.size ≤ s_.2.2.2) ∧ (gb471 ≠ s_.2.2.2) ∧ (s_.2.2.2 ≠ gb471) ∧ (Below w.heap.size w w')) ?_ ?_
   rotate_left
   ·intro hJ1_3_6_8
    refine join_ (σ := Value × Value × Value) 2 (YA 10 255) (fun s_ => [(8, s_.1), (10, s_.2.1), (13, s_.2.2), (14, .agg #[s_.1, s_.2.1, .slice none 0 0, s_.2.2])]) (fun s_ w' => (Kd.R (Kd.int .i64) 3 w' w.heap.size (fun k_ => some k_ ≠ (s_.2.1 : Value).ownBlock ∧ some k_ ≠ (s_.2.2 : Value).ownBlock) s_.1 t472) ∧ (Kd.R (Kd.int .i64) 3 w' w.heap.size (fun k_ => some k_ ≠ (s_.1 : Value).ownBlock ∧ some k_ ≠ (s_.2.2 : Value).ownBlock) s_.2.1 y475) ∧ (Kd.R (Kd.int .i64) 3 w' w.heap.size (fun k_ => some k_ ≠ (s_.1 : Value).ownBlock ∧ some k_ ≠ (s_.2.1 : Value).ownBlock) s_.2.2 t478) ∧ (w'.heap[gb471]? = some (.cells #[.slice none 0 0, .slice none 0 0, .slice none 0 0, .slice none 0 0] 27 (0, 0))) ∧ (Below w.heap.size w w')) ?_ ?_
    rotate_left
    ·intro hJ1_3_6
     refine join_ (σ := Value × Value × Nat) 3 (YA 10 319) (fun s_ => [(8, s_.1), (10, s_.2.1), (4, .pointer (some ⟨s_.2.2, 0, none⟩))]) (fun s_ w' => (Kd.R (Kd.int .i64) 3 w' w.heap.size (fun k_ => some k_ ≠ (s_.2.1 : Value).ownBlock) s_.1 t472) ∧ (Kd.R (Kd.int .i64) 3 w' w.heap.size (fun k_ => some k_ ≠ (s_.1 : Value).ownBlock) s_.2.1 y475) ∧ (w'.heap[gb471]? = some (.cells #[.slice none 0 0, .slice none 0 0, .slice none 0 0, .slice none 0 0] 27 (0, 0))) ∧ (w'.heap[s_.2.2]? = some (.cells #[.slice none 0 0, .slice none 0 0, .slice none 0 0, .slice none 0 0] 27 (0, 0))) ∧ (w.heap.size ≤ s_.2.2) ∧ (w.heap.size ≤ s_.2.2) ∧ (gb471 ≠ s_.2.2) ∧ (s_.2.2 ≠ gb471) ∧ (Below w.heap.size w w')) ?_ ?_
     rotate_left
     ·intro hJ1_3_8
      refine join_ (σ := Value × Value × Nat) 3 (YA 10 375) (fun s_ => [(8, s_.1), (13, s_.2.1), (4, .pointer (some ⟨s_.2.2, 0, none⟩))]) (fun s_ w' => (Kd.R (Kd.int .i64) 3 w' w.heap.size (fun k_ => some k_ ≠ (s_.2.1 : Value).ownBlock) s_.1 t472) ∧ (Kd.R (Kd.int .i64) 3 w' w.heap.size (fun k_ => some k_ ≠ (s_.1 : Value).ownBlock) s_.2.1 t478) ∧ (w'.heap[gb471]? = some (.cells #[.slice none 0 0, .slice none 0 0, .slice none 0 0, .slice none 0 0] 27 (0, 0))) ∧ (w'.heap[s_.2.2]? = some (.cells #[.slice none 0 0, .slice none 0 0, .slice none 0 0, .slice none 0 0] 27 (0, 0))) ∧ (w.heap.size ≤ s_.2.2) ∧ (w.heap.size ≤ s_.2.2) ∧ (gb471 ≠ s_.2.2) ∧ (s_.2.2 ≠ gb471) ∧ (Below w.heap.size w w')) ?_ ?_
      rotate_left
      ·intro hJ1_6_8
       refine join_ (σ := Value × Value) 4 (YA 10 63) (fun s_ => [(8, s_.1), (10, s_.2)]) (fun s_ w' => (Kd.R (Kd.int .i64) 3 w' w.heap.size (fun k_ => some k_ ≠ (s_.2 : Value).ownBlock) s_.1 t472) ∧ (Kd.R (Kd.int .i64) 3 w' w.heap.size (fun k_ => some k_ ≠ (s_.1 : Value).ownBlock) s_.2 y475) ∧ (w'.heap[gb471]? = some (.cells #[.slice none 0 0, .slice none 0 0, .slice none 0 0, .slice none 0 0] 27 (0, 0))) ∧ (Below w.heap.size w w')) ?_ ?_
       rotate_left
       ·intro hJ1_3
        refine join_ (σ := Value × Value) 4 (YA 10 119) (fun s_ => [(8, s_.1), (13, s_.2)]) (fun s_ w' => (Kd.R (Kd.int .i64) 3 w' w.heap.size (fun k_ => some k_ ≠ (s_.2 : Value).ownBlock) s_.1 t472) ∧ (Kd.R (Kd.int .i64) 3 w' w.heap.size (fun k_ => some k_ ≠ (s_.1 : Value).ownBlock) s_.2 t478) ∧ (w'.heap[gb471]? = some (.cells #[.slice none 0 0, .slice none 0 0, .slice none 0 0, .slice none 0 0] 27 (0, 0))) ∧ (Below w.heap.size w w')) ?_ ?_
        rotate_left
        ·intro hJ1_6
         refine join_ (σ := Value × Nat) 4 (YA 10 311) (fun s_ => [(8, s_.1), (4, .pointer (some ⟨s_.2, 0, none⟩))]) (fun s_ w' => (Kd.R (Kd.int .i64) 3 w' w.heap.size (fun _ => True) s_.1 t472) ∧ (w'.heap[gb471]? = some (.cells #[.slice none 0 0, .slice none 0 0, .slice none 0 0, .slice none 0 0] 27 (0, 0))) ∧ (w'.heap[s_.2]? = some (.cells #[.slice none 0 0, .slice none 0 0, .slice none 0 0, .slice none 0 0] 27 (0, 0))) ∧ (w.heap.size ≤ s_.2) ∧ (w.heap.size ≤ s_.2) ∧ (gb471 ≠ s_.2) ∧ (s_.2 ≠ gb471) ∧ (Below w.heap.size w w')) ?_ ?_
         rotate_left
         ·intro hJ1_8
          refine join_ (σ := Value × Nat) 4 (YA 10 317) (fun s_ => [(10, s_.1), (4, .pointer (some ⟨s_.2, 0, none⟩))]) (fun s_ w' => (Kd.R (Kd.int .i64) 3 w' w.heap.size (fun _ => True) s_.1 y475) ∧ (w'.heap[gb471]? = some (.cells #[.slice none 0 0, .slice none 0 0, .slice none 0 0, .slice none 0 0] 27 (0, 0))) ∧ (w'.heap[s_.2]? = some (.cells #[.slice none 0 0, .slice none 0 0, .slice none 0 0, .slice none 0 0] 27 (0, 0))) ∧ (w.heap.size ≤ s_.2) ∧ (w.heap.size ≤ s_.2) ∧ (gb471 ≠ s_.2) ∧ (s_.2 ≠ gb471) ∧ (Below w.heap.size w w')) ?_ ?_
          rotate_left
          ·intro hJ3_8
           refine join_ (σ := Value) 5 (YA 10 55) (fun s_ => [(8, s_)]) (fun s_ w' => (Kd.R (Kd.int .i64) 3 w' w.heap.size (fun _ => True) s_ t472) ∧ (w'.heap[gb471]? = some (.cells #[.slice none 0 0, .slice none 0 0, .slice none 0 0, .slice none 0 0] 27 (0, 0))) ∧ (Below w.heap.size w w')) ?_ ?_
           rotate_left
           ·intro hJ1
            refine join_ (σ := Value) 5 (YA 10 61) (fun s_ => [(10, s_)]) (fun s_ w' => (Kd.R (Kd.int .i64) 3 w' w.heap.size (fun _ => True) s_ y475) ∧ (w'.heap[gb471]? = some (.cells #[.slice none 0 0, .slice none 0 0, .slice none 0 0, .slice none 0 0] 27 (0, 0))) ∧ (Below w.heap.size w w')) ?_ ?_
            rotate_left
            ·intro hJ3
             refine join_ (σ := Nat) 5 (YA 10 309) (fun s_ => [(4, .pointer (some ⟨s_, 0, none⟩))]) (fun s_ w' => (w'.heap[gb471]? = some (.cells #[.slice none 0 0, .slice none 0 0, .slice none 0 0, .slice none 0 0] 27 (0, 0))) ∧ (w'.heap[s_]? = some (.cells #[.slice none 0 0, .slice none 0 0, .slice none 0 0, .slice none 0 0] 27 (0, 0))) ∧ (w.heap.size ≤ s_) ∧ (w.heap.size ≤ s_) ∧ (gb471 ≠ s_) ∧ (s_ ≠ gb471) ∧ (Below w.heap.size w w')) ?_ ?_
             rotate_left
             ·intro hJ8
              refine three_ (i := 1) (j := 3) (k := 8) (Ni := some 8) (Nj := some 10) (Nk := some 4) (YA 10 55) (YA 10 61) (YA 10 309) rfl rfl rfl rfl rfl rfl (three_of HT_.out (by kernel_rfl)) (by decide) (by decide) (by decide) (fun K hK => ?_) (fun K hK => ?_) (fun K hK => ?_)
              ·skip
               refine goes_ Try.func56 (by kernel_rfl) rfl #[.slice A0 l0.length c0] (by rfl) rfl rfl Q6 ?_
               with_reducible refine (impl_copied.calls _ _ l0 t472 _ ?side1 ?side2 A2.out).mono ?_
               (case side1 => exact Yc (Z19 HR0.out HB.out))
               (case side2 => exact HC0.out)
               rintro e w8 ⟨v473, rfl, ho0, hb⟩
               refine ⟨_, rfl, ?_⟩
               have HO474 := Yl ho0
               replace BK471 := Yb BK471 hb
               replace HB := Yh hb
               (try clear hb ho0)
               refine hK.out _ _ trivial (fun hHeld => ?_)
               clear hK K
               refine norm_ (a' := ?_) ?_ ?_
               rotate_left
               ·show Act.put _ (some 8) _ = _
                simp only [Act.put, Z0, Z1, Z2, i64_w, i32_w]
                rfl
               exact norm_ Q4 (hJ1 (v473) _ ⟨(Yr HO474.out), (Yk BK471.out), Q0⟩)
              ·skip
               refine Kd.R_make_step (Kd.int .i64) _ 3 (by rfl) (N := 10) rfl 22 _ _ rfl (l0.length : Int) rfl rfl Try.underlying22 (.int .i64 0) 8 info3 rfl (by decide) (by omega) 0 (ok := fun _ => True) (okp := fun _ => True) rfl (fun _ hk => hk) trivial (Z27 Q1) (Nat.le_trans (Nat.mul_le_mul_right _ (Z27 Q1 : (l0.length : Int).toNat ≤ 35184372088832)) (by omega)) (Below.refl _ _) (Nat.le_refl _) ?_
               intro v476 w8 ho9 hb hg_ hnew_
               clear hg_ hnew_
               (first | rw [← Ny475.out] at ho9 | (simp only [Int.reduceToNat] at ho9; rw [← Ny475.out] at ho9))
               have HO477 := Yl ho9
               replace BK471 := Yb BK471 hb
               replace HB := Yh hb
               clear hb ho9
               refine hK.out _ _ trivial (fun hHeld => ?_)
               clear hK K
               refine norm_ (a' := ?_) ?_ ?_
               rotate_left
               ·show Act.put _ (some 10) _ = _
                simp only [Act.put, Z0, Z1, Z2, i64_w, i32_w]
                rfl
               exact norm_ Q4 (hJ3 (v476) _ ⟨(Yr HO477.out), (Yk BK471.out), Q0⟩)
              ·skip
               refine Yy 4 #[.slice none 0 0, .slice none 0 0, .slice none 0 0, .slice none 0 0] 27 ?_
               intro gb481 hg w8 hbox hb
               have BK481 := Ya hbox
               have GW481 := Yg hg
               have GE481 := GW481
               replace HB := Yh hb
               have NB471_481 := Yn BK471 hg
               have NB481_471 := Ym BK471 hg
               replace BK471 := Yb BK471 hb
               clear hb hbox hg
               refine hK.out _ _ trivial (fun hHeld => ?_)
               clear hK K
               refine norm_ (a' := ?_) ?_ ?_
               rotate_left
               ·show Act.put _ (some 4) _ = _
                simp only [Act.put, Z0, Z1, Z2, i64_w, i32_w]
                rfl
               exact norm_ Q4 (hJ8 (gb481) _ ⟨(Yk BK471.out), (Yk BK481.out), GW481.out, GE481.out, NB471_481.out, NB481_471.out, Q0⟩)
             ·skip
              rintro gb481 w9 ⟨h0_, h1_, h2_, h3_, h4_, h5_, h6_⟩
              replace BK471 : Aside0 (w9.heap[gb471]? = some (.cells #[.slice none 0 0, .slice none 0 0, .slice none 0 0, .slice none 0 0] 27 (0, 0))) := ⟨h0_⟩
              have BK481 : Aside0 (w9.heap[gb481]? = some (.cells #[.slice none 0 0, .slice none 0 0, .slice none 0 0, .slice none 0 0] 27 (0, 0))) := ⟨h1_⟩
              have GW481 : Aside0 (w.heap.size ≤ gb481) := ⟨h2_⟩
              have GE481 : Aside0 (w.heap.size ≤ gb481) := ⟨h3_⟩
              have NB471_481 : Aside0 (gb471 ≠ gb481) := ⟨h4_⟩
              have NB481_471 : Aside0 (gb481 ≠ gb471) := ⟨h5_⟩
              replace HB : Aside0 (Below w.heap.size w w9) := ⟨h6_⟩
              clear h0_ h1_ h2_ h3_ h4_ h5_ h6_
              have hHeld := trivial
              refine norm_ (a' := ?_) ?_ ?_
              rotate_left
              ·simp only [putAll, Act.put, Z0, Z1, Z2]
               rfl
              refine two_ (i := 1) (j := 3) (Ni := some 8) (Nj := some 10) (YA 10 311) (YA 10 317) rfl rfl rfl rfl (two_of HT_.out (by kernel_rfl)) (by decide) (by decide) (fun K hK => ?_) (fun K hK => ?_)
              ·skip
               refine goes_ Try.func56 (by kernel_rfl) rfl #[.slice A0 l0.length c0] (by rfl) rfl rfl Q6 ?_
               with_reducible refine (impl_copied.calls _ _ l0 t472 _ ?side1 ?side2 A2.out).mono ?_
               (case side1 => exact Yc (Z19 HR0.out HB.out))
               (case side2 => exact HC0.out)
               rintro e w10 ⟨v473, rfl, ho0, hb⟩
               refine ⟨_, rfl, ?_⟩
               have HO474 := Yl ho0
               replace BK471 := Yb BK471 hb
               replace BK481 := Yb BK481 hb
               replace HB := Yh hb
               (try clear hb ho0)
               refine hK.out _ _ trivial (fun hHeld => ?_)
               clear hK K
               refine norm_ (a' := ?_) ?_ ?_
               rotate_left
               ·show Act.put _ (some 8) _ = _
                simp only [Act.put, Z0, Z1, Z2, i64_w, i32_w]
                rfl
               exact norm_ Q4 (hJ1_8 (v473, gb481) _ ⟨(Yr HO474.out), (Yk BK471.out), (Yk BK481.out), GW481.out, GE481.out, NB471_481.out, NB481_471.out, Q0⟩)
              ·skip
               refine Kd.R_make_step (Kd.int .i64) _ 3 (by rfl) (N := 10) rfl 22 _ _ rfl (l0.length : Int) rfl rfl Try.underlying22 (.int .i64 0) 8 info3 rfl (by decide) (by omega) 0 (ok := fun _ => True) (okp := fun _ => True) rfl (fun _ hk => hk) trivial (Z27 Q1) (Nat.le_trans (Nat.mul_le_mul_right _ (Z27 Q1 : (l0.length : Int).toNat ≤ 35184372088832)) (by omega)) (Below.refl _ _) (Nat.le_refl _) ?_
               intro v476 w10 ho11 hb hg_ hnew_
               clear hg_ hnew_
               (first | rw [← Ny475.out] at ho11 | (simp only [Int.reduceToNat] at ho11; rw [← Ny475.out] at ho11))
               have HO477 := Yl ho11
               replace BK471 := Yb BK471 hb
               replace BK481 := Yb BK481 hb
               replace HB := Yh hb
               clear hb ho11
               refine hK.out _ _ trivial (fun hHeld => ?_)
               clear hK K
               refine norm_ (a' := ?_) ?_ ?_
               rotate_left
               ·show Act.put _ (some 10) _ = _
                simp only [Act.put, Z0, Z1, Z2, i64_w, i32_w]
                rfl
               exact norm_ Q4 (hJ3_8 (v476, gb481) _ ⟨(Yr HO477.out), (Yk BK471.out), (Yk BK481.out), GW481.out, GE481.out, NB471_481.out, NB481_471.out, Q0⟩)
            ·skip
             rintro v476 w10 ⟨h0_, h1_, h2_⟩
             have HO477 : Aside0 (Kd.R (Kd.int .i64) 3 w10 w.heap.size (fun _ => True) v476 y475) := ⟨h0_⟩
             replace BK471 : Aside0 (w10.heap[gb471]? = some (.cells #[.slice none 0 0, .slice none 0 0, .slice none 0 0, .slice none 0 0] 27 (0, 0))) := ⟨h1_⟩
             replace HB : Aside0 (Below w.heap.size w w10) := ⟨h2_⟩
             clear h0_ h1_ h2_
             have hHeld := trivial
             refine norm_ (a' := ?_) ?_ ?_
             rotate_left
             ·simp only [putAll, Act.put, Z0, Z1, Z2]
              rfl
             refine two_ (i := 1) (j := 8) (Ni := some 8) (Nj := some 4) (YA 10 63) (YA 10 317) rfl rfl rfl rfl (two_of HT_.out (by kernel_rfl)) (by decide) (by decide) (fun K hK => ?_) (fun K hK => ?_)
             ·skip
              refine goes_ Try.func56 (by kernel_rfl) rfl #[.slice A0 l0.length c0] (by rfl) rfl rfl Q6 ?_
              with_reducible refine (impl_copied.calls _ _ l0 t472 _ ?side1 ?side2 A2.out).mono ?_
              (case side1 => exact Yc (Z19 HR0.out HB.out))
              (case side2 => exact HC0.out)
              rintro e w11 ⟨v473, rfl, ho0, hb⟩
              refine ⟨_, rfl, ?_⟩
              have HO474 := Yl (Kd.R_new' ho0 (Z17 (Yr HO477.out)))
              replace HO477 := Ya (Kd.R_elder' (Yr HO477.out) (Kd.R_base ho0) hb)
              replace BK471 := Yb BK471 hb
              replace HB := Yh hb
              (try clear hb ho0)
              refine hK.out _ _ trivial (fun hHeld => ?_)
              clear hK K
              refine norm_ (a' := ?_) ?_ ?_
              rotate_left
              ·show Act.put _ (some 8) _ = _
               simp only [Act.put, Z0, Z1, Z2, i64_w, i32_w]
               rfl
              exact norm_ Q4 (hJ1_3 (v473, v476) _ ⟨Q26, Q39, (Yk BK471.out), Q0⟩)
             ·skip
              refine Yy 4 #[.slice none 0 0, .slice none 0 0, .slice none 0 0, .slice none 0 0] 27 ?_
              intro gb481 hg w11 hbox hb
              replace HO477 := Yw HO477 hb
              have BK481 := Ya hbox
              have GW481 := Yg hg
              have GE481 := GW481
              replace HB := Yh hb
              have NB471_481 := Yn BK471 hg
              have NB481_471 := Ym BK471 hg
              replace BK471 := Yb BK471 hb
              clear hb hbox hg
              refine hK.out _ _ trivial (fun hHeld => ?_)
              clear hK K
              refine norm_ (a' := ?_) ?_ ?_
              rotate_left
              ·show Act.put _ (some 4) _ = _
               simp only [Act.put, Z0, Z1, Z2, i64_w, i32_w]
               rfl
              exact norm_ Q4 (hJ3_8 (v476, gb481) _ ⟨(Yr HO477.out), (Yk BK471.out), (Yk BK481.out), GW481.out, GE481.out, NB471_481.out, NB481_471.out, Q0⟩)
           ·skip
            rintro v473 w9 ⟨h0_, h1_, h2_⟩
            have HO474 : Aside0 (Kd.R (Kd.int .i64) 3 w9 w.heap.size (fun _ => True) v473 t472) := ⟨h0_⟩
            replace BK471 : Aside0 (w9.heap[gb471]? = some (.cells #[.slice none 0 0, .slice none 0 0, .slice none 0 0, .slice none 0 0] 27 (0, 0))) := ⟨h1_⟩
            replace HB : Aside0 (Below w.heap.size w w9) := ⟨h2_⟩
            clear h0_ h1_ h2_
            have hHeld := trivial
            refine norm_ (a' := ?_) ?_ ?_
            rotate_left
            ·simp only [putAll, Act.put, Z0, Z1, Z2]
             rfl
            refine three_ (i := 3) (j := 6) (k := 8) (Ni := some 10) (Nj := some 13) (Nk := some 4) (YA 10 63) (YA 10 119) (YA 10 311) rfl rfl rfl rfl rfl rfl (three_of HT_.out (by kernel_rfl)) (by decide) (by decide) (by decide) (fun K hK => ?_) (fun K hK => ?_) (fun K hK => ?_)
            ·skip
             refine Kd.R_make_step (Kd.int .i64) _ 3 (by rfl) (N := 10) rfl 22 _ _ rfl (l0.length : Int) rfl rfl Try.underlying22 (.int .i64 0) 8 info3 rfl (by decide) (by omega) 0 (ok := fun _ => True) (okp := fun _ => True) rfl (fun _ hk => hk) trivial (Z27 Q1) (Nat.le_trans (Nat.mul_le_mul_right _ (Z27 Q1 : (l0.length : Int).toNat ≤ 35184372088832)) (by omega)) (Below.refl _ _) (Nat.le_refl _) ?_
             intro v476 w10 ho11 hb hg_ hnew_
             clear hg_ hnew_
             (first | rw [← Ny475.out] at ho11 | (simp only [Int.reduceToNat] at ho11; rw [← Ny475.out] at ho11))
             have HO477 := Yl (Kd.R_new' ho11 (Z17 (Yr HO474.out)))
             replace HO474 := Ya (Kd.R_elder' (Yr HO474.out) (Kd.R_base ho11) hb)
             replace BK471 := Yb BK471 hb
             replace HB := Yh hb
             clear hb ho11
             refine hK.out _ _ trivial (fun hHeld => ?_)
             clear hK K
             refine norm_ (a' := ?_) ?_ ?_
             rotate_left
             ·show Act.put _ (some 10) _ = _
              simp only [Act.put, Z0, Z1, Z2, i64_w, i32_w]
              rfl
             exact norm_ Q4 (hJ1_3 (v473, v476) _ ⟨Q26, Q39, (Yk BK471.out), Q0⟩)
            ·skip
             refine goes_ Try.func72 (by kernel_rfl) rfl #[.int .i64 (wrap64 ((l0.length : Int) + 1))] (by rfl) rfl rfl Q6 ?_
             with_reducible refine (impl_identity.calls k (wrap64 ((l0.length : Int) + 1)) t478 _ A5.out).mono ?_
             rintro e w10 ⟨v479, rfl, ho0, hb⟩
             refine ⟨_, rfl, ?_⟩
             have HO480 := Yl (Kd.R_new' ho0 (Z17 (Yr HO474.out)))
             replace HO474 := Ya (Kd.R_elder' (Yr HO474.out) (Kd.R_base ho0) hb)
             replace BK471 := Yb BK471 hb
             replace HB := Yh hb
             (try clear hb ho0)
             refine hK.out _ _ trivial (fun hHeld => ?_)
             clear hK K
             refine norm_ (a' := ?_) ?_ ?_
             rotate_left
             ·show Act.put _ (some 13) _ = _
              simp only [Act.put, Z0, Z1, Z2, i64_w, i32_w]
              rfl
             exact norm_ Q4 (hJ1_6 (v473, v479) _ ⟨Q26, (by (with_reducible repeat (first | apply Z8 | apply Z9 | apply Z10)); exact Z11 HO480.out (fun _ hk => hk.2)), (Yk BK471.out), Q0⟩)
            ·skip
             refine Yy 4 #[.slice none 0 0, .slice none 0 0, .slice none 0 0, .slice none 0 0] 27 ?_
             intro gb481 hg w10 hbox hb
             replace HO474 := Yw HO474 hb
             have BK481 := Ya hbox
             have GW481 := Yg hg
             have GE481 := GW481
             replace HB := Yh hb
             have NB471_481 := Yn BK471 hg
             have NB481_471 := Ym BK471 hg
             replace BK471 := Yb BK471 hb
             clear hb hbox hg
             refine hK.out _ _ trivial (fun hHeld => ?_)
             clear hK K
             refine norm_ (a' := ?_) ?_ ?_
             rotate_left
             ·show Act.put _ (some 4) _ = _
              simp only [Act.put, Z0, Z1, Z2, i64_w, i32_w]
              rfl
             exact norm_ Q4 (hJ1_8 (v473, gb481) _ ⟨(Yr HO474.out), (Yk BK471.out), (Yk BK481.out), GW481.out, GE481.out, NB471_481.out, NB481_471.out, Q0⟩)
          ·skip
           rintro ⟨v476, gb481⟩ w11 ⟨h0_, h1_, h2_, h3_, h4_, h5_, h6_, h7_⟩
           have HO477 : Aside0 (Kd.R (Kd.int .i64) 3 w11 w.heap.size (fun _ => True) v476 y475) := ⟨h0_⟩
           replace BK471 : Aside0 (w11.heap[gb471]? = some (.cells #[.slice none 0 0, .slice none 0 0, .slice none 0 0, .slice none 0 0] 27 (0, 0))) := ⟨h1_⟩
           have BK481 : Aside0 (w11.heap[gb481]? = some (.cells #[.slice none 0 0, .slice none 0 0, .slice none 0 0, .slice none 0 0] 27 (0, 0))) := ⟨h2_⟩
           have GW481 : Aside0 (w.heap.size ≤ gb481) := ⟨h3_⟩
           have GE481 : Aside0 (w.heap.size ≤ gb481) := ⟨h4_⟩
           have NB471_481 : Aside0 (gb471 ≠ gb481) := ⟨h5_⟩
           have NB481_471 : Aside0 (gb481 ≠ gb471) := ⟨h6_⟩
           replace HB : Aside0 (Below w.heap.size w w11) := ⟨h7_⟩
           clear h0_ h1_ h2_ h3_ h4_ h5_ h6_ h7_
           have hHeld := trivial
           refine norm_ (a' := ?_) ?_ ?_
           rotate_left
           ·simp only [putAll, Act.put, Z0, Z1, Z2]
            rfl
           refine one_ (i := 1) (N := some 8) (YA 10 319) rfl rfl (one_of HT_.out (by kernel_rfl)) (by decide) (fun K hK => ?_)
           refine goes_ Try.func56 (by kernel_rfl) rfl #[.slice A0 l0.length c0] (by rfl) rfl rfl Q6 ?_
           with_reducible refine (impl_copied.calls _ _ l0 t472 _ ?side1 ?side2 A2.out).mono ?_
           (case side1 => exact Yc (Z19 HR0.out HB.out))
           (case side2 => exact HC0.out)
           rintro e w12 ⟨v473, rfl, ho0, hb⟩
           refine ⟨_, rfl, ?_⟩
           have HO474 := Yl (Kd.R_new' ho0 (Z17 (Yr HO477.out)))
           replace HO477 := Ya (Kd.R_elder' (Yr HO477.out) (Kd.R_base ho0) hb)
           replace BK471 := Yb BK471 hb
           replace BK481 := Yb BK481 hb
           replace HB := Yh hb
           (try clear hb ho0)
           refine hK.out _ _ trivial (fun hHeld => ?_)
           clear hK K
           refine norm_ (a' := ?_) ?_ ?_
           rotate_left
           ·show Act.put _ (some 8) _ = _
            simp only [Act.put, Z0, Z1, Z2, i64_w, i32_w]
            rfl
           exact norm_ Q4 (hJ1_3_8 (v473, v476, gb481) _ ⟨Q26, Q39, (Yk BK471.out), (Yk BK481.out), GW481.out, GE481.out, NB471_481.out, NB481_471.out, Q0⟩)
         ·skip
          rintro ⟨v473, gb481⟩ w10 ⟨h0_, h1_, h2_, h3_, h4_, h5_, h6_, h7_⟩
          have HO474 : Aside0 (Kd.R (Kd.int .i64) 3 w10 w.heap.size (fun _ => True) v473 t472) := ⟨h0_⟩
          replace BK471 : Aside0 (w10.heap[gb471]? = some (.cells #[.slice none 0 0, .slice none 0 0, .slice none 0 0, .slice none 0 0] 27 (0, 0))) := ⟨h1_⟩
          have BK481 : Aside0 (w10.heap[gb481]? = some (.cells #[.slice none 0 0, .slice none 0 0, .slice none 0 0, .slice none 0 0] 27 (0, 0))) := ⟨h2_⟩
          have GW481 : Aside0 (w.heap.size ≤ gb481) := ⟨h3_⟩
          have GE481 : Aside0 (w.heap.size ≤ gb481) := ⟨h4_⟩
          have NB471_481 : Aside0 (gb471 ≠ gb481) := ⟨h5_⟩
          have NB481_471 : Aside0 (gb481 ≠ gb471) := ⟨h6_⟩
          replace HB : Aside0 (Below w.heap.size w w10) := ⟨h7_⟩
          clear h0_ h1_ h2_ h3_ h4_ h5_ h6_ h7_
          have hHeld := trivial
          refine norm_ (a' := ?_) ?_ ?_
          rotate_left
          ·simp only [putAll, Act.put, Z0, Z1, Z2]
           rfl
          refine two_ (i := 3) (j := 6) (Ni := some 10) (Nj := some 13) (YA 10 319) (YA 10 375) rfl rfl rfl rfl (two_of HT_.out (by kernel_rfl)) (by decide) (by decide) (fun K hK => ?_) (fun K hK => ?_)
          ·skip
           refine Kd.R_make_step (Kd.int .i64) _ 3 (by rfl) (N := 10) rfl 22 _ _ rfl (l0.length : Int) rfl rfl Try.underlying22 (.int .i64 0) 8 info3 rfl (by decide) (by omega) 0 (ok := fun _ => True) (okp := fun _ => True) rfl (fun _ hk => hk) trivial (Z27 Q1) (Nat.le_trans (Nat.mul_le_mul_right _ (Z27 Q1 : (l0.length : Int).toNat ≤ 35184372088832)) (by omega)) (Below.refl _ _) (Nat.le_refl _) ?_
           intro v476 w11 ho12 hb hg_ hnew_
           clear hg_ hnew_
           (first | rw [← Ny475.out] at ho12 | (simp only [Int.reduceToNat] at ho12; rw [← Ny475.out] at ho12))
           have HO477 := Yl (Kd.R_new' ho12 (Z17 (Yr HO474.out)))
           replace HO474 := Ya (Kd.R_elder' (Yr HO474.out) (Kd.R_base ho12) hb)
           replace BK471 := Yb BK471 hb
           replace BK481 := Yb BK481 hb
           replace HB := Yh hb
           clear hb ho12
           refine hK.out _ _ trivial (fun hHeld => ?_)
           clear hK K
           refine norm_ (a' := ?_) ?_ ?_
           rotate_left
           ·show Act.put _ (some 10) _ = _
            simp only [Act.put, Z0, Z1, Z2, i64_w, i32_w]
            rfl
           exact norm_ Q4 (hJ1_3_8 (v473, v476, gb481) _ ⟨Q26, Q39, (Yk BK471.out), (Yk BK481.out), GW481.out, GE481.out, NB471_481.out, NB481_471.out, Q0⟩)
          ·skip
           refine goes_ Try.func72 (by kernel_rfl) rfl #[.int .i64 (wrap64 ((l0.length : Int) + 1))] (by rfl) rfl rfl Q6 ?_
           with_reducible refine (impl_identity.calls k (wrap64 ((l0.length : Int) + 1)) t478 _ A5.out).mono ?_
           rintro e w11 ⟨v479, rfl, ho0, hb⟩
           refine ⟨_, rfl, ?_⟩
           have HO480 := Yl (Kd.R_new' ho0 (Z17 (Yr HO474.out)))
           replace HO474 := Ya (Kd.R_elder' (Yr HO474.out) (Kd.R_base ho0) hb)
           replace BK471 := Yb BK471 hb
           replace BK481 := Yb BK481 hb
           replace HB := Yh hb
           (try clear hb ho0)
           refine hK.out _ _ trivial (fun hHeld => ?_)
           clear hK K
           refine norm_ (a' := ?_) ?_ ?_
           rotate_left
           ·show Act.put _ (some 13) _ = _
            simp only [Act.put, Z0, Z1, Z2, i64_w, i32_w]
            rfl
           exact norm_ Q4 (hJ1_6_8 (v473, v479, gb481) _ ⟨Q26, (by (with_reducible repeat (first | apply Z8 | apply Z9 | apply Z10)); exact Z11 HO480.out (fun _ hk => hk.2)), (Yk BK471.out), (Yk BK481.out), GW481.out, GE481.out, NB471_481.out, NB481_471.out, Q0⟩)
        ·skip
         rintro ⟨v473, v479⟩ w10 ⟨h0_, h1_, h2_, h3_⟩
         have HO474 : Aside0 (Kd.R (Kd.int .i64) 3 w10 w.heap.size (fun k_ => some k_ ≠ (v479 : Value).ownBlock) v473 t472) := ⟨h0_⟩
         have HO480 : Aside0 (Kd.R (Kd.int .i64) 3 w10 w.heap.size (fun k_ => some k_ ≠ (v473 : Value).ownBlock) v479 t478) := ⟨h1_⟩
         replace BK471 : Aside0 (w10.heap[gb471]? = some (.cells #[.slice none 0 0, .slice none 0 0, .slice none 0 0, .slice none 0 0] 27 (0, 0))) := ⟨h2_⟩
         replace HB : Aside0 (Below w.heap.size w w10) := ⟨h3_⟩
         clear h0_ h1_ h2_ h3_
         have hHeld := trivial
         refine norm_ (a' := ?_) ?_ ?_
         rotate_left
         ·simp only [putAll, Act.put, Z0, Z1, Z2]
          rfl
         refine two_ (i := 3) (j := 8) (Ni := some 10) (Nj := some 4) (YA 10 127) (YA 10 375) rfl rfl rfl rfl (two_of HT_.out (by kernel_rfl)) (by decide) (by decide) (fun K hK => ?_) (fun K hK => ?_)
         ·skip
          refine Kd.R_make_step (Kd.int .i64) _ 3 (by rfl) (N := 10) rfl 22 _ _ rfl (l0.length : Int) rfl rfl Try.underlying22 (.int .i64 0) 8 info3 rfl (by decide) (by omega) 0 (ok := fun _ => True) (okp := fun _ => True) rfl (fun _ hk => hk) trivial (Z27 Q1) (Nat.le_trans (Nat.mul_le_mul_right _ (Z27 Q1 : (l0.length : Int).toNat ≤ 35184372088832)) (by omega)) (Below.refl _ _) (Nat.le_refl _) ?_
          intro v476 w11 ho12 hb hg_ hnew_
          clear hg_ hnew_
          (first | rw [← Ny475.out] at ho12 | (simp only [Int.reduceToNat] at ho12; rw [← Ny475.out] at ho12))
          have HO477 := Yl (Kd.R_new' (Kd.R_new' ho12 (Z17 (Yr HO474.out))) (Z17 (Yr HO480.out)))
          replace HO474 := Ya (Kd.R_elder' (Yr HO474.out) (Kd.R_base ho12) hb)
          replace HO480 := Ya (Kd.R_elder' (Yr HO480.out) (Kd.R_base ho12) hb)
          replace BK471 := Yb BK471 hb
          replace HB := Yh hb
          clear hb ho12
          obtain ⟨Ao13, co13, eo13⟩ := Z18 HO480.out
          (first | subst eo13 | (injection eo13 with f1_ f2_ f3_; have f4_ := f1_.symm; have f5_ := f3_.symm; clear f1_ f2_ f3_; subst f4_; subst f5_))
          obtain ⟨Ao14, co14, eo14⟩ := Z18 HO477.out
          (first | subst eo14 | (injection eo14 with f1_ f2_ f3_; have f4_ := f1_.symm; have f5_ := f3_.symm; clear f1_ f2_ f3_; subst f4_; subst f5_))
          obtain ⟨Ao15, co15, eo15⟩ := Z18 HO474.out
          (first | subst eo15 | (injection eo15 with f1_ f2_ f3_; have f4_ := f1_.symm; have f5_ := f3_.symm; clear f1_ f2_ f3_; subst f4_; subst f5_))
          refine hK.out _ _ trivial (fun hHeld => ?_)
          clear hK K
          refine norm_ (a' := ?_) ?_ ?_
          rotate_left
          ·show Act.put _ (some 10) _ = _
           simp only [Act.put, Z0, Z1, Z2, i64_w, i32_w]
           rfl
          refine Yp 7 (some 14) (YA 10 255) rfl HT_.out ?_
          exact norm_ Q4 (hJ1_3_6 (.slice Ao15 t472.length co15, .slice Ao14 y475.length co14, .slice Ao13 t478.length co13) _ ⟨Q97, Q94, (Yr HO480.out), (Yk BK471.out), Q0⟩)
         ·skip
          refine Yy 4 #[.slice none 0 0, .slice none 0 0, .slice none 0 0, .slice none 0 0] 27 ?_
          intro gb481 hg w11 hbox hb
          replace HO474 := Yw HO474 hb
          replace HO480 := Yw HO480 hb
          have BK481 := Ya hbox
          have GW481 := Yg hg
          have GE481 := GW481
          replace HB := Yh hb
          have NB471_481 := Yn BK471 hg
          have NB481_471 := Ym BK471 hg
          replace BK471 := Yb BK471 hb
          clear hb hbox hg
          refine hK.out _ _ trivial (fun hHeld => ?_)
          clear hK K
          refine norm_ (a' := ?_) ?_ ?_
          rotate_left
          ·show Act.put _ (some 4) _ = _
           simp only [Act.put, Z0, Z1, Z2, i64_w, i32_w]
           rfl
          exact norm_ Q4 (hJ1_6_8 (v473, v479, gb481) _ ⟨(Yr HO474.out), (Yr HO480.out), (Yk BK471.out), (Yk BK481.out), GW481.out, GE481.out, NB471_481.out, NB481_471.out, Q0⟩)
       ·skip
        rintro ⟨v473, v476⟩ w11 ⟨h0_, h1_, h2_, h3_⟩
        have HO474 : Aside0 (Kd.R (Kd.int .i64) 3 w11 w.heap.size (fun k_ => some k_ ≠ (v476 : Value).ownBlock) v473 t472) := ⟨h0_⟩
        have HO477 : Aside0 (Kd.R (Kd.int .i64) 3 w11 w.heap.size (fun k_ => some k_ ≠ (v473 : Value).ownBlock) v476 y475) := ⟨h1_⟩
        replace BK471 : Aside0 (w11.heap[gb471]? = some (.cells #[.slice none 0 0, .slice none 0 0, .slice none 0 0, .slice none 0 0] 27 (0, 0))) := ⟨h2_⟩
        replace HB : Aside0 (Below w.heap.size w w11) := ⟨h3_⟩
        clear h0_ h1_ h2_ h3_
        have hHeld := trivial
        refine norm_ (a' := ?_) ?_ ?_
        rotate_left
        ·simp only [putAll, Act.put, Z0, Z1, Z2]
         rfl
        refine two_ (i := 6) (j := 8) (Ni := some 13) (Nj := some 4) (YA 10 127) (YA 10 319) rfl rfl rfl rfl (two_of HT_.out (by kernel_rfl)) (by decide) (by decide) (fun K hK => ?_) (fun K hK => ?_)
        ·skip
         refine goes_ Try.func72 (by kernel_rfl) rfl #[.int .i64 (wrap64 ((l0.length : Int) + 1))] (by rfl) rfl rfl Q6 ?_
         with_reducible refine (impl_identity.calls k (wrap64 ((l0.length : Int) + 1)) t478 _ A5.out).mono ?_
         rintro e w12 ⟨v479, rfl, ho0, hb⟩
         refine ⟨_, rfl, ?_⟩
         have HO480 := Yl (Kd.R_new' (Kd.R_new' ho0 (Z17 (Yr HO474.out))) (Z17 (Yr HO477.out)))
         replace HO474 := Ya (Kd.R_elder' (Yr HO474.out) (Kd.R_base ho0) hb)
         replace HO477 := Ya (Kd.R_elder' (Yr HO477.out) (Kd.R_base ho0) hb)
         replace BK471 := Yb BK471 hb
         replace HB := Yh hb
         (try clear hb ho0)
         obtain ⟨Ao13, co13, eo13⟩ := Z18 HO480.out
         (first | subst eo13 | (injection eo13 with f1_ f2_ f3_; have f4_ := f1_.symm; have f5_ := f3_.symm; clear f1_ f2_ f3_; subst f4_; subst f5_))
         obtain ⟨Ao14, co14, eo14⟩ := Z18 HO477.out
         (first | subst eo14 | (injection eo14 with f1_ f2_ f3_; have f4_ := f1_.symm; have f5_ := f3_.symm; clear f1_ f2_ f3_; subst f4_; subst f5_))
         obtain ⟨Ao15, co15, eo15⟩ := Z18 HO474.out
         (first | subst eo15 | (injection eo15 with f1_ f2_ f3_; have f4_ := f1_.symm; have f5_ := f3_.symm; clear f1_ f2_ f3_; subst f4_; subst f5_))
         refine hK.out _ _ trivial (fun hHeld => ?_)
         clear hK K
         refine norm_ (a' := ?_) ?_ ?_
         rotate_left
         ·show Act.put _ (some 13) _ = _
          simp only [Act.put, Z0, Z1, Z2, i64_w, i32_w]
          rfl
         refine Yp 7 (some 14) (YA 10 255) rfl HT_.out ?_
         exact norm_ Q4 (hJ1_3_6 (.slice Ao15 t472.length co15, .slice Ao14 y475.length co14, .slice Ao13 t478.length co13) _ ⟨(Yr HO474.out), (Yr HO477.out), Q93, (Yk BK471.out), Q0⟩)
        ·skip
         refine Yy 4 #[.slice none 0 0, .slice none 0 0, .slice none 0 0, .slice none 0 0] 27 ?_
         intro gb481 hg w12 hbox hb
         replace HO474 := Yw HO474 hb
         replace HO477 := Yw HO477 hb
         have BK481 := Ya hbox
         have GW481 := Yg hg
         have GE481 := GW481
         replace HB := Yh hb
         have NB471_481 := Yn BK471 hg
         have NB481_471 := Ym BK471 hg
         replace BK471 := Yb BK471 hb
         clear hb hbox hg
         refine hK.out _ _ trivial (fun hHeld => ?_)
         clear hK K
         refine norm_ (a' := ?_) ?_ ?_
         rotate_left
         ·show Act.put _ (some 4) _ = _
          simp only [Act.put, Z0, Z1, Z2, i64_w, i32_w]
          rfl
         exact norm_ Q4 (hJ1_3_8 (v473, v476, gb481) _ ⟨(Yr HO474.out), (Yr HO477.out), (Yk BK471.out), (Yk BK481.out), GW481.out, GE481.out, NB471_481.out, NB481_471.out, Q0⟩)
      ·skip
       rintro ⟨v473, v479, gb481⟩ w11 ⟨h0_, h1_, h2_, h3_, h4_, h5_, h6_, h7_, h8_⟩
       have HO474 : Aside0 (Kd.R (Kd.int .i64) 3 w11 w.heap.size (fun k_ => some k_ ≠ (v479 : Value).ownBlock) v473 t472) := ⟨h0_⟩
       have HO480 : Aside0 (Kd.R (Kd.int .i64) 3 w11 w.heap.size (fun k_ => some k_ ≠ (v473 : Value).ownBlock) v479 t478) := ⟨h1_⟩
       replace BK471 : Aside0 (w11.heap[gb471]? = some (.cells #[.slice none 0 0, .slice none 0 0, .slice none 0 0, .slice none 0 0] 27 (0, 0))) := ⟨h2_⟩
       have BK481 : Aside0 (w11.heap[gb481]? = some (.cells #[.slice none 0 0, .slice none 0 0, .slice none 0 0, .slice none 0 0] 27 (0, 0))) := ⟨h3_⟩
       have GW481 : Aside0 (w.heap.size ≤ gb481) := ⟨h4_⟩
       have GE481 : Aside0 (w.heap.size ≤ gb481) := ⟨h5_⟩
       have NB471_481 : Aside0 (gb471 ≠ gb481) := ⟨h6_⟩
       have NB481_471 : Aside0 (gb481 ≠ gb471) := ⟨h7_⟩
       replace HB : Aside0 (Below w.heap.size w w11) := ⟨h8_⟩
       clear h0_ h1_ h2_ h3_ h4_ h5_ h6_ h7_ h8_
       have hHeld := trivial
       refine norm_ (a' := ?_) ?_ ?_
       rotate_left
       ·simp only [putAll, Act.put, Z0, Z1, Z2]
        rfl
       refine one_ (i := 3) (N := some 10) (YA 10 383) rfl rfl (one_of HT_.out (by kernel_rfl)) (by decide) (fun K hK => ?_)
       refine Kd.R_make_step (Kd.int .i64) _ 3 (by rfl) (N := 10) rfl 22 _ _ rfl (l0.length : Int) rfl rfl Try.underlying22 (.int .i64 0) 8 info3 rfl (by decide) (by omega) 0 (ok := fun _ => True) (okp := fun _ => True) rfl (fun _ hk => hk) trivial (Z27 Q1) (Nat.le_trans (Nat.mul_le_mul_right _ (Z27 Q1 : (l0.length : Int).toNat ≤ 35184372088832)) (by omega)) (Below.refl _ _) (Nat.le_refl _) ?_
       intro v476 w12 ho13 hb hg_ hnew_
       clear hg_ hnew_
       (first | rw [← Ny475.out] at ho13 | (simp only [Int.reduceToNat] at ho13; rw [← Ny475.out] at ho13))
       have HO477 := Yl (Kd.R_new' (Kd.R_new' ho13 (Z17 (Yr HO474.out))) (Z17 (Yr HO480.out)))
       replace HO474 := Ya (Kd.R_elder' (Yr HO474.out) (Kd.R_base ho13) hb)
       replace HO480 := Ya (Kd.R_elder' (Yr HO480.out) (Kd.R_base ho13) hb)
       replace BK471 := Yb BK471 hb
       replace BK481 := Yb BK481 hb
       replace HB := Yh hb
       clear hb ho13
       obtain ⟨Ao14, co14, eo14⟩ := Z18 HO480.out
       (first | subst eo14 | (injection eo14 with f1_ f2_ f3_; have f4_ := f1_.symm; have f5_ := f3_.symm; clear f1_ f2_ f3_; subst f4_; subst f5_))
       obtain ⟨Ao15, co15, eo15⟩ := Z18 HO477.out
       (first | subst eo15 | (injection eo15 with f1_ f2_ f3_; have f4_ := f1_.symm; have f5_ := f3_.symm; clear f1_ f2_ f3_; subst f4_; subst f5_))
       obtain ⟨Ao16, co16, eo16⟩ := Z18 HO474.out
       (first | subst eo16 | (injection eo16 with f1_ f2_ f3_; have f4_ := f1_.symm; have f5_ := f3_.symm; clear f1_ f2_ f3_; subst f4_; subst f5_))
       refine hK.out _ _ trivial (fun hHeld => ?_)
       clear hK K
       refine norm_ (a' := ?_) ?_ ?_
       rotate_left
       ·show Act.put _ (some 10) _ = _
        simp only [Act.put, Z0, Z1, Z2, i64_w, i32_w]
        rfl
       refine Yp 7 (some 14) (YA 10 511) rfl HT_.out ?_
       exact norm_ Q4 (hJ1_3_6_8 (.slice Ao16 t472.length co16, .slice Ao15 y475.length co15, .slice Ao14 t478.length co14, gb481) _ ⟨Q97, Q94, (Yr HO480.out), (Yk BK471.out), (Yk BK481.out), GW481.out, GE481.out, NB471_481.out, NB481_471.out, Q0⟩)
     ·skip
      rintro ⟨v473, v476, gb481⟩ w12 ⟨h0_, h1_, h2_, h3_, h4_, h5_, h6_, h7_, h8_⟩
      have HO474 : Aside0 (Kd.R (Kd.int .i64) 3 w12 w.heap.size (fun k_ => some k_ ≠ (v476 : Value).ownBlock) v473 t472) := ⟨h0_⟩
      have HO477 : Aside0 (Kd.R (Kd.int .i64) 3 w12 w.heap.size (fun k_ => some k_ ≠ (v473 : Value).ownBlock) v476 y475) := ⟨h1_⟩
      replace BK471 : Aside0 (w12.heap[gb471]? = some (.cells #[.slice none 0 0, .slice none 0 0, .slice none 0 0, .slice none 0 0] 27 (0, 0))) := ⟨h2_⟩
      have BK481 : Aside0 (w12.heap[gb481]? = some (.cells #[.slice none 0 0, .slice none 0 0, .slice none 0 0, .slice none 0 0] 27 (0, 0))) := ⟨h3_⟩
      have GW481 : Aside0 (w.heap.size ≤ gb481) := ⟨h4_⟩
      have GE481 : Aside0 (w.heap.size ≤ gb481) := ⟨h5_⟩
      have NB471_481 : Aside0 (gb471 ≠ gb481) := ⟨h6_⟩
      have NB481_471 : Aside0 (gb481 ≠ gb471) := ⟨h7_⟩
      replace HB : Aside0 (Below w.heap.size w w12) := ⟨h8_⟩
      clear h0_ h1_ h2_ h3_ h4_ h5_ h6_ h7_ h8_
      have hHeld := trivial
      refine norm_ (a' := ?_) ?_ ?_
      rotate_left
      ·simp only [putAll, Act.put, Z0, Z1, Z2]
       rfl
      refine one_ (i := 6) (N := some 13) (YA 10 383) rfl rfl (one_of HT_.out (by kernel_rfl)) (by decide) (fun K hK => ?_)
      refine goes_ Try.func72 (by kernel_rfl) rfl #[.int .i64 (wrap64 ((l0.length : Int) + 1))] (by rfl) rfl rfl Q6 ?_
      with_reducible refine (impl_identity.calls k (wrap64 ((l0.length : Int) + 1)) t478 _ A5.out).mono ?_
      rintro e w13 ⟨v479, rfl, ho0, hb⟩
      refine ⟨_, rfl, ?_⟩
      have HO480 := Yl (Kd.R_new' (Kd.R_new' ho0 (Z17 (Yr HO474.out))) (Z17 (Yr HO477.out)))
      replace HO474 := Ya (Kd.R_elder' (Yr HO474.out) (Kd.R_base ho0) hb)
      replace HO477 := Ya (Kd.R_elder' (Yr HO477.out) (Kd.R_base ho0) hb)
      replace BK471 := Yb BK471 hb
      replace BK481 := Yb BK481 hb
      replace HB := Yh hb
      (try clear hb ho0)
      obtain ⟨Ao14, co14, eo14⟩ := Z18 HO480.out
      (first | subst eo14 | (injection eo14 with f1_ f2_ f3_; have f4_ := f1_.symm; have f5_ := f3_.symm; clear f1_ f2_ f3_; subst f4_; subst f5_))
      obtain ⟨Ao15, co15, eo15⟩ := Z18 HO477.out
      (first | subst eo15 | (injection eo15 with f1_ f2_ f3_; have f4_ := f1_.symm; have f5_ := f3_.symm; clear f1_ f2_ f3_; subst f4_; subst f5_))
      obtain ⟨Ao16, co16, eo16⟩ := Z18 HO474.out
      (first | subst eo16 | (injection eo16 with f1_ f2_ f3_; have f4_ := f1_.symm; have f5_ := f3_.symm; clear f1_ f2_ f3_; subst f4_; subst f5_))
      refine hK.out _ _ trivial (fun hHeld => ?_)
      clear hK K
      refine norm_ (a' := ?_) ?_ ?_
      rotate_left
      ·show Act.put _ (some 13) _ = _
       simp only [Act.put, Z0, Z1, Z2, i64_w, i32_w]
       rfl
      refine Yp 7 (some 14) (YA 10 511) rfl HT_.out ?_
      exact norm_ Q4 (hJ1_3_6_8 (.slice Ao16 t472.length co16, .slice Ao15 y475.length co15, .slice Ao14 t478.length co14, gb481) _ ⟨(Yr HO474.out), (Yr HO477.out), Q93, (Yk BK471.out), (Yk BK481.out), GW481.out, GE481.out, NB471_481.out, NB481_471.out, Q0⟩)
    ·skip
     rintro ⟨v473, v476, v479⟩ w15 ⟨h0_, h1_, h2_, h3_, h4_⟩
     have HO474 : Aside0 (Kd.R (Kd.int .i64) 3 w15 w.heap.size (fun k_ => some k_ ≠ (v476 : Value).ownBlock ∧ some k_ ≠ (v479 : Value).ownBlock) v473 t472) := ⟨h0_⟩
     have HO477 : Aside0 (Kd.R (Kd.int .i64) 3 w15 w.heap.size (fun k_ => some k_ ≠ (v473 : Value).ownBlock ∧ some k_ ≠ (v479 : Value).ownBlock) v476 y475) := ⟨h1_⟩
     have HO480 : Aside0 (Kd.R (Kd.int .i64) 3 w15 w.heap.size (fun k_ => some k_ ≠ (v473 : Value).ownBlock ∧ some k_ ≠ (v476 : Value).ownBlock) v479 t478) := ⟨h2_⟩
     replace BK471 : Aside0 (w15.heap[gb471]? = some (.cells #[.slice none 0 0, .slice none 0 0, .slice none 0 0, .slice none 0 0] 27 (0, 0))) := ⟨h3_⟩
     replace HB : Aside0 (Below w.heap.size w w15) := ⟨h4_⟩
     clear h0_ h1_ h2_ h3_ h4_
     have hHeld := trivial
     obtain ⟨Ao16, co16, eo16⟩ := Z18 HO480.out
     (first | subst eo16 | (injection eo16 with f1_ f2_ f3_; have f4_ := f1_.symm; have f5_ := f3_.symm; clear f1_ f2_ f3_; subst f4_; subst f5_))
     obtain ⟨Ao17, co17, eo17⟩ := Z18 HO477.out
     (first | subst eo17 | (injection eo17 with f1_ f2_ f3_; have f4_ := f1_.symm; have f5_ := f3_.symm; clear f1_ f2_ f3_; subst f4_; subst f5_))
     obtain ⟨Ao18, co18, eo18⟩ := Z18 HO474.out
     (first | subst eo18 | (injection eo18 with f1_ f2_ f3_; have f4_ := f1_.symm; have f5_ := f3_.symm; clear f1_ f2_ f3_; subst f4_; subst f5_))
     refine norm_ (a' := ?_) ?_ ?_
     rotate_left
     ·simp only [putAll, Act.put, Z0, Z1, Z2]
      rfl
     refine one_ (i := 8) (N := some 4) (YA 10 511) rfl rfl (one_of HT_.out (by kernel_rfl)) (by decide) (fun K hK => ?_)
     refine Yy 4 #[.slice none 0 0, .slice none 0 0, .slice none 0 0, .slice none 0 0] 27 ?_
     intro gb481 hg w19 hbox hb
     replace HO474 := Yw HO474 hb
     replace HO477 := Yw HO477 hb
     replace HO480 := Yw HO480 hb
     have BK481 := Ya hbox
     have GW481 := Yg hg
     have GE481 := GW481
     replace HB := Yh hb
     have NB471_481 := Yn BK471 hg
     have NB481_471 := Ym BK471 hg
     replace BK471 := Yb BK471 hb
     clear hb hbox hg
     refine hK.out _ _ trivial (fun hHeld => ?_)
     clear hK K
     refine norm_ (a' := ?_) ?_ ?_
     rotate_left
     ·show Act.put _ (some 4) _ = _
      simp only [Act.put, Z0, Z1, Z2, i64_w, i32_w]
      rfl
     exact norm_ Q4 (hJ1_3_6_8 (.slice Ao18 t472.length co18, .slice Ao17 y475.length co17, .slice Ao16 t478.length co16, gb481) _ ⟨(Yr HO474.out), (Yr HO477.out), (Yr HO480.out), (Yk BK471.out), (Yk BK481.out), GW481.out, GE481.out, NB471_481.out, NB481_471.out, Q0⟩)
   rintro ⟨v473, v476, v479, gb481⟩ w16 ⟨h0_, h1_, h2_, h3_, h4_, h5_, h6_, h7_, h8_, h9_⟩
   have HO474 : Aside0 (Kd.R (Kd.int .i64) 3 w16 w.heap.size (fun k_ => some k_ ≠ (v476 : Value).ownBlock ∧ some k_ ≠ (v479 : Value).ownBlock) v473 t472) := ⟨h0_⟩
   have HO477 : Aside0 (Kd.R (Kd.int .i64) 3 w16 w.heap.size (fun k_ => some k_ ≠ (v473 : Value).ownBlock ∧ some k_ ≠ (v479 : Value).ownBlock) v476 y475) := ⟨h1_⟩
   have HO480 : Aside0 (Kd.R (Kd.int .i64) 3 w16 w.heap.size (fun k_ => some k_ ≠ (v473 : Value).ownBlock ∧ some k_ ≠ (v476 : Value).ownBlock) v479 t478) := ⟨h2_⟩
   replace BK471 : Aside0 (w16.heap[gb471]? = some (.cells #[.slice none 0 0, .slice none 0 0, .slice none 0 0, .slice none 0 0] 27 (0, 0))) := ⟨h3_⟩
   have BK481 : Aside0 (w16.heap[gb481]? = some (.cells #[.slice none 0 0, .slice none 0 0, .slice none 0 0, .slice none 0 0] 27 (0, 0))) := ⟨h4_⟩
   have GW481 : Aside0 (w.heap.size ≤ gb481) := ⟨h5_⟩
   have GE481 : Aside0 (w.heap.size ≤ gb481) := ⟨h6_⟩
   have NB471_481 : Aside0 (gb471 ≠ gb481) := ⟨h7_⟩
   have NB481_471 : Aside0 (gb481 ≠ gb471) := ⟨h8_⟩
   replace HB : Aside0 (Below w.heap.size w w16) := ⟨h9_⟩
   clear h0_ h1_ h2_ h3_ h4_ h5_ h6_ h7_ h8_ h9_
   have hHeld := trivial
   obtain ⟨Ao17, co17, eo17⟩ := Z18 HO480.out
   (first | subst eo17 | (injection eo17 with f1_ f2_ f3_; have f4_ := f1_.symm; have f5_ := f3_.symm; clear f1_ f2_ f3_; subst f4_; subst f5_))
   obtain ⟨Ao18, co18, eo18⟩ := Z18 HO477.out
   (first | subst eo18 | (injection eo18 with f1_ f2_ f3_; have f4_ := f1_.symm; have f5_ := f3_.symm; clear f1_ f2_ f3_; subst f4_; subst f5_))
   obtain ⟨Ao19, co19, eo19⟩ := Z18 HO474.out
   (first | subst eo19 | (injection eo19 with f1_ f2_ f3_; have f4_ := f1_.symm; have f5_ := f3_.symm; clear f1_ f2_ f3_; subst f4_; subst f5_))
   refine norm_ (a' := ?_) ?_ ?_
   rotate_left
   ·simp only [putAll, Act.put, Z0, Z1, Z2]
    rfl
   refine one_ (i := 9) (N := none) (YA 10 1023) rfl rfl (one_of HT_.out (by kernel_rfl)) (by decide) (fun K hK => ?_)
   have hs20 : w16.cell? ⟨gb481, 0, none⟩ = some (.slice none 0 0) := (Z20 BK481.out 0).trans rfl
   have hfs20 := Z21 BK481.out 0
   have hns20_0 := NB471_481.out
   have hms20_0 := NB481_471.out
   have hs21 : w16.cell? ⟨gb481, 1, none⟩ = some (.slice none 0 0) := (Z20 BK481.out 1).trans rfl
   have hfs21 := Z21 BK481.out 1
   have hns21_0 := NB471_481.out
   have hms21_0 := NB481_471.out
   have hs22 : w16.cell? ⟨gb481, 2, none⟩ = some (.slice none 0 0) := (Z20 BK481.out 2).trans rfl
   have hfs22 := Z21 BK481.out 2
   have hns22_0 := NB471_481.out
   have hms22_0 := NB481_471.out
   have hs23 : w16.cell? ⟨gb481, 3, none⟩ = some (.slice none 0 0) := (Z20 BK481.out 3).trans rfl
   have hfs23 := Z21 BK481.out 3
   have hns23_0 := NB471_481.out
   have hms23_0 := NB481_471.out
   refine skip_ (w1 := ?_) (by rfl) rfl ?_ ?_
   rotate_left
   ·go_simp
    rfl
   refine hK.out _ _ trivial (fun hHeld => ?_)
   clear hK K
   refine done_ (done_of HT_.out (by kernel_rfl)) ?_
   try go_wp2
   go_loopg [16] k (fun kq v16 w' => ∃ (x16_1 : Int) (x482002_1 : List Bool) (u482002 : Value), v16 = .int .i64 x16_1 ∧ Aside0 (impl_startFocus.l0 kq (l0.length : Int) x16_1 t472 y475 x482002_1 t478 = some (r1, r2, r3, r4)) ∧ Aside0 (kq ≤ k) ∧ Aside0 (Kd.R (Kd.int .i64) 3 w' w.heap.size (fun k_ => some k_ ≠ ((.slice Ao18 y475.length co18) : Value).ownBlock ∧ some k_ ≠ ((.slice Ao17 t478.length co17) : Value).ownBlock) (.slice Ao19 t472.length co19) t472) ∧ Aside0 (Kd.R (Kd.int .i64) 3 w' w.heap.size (fun k_ => some k_ ≠ ((.slice Ao19 t472.length co19) : Value).ownBlock ∧ some k_ ≠ ((.slice Ao17 t478.length co17) : Value).ownBlock) (.slice Ao18 y475.length co18) y475) ∧ Aside0 (Kd.R Kd.bool 4 w' w.heap.size (fun _ => True) u482002 x482002_1) ∧ Aside0 (Kd.R (Kd.int .i64) 3 w' w.heap.size (fun k_ => some k_ ≠ ((.slice Ao19 t472.length co19) : Value).ownBlock ∧ some k_ ≠ ((.slice Ao18 y475.length co18) : Value).ownBlock) (.slice Ao17 t478.length co17) t478) ∧ Aside0 (w'.heap[gb471]? = some (.cells #[(.slice none 0 0), (.slice none 0 0), (.slice none 0 0), (.slice none 0 0)] 27 (0, 0))) ∧ Aside0 (w'.heap[gb481]? = some (.cells #[(.slice Ao19 t472.length co19), (.slice Ao18 y475.length co18), u482002, (.slice Ao17 t478.length co17)] 27 (0, 0))) ∧ Aside0 (Below w.heap.size w w'))
   case atStart => exact ⟨(0), (([] : List Bool)), (.slice none 0 0), Q7, H', ⟨Nat.le_refl _⟩, ⟨by (with_reducible repeat (first | apply Z8 | apply Z9 | apply Z10)); exact Z11 (Yf4 HO474.out BK481.out) (fun _ hk => ⟨hk.1.1, hk.1.2⟩)⟩, ⟨by (with_reducible repeat (first | apply Z8 | apply Z9 | apply Z10)); exact Z11 (Yf4 HO477.out BK481.out) (fun _ hk => ⟨hk.1.1, hk.1.2⟩)⟩, ⟨Q8⟩, ⟨by (with_reducible repeat (first | apply Z8 | apply Z9 | apply Z10)); exact Z11 (Yf4 HO480.out BK481.out) (fun _ hk => ⟨hk.1.1, hk.1.2⟩)⟩, ⟨by (with_reducible repeat (first | refine Z22 ?_ _ | refine Z23 ?_ | refine Z24 ?_ _)); refine blk_far ?_ NB471_481.out _; (with_reducible repeat (first | refine Z22 ?_ _ | refine Z23 ?_ | refine Z24 ?_ _)); refine blk_far ?_ NB471_481.out _; (with_reducible repeat (first | refine Z22 ?_ _ | refine Z23 ?_ | refine Z24 ?_ _)); refine blk_far ?_ NB471_481.out _; (with_reducible repeat (first | refine Z22 ?_ _ | refine Z23 ?_ | refine Z24 ?_ _)); refine blk_far ?_ NB471_481.out _; (with_reducible repeat (first | refine Z22 ?_ _ | refine Z23 ?_ | refine Z24 ?_ _)); exact BK471.out⟩, ⟨by (with_reducible repeat (first | refine Z22 ?_ _ | refine Z23 ?_ | refine Z24 ?_ _)); refine Z26 (cs := #[.slice Ao19 t472.length co19, .slice Ao18 y475.length co18, .slice none 0 0, .slice none 0 0]) ?_ 3 _ rfl; (with_reducible repeat (first | refine Z22 ?_ _ | refine Z23 ?_ | refine Z24 ?_ _)); refine Z26 (cs := #[.slice Ao19 t472.length co19, .slice Ao18 y475.length co18, .slice none 0 0, .slice none 0 0]) ?_ 2 _ rfl; (with_reducible repeat (first | refine Z22 ?_ _ | refine Z23 ?_ | refine Z24 ?_ _)); refine Z26 (cs := #[.slice Ao19 t472.length co19, .slice none 0 0, .slice none 0 0, .slice none 0 0]) ?_ 1 _ rfl; (with_reducible repeat (first | refine Z22 ?_ _ | refine Z23 ?_ | refine Z24 ?_ _)); refine Z26 (cs := #[.slice none 0 0, .slice none 0 0, .slice none 0 0, .slice none 0 0]) ?_ 0 _ rfl; (with_reducible repeat (first | refine Z22 ?_ _ | refine Z23 ?_ | refine Z24 ?_ _)); exact BK481.out⟩, ⟨Q12⟩⟩
   case round =>
    clear H'
    try clear p2
    try clear p6
    try clear c7
    obtain ⟨x16_1, x482002_1, u482002, rfl, HA, HK1, HO_482000, HO_482001, HO_482002, HO_482003, BK471, BK481, HB⟩ := hrel
    cases gk with
    | zero => exact absurd HA.out (by simp [impl_startFocus.l0])
    | succ k1 =>
     have H := HA.out
     clear HA
     simp only [impl_startFocus.l0] at H
     by_cases c24 : x16_1 < (l0.length : Int)
     ·rw [if_pos c24] at H
      have c24b0 : decide (x16_1 < (l0.length : Int)) = true := Z35 c24
      clear c24
      by_cases c25 : x482002_1.length < 140737488355328
      ·rw [if_pos c25] at H
       have LMc25 := Ya c25
       clear c25
       obtain ⟨y482, hy482⟩ : ∃ y_ : List Bool, y_ = (x482002_1 ++ [true]) := ⟨_, rfl⟩
       replace H : (impl_startFocus.l0 k1 (l0.length : Int) (wrap64 (x16_1 + 1)) t472 y475 y482 t478) = some (r1, r2, r3, r4) := by first | (rw [hy482]; with_reducible exact H) | (have H2_ := (Option.bind_some _ _).symm.trans H; rw [hy482]; with_reducible exact H2_) | (have H2_ := (Option.bind_some _ _).symm.trans H; with_reducible exact H2_) | with_reducible exact H | (rw [hy482]; exact H) | exact H
       have Ny482 := Ya hy482
       clear hy482
       have H' := Ya H
       clear H
       have hnb26 := NB481_471.out
       have hnc26 := NB471_481.out
       have hz27 := Y4 BK481.out
       go_wp2_with (first | ((with_reducible refine gate_builtin (b := .append) (xs := #[.tmp 19, .tmp 20]) rfl ?_); at_builtin; refine Kd.R_append Kd.bool (w0 := w) w.heap.size rfl (.tmp 19) (.tmp 20) 23 4 (.bool false) 1 rfl Try.underlying23 info4 rfl (by decide) (by omega) u482002 x482002_1 true [.bool true] (fun _ => True) (fun _ => False) rfl rfl ?aP (fun _ hk => hk.elim) ?aF ?aO ?aB ?aS ?aL ?_; (case aP => exact rfl); (case aB => exact Q0); (case aF => exact (fun _ _ => trivial)); (case aO => exact (Yr HO_482002.out)); (case aS => exact (Z7 Q0)); (case aL => have := LMc25.out; omega); intro v483 w28 ho hb hg hat; rw [← Ny482.out] at ho; replace HO_482000 := Ya (Kd.R_over' (Yr HO_482000.out) (Kd.R_typed (Yr HO_482002.out)) (by decide) hg); replace HO_482001 := Ya (Kd.R_over' (Yr HO_482001.out) (Kd.R_typed (Yr HO_482002.out)) (by decide) hg); replace HO_482003 := Ya (Kd.R_over' (Yr HO_482003.out) (Kd.R_typed (Yr HO_482002.out)) (by decide) hg); replace BK471 := Ya (blk_grown (g := gb471) (o := .cells #[.slice none 0 0, .slice none 0 0, .slice none 0 0, .slice none 0 0] 27 (0, 0)) (Yk BK471.out) hg (Kd.R_ne HO_482002.out BK471.out (by decide))); replace BK481 := Ya (blk_grown (g := gb481) (o := .cells #[.slice Ao19 t472.length co19, .slice Ao18 y475.length co18, u482002, .slice Ao17 t478.length co17] 27 (0, 0)) (Yk BK481.out) hg (Kd.R_ne HO_482002.out BK481.out (by decide))); replace HB := Ya hb; have HO484 := Ya ho; clear HO_482002; clear ho hb hg hat; obtain ⟨Ao29, co29, rfl⟩ := Z18 HO484.out; have hz30 := Y4 BK481.out))
       go_roundg k1
       case measure => have := HK1.out; omega
       case rel => exact ⟨(wrap64 (x16_1 + 1)), (y482), (.slice Ao29 y482.length co29), Q7, H', ⟨Q24⟩, ⟨by (with_reducible repeat (first | apply Z8 | apply Z9 | apply Z10)); exact Z11 (Z12 (p := ⟨gb481, 2, none⟩) (Z14 HO_482000.out BK481.out (by decide)) (fun _ hk => hk.2) (.slice Ao29 y482.length co29)) (fun _ hk => ⟨hk.1.1, hk.1.2⟩)⟩, ⟨by (with_reducible repeat (first | apply Z8 | apply Z9 | apply Z10)); exact Z11 (Z12 (p := ⟨gb481, 2, none⟩) (Z14 HO_482001.out BK481.out (by decide)) (fun _ hk => hk.2) (.slice Ao29 y482.length co29)) (fun _ hk => ⟨hk.1.1, hk.1.2⟩)⟩, ⟨by (with_reducible repeat (first | apply Z8 | apply Z9 | apply Z10)); exact Z11 (Z12 (p := ⟨gb481, 2, none⟩) (Z14 HO484.out BK481.out (by decide)) (fun _ hk => hk.2) (.slice Ao29 y482.length co29)) (fun _ hk => trivial)⟩, ⟨by (with_reducible repeat (first | apply Z8 | apply Z9 | apply Z10)); exact Z11 (Z12 (p := ⟨gb481, 2, none⟩) (Z14 HO_482003.out BK481.out (by decide)) (fun _ hk => hk.2) (.slice Ao29 y482.length co29)) (fun _ hk => ⟨hk.1.1, hk.1.2⟩)⟩, ⟨by (with_reducible repeat (first | refine Z22 ?_ _ | refine Z23 ?_ | refine Z24 ?_ _)); refine blk_far ?_ NB471_481.out _; (with_reducible repeat (first | refine Z22 ?_ _ | refine Z23 ?_ | refine Z24 ?_ _)); exact BK471.out⟩, ⟨by (with_reducible repeat (first | refine Z22 ?_ _ | refine Z23 ?_ | refine Z24 ?_ _)); refine Z26 (cs := #[.slice Ao19 t472.length co19, .slice Ao18 y475.length co18, u482002, .slice Ao17 t478.length co17]) ?_ 2 _ rfl; (with_reducible repeat (first | refine Z22 ?_ _ | refine Z23 ?_ | refine Z24 ?_ _)); exact BK481.out⟩, ⟨Q12⟩⟩
      ·rw [if_neg c25] at H
       exact absurd H (by simp)
     ·rw [if_neg c24] at H
      have c24b0 : decide (x16_1 < (l0.length : Int)) = false := Z34 c24
      clear c24
      simp only [Option.some.injEq, Prod.mk.injEq] at H
      obtain ⟨rfl, rfl, rfl, rfl⟩ := H
      have hnb31 := NB481_471.out
      have hnc31 := NB471_481.out
      have hz32 := Y4 BK481.out
      have hz33 := Y4 BK471.out
      obtain ⟨Ao34, co34, rfl⟩ := Z18 HO_482002.out
      go_wp2
      refine bodyPost_ret (results_cell_row rfl _ _ gb471 27 #[.slice Ao19 t472.length co19, .slice Ao18 y475.length co18, .slice Ao34 x482002_1.length co34, .slice Ao17 t478.length co17] (0, 0) _ rfl (Yk (Yv4 BK471.out)) Try.underlying27 rfl (by kernel_rfl)) rfl ?_
      exact ⟨_, _, _, _, Q2, by (with_reducible repeat (first | apply Z8 | apply Z9 | apply Z10)); exact Z11 (Yf4 HO_482000.out BK471.out) (fun _ hk => ⟨hk.1.1, hk.1.2⟩), by (with_reducible repeat (first | apply Z8 | apply Z9 | apply Z10)); exact Z11 (Yf4 HO_482001.out BK471.out) (fun _ hk => ⟨hk.1.1, hk.1.2⟩), by (with_reducible repeat (first | apply Z8 | apply Z9 | apply Z10)); exact Z11 (Yf4 HO_482002.out BK471.out) (fun _ hk => trivial), by (with_reducible repeat (first | apply Z8 | apply Z9 | apply Z10)); exact Z11 (Yf4 HO_482003.out BK471.out) (fun _ hk => ⟨hk.1.1, hk.1.2⟩), Q12⟩
  ·rw [if_neg c4] at H
   exact absurd H (by simp)
 ·rw [if_neg c3] at H
  exact absurd H (by simp)
mutual
def impl_focusAt.l0 : Nat → Int → Int → List Int → List Int → List Bool → List Int → Option (List Int × List Int × List Bool × List Int)
 | 0, _, _, _, _, _, _ => none
 | k + 1, n, i, b, d, u, p => if i < n then ((Go.Proofs.Ytpfakdhfffehaaa.FoW.stepF b d u p).bind fun r => (impl_focusAt.l0 k n (wrap64 (i + 1)) b r.1 r.2.1 r.2.2.1)) else (some (b, d, u, p))
end
def impl_focusAt.f (k : Nat) (l0 : List Int) (a1 : Int) : Option (List Int × List Int × List Bool × List Int) := (impl_startFocus.f k l0).bind fun t => (impl_focusAt.l0 k a1 0 t.1 t.2.1 t.2.2.1 t.2.2.2)
theorem impl_focusAt.mono_l : ∀ k, (∀ y0 y1 y2 y3 y4 y5, LeO (impl_focusAt.l0 k y0 y1 y2 y3 y4 y5) (impl_focusAt.l0 (k + 1) y0 y1 y2 y3 y4 y5))
 | 0 => fun _ _ _ _ _ _ r h => by simp [impl_focusAt.l0] at h
 | k + 1 => by
  have ih0 := impl_focusAt.mono_l k
  ·intro y0 y1 y2 y3 y4 y5
   unfold impl_focusAt.l0
   repeat' first
   | (with_reducible exact ih0 _ _ _ _ _ _)
   | (with_reducible exact impl_startFocus.mono _ _)
   | (with_reducible exact LeO.refl _)
   | (with_reducible exact LeO.none _)
   | (with_reducible refine LeO.ite ?_ ?_)
   | (with_reducible refine LeO.bind ?_ (fun _ => ?_))
   | exact ih0 _ _ _ _ _ _
   | exact impl_startFocus.mono _ _
   | exact LeO.none _
   | refine LeO.ite ?_ ?_
   | refine LeO.bind ?_ (fun _ => ?_)
theorem impl_focusAt.mono : ∀ a0 a1 k, LeO (impl_focusAt.f k a0 a1) (impl_focusAt.f (k + 1) a0 a1) := by
 intro a0 a1 k
 have ih0 := impl_focusAt.mono_l k
 unfold impl_focusAt.f
 repeat' first
   | (with_reducible exact ih0 _ _ _ _ _ _)
   | (with_reducible exact impl_startFocus.mono _ _)
   | (with_reducible exact LeO.refl _)
   | (with_reducible exact LeO.none _)
   | (with_reducible refine LeO.ite ?_ ?_)
   | (with_reducible refine LeO.bind ?_ (fun _ => ?_))
   | exact ih0 _ _ _ _ _ _
   | exact impl_startFocus.mono _ _
   | exact LeO.none _
   | refine LeO.ite ?_ ?_
   | refine LeO.bind ?_ (fun _ => ?_)
open Go.Proofs.Ytpfakdhfffehaaa.FoW in
set_option maxHeartbeats 8000000 in
set_option maxRecDepth 100000 in
theorem impl_focusAt.calls (k : Nat) (A0_ : Option Addr) (c0_ : Nat) (l0 : List Int) (a1 : Int) (r1 : List Int) (r2 : List Int) (r3 : List Bool) (r4 : List Int) (w : World) (hr0 : Kd.C (Kd.int .i64) w A0_ l0.length l0) (hc0 : l0.length ≤ c0_) (h : impl_focusAt.f k l0 a1 = some (r1, r2, r3, r4)) :
  Calls Try.prog 67 #[.slice A0_ l0.length c0_, .int .i64 a1] w fun e w' => ∃ v0_ v1_ v2_ v3_ : Value, e = .returned (.agg #[v0_, v1_, v2_, v3_]) ∧ Kd.R (Kd.int .i64) 3 w' w.heap.size (fun k_ => some k_ ≠ (v1_ : Value).ownBlock ∧ some k_ ≠ (v3_ : Value).ownBlock) v0_ r1 ∧ Kd.R (Kd.int .i64) 3 w' w.heap.size (fun k_ => some k_ ≠ (v0_ : Value).ownBlock ∧ some k_ ≠ (v3_ : Value).ownBlock) v1_ r2 ∧ Kd.R Kd.bool 4 w' w.heap.size (fun _ => True) v2_ r3 ∧ Kd.R (Kd.int .i64) 3 w' w.heap.size (fun k_ => some k_ ≠ (v0_ : Value).ownBlock ∧ some k_ ≠ (v1_ : Value).ownBlock) v3_ r4 ∧ Below w.heap.size w w' := by
 have hu := Try.underlying27
 unfold impl_focusAt.f at h
 obtain ⟨⟨b, D1, U1, P1⟩, h1, h⟩ := Z33.mp h
 have A1_ := Ya h1
 have H' := Ya h
 have HR0 := Ya hr0
 have HC0 := Ya hc0
 have HB := Ya (Below.refl w.heap.size w)
 clear h h1 hr0 hc0
 go_enter Try.func67, Try.ntmps67
 go_upto_region 3 with (first | ((with_reducible refine gate_dst (N := 4) rfl ?_); refine Yx 4 #[.slice none 0 0, .slice none 0 0, .slice none 0 0, .slice none 0 0] 27 ?_; intro gb4 hg w34 hbox hb; have n0_ := Yh hb; have BK4 := Ya hbox; have GE4 := Ya (by rw [hg]; exact Z7 Q0 : w.heap.size ≤ gb4); clear HB; have HB := n0_; clear n0_; clear hb hbox hg) | ((with_reducible refine gate_callee (f := 71) rfl ?_); refine Yz 7 Try.func71 #[.slice A0_ l0.length c0_] ?_ (hargs := Q52); (with_reducible refine (impl_startFocus.calls k _ _ l0 b D1 U1 P1 _ ?s1 ?s2 A1_.out).mono ?_); (case s1 => exact Q64); (case s2 => exact HC0.out); rintro e w2 ⟨v0, v1, v2, v3, rfl, ho0, ho1, ho2, ho3, hb⟩; refine ⟨_, rfl, ?_⟩; have hFV : FoV w2 w.heap.size v0 v1 v2 v3 b D1 U1 P1 := ⟨Kd.R_lower ho0 (Z7 Q0), Kd.R_lower ho1 (Z7 Q0), Kd.R_lower ho2 (Z7 Q0), Kd.R_lower ho3 (Z7 Q0)⟩; obtain ⟨A0, c0, rfl⟩ := Z18 ho0; obtain ⟨A1, c1', rfl⟩ := Z18 ho1; obtain ⟨A2, c2, rfl⟩ := Z18 ho2; obtain ⟨A3, c3, rfl⟩ := Z18 ho3; have n0_ := Yh hb; have n1_ := Ya (Z25 (by first | exact BK4.out | (exact Z23 BK4.out)) hb); have HV := Ya hFV; clear HB BK4 ho0 ho1 ho2 ho3 hb hFV; have HB := n0_; have BK4 := n1_; clear n0_ n1_) | ((with_reducible refine gate_dst (N := 5) rfl ?_); refine Yx 5 #[.slice none 0 0, .slice none 0 0, .slice none 0 0, .slice none 0 0] 27 ?_; intro gb5 hg w35 hbox hb; have n0_ := Yh hb; have BK := Ya hbox; have GE5 := Ya (by rw [hg]; exact Z7 Q0 : w.heap.size ≤ gb5); have NE := Ya (by rw [hg]; exact Nat.ne_of_lt (blk_lt BK4.out) : gb4 ≠ gb5); have n1_ := Ya (FoV.below (by (with_reducible repeat (first | apply FoV.drewN | apply FoV.drew)); exact HV.out) hb); have n2_ := Ya (Z25 BK4.out hb); clear HV BK4; have HV := n1_; have BK4 := n2_; clear n1_ n2_; clear HB; have HB := n0_; clear n0_; have hd0 := (Z20 BK.out 0).trans rfl; have hd1 := (Z20 BK.out 1).trans rfl; have hd2 := (Z20 BK.out 2).trans rfl; have hd3 := (Z20 BK.out 3).trans rfl; have hf0 := Z21 BK.out 0; have hf1 := Z21 BK.out 1; have hf2 := Z21 BK.out 2; have hf3 := Z21 BK.out 3; clear hb hbox hg))
 replace HV := Ya (FoV.set4 HV.out BK.out (by decide) (by decide) (.slice A0 b.length c0) (.slice A1 D1.length c1') (.slice A2 U1.length c2) (.slice A3 P1.length c3))
 replace BK := Ya (set4_at BK.out (.slice A0 b.length c0) (.slice A1 D1.length c1') (.slice A2 U1.length c2) (.slice A3 P1.length c3))
 replace BK4 := Ya ((set4_far _ gb5 (.slice A0 b.length c0) (.slice A1 D1.length c1') (.slice A2 U1.length c2) (.slice A3 P1.length c3) gb4 NE.out).trans BK4.out)
 replace HB := Ya (set4_below HB.out GE5.out (.slice A0 b.length c0) (.slice A1 D1.length c1') (.slice A2 U1.length c2) (.slice A3 P1.length c3))
 clear hd0 hd1 hd2 hd3 hf0 hf1 hf2 hf3
 unfold set4 at BK HV BK4 HB
 generalize ((((w35.setCell ⟨gb5, 0, none⟩ (.slice A0 b.length c0)).setCell ⟨gb5, 1, none⟩ (.slice A1 D1.length c1')).setCell ⟨gb5, 2, none⟩ (.slice A2 U1.length c2)).setCell ⟨gb5, 3, none⟩ (.slice A3 P1.length c3)) = w4 at BK HV BK4 HB ⊢
 go_loopg [9] k (fun kq v9 w' => ∃ (i : Int) (d : List Int) (u : List Bool) (p : List Int), v9 = .int .i64 i ∧ Aside0 (impl_focusAt.l0 kq a1 i b d u p = some (r1, r2, r3, r4)) ∧ Aside0 (kq ≤ k) ∧ Aside0 (d.length = D1.length ∧ u.length = U1.length ∧ p.length = P1.length) ∧ Aside0 (w'.heap[gb5]? = some (.cells #[.slice A0 b.length c0, .slice A1 D1.length c1', .slice A2 U1.length c2, .slice A3 P1.length c3] 27 (0, 0))) ∧ Aside0 (w'.heap[gb4]? = some (.cells #[.slice none 0 0, .slice none 0 0, .slice none 0 0, .slice none 0 0] 27 (0, 0))) ∧ Aside0 (FoV w' w.heap.size (.slice A0 b.length c0) (.slice A1 D1.length c1') (.slice A2 U1.length c2) (.slice A3 P1.length c3) b d u p) ∧ Aside0 (Below w.heap.size w w'))
 case atStart => exact ⟨0, D1, U1, P1, by first | rfl | (simp; done), H', ⟨Nat.le_refl _⟩, ⟨rfl, rfl, rfl⟩, BK, BK4, HV, HB⟩
 case round =>
  clear H' BK HV BK4 HB
  obtain ⟨i, d, u, p, rfl, HA, HK1, HL, BK, BK4, HV, HB⟩ := hrel
  cases gk with
  | zero => exact absurd HA.out (by simp [impl_focusAt.l0])
  | succ k1 =>
   have H := HA.out
   clear HA
   simp only [impl_focusAt.l0] at H
   by_cases c1 : i < a1
   rotate_left
   ·rw [if_neg c1] at H
    have b1 : decide (i < a1) = false := Z34 c1
    clear c1
    simp only [Option.some.injEq, Prod.mk.injEq] at H
    obtain ⟨rfl, rfl, rfl, rfl⟩ := H
    have hc0 := (Z20 BK.out 0).trans rfl
    have hc1 := (Z20 BK.out 1).trans rfl
    have hc2 := (Z20 BK.out 2).trans rfl
    have hc3 := (Z20 BK.out 3).trans rfl
    have hf0 := Z21 BK.out 0
    have hf1 := Z21 BK.out 1
    have hf2 := Z21 BK.out 2
    have hf3 := Z21 BK.out 3
    have hd0 := (Z20 BK4.out 0).trans rfl
    have hd1 := (Z20 BK4.out 1).trans rfl
    have hd2 := (Z20 BK4.out 2).trans rfl
    have hd3 := (Z20 BK4.out 3).trans rfl
    have he0 := Z21 BK4.out 0
    have he1 := Z21 BK4.out 1
    have he2 := Z21 BK4.out 2
    have he3 := Z21 BK4.out 3
    have hne := NE.out
    have hne' := NE.out.symm
    go_wp2
    refine bodyPost_ret (results_cell_row rfl _ _ gb4 27 #[.slice A0 b.length c0, .slice A1 D1.length c1', .slice A2 U1.length c2, .slice A3 P1.length c3] (0, 0) _ rfl (by have h_ := set4_at BK4.out (.slice A0 b.length c0) (.slice A1 D1.length c1') (.slice A2 U1.length c2) (.slice A3 P1.length c3); unfold set4 at h_; exact h_) hu rfl (by kernel_rfl)) rfl ?_
    have hv := FoV.set4 HV.out BK4.out (by decide) (by decide) (.slice A0 b.length c0) (.slice A1 D1.length c1') (.slice A2 U1.length c2) (.slice A3 P1.length c3)
    have hbb := set4_below HB.out GE4.out (.slice A0 b.length c0) (.slice A1 D1.length c1') (.slice A2 U1.length c2) (.slice A3 P1.length c3)
    unfold set4 at hv hbb
    exact ⟨_, _, _, _, rfl, hv.r0, hv.r1, hv.r2, hv.r3, hbb⟩
   rw [if_pos c1] at H
   have b1 : decide (i < a1) = true := Z35 c1
   obtain ⟨⟨d', u', p', r⟩, hs, H⟩ := Z33.mp H
   obtain ⟨hd, hu', hp⟩ := HL.out
   have hbk := BK.out
   rw [← hd, ← hu', ← hp] at hbk
   have HBK := Ya hbk
   clear hbk c1
   have HV2 : Aside0 (FoV _ w.heap.size (.slice A0 b.length c0) (.slice A1 d.length c1') (.slice A2 u.length c2) (.slice A3 p.length c3) b d u p) := ⟨by have := HV.out; rw [← hd, ← hu', ← hp] at this; exact this⟩
   have H' := Ya H
   have HS := Ya hs
   obtain ⟨hl, hl0, hl1, hl2, hl3⟩ := stepF_len hs
   have HL2 := Ya hl
   obtain ⟨g0, q0, g1, q1, g2, q2, g3, q3, e0, e1, e2, e3, hF⟩ := FoR.of HV2.out.r0 HV2.out.r1 HV2.out.r2 HV2.out.r3 hl0 hl1 hl2 hl3
   injection e0 with x0 _ z0
   injection e1 with x1 _ z1
   injection e2 with x2 _ z2
   injection e3 with x3 _ z3
   subst x0 z0 x1 z1 x2 z2 x3 z3
   have HF := Ya hF
   clear H hs hl hl0 hl1 hl2 hl3 hF hd hu' hp HV HV2
   go_wp2_with (first | ((with_reducible refine gate_callee (f := 36) rfl ?_); refine Yz 11 Try.func36 #[.pointer (some ⟨gb5, 0, none⟩)] ?_ (hargs := Q52); (with_reducible refine (impl_Focus_step.calls w gb5 g0 c0 g1 c1' g2 c2 g3 c3 b d u p d' u' p' r _ HBK.out HF.out HB.out HS.out).mono ?_); rintro e w7 ⟨rfl, hk1, hk2, hk3, hk4⟩; refine ⟨_, rfl, ?_⟩; have ap_ := FoR.apart HF.out BK4.out (by decide) (by decide); have n1_ := Ya (blk_kept BK4.out hk3 (fun hs_ => by rcases hs_ with e | e | e; exact ap_.2.1 e; exact ap_.2.2.1 e; exact ap_.2.2.2 e)); have n0_ := Ya (hk1.trans BK.out); clear HBK BK HF BK4 HB ap_; have BK := n0_; have HF := Ya hk2; have BK4 := n1_; have HB := Ya hk4; clear n0_ n1_ hk1 hk2 hk3 hk4; have hv := FoR.back HF.out; have hV7 : FoV w7 w.heap.size (.slice (some ⟨g0, 0, none⟩) b.length c0) (.slice (some ⟨g1, 0, none⟩) d'.length c1') (.slice (some ⟨g2, 0, none⟩) u'.length c2) (.slice (some ⟨g3, 0, none⟩) p'.length c3) b d' u' p' := ⟨hv.1, hv.2.1, hv.2.2.1, hv.2.2.2⟩; rw [HL2.out.1, HL2.out.2.1, HL2.out.2.2, HL.out.1, HL.out.2.1, HL.out.2.2] at hV7; have HV := Ya hV7; clear hv hV7))
   go_roundg k1
   case measure => have := HK1.out; omega
   case rel => exact ⟨_, d', u', p', by first | rfl | (simp; done), H', ⟨Q24⟩, ⟨by obtain ⟨a_, b_, c_⟩ := HL2.out; obtain ⟨x_, y_, z_⟩ := HL.out; exact ⟨a_.trans x_, b_.trans y_, c_.trans z_⟩⟩, BK, BK4, HV, HB⟩
def impl_IsFocus.f (k : Nat) (l0_0 : List Int) (l0_1 : List Int) (l0_2 : List Bool) (l0_3 : List Int) : Option (Bool) := (impl_areFocusBases.f k l0_0).bind fun t486 => (if t486 = true then ((impl_areDigits.f k l0_0 l0_1).bind fun t487 => (if t487 = true then ((impl_mixedRank.f k l0_0 l0_1).bind fun t488 => ((impl_focusAt.f k l0_0 t488).bind fun bt489 => ((impl_Focus_same.f k l0_0 l0_1 l0_2 l0_3 bt489.1 bt489.2.1 bt489.2.2.1 bt489.2.2.2).bind fun t501 => (some t501)))) else (some false))) else (some false))
theorem impl_IsFocus.mono : ∀ a0 a1 a2 a3 k, LeO (impl_IsFocus.f k a0 a1 a2 a3) (impl_IsFocus.f (k + 1) a0 a1 a2 a3) := by
 intro a0 a1 a2 a3 k
 unfold impl_IsFocus.f
 repeat' first
   | (with_reducible exact impl_Focus_same.mono _ _ _ _ _ _ _ _ _)
   | (with_reducible exact impl_areDigits.mono _ _ _)
   | (with_reducible exact impl_areFocusBases.mono _ _)
   | (with_reducible exact impl_focusAt.mono _ _ _)
   | (with_reducible exact impl_mixedRank.mono _ _ _)
   | (with_reducible exact LeO.refl _)
   | (with_reducible exact LeO.none _)
   | (with_reducible refine LeO.ite ?_ ?_)
   | (with_reducible refine LeO.bind ?_ (fun _ => ?_))
   | exact impl_Focus_same.mono _ _ _ _ _ _ _ _ _
   | exact impl_areDigits.mono _ _ _
   | exact impl_areFocusBases.mono _ _
   | exact impl_focusAt.mono _ _ _
   | exact impl_mixedRank.mono _ _ _
   | exact LeO.none _
   | refine LeO.ite ?_ ?_
   | refine LeO.bind ?_ (fun _ => ?_)
def impl_IsFocus.T1 : Bool × List (List Nat × List Nat) := (true, [([], []), ([0], [0]), ([1], [1]), ([2, 2], [2]), ([3], [3]), ([4, 3], [3, 4]), ([3], [3]), ([6, 3], [3, 6]), ([5, 7, 3, 3], [3, 5, 7]), ([3, 8], [3, 8]), ([9, 8], [9]), ([10], [10]), ([10], [10]), ([12, 10], [10, 12]), ([10], [10]), ([14, 10], [10, 14]), ([10], [10]), ([16, 10], [10, 16]), ([15, 17, 10, 10], [10, 15, 17]), ([13, 18, 18, 10], [10, 13, 18]), ([11, 19, 19, 10], [10, 11, 19]), ([10, 20], [10, 20]), ([21, 20, 0, 1, 2, 3, 4, 5, 6, 7, 8, 9, 10, 11, 12, 13, 14, 15, 16, 17, 18, 19, 20, 21], [21])])
def impl_IsFocus.B1 : List Nat := [0, 1, 3, 7, 15, 31, 15, 79, 255, 511, 1023, 2047, 2047, 6143, 2047, 18431, 2047, 67583, 247807, 522239, 1048575, 2097151, 4194303]
theorem impl_IsFocus.tab1 : rtab .any (opsOf Try.f34 1) = impl_IsFocus.T1 := by kernel_rfl
theorem impl_IsFocus.bits1 : waitsOk impl_IsFocus.T1.2 impl_IsFocus.B1 = true := by kernel_rfl
set_option maxHeartbeats 8000000 in
set_option maxRecDepth 100000 in
theorem impl_IsFocus.calls (k : Nat) (A0_0 : Option Addr) (c0_0 : Nat) (l0_0 : List Int) (A0_1 : Option Addr) (c0_1 : Nat) (l0_1 : List Int) (A0_2 : Option Addr) (c0_2 : Nat) (l0_2 : List Bool) (A0_3 : Option Addr) (c0_3 : Nat) (l0_3 : List Int) (r : Bool) (w : World) (hr0_0 : Kd.C (Kd.int .i64) w A0_0 l0_0.length l0_0) (hc0_0 : l0_0.length ≤ c0_0) (hr0_1 : Kd.C (Kd.int .i64) w A0_1 l0_1.length l0_1) (hc0_1 : l0_1.length ≤ c0_1) (hr0_2 : Kd.C Kd.bool w A0_2 l0_2.length l0_2) (hc0_2 : l0_2.length ≤ c0_2) (hr0_3 : Kd.C (Kd.int .i64) w A0_3 l0_3.length l0_3) (hc0_3 : l0_3.length ≤ c0_3) (h : impl_IsFocus.f k l0_0 l0_1 l0_2 l0_3 = some r) :
  Calls Try.prog 34 #[.agg #[.slice A0_0 l0_0.length c0_0, .slice A0_1 l0_1.length c0_1, .slice A0_2 l0_2.length c0_2, .slice A0_3 l0_3.length c0_3]] w fun e w' => e = .returned (.bool r) ∧ Below w.heap.size w w' := by
 have hu27 := Try.underlying27
 have HR0_0 := Ya hr0_0
 have HC0_0 := Ya hc0_0
 clear hr0_0 hc0_0
 have HR0_1 := Ya hr0_1
 have HC0_1 := Ya hc0_1
 clear hr0_1 hc0_1
 have HR0_2 := Ya hr0_2
 have HC0_2 := Ya hc0_2
 clear hr0_2 hc0_2
 have HR0_3 := Ya hr0_3
 have HC0_3 := Ya hc0_3
 clear hr0_3 hc0_3
 have HB := Ya (Below.refl w.heap.size w)
 have H : ((impl_areFocusBases.f k l0_0).bind fun t486 => (if t486 = true then ((impl_areDigits.f k l0_0 l0_1).bind fun t487 => (if t487 = true then ((impl_mixedRank.f k l0_0 l0_1).bind fun t488 => ((impl_focusAt.f k l0_0 t488).bind fun bt489 => ((impl_Focus_same.f k l0_0 l0_1 l0_2 l0_3 bt489.1 bt489.2.1 bt489.2.2.1 bt489.2.2.2).bind fun t501 => (some t501)))) else (some false))) else (some false))) = some r := h
 clear h
 replace H := Z33.mp H
 obtain ⟨t486, A20, H⟩ := H
 replace H : (if t486 = true then ((impl_areDigits.f k l0_0 l0_1).bind fun t487 => (if t487 = true then ((impl_mixedRank.f k l0_0 l0_1).bind fun t488 => ((impl_focusAt.f k l0_0 t488).bind fun bt489 => ((impl_Focus_same.f k l0_0 l0_1 l0_2 l0_3 bt489.1 bt489.2.1 bt489.2.2.1 bt489.2.2.2).bind fun t501 => (some t501)))) else (some false))) else (some false)) = some r := H
 have A2 := Ya A20
 clear A20
 by_cases c3 : t486 = true
 ·subst c3
  have H1 : ((impl_areDigits.f k l0_0 l0_1).bind fun t487 => (if t487 = true then ((impl_mixedRank.f k l0_0 l0_1).bind fun t488 => ((impl_focusAt.f k l0_0 t488).bind fun bt489 => ((impl_Focus_same.f k l0_0 l0_1 l0_2 l0_3 bt489.1 bt489.2.1 bt489.2.2.1 bt489.2.2.2).bind fun t501 => (some t501)))) else (some false))) = some r := by rw [if_pos rfl] at H; exact H
  clear H
  have H := H1
  clear H1
  replace H := Z33.mp H
  obtain ⟨t487, A40, H⟩ := H
  replace H : (if t487 = true then ((impl_mixedRank.f k l0_0 l0_1).bind fun t488 => ((impl_focusAt.f k l0_0 t488).bind fun bt489 => ((impl_Focus_same.f k l0_0 l0_1 l0_2 l0_3 bt489.1 bt489.2.1 bt489.2.2.1 bt489.2.2.2).bind fun t501 => (some t501)))) else (some false)) = some r := H
  have A4 := Ya A40
  clear A40
  by_cases c5 : t487 = true
  ·subst c5
   have H1 : ((impl_mixedRank.f k l0_0 l0_1).bind fun t488 => ((impl_focusAt.f k l0_0 t488).bind fun bt489 => ((impl_Focus_same.f k l0_0 l0_1 l0_2 l0_3 bt489.1 bt489.2.1 bt489.2.2.1 bt489.2.2.2).bind fun t501 => (some t501)))) = some r := by rw [if_pos rfl] at H; exact H
   clear H
   have H := H1
   clear H1
   replace H := Z33.mp H
   obtain ⟨t488, A60, H⟩ := H
   replace H : ((impl_focusAt.f k l0_0 t488).bind fun bt489 => ((impl_Focus_same.f k l0_0 l0_1 l0_2 l0_3 bt489.1 bt489.2.1 bt489.2.2.1 bt489.2.2.2).bind fun t501 => (some t501))) = some r := H
   have A6 := Ya A60
   clear A60
   replace H := Z33.mp H
   obtain ⟨⟨t489, t492, t495, t498⟩, A70, H⟩ := H
   replace H : ((impl_Focus_same.f k l0_0 l0_1 l0_2 l0_3 t489 t492 t495 t498).bind fun t501 => (some t501)) = some r := H
   have A7 := Ya A70
   clear A70
   replace H := Z33.mp H
   obtain ⟨t501, A80, H⟩ := H
   replace H : (some t501) = some r := H
   have A8 := Ya A80
   clear A80
   obtain rfl := Option.some.inj H
   go_enter Try.func34, Try.ntmps34
   try go_wp2_with (first | ((with_reducible refine gate_dst (N := 1) rfl ?_); refine Yx 1 #[.slice A0_0 l0_0.length c0_0, .slice A0_1 l0_1.length c0_1, .slice A0_2 l0_2.length c0_2, .slice A0_3 l0_3.length c0_3] 27 ?_; intro gb485 hg w9 hbox hb; have BK485 := Ya hbox; have GE485 := Yg hg; replace HB := Yh hb; clear hb hbox hg))
   replace BK485 := Ya (Z23 BK485.out)
   replace HB := Ya (Z4 HB.out)
   refine start_ (n := 23) (S := fun w' => w'.cell? ⟨gb485, 0, none⟩ = some (.slice A0_0 l0_0.length c0_0) ∧ w'.cell? ⟨gb485, 1, none⟩ = some (.slice A0_1 l0_1.length c0_1) ∧ w'.cell? ⟨gb485, 2, none⟩ = some (.slice A0_2 l0_2.length c0_2) ∧ w'.cell? ⟨gb485, 3, none⟩ = some (.slice A0_3 l0_3.length c0_3)) (ds := []) (YA 23 0) (by kernel_rfl) rfl rfl ⟨(Z20 BK485.out 0).trans rfl, (Z20 BK485.out 1).trans rfl, (Z20 BK485.out 2).trans rfl, (Z20 BK485.out 3).trans rfl⟩ (fun hHeld => ?_); refine with_tabW impl_IsFocus.tab1 impl_IsFocus.bits1 (fun HT_ HW_ => ?_)
   generalize w9.drew = w10 at BK485 HB hHeld ⊢
   refine Yp 0 (some 3) (YA 23 1) rfl HT_.out ?_
   refine Yt 1 (some 4) (YA 23 3) rfl HT_.out HW_.out hHeld Q3 ?_
   refine one_ (i := 2) (N := some 5) (YA 23 7) rfl rfl (one_of HT_.out (by kernel_rfl)) (by decide) (fun K hK => ?_)
   refine goes_ Try.func64 (by kernel_rfl) rfl #[.slice A0_0 l0_0.length c0_0] (by rfl) rfl rfl Q6 ?_
   with_reducible refine (impl_areFocusBases.calls k _ _ l0_0 true _ ?side1 ?side2 A2.out).mono ?_
   (case side1 => exact Yc (Z19 HR0_0.out HB.out))
   (case side2 => exact HC0_0.out)
   rintro e w11 ⟨rfl, hb⟩
   refine ⟨_, rfl, ?_⟩
   replace BK485 := Yb BK485 hb
   replace HB := Yh hb
   (try clear hb)
   refine hK.out _ _ ⟨(Z20 BK485.out 0).trans rfl, (Z20 BK485.out 1).trans rfl, (Z20 BK485.out 2).trans rfl, (Z20 BK485.out 3).trans rfl⟩ (fun hHeld => ?_)
   clear hK K
   refine norm_ (a' := ?_) ?_ ?_
   rotate_left
   ·show Act.put _ (some 5) _ = _
    simp only [Act.put, Z0, Z1, Z2, i64_w, i32_w]
    rfl
   refine Yp 3 (some 6) (YA 23 15) rfl HT_.out ?_
   refine Yp 4 (some 7) (YA 23 31) rfl HT_.out ?_
   refine Yp 6 (some 9) (YA 23 95) rfl HT_.out ?_
   refine Yt 5 (some 8) (YA 23 127) rfl HT_.out HW_.out hHeld Q3 ?_
   refine Yt 7 (some 10) (YA 23 255) rfl HT_.out HW_.out hHeld Q3 ?_
   refine one_ (i := 8) (N := some 11) (YA 23 511) rfl rfl (one_of HT_.out (by kernel_rfl)) (by decide) (fun K hK => ?_)
   refine goes_ Try.func65 (by kernel_rfl) rfl #[.slice A0_0 l0_0.length c0_0, .slice A0_1 l0_1.length c0_1] (by rfl) rfl rfl Q6 ?_
   with_reducible refine (impl_areDigits.calls k _ _ l0_0 _ _ l0_1 true _ ?side1 ?side2 ?side3 ?side4 A4.out).mono ?_
   (case side1 => exact Yc (Z19 HR0_0.out HB.out))
   (case side2 => exact HC0_0.out)
   (case side3 => exact Yc (Z19 HR0_1.out HB.out))
   (case side4 => exact HC0_1.out)
   rintro e w' ⟨rfl, ⟨nd, rfl⟩⟩
   refine ⟨_, rfl, ?_⟩
   refine hK.out _ _ ⟨(Z20 BK485.out 0).trans rfl, (Z20 BK485.out 1).trans rfl, (Z20 BK485.out 2).trans rfl, (Z20 BK485.out 3).trans rfl⟩ (fun hHeld => ?_)
   clear hK K
   refine norm_ (a' := ?_) ?_ ?_
   rotate_left
   ·show Act.put _ (some 11) _ = _
    simp only [Act.put, Z0, Z1, Z2, i64_w, i32_w]
    rfl
   refine Yp 9 (some 12) (YA 23 1023) rfl HT_.out ?_
   refine Yp 10 (some 13) (YA 23 2047) rfl HT_.out ?_
   refine Yp 12 (some 15) (YA 23 6143) rfl HT_.out ?_
   refine Yp 14 (some 17) (YA 23 22527) rfl HT_.out ?_
   refine Yp 16 (some 19) (YA 23 88063) rfl HT_.out ?_
   refine Yt 11 (some 14) (YA 23 90111) rfl HT_.out HW_.out hHeld Q3 ?_
   refine Yt 13 (some 16) (YA 23 98303) rfl HT_.out HW_.out hHeld Q3 ?_
   refine Yt 15 (some 18) (YA 23 131071) rfl HT_.out HW_.out hHeld Q3 ?_
   refine Yt 17 (some 20) (YA 23 262143) rfl HT_.out HW_.out hHeld Q3 ?_
   refine one_ (i := 18) (N := some 21) (YA 23 524287) rfl rfl (one_of HT_.out (by kernel_rfl)) (by decide) (fun K hK => ?_)
   refine goes_ Try.func54 (by kernel_rfl) rfl #[.slice A0_0 l0_0.length c0_0, .slice A0_1 l0_1.length c0_1] (by rfl) rfl rfl Q6 ?_
   with_reducible refine (impl_mixedRank.calls k _ _ l0_0 _ _ l0_1 t488 _ ?side1 ?side2 ?side3 ?side4 A6.out).mono ?_
   (case side1 => exact Yc (Z19 HR0_0.out Q0))
   (case side2 => exact HC0_0.out)
   (case side3 => exact Yc (Z19 HR0_1.out Q0))
   (case side4 => exact HC0_1.out)
   rintro e w12 ⟨rfl, hb⟩
   refine ⟨_, rfl, ?_⟩
   replace BK485 := Yb BK485 hb
   replace HB := Yh hb
   (try clear hb)
   refine hK.out _ _ ⟨(Z20 BK485.out 0).trans rfl, (Z20 BK485.out 1).trans rfl, (Z20 BK485.out 2).trans rfl, (Z20 BK485.out 3).trans rfl⟩ (fun hHeld => ?_)
   clear hK K
   refine norm_ (a' := ?_) ?_ ?_
   rotate_left
   ·show Act.put _ (some 21) _ = _
    simp only [Act.put, Z0, Z1, Z2, i64_w, i32_w]
    rfl
   refine one_ (i := 19) (N := some 22) (YA 23 1048575) rfl rfl (one_of HT_.out (by kernel_rfl)) (by decide) (fun K hK => ?_)
   refine goes_ Try.func67 (by kernel_rfl) rfl #[.slice A0_0 l0_0.length c0_0, .int .i64 t488] (by rfl) rfl rfl Q6 ?_
   with_reducible refine (impl_focusAt.calls k _ _ l0_0 t488 t489 t492 t495 t498 _ ?side1 ?side2 A7.out).mono ?_
   (case side1 => exact Yc (Z19 HR0_0.out HB.out))
   (case side2 => exact HC0_0.out)
   rintro e w13 ⟨v490, v493, v496, v499, rfl, ho0, ho1, ho2, ho3, hb⟩
   refine ⟨_, rfl, ?_⟩
   have HO491 := Yl ho0
   have HO494 := Yl ho1
   have HO497 := Yl ho2
   have HO500 := Yl ho3
   replace BK485 := Yb BK485 hb
   replace HB := Yh hb
   (try clear hb ho0 ho1 ho2 ho3)
   obtain ⟨Ao14, co14, eo14⟩ := Z18 HO491.out
   (first | subst eo14 | (injection eo14 with f1_ f2_ f3_; have f4_ := f1_.symm; have f5_ := f3_.symm; clear f1_ f2_ f3_; subst f4_; subst f5_))
   obtain ⟨Ao15, co15, eo15⟩ := Z18 HO494.out
   (first | subst eo15 | (injection eo15 with f1_ f2_ f3_; have f4_ := f1_.symm; have f5_ := f3_.symm; clear f1_ f2_ f3_; subst f4_; subst f5_))
   obtain ⟨Ao16, co16, eo16⟩ := Z18 HO497.out
   (first | subst eo16 | (injection eo16 with f1_ f2_ f3_; have f4_ := f1_.symm; have f5_ := f3_.symm; clear f1_ f2_ f3_; subst f4_; subst f5_))
   obtain ⟨Ao17, co17, eo17⟩ := Z18 HO500.out
   (first | subst eo17 | (injection eo17 with f1_ f2_ f3_; have f4_ := f1_.symm; have f5_ := f3_.symm; clear f1_ f2_ f3_; subst f4_; subst f5_))
   refine hK.out _ _ ⟨(Z20 BK485.out 0).trans rfl, (Z20 BK485.out 1).trans rfl, (Z20 BK485.out 2).trans rfl, (Z20 BK485.out 3).trans rfl⟩ (fun hHeld => ?_)
   clear hK K
   refine norm_ (a' := ?_) ?_ ?_
   rotate_left
   ·show Act.put _ (some 22) _ = _
    simp only [Act.put, Z0, Z1, Z2, i64_w, i32_w]
    rfl
   refine one_ (i := 20) (N := some 23) (YA 23 2097151) rfl rfl (one_of HT_.out (by kernel_rfl)) (by decide) (fun K hK => ?_)
   refine goes_ Try.func66 (by kernel_rfl) rfl #[.agg #[.slice A0_0 l0_0.length c0_0, .slice A0_1 l0_1.length c0_1, .slice A0_2 l0_2.length c0_2, .slice A0_3 l0_3.length c0_3], .agg #[.slice Ao14 t489.length co14, .slice Ao15 t492.length co15, .slice Ao16 t495.length co16, .slice Ao17 t498.length co17]] (by rfl) rfl rfl Q6 ?_
   with_reducible refine (impl_Focus_same.calls k _ _ l0_0 _ _ l0_1 _ _ l0_2 _ _ l0_3 _ _ t489 _ _ t492 _ _ t495 _ _ t498 t501 _ ?side1 ?side2 ?side3 ?side4 ?side5 ?side6 ?side7 ?side8 ?side9 ?side10 ?side11 ?side12 ?side13 ?side14 ?side15 ?side16 A8.out).mono ?_
   (case side1 => exact Yc (Z19 HR0_0.out HB.out))
   (case side2 => exact HC0_0.out)
   (case side3 => exact Yc (Z19 HR0_1.out HB.out))
   (case side4 => exact HC0_1.out)
   (case side5 => exact Yc (Z19 HR0_2.out HB.out))
   (case side6 => exact HC0_2.out)
   (case side7 => exact Yc (Z19 HR0_3.out HB.out))
   (case side8 => exact HC0_3.out)
   (case side9 => exact Yc (Kd.R_reads' HO491.out).2.2)
   (case side10 => exact (Kd.R_reads' HO491.out).2.1)
   (case side11 => exact Yc (Kd.R_reads' HO494.out).2.2)
   (case side12 => exact (Kd.R_reads' HO494.out).2.1)
   (case side13 => exact Yc (Kd.R_reads' HO497.out).2.2)
   (case side14 => exact (Kd.R_reads' HO497.out).2.1)
   (case side15 => exact Yc (Kd.R_reads' HO500.out).2.2)
   (case side16 => exact (Kd.R_reads' HO500.out).2.1)
   rintro e w18 ⟨rfl, hb⟩
   refine ⟨_, rfl, ?_⟩
   replace HO491 := Yw HO491 hb
   replace HO494 := Yw HO494 hb
   replace HO497 := Yw HO497 hb
   replace HO500 := Yw HO500 hb
   replace BK485 := Yb BK485 hb
   replace HB := Yh hb
   (try clear hb)
   refine hK.out _ _ ⟨(Z20 BK485.out 0).trans rfl, (Z20 BK485.out 1).trans rfl, (Z20 BK485.out 2).trans rfl, (Z20 BK485.out 3).trans rfl⟩ (fun hHeld => ?_)
   clear hK K
   refine norm_ (a' := ?_) ?_ ?_
   rotate_left
   ·show Act.put _ (some 23) _ = _
    simp only [Act.put, Z0, Z1, Z2, i64_w, i32_w]
    rfl
   refine Yp 21 (some 24) (YA 23 4194303) rfl HT_.out ?_
   refine Yp 22 (some 2) (YA 23 8388607) rfl HT_.out ?_
   refine done_ (done_of HT_.out (by kernel_rfl)) ?_
   try go_wp2
   go_ret
   exact ⟨Q2, Q12⟩
  ·replace c5 := Bool.eq_false_iff.mpr c5
   subst c5
   have H1 : (some false) = some r := by rw [if_neg (show ¬ (false = true) by decide)] at H; exact H
   clear H
   have H := H1
   clear H1
   obtain rfl := Option.some.inj H
   go_enter Try.func34, Try.ntmps34
   try go_wp2_with (first | ((with_reducible refine gate_dst (N := 1) rfl ?_); refine Yx 1 #[.slice A0_0 l0_0.length c0_0, .slice A0_1 l0_1.length c0_1, .slice A0_2 l0_2.length c0_2, .slice A0_3 l0_3.length c0_3] 27 ?_; intro gb485 hg w19 hbox hb; have BK485 := Ya hbox; have GE485 := Yg hg; replace HB := Yh hb; clear hb hbox hg))
   replace BK485 := Ya (Z23 BK485.out)
   replace HB := Ya (Z4 HB.out)
   refine start_ (n := 23) (S := fun w' => w'.cell? ⟨gb485, 0, none⟩ = some (.slice A0_0 l0_0.length c0_0) ∧ w'.cell? ⟨gb485, 1, none⟩ = some (.slice A0_1 l0_1.length c0_1) ∧ w'.cell? ⟨gb485, 2, none⟩ = some (.slice A0_2 l0_2.length c0_2) ∧ w'.cell? ⟨gb485, 3, none⟩ = some (.slice A0_3 l0_3.length c0_3)) (ds := []) (YA 23 0) (by kernel_rfl) rfl rfl ⟨(Z20 BK485.out 0).trans rfl, (Z20 BK485.out 1).trans rfl, (Z20 BK485.out 2).trans rfl, (Z20 BK485.out 3).trans rfl⟩ (fun hHeld => ?_); refine with_tabW impl_IsFocus.tab1 impl_IsFocus.bits1 (fun HT_ HW_ => ?_)
   generalize w19.drew = w20 at BK485 HB hHeld ⊢
   refine Yp 0 (some 3) (YA 23 1) rfl HT_.out ?_
   refine Yt 1 (some 4) (YA 23 3) rfl HT_.out HW_.out hHeld Q3 ?_
   refine one_ (i := 2) (N := some 5) (YA 23 7) rfl rfl (one_of HT_.out (by kernel_rfl)) (by decide) (fun K hK => ?_)
   refine goes_ Try.func64 (by kernel_rfl) rfl #[.slice A0_0 l0_0.length c0_0] (by rfl) rfl rfl Q6 ?_
   with_reducible refine (impl_areFocusBases.calls k _ _ l0_0 true _ ?side1 ?side2 A2.out).mono ?_
   (case side1 => exact Yc (Z19 HR0_0.out HB.out))
   (case side2 => exact HC0_0.out)
   rintro e w21 ⟨rfl, hb⟩
   refine ⟨_, rfl, ?_⟩
   replace BK485 := Yb BK485 hb
   replace HB := Yh hb
   (try clear hb)
   refine hK.out _ _ ⟨(Z20 BK485.out 0).trans rfl, (Z20 BK485.out 1).trans rfl, (Z20 BK485.out 2).trans rfl, (Z20 BK485.out 3).trans rfl⟩ (fun hHeld => ?_)
   clear hK K
   refine norm_ (a' := ?_) ?_ ?_
   rotate_left
   ·show Act.put _ (some 5) _ = _
    simp only [Act.put, Z0, Z1, Z2, i64_w, i32_w]
    rfl
   refine Yp 3 (some 6) (YA 23 15) rfl HT_.out ?_
   refine Yp 4 (some 7) (YA 23 31) rfl HT_.out ?_
   refine Yp 6 (some 9) (YA 23 95) rfl HT_.out ?_
   refine Yt 5 (some 8) (YA 23 127) rfl HT_.out HW_.out hHeld Q3 ?_
   refine Yt 7 (some 10) (YA 23 255) rfl HT_.out HW_.out hHeld Q3 ?_
   refine one_ (i := 8) (N := some 11) (YA 23 511) rfl rfl (one_of HT_.out (by kernel_rfl)) (by decide) (fun K hK => ?_)
   refine goes_ Try.func65 (by kernel_rfl) rfl #[.slice A0_0 l0_0.length c0_0, .slice A0_1 l0_1.length c0_1] (by rfl) rfl rfl Q6 ?_
   with_reducible refine (impl_areDigits.calls k _ _ l0_0 _ _ l0_1 false _ ?side1 ?side2 ?side3 ?side4 A4.out).mono ?_
   (case side1 => exact Yc (Z19 HR0_0.out HB.out))
   (case side2 => exact HC0_0.out)
   (case side3 => exact Yc (Z19 HR0_1.out HB.out))
   (case side4 => exact HC0_1.out)
   rintro e w' ⟨rfl, ⟨nd, rfl⟩⟩
   refine ⟨_, rfl, ?_⟩
   refine hK.out _ _ ⟨(Z20 BK485.out 0).trans rfl, (Z20 BK485.out 1).trans rfl, (Z20 BK485.out 2).trans rfl, (Z20 BK485.out 3).trans rfl⟩ (fun hHeld => ?_)
   clear hK K
   refine norm_ (a' := ?_) ?_ ?_
   rotate_left
   ·show Act.put _ (some 11) _ = _
    simp only [Act.put, Z0, Z1, Z2, i64_w, i32_w]
    rfl
   refine Yp 9 (some 12) (YA 23 1023) rfl HT_.out ?_
   refine Yp 10 (some 13) (YA 23 2047) rfl HT_.out ?_
   refine pure_ (i := 11) (N := some 14) (v := undef) (a' := ?_) (YA 23 4095) rfl rfl (any_of HT_.out (by kernel_rfl)) (fun _ _ _ h => h) (Or.inr ⟨by rfl, rfl⟩) ?_ ?_
   rotate_left
   ·simp only [Act.put, Z0, Z1, Z2, i64_w, i32_w]
    rfl
   refine pure_ (i := 12) (N := some 15) (v := undef) (a' := ?_) (YA 23 8191) rfl rfl (any_of HT_.out (by kernel_rfl)) (fun _ _ _ h => h) (Or.inr ⟨by rfl, rfl⟩) ?_ ?_
   rotate_left
   ·simp only [Act.put, Z0, Z1, Z2, i64_w, i32_w]
    rfl
   refine pure_ (i := 13) (N := some 16) (v := undef) (a' := ?_) (YA 23 16383) rfl rfl (any_of HT_.out (by kernel_rfl)) (fun _ _ _ h => h) (Or.inr ⟨by rfl, rfl⟩) ?_ ?_
   rotate_left
   ·simp only [Act.put, Z0, Z1, Z2, i64_w, i32_w]
    rfl
   refine pure_ (i := 14) (N := some 17) (v := undef) (a' := ?_) (YA 23 32767) rfl rfl (any_of HT_.out (by kernel_rfl)) (fun _ _ _ h => h) (Or.inr ⟨by rfl, rfl⟩) ?_ ?_
   rotate_left
   ·simp only [Act.put, Z0, Z1, Z2, i64_w, i32_w]
    rfl
   refine pure_ (i := 15) (N := some 18) (v := undef) (a' := ?_) (YA 23 65535) rfl rfl (any_of HT_.out (by kernel_rfl)) (fun _ _ _ h => h) (Or.inr ⟨by rfl, rfl⟩) ?_ ?_
   rotate_left
   ·simp only [Act.put, Z0, Z1, Z2, i64_w, i32_w]
    rfl
   refine pure_ (i := 16) (N := some 19) (v := undef) (a' := ?_) (YA 23 131071) rfl rfl (any_of HT_.out (by kernel_rfl)) (fun _ _ _ h => h) (Or.inr ⟨by rfl, rfl⟩) ?_ ?_
   rotate_left
   ·simp only [Act.put, Z0, Z1, Z2, i64_w, i32_w]
    rfl
   refine pure_ (i := 17) (N := some 20) (v := undef) (a' := ?_) (YA 23 262143) rfl rfl (any_of HT_.out (by kernel_rfl)) (fun _ _ _ h => h) (Or.inr ⟨by rfl, rfl⟩) ?_ ?_
   rotate_left
   ·simp only [Act.put, Z0, Z1, Z2, i64_w, i32_w]
    rfl
   refine pure_ (i := 18) (N := some 21) (v := undef) (a' := ?_) (YA 23 524287) rfl rfl (any_of HT_.out (by kernel_rfl)) (fun _ _ _ h => h) (Or.inr ⟨by rfl, rfl⟩) ?_ ?_
   rotate_left
   ·simp only [Act.put, Z0, Z1, Z2, i64_w, i32_w]
    rfl
   refine pure_ (i := 19) (N := some 22) (v := undef) (a' := ?_) (YA 23 1048575) rfl rfl (any_of HT_.out (by kernel_rfl)) (fun _ _ _ h => h) (Or.inr ⟨by rfl, rfl⟩) ?_ ?_
   rotate_left
   ·simp only [Act.put, Z0, Z1, Z2, i64_w, i32_w]
    rfl
   refine pure_ (i := 20) (N := some 23) (v := undef) (a' := ?_) (YA 23 2097151) rfl rfl (any_of HT_.out (by kernel_rfl)) (fun _ _ _ h => h) (Or.inr ⟨by rfl, rfl⟩) ?_ ?_
   rotate_left
   ·simp only [Act.put, Z0, Z1, Z2, i64_w, i32_w]
    rfl
   refine Yp 21 (some 24) (YA 23 4194303) rfl HT_.out ?_
   refine Yp 22 (some 2) (YA 23 8388607) rfl HT_.out ?_
   refine done_ (done_of HT_.out (by kernel_rfl)) ?_
   try go_wp2
   go_ret
   exact ⟨Q2, Q12⟩
 ·replace c3 := Bool.eq_false_iff.mpr c3
  subst c3
  have H1 : (some false) = some r := by rw [if_neg (show ¬ (false = true) by decide)] at H; exact H
  clear H
  have H := H1
  clear H1
  obtain rfl := Option.some.inj H
  go_enter Try.func34, Try.ntmps34
  try go_wp2_with (first | ((with_reducible refine gate_dst (N := 1) rfl ?_); refine Yx 1 #[.slice A0_0 l0_0.length c0_0, .slice A0_1 l0_1.length c0_1, .slice A0_2 l0_2.length c0_2, .slice A0_3 l0_3.length c0_3] 27 ?_; intro gb485 hg w22 hbox hb; have BK485 := Ya hbox; have GE485 := Yg hg; replace HB := Yh hb; clear hb hbox hg))
  replace BK485 := Ya (Z23 BK485.out)
  replace HB := Ya (Z4 HB.out)
  refine start_ (n := 23) (S := fun w' => w'.cell? ⟨gb485, 0, none⟩ = some (.slice A0_0 l0_0.length c0_0) ∧ w'.cell? ⟨gb485, 1, none⟩ = some (.slice A0_1 l0_1.length c0_1) ∧ w'.cell? ⟨gb485, 2, none⟩ = some (.slice A0_2 l0_2.length c0_2) ∧ w'.cell? ⟨gb485, 3, none⟩ = some (.slice A0_3 l0_3.length c0_3)) (ds := []) (YA 23 0) (by kernel_rfl) rfl rfl ⟨(Z20 BK485.out 0).trans rfl, (Z20 BK485.out 1).trans rfl, (Z20 BK485.out 2).trans rfl, (Z20 BK485.out 3).trans rfl⟩ (fun hHeld => ?_); refine with_tabW impl_IsFocus.tab1 impl_IsFocus.bits1 (fun HT_ HW_ => ?_)
  generalize w22.drew = w23 at BK485 HB hHeld ⊢
  refine Yp 0 (some 3) (YA 23 1) rfl HT_.out ?_
  refine Yt 1 (some 4) (YA 23 3) rfl HT_.out HW_.out hHeld Q3 ?_
  refine one_ (i := 2) (N := some 5) (YA 23 7) rfl rfl (one_of HT_.out (by kernel_rfl)) (by decide) (fun K hK => ?_)
  refine goes_ Try.func64 (by kernel_rfl) rfl #[.slice A0_0 l0_0.length c0_0] (by rfl) rfl rfl Q6 ?_
  with_reducible refine (impl_areFocusBases.calls k _ _ l0_0 false _ ?side1 ?side2 A2.out).mono ?_
  (case side1 => exact Yc (Z19 HR0_0.out HB.out))
  (case side2 => exact HC0_0.out)
  rintro e w24 ⟨rfl, hb⟩
  refine ⟨_, rfl, ?_⟩
  replace BK485 := Yb BK485 hb
  replace HB := Yh hb
  (try clear hb)
  refine hK.out _ _ ⟨(Z20 BK485.out 0).trans rfl, (Z20 BK485.out 1).trans rfl, (Z20 BK485.out 2).trans rfl, (Z20 BK485.out 3).trans rfl⟩ (fun hHeld => ?_)
  clear hK K
  refine norm_ (a' := ?_) ?_ ?_
  rotate_left
  ·show Act.put _ (some 5) _ = _
   simp only [Act.put, Z0, Z1, Z2, i64_w, i32_w]
   rfl
  refine Yp 3 (some 6) (YA 23 15) rfl HT_.out ?_
  refine pure_ (i := 4) (N := some 7) (v := undef) (a' := ?_) (YA 23 31) rfl rfl (any_of HT_.out (by kernel_rfl)) (fun _ _ _ h => h) (Or.inr ⟨by rfl, rfl⟩) ?_ ?_
  rotate_left
  ·simp only [Act.put, Z0, Z1, Z2, i64_w, i32_w]
   rfl
  refine pure_ (i := 5) (N := some 8) (v := undef) (a' := ?_) (YA 23 63) rfl rfl (any_of HT_.out (by kernel_rfl)) (fun _ _ _ h => h) (Or.inr ⟨by rfl, rfl⟩) ?_ ?_
  rotate_left
  ·simp only [Act.put, Z0, Z1, Z2, i64_w, i32_w]
   rfl
  refine pure_ (i := 6) (N := some 9) (v := undef) (a' := ?_) (YA 23 127) rfl rfl (any_of HT_.out (by kernel_rfl)) (fun _ _ _ h => h) (Or.inr ⟨by rfl, rfl⟩) ?_ ?_
  rotate_left
  ·simp only [Act.put, Z0, Z1, Z2, i64_w, i32_w]
   rfl
  refine pure_ (i := 7) (N := some 10) (v := undef) (a' := ?_) (YA 23 255) rfl rfl (any_of HT_.out (by kernel_rfl)) (fun _ _ _ h => h) (Or.inr ⟨by rfl, rfl⟩) ?_ ?_
  rotate_left
  ·simp only [Act.put, Z0, Z1, Z2, i64_w, i32_w]
   rfl
  refine pure_ (i := 8) (N := some 11) (v := undef) (a' := ?_) (YA 23 511) rfl rfl (any_of HT_.out (by kernel_rfl)) (fun _ _ _ h => h) (Or.inr ⟨by rfl, rfl⟩) ?_ ?_
  rotate_left
  ·simp only [Act.put, Z0, Z1, Z2, i64_w, i32_w]
   rfl
  refine Yp 9 (some 12) (YA 23 1023) rfl HT_.out ?_
  refine Yp 10 (some 13) (YA 23 2047) rfl HT_.out ?_
  refine pure_ (i := 11) (N := some 14) (v := undef) (a' := ?_) (YA 23 4095) rfl rfl (any_of HT_.out (by kernel_rfl)) (fun _ _ _ h => h) (Or.inr ⟨by rfl, rfl⟩) ?_ ?_
  rotate_left
  ·simp only [Act.put, Z0, Z1, Z2, i64_w, i32_w]
   rfl
  refine pure_ (i := 12) (N := some 15) (v := undef) (a' := ?_) (YA 23 8191) rfl rfl (any_of HT_.out (by kernel_rfl)) (fun _ _ _ h => h) (Or.inr ⟨by rfl, rfl⟩) ?_ ?_
  rotate_left
  ·simp only [Act.put, Z0, Z1, Z2, i64_w, i32_w]
   rfl
  refine pure_ (i := 13) (N := some 16) (v := undef) (a' := ?_) (YA 23 16383) rfl rfl (any_of HT_.out (by kernel_rfl)) (fun _ _ _ h => h) (Or.inr ⟨by rfl, rfl⟩) ?_ ?_
  rotate_left
  ·simp only [Act.put, Z0, Z1, Z2, i64_w, i32_w]
   rfl
  refine pure_ (i := 14) (N := some 17) (v := undef) (a' := ?_) (YA 23 32767) rfl rfl (any_of HT_.out (by kernel_rfl)) (fun _ _ _ h => h) (Or.inr ⟨by rfl, rfl⟩) ?_ ?_
  rotate_left
  ·simp only [Act.put, Z0, Z1, Z2, i64_w, i32_w]
   rfl
  refine pure_ (i := 15) (N := some 18) (v := undef) (a' := ?_) (YA 23 65535) rfl rfl (any_of HT_.out (by kernel_rfl)) (fun _ _ _ h => h) (Or.inr ⟨by rfl, rfl⟩) ?_ ?_
  rotate_left
  ·simp only [Act.put, Z0, Z1, Z2, i64_w, i32_w]
   rfl
  refine pure_ (i := 16) (N := some 19) (v := undef) (a' := ?_) (YA 23 131071) rfl rfl (any_of HT_.out (by kernel_rfl)) (fun _ _ _ h => h) (Or.inr ⟨by rfl, rfl⟩) ?_ ?_
  rotate_left
  ·simp only [Act.put, Z0, Z1, Z2, i64_w, i32_w]
   rfl
  refine pure_ (i := 17) (N := some 20) (v := undef) (a' := ?_) (YA 23 262143) rfl rfl (any_of HT_.out (by kernel_rfl)) (fun _ _ _ h => h) (Or.inr ⟨by rfl, rfl⟩) ?_ ?_
  rotate_left
  ·simp only [Act.put, Z0, Z1, Z2, i64_w, i32_w]
   rfl
  refine pure_ (i := 18) (N := some 21) (v := undef) (a' := ?_) (YA 23 524287) rfl rfl (any_of HT_.out (by kernel_rfl)) (fun _ _ _ h => h) (Or.inr ⟨by rfl, rfl⟩) ?_ ?_
  rotate_left
  ·simp only [Act.put, Z0, Z1, Z2, i64_w, i32_w]
   rfl
  refine pure_ (i := 19) (N := some 22) (v := undef) (a' := ?_) (YA 23 1048575) rfl rfl (any_of HT_.out (by kernel_rfl)) (fun _ _ _ h => h) (Or.inr ⟨by rfl, rfl⟩) ?_ ?_
  rotate_left
  ·simp only [Act.put, Z0, Z1, Z2, i64_w, i32_w]
   rfl
  refine pure_ (i := 20) (N := some 23) (v := undef) (a' := ?_) (YA 23 2097151) rfl rfl (any_of HT_.out (by kernel_rfl)) (fun _ _ _ h => h) (Or.inr ⟨by rfl, rfl⟩) ?_ ?_
  rotate_left
  ·simp only [Act.put, Z0, Z1, Z2, i64_w, i32_w]
   rfl
  refine Yp 21 (some 24) (YA 23 4194303) rfl HT_.out ?_
  refine Yp 22 (some 2) (YA 23 8388607) rfl HT_.out ?_
  refine done_ (done_of HT_.out (by kernel_rfl)) ?_
  try go_wp2
  go_ret
  exact ⟨Q2, Q12⟩
end Go.Proofs.Ytpfakdhfffehaaa.MFnExactSwapperRank
