import Derived.Test.YtpfakdhfffehaaaMFnExactIsSwapperx0
import Derived.Test.YtpfakdhfffehaaaMFnExactIsSwapperx1
import Derived.Test.YtpfakdhfffehaaaMFnExactIsSwapperx2
namespace Go.Proofs.Ytpfakdhfffehaaa.MFnExactIsSwapper
open Go.RowKit Go.Proofs.YtpfakdhfffehaaaW.PrintWords Go.Proofs.YtpfakdhfffehaaaW.PrintLast Go.Proofs.YtpfakdhfffehaaaW.PrintMore
attribute [local go_sem] max2_int min2_int max_two min_two max_three min_three max_four min_four   
set_option linter.unusedVariables false
set_option linter.unusedSimpArgs false
def spec_foStart.l0 : Nat → Int → Int → List Int → List Int → List Bool → List Int → Option (List Int × List Int × List Bool × List Int)
 | 0, _, _, _, _, _, _ => none
 | k + 1, x15, x16, x172000, x172001, x172002, x172003 => if x16 < x15 then (if x172002.length < 140737488355328 then (spec_foStart.l0 k x15 (wrap64 (x16 + 1)) x172000 x172001 (x172002 ++ [true]) x172003) else (none)) else (some (x172000, x172001, x172002, x172003))
def spec_foStart.f (k : Nat) (l0 : List Int) : Option (List Int × List Int × List Bool × List Int) := (spec_l1Own.f l0).bind fun t162 => (if 0 ≤ (l0.length : Int) then (if ((l0.length : Int) : Int).toNat ≤ 35184372088832 then ((spec_raUpTo.f k (wrap64 ((l0.length : Int) + 1))).bind fun t168 => (spec_foStart.l0 k (l0.length : Int) 0 t162 (List.replicate ((l0.length : Int) : Int).toNat 0) ([] : List Bool) t168)) else (none)) else (none))
theorem spec_foStart.mono_l : ∀ k, (∀ y0 y1 y2 y3 y4 y5, LeO (spec_foStart.l0 k y0 y1 y2 y3 y4 y5) (spec_foStart.l0 (k + 1) y0 y1 y2 y3 y4 y5))
 | 0 => fun _ _ _ _ _ _ r h => by simp [spec_foStart.l0] at h
 | k + 1 => by
  have ih0 := spec_foStart.mono_l k
  ·intro y0 y1 y2 y3 y4 y5
   unfold spec_foStart.l0
   repeat' first
   | (with_reducible exact ih0 _ _ _ _ _ _)
   | (with_reducible exact spec_raUpTo.mono _ _)
   | (with_reducible exact LeO.refl _)
   | (with_reducible exact LeO.none _)
   | (with_reducible refine LeO.ite ?_ ?_)
   | (with_reducible refine LeO.bind ?_ (fun _ => ?_))
   | exact ih0 _ _ _ _ _ _
   | exact spec_raUpTo.mono _ _
   | exact LeO.none _
   | refine LeO.ite ?_ ?_
   | refine LeO.bind ?_ (fun _ => ?_)
theorem spec_foStart.mono : ∀ a0 k, LeO (spec_foStart.f k a0) (spec_foStart.f (k + 1) a0) := by
 intro a0 k
 have ih0 := spec_foStart.mono_l k
 unfold spec_foStart.f
 repeat' first
   | (with_reducible exact ih0 _ _ _ _ _ _)
   | (with_reducible exact spec_raUpTo.mono _ _)
   | (with_reducible exact LeO.refl _)
   | (with_reducible exact LeO.none _)
   | (with_reducible refine LeO.ite ?_ ?_)
   | (with_reducible refine LeO.bind ?_ (fun _ => ?_))
   | exact ih0 _ _ _ _ _ _
   | exact spec_raUpTo.mono _ _
   | exact LeO.none _
   | refine LeO.ite ?_ ?_
   | refine LeO.bind ?_ (fun _ => ?_)
def spec_foStart.T1 : Bool × List (List Nat × List Nat) := (true, [([], []), ([0], [0]), ([], []), ([2], [2]), ([3, 3], [3]), ([], []), ([5], [5]), ([6], [6]), ([7, 1], [7]), ([1, 4, 8], [1, 4, 8]), ([], []), ([10, 9, 8, 0, 1, 2, 3, 4, 5, 6, 7, 8, 9, 10], [9, 10])])
def spec_foStart.B1 : List Nat := [0, 1, 0, 4, 12, 0, 32, 96, 227, 511, 0, 2047]
theorem spec_foStart.tab1 : rtab .any (opsOf Try.f78 1) = spec_foStart.T1 := by kernel_rfl
theorem spec_foStart.bits1 : waitsOk spec_foStart.T1.2 spec_foStart.B1 = true := by kernel_rfl
set_option maxHeartbeats 8000000 in
set_option maxRecDepth 100000 in
theorem spec_foStart.calls (k : Nat) (A0 : Option Addr) (c0 : Nat) (l0 : List Int) (r1 : List Int) (r2 : List Int) (r3 : List Bool) (r4 : List Int) (w : World) (hr0 : Kd.C (Kd.int .i64) w A0 l0.length l0) (hc0 : l0.length ≤ c0) (h : spec_foStart.f k l0 = some (r1, r2, r3, r4)) :
  Calls Try.prog 78 #[.slice A0 l0.length c0] w fun e w' => ∃ v0_ v1_ v2_ v3_ : Value, e = .returned (.agg #[v0_, v1_, v2_, v3_]) ∧ Kd.R (Kd.int .i64) 3 w' w.heap.size (fun k_ => some k_ ≠ (v1_ : Value).ownBlock ∧ some k_ ≠ (v3_ : Value).ownBlock) v0_ r1 ∧ Kd.R (Kd.int .i64) 3 w' w.heap.size (fun k_ => some k_ ≠ (v0_ : Value).ownBlock ∧ some k_ ≠ (v3_ : Value).ownBlock) v1_ r2 ∧ Kd.R Kd.bool 4 w' w.heap.size (fun _ => True) v2_ r3 ∧ Kd.R (Kd.int .i64) 3 w' w.heap.size (fun k_ => some k_ ≠ (v0_ : Value).ownBlock ∧ some k_ ≠ (v1_ : Value).ownBlock) v3_ r4 ∧ Below w.heap.size w w' := by
 have hu27 := Try.underlying27
 have HR0 := Ya hr0
 have HC0 := Ya hc0
 clear hr0 hc0
 have HB := Ya (Below.refl w.heap.size w)
 have H : ((spec_l1Own.f l0).bind fun t162 => (if 0 ≤ (l0.length : Int) then (if ((l0.length : Int) : Int).toNat ≤ 35184372088832 then ((spec_raUpTo.f k (wrap64 ((l0.length : Int) + 1))).bind fun t168 => (spec_foStart.l0 k (l0.length : Int) 0 t162 (List.replicate ((l0.length : Int) : Int).toNat 0) ([] : List Bool) t168)) else (none)) else (none))) = some (r1, r2, r3, r4) := h
 clear h
 replace H := Z33.mp H
 obtain ⟨t162, A20, H⟩ := H
 replace H : (if 0 ≤ (l0.length : Int) then (if ((l0.length : Int) : Int).toNat ≤ 35184372088832 then ((spec_raUpTo.f k (wrap64 ((l0.length : Int) + 1))).bind fun t168 => (spec_foStart.l0 k (l0.length : Int) 0 t162 (List.replicate ((l0.length : Int) : Int).toNat 0) ([] : List Bool) t168)) else (none)) else (none)) = some (r1, r2, r3, r4) := H
 have A2 := Ya A20
 clear A20
 by_cases c3 : 0 ≤ (l0.length : Int)
 ·rw [if_pos c3] at H
  have c3b0 := eq_true c3
  have c3b1 : decide (0 ≤ (l0.length : Int)) = true := Z35 c3
  have HLEc3 := Ya c3
  clear c3
  by_cases c4 : ((l0.length : Int) : Int).toNat ≤ 35184372088832
  ·rw [if_pos c4] at H
   have c4b0 := eq_true c4
   have c4b1 : decide (((l0.length : Int) : Int).toNat ≤ 35184372088832) = true := Z35 c4
   clear c4
   obtain ⟨y165, hy165⟩ : ∃ y_ : List Int, y_ = (List.replicate ((l0.length : Int) : Int).toNat 0) := ⟨_, rfl⟩
   replace H : ((spec_raUpTo.f k (wrap64 ((l0.length : Int) + 1))).bind fun t168 => (spec_foStart.l0 k (l0.length : Int) 0 t162 y165 ([] : List Bool) t168)) = some (r1, r2, r3, r4) := by first | (rw [hy165]; with_reducible exact H) | (have H2_ := (Option.bind_some _ _).symm.trans H; rw [hy165]; with_reducible exact H2_) | (have H2_ := (Option.bind_some _ _).symm.trans H; with_reducible exact H2_) | with_reducible exact H | (rw [hy165]; exact H) | exact H
   have Ny165 := Ya hy165
   clear hy165
   replace H := Z33.mp H
   obtain ⟨t168, A50, H⟩ := H
   replace H : (spec_foStart.l0 k (l0.length : Int) 0 t162 y165 ([] : List Bool) t168) = some (r1, r2, r3, r4) := H
   have A5 := Ya A50
   clear A50
   have H' := Ya H
   clear H
   go_enter Try.func78, Try.ntmps78
   try go_wp2_with (first | ((with_reducible refine gate_dst (N := 2) rfl ?_); refine Yx 2 #[.slice none 0 0, .slice none 0 0, .slice none 0 0, .slice none 0 0] 27 ?_; intro gb161 hg w6 hbox hb; have BK161 := Ya hbox; have GW161 := Yg hg; have GE161 := GW161; replace HB := Yh hb; clear hb hbox hg))
   replace BK161 := Ya (Z23 BK161.out)
   replace HB := Ya (Z4 HB.out)
   refine start_ (n := 12) (S := fun w' => True) (ds := []) (YA 12 0) (by kernel_rfl) rfl rfl trivial (fun hHeld => ?_); refine with_tabW spec_foStart.tab1 spec_foStart.bits1 (fun HT_ HW_ => ?_)
   generalize w6.drew = w7 at BK161 HB hHeld ⊢
   refine Yp 0 (some 4) (YA 12 1) rfl HT_.out ?_
   refine Yp 2 (some 6) (YA 12 5) rfl HT_.out ?_
   refine Yp 3 (some 7) (YA 12 13) rfl HT_.out ?_
   refine Yp 5 (some 9) (YA 12 45) rfl HT_.out ?_
   refine Yp 6 (some 10) (YA 12 109) rfl HT_.out ?_
   refine Yp 7 (some 11) (YA 12 237) rfl HT_.out ?_
   refine join_ (σ := Value × Value × Value × Nat) 1 (YA 12 2047) (fun s_ => [(5, s_.1), (8, s_.2.1), (12, s_.2.2.1), (3, .pointer (some ⟨s_.2.2.2, 0, none⟩)), (13, .agg #[s_.1, s_.2.1, .slice none 0 0, s_.2.2.1])]) (fun s_ w' => (Kd.R (Kd.int .i64) 3 w' w.heap.size (fun k_ => some k_ ≠ (s_.2.1 : Value).ownBlock ∧ some k_ ≠ (s_.2.2.1 : Value).ownBlock) s_.1 t162) ∧ (Kd.R (Kd.int .i64) 3 w' w.heap.size (fun k_ => some k_ ≠ (s_.1 : Value).ownBlock ∧ some k_ ≠ (s_.2.2.1 : Value).ownBlock) s_.2.1 y165) ∧ (Kd.R (Kd.int .i64) 3 w' w.heap.size (fun k_ => some k_ ≠ (s_.1 : Value).ownBlock ∧ some k_ ≠ (s_.2.1 : Value).ownBlock) s_.2.2.1 t168) ∧ (w'.heap[gb161]? = some (.cells #[.slice none 0 0, .slice none 0 0, .slice none 0 0, .slice none 0 0] 27 (0, 0))) ∧ (w'.heap[s_.2.2.2]? = some (.cells #[.slice none 0 0, .slice none 0 0, .slice none 0 0, .slice none 0 0] 27 (0, 0))) ∧ (w.heap.size ≤ s_.2.2.2) ∧ (w.heap.size ≤ s_.2.2.2) ∧ (gb161 ≠ s_.2.2.2) ∧ (s_.2.2.2 ≠ gb161) ∧ (Below w.heap.size w w')) ?_ ?_
   rotate_left
   ·intro hJ1_4_8_10
    refine join_ (σ := Value × Value × Value) 2 (YA 12 1023) (fun s_ => [(5, s_.1), (8, s_.2.1), (12, s_.2.2), (13, .agg #[s_.1, s_.2.1, .slice none 0 0, s_.2.2])]) (fun s_ w' => (Kd.R (Kd.int .i64) 3 w' w.heap.size (fun k_ => some k_ ≠ (s_.2.1 : Value).ownBlock ∧ some k_ ≠ (s_.2.2 : Value).ownBlock) s_.1 t162) ∧ (Kd.R (Kd.int .i64) 3 w' w.heap.size (fun k_ => some k_ ≠ (s_.1 : Value).ownBlock ∧ some k_ ≠ (s_.2.2 : Value).ownBlock) s_.2.1 y165) ∧ (Kd.R (Kd.int .i64) 3 w' w.heap.size (fun k_ => some k_ ≠ (s_.1 : Value).ownBlock ∧ some k_ ≠ (s_.2.1 : Value).ownBlock) s_.2.2 t168) ∧ (w'.heap[gb161]? = some (.cells #[.slice none 0 0, .slice none 0 0, .slice none 0 0, .slice none 0 0] 27 (0, 0))) ∧ (Below w.heap.size w w')) ?_ ?_
    rotate_left
    ·intro hJ1_4_8
     refine join_ (σ := Value × Value × Nat) 3 (YA 12 1279) (fun s_ => [(5, s_.1), (8, s_.2.1), (3, .pointer (some ⟨s_.2.2, 0, none⟩))]) (fun s_ w' => (Kd.R (Kd.int .i64) 3 w' w.heap.size (fun k_ => some k_ ≠ (s_.2.1 : Value).ownBlock) s_.1 t162) ∧ (Kd.R (Kd.int .i64) 3 w' w.heap.size (fun k_ => some k_ ≠ (s_.1 : Value).ownBlock) s_.2.1 y165) ∧ (w'.heap[gb161]? = some (.cells #[.slice none 0 0, .slice none 0 0, .slice none 0 0, .slice none 0 0] 27 (0, 0))) ∧ (w'.heap[s_.2.2]? = some (.cells #[.slice none 0 0, .slice none 0 0, .slice none 0 0, .slice none 0 0] 27 (0, 0))) ∧ (w.heap.size ≤ s_.2.2) ∧ (w.heap.size ≤ s_.2.2) ∧ (gb161 ≠ s_.2.2) ∧ (s_.2.2 ≠ gb161) ∧ (Below w.heap.size w w')) ?_ ?_
     rotate_left
     ·intro hJ1_4_10
      refine join_ (σ := Value × Value × Nat) 3 (YA 12 1519) (fun s_ => [(5, s_.1), (12, s_.2.1), (3, .pointer (some ⟨s_.2.2, 0, none⟩))]) (fun s_ w' => (Kd.R (Kd.int .i64) 3 w' w.heap.size (fun k_ => some k_ ≠ (s_.2.1 : Value).ownBlock) s_.1 t162) ∧ (Kd.R (Kd.int .i64) 3 w' w.heap.size (fun k_ => some k_ ≠ (s_.1 : Value).ownBlock) s_.2.1 t168) ∧ (w'.heap[gb161]? = some (.cells #[.slice none 0 0, .slice none 0 0, .slice none 0 0, .slice none 0 0] 27 (0, 0))) ∧ (w'.heap[s_.2.2]? = some (.cells #[.slice none 0 0, .slice none 0 0, .slice none 0 0, .slice none 0 0] 27 (0, 0))) ∧ (w.heap.size ≤ s_.2.2) ∧ (w.heap.size ≤ s_.2.2) ∧ (gb161 ≠ s_.2.2) ∧ (s_.2.2 ≠ gb161) ∧ (Below w.heap.size w w')) ?_ ?_
      rotate_left
      ·intro hJ1_8_10
       refine join_ (σ := Value × Value) 4 (YA 12 255) (fun s_ => [(5, s_.1), (8, s_.2)]) (fun s_ w' => (Kd.R (Kd.int .i64) 3 w' w.heap.size (fun k_ => some k_ ≠ (s_.2 : Value).ownBlock) s_.1 t162) ∧ (Kd.R (Kd.int .i64) 3 w' w.heap.size (fun k_ => some k_ ≠ (s_.1 : Value).ownBlock) s_.2 y165) ∧ (w'.heap[gb161]? = some (.cells #[.slice none 0 0, .slice none 0 0, .slice none 0 0, .slice none 0 0] 27 (0, 0))) ∧ (Below w.heap.size w w')) ?_ ?_
       rotate_left
       ·intro hJ1_4
        refine join_ (σ := Value × Value) 4 (YA 12 495) (fun s_ => [(5, s_.1), (12, s_.2)]) (fun s_ w' => (Kd.R (Kd.int .i64) 3 w' w.heap.size (fun k_ => some k_ ≠ (s_.2 : Value).ownBlock) s_.1 t162) ∧ (Kd.R (Kd.int .i64) 3 w' w.heap.size (fun k_ => some k_ ≠ (s_.1 : Value).ownBlock) s_.2 t168) ∧ (w'.heap[gb161]? = some (.cells #[.slice none 0 0, .slice none 0 0, .slice none 0 0, .slice none 0 0] 27 (0, 0))) ∧ (Below w.heap.size w w')) ?_ ?_
        rotate_left
        ·intro hJ1_8
         refine join_ (σ := Value × Nat) 4 (YA 12 1263) (fun s_ => [(5, s_.1), (3, .pointer (some ⟨s_.2, 0, none⟩))]) (fun s_ w' => (Kd.R (Kd.int .i64) 3 w' w.heap.size (fun _ => True) s_.1 t162) ∧ (w'.heap[gb161]? = some (.cells #[.slice none 0 0, .slice none 0 0, .slice none 0 0, .slice none 0 0] 27 (0, 0))) ∧ (w'.heap[s_.2]? = some (.cells #[.slice none 0 0, .slice none 0 0, .slice none 0 0, .slice none 0 0] 27 (0, 0))) ∧ (w.heap.size ≤ s_.2) ∧ (w.heap.size ≤ s_.2) ∧ (gb161 ≠ s_.2) ∧ (s_.2 ≠ gb161) ∧ (Below w.heap.size w w')) ?_ ?_
         rotate_left
         ·intro hJ1_10
          refine join_ (σ := Value × Nat) 4 (YA 12 1277) (fun s_ => [(8, s_.1), (3, .pointer (some ⟨s_.2, 0, none⟩))]) (fun s_ w' => (Kd.R (Kd.int .i64) 3 w' w.heap.size (fun _ => True) s_.1 y165) ∧ (w'.heap[gb161]? = some (.cells #[.slice none 0 0, .slice none 0 0, .slice none 0 0, .slice none 0 0] 27 (0, 0))) ∧ (w'.heap[s_.2]? = some (.cells #[.slice none 0 0, .slice none 0 0, .slice none 0 0, .slice none 0 0] 27 (0, 0))) ∧ (w.heap.size ≤ s_.2) ∧ (w.heap.size ≤ s_.2) ∧ (gb161 ≠ s_.2) ∧ (s_.2 ≠ gb161) ∧ (Below w.heap.size w w')) ?_ ?_
          rotate_left
          ·intro hJ4_10
           refine join_ (σ := Value) 5 (YA 12 239) (fun s_ => [(5, s_)]) (fun s_ w' => (Kd.R (Kd.int .i64) 3 w' w.heap.size (fun _ => True) s_ t162) ∧ (w'.heap[gb161]? = some (.cells #[.slice none 0 0, .slice none 0 0, .slice none 0 0, .slice none 0 0] 27 (0, 0))) ∧ (Below w.heap.size w w')) ?_ ?_
           rotate_left
           ·intro hJ1
            refine join_ (σ := Value) 5 (YA 12 253) (fun s_ => [(8, s_)]) (fun s_ w' => (Kd.R (Kd.int .i64) 3 w' w.heap.size (fun _ => True) s_ y165) ∧ (w'.heap[gb161]? = some (.cells #[.slice none 0 0, .slice none 0 0, .slice none 0 0, .slice none 0 0] 27 (0, 0))) ∧ (Below w.heap.size w w')) ?_ ?_
            rotate_left
            ·intro hJ4
             refine join_ (σ := Nat) 5 (YA 12 1261) (fun s_ => [(3, .pointer (some ⟨s_, 0, none⟩))]) (fun s_ w' => (w'.heap[gb161]? = some (.cells #[.slice none 0 0, .slice none 0 0, .slice none 0 0, .slice none 0 0] 27 (0, 0))) ∧ (w'.heap[s_]? = some (.cells #[.slice none 0 0, .slice none 0 0, .slice none 0 0, .slice none 0 0] 27 (0, 0))) ∧ (w.heap.size ≤ s_) ∧ (w.heap.size ≤ s_) ∧ (gb161 ≠ s_) ∧ (s_ ≠ gb161) ∧ (Below w.heap.size w w')) ?_ ?_
             rotate_left
             ·intro hJ10
              refine three_ (i := 1) (j := 4) (k := 10) (Ni := some 5) (Nj := some 8) (Nk := some 3) (YA 12 239) (YA 12 253) (YA 12 1261) rfl rfl rfl rfl rfl rfl (three_of HT_.out (by kernel_rfl)) (by decide) (by decide) (by decide) (fun K hK => ?_) (fun K hK => ?_) (fun K hK => ?_)
              ·skip
               refine goes_ Try.func79 (by kernel_rfl) rfl #[.slice A0 l0.length c0] (by rfl) rfl rfl Q6 ?_
               with_reducible refine (spec_l1Own.calls _ _ l0 t162 _ ?side1 ?side2 A2.out).mono ?_
               (case side1 => exact Yc (Z19 HR0.out HB.out))
               (case side2 => exact HC0.out)
               rintro e w8 ⟨v163, rfl, ho0, hb⟩
               refine ⟨_, rfl, ?_⟩
               have HO164 := Yl ho0
               replace BK161 := Yb BK161 hb
               replace HB := Yh hb
               (try clear hb ho0)
               refine hK.out _ _ trivial (fun hHeld => ?_)
               clear hK K
               refine norm_ (a' := ?_) ?_ ?_
               rotate_left
               ·show Act.put _ (some 5) _ = _
                simp only [Act.put, Z0, Z1, Z2, i64_w, i32_w]
                rfl
               exact norm_ Q4 (hJ1 (v163) _ ⟨(Yr HO164.out), (Yk BK161.out), Q0⟩)
              ·skip
               refine Kd.R_make_step (Kd.int .i64) _ 3 (by rfl) (N := 8) rfl 22 _ _ rfl (l0.length : Int) rfl rfl Try.underlying22 (.int .i64 0) 8 info3 rfl (by decide) (by omega) 0 (ok := fun _ => True) (okp := fun _ => True) rfl (fun _ hk => hk) trivial (Z27 Q1) (Nat.le_trans (Nat.mul_le_mul_right _ (Z27 Q1 : (l0.length : Int).toNat ≤ 35184372088832)) (by omega)) (Below.refl _ _) (Nat.le_refl _) ?_
               intro v166 w8 ho9 hb hg_ hnew_
               clear hg_ hnew_
               (first | rw [← Ny165.out] at ho9 | (simp only [Int.reduceToNat] at ho9; rw [← Ny165.out] at ho9))
               have HO167 := Yl ho9
               replace BK161 := Yb BK161 hb
               replace HB := Yh hb
               clear hb ho9
               refine hK.out _ _ trivial (fun hHeld => ?_)
               clear hK K
               refine norm_ (a' := ?_) ?_ ?_
               rotate_left
               ·show Act.put _ (some 8) _ = _
                simp only [Act.put, Z0, Z1, Z2, i64_w, i32_w]
                rfl
               exact norm_ Q4 (hJ4 (v166) _ ⟨(Yr HO167.out), (Yk BK161.out), Q0⟩)
              ·skip
               refine Yy 3 #[.slice none 0 0, .slice none 0 0, .slice none 0 0, .slice none 0 0] 27 ?_
               intro gb171 hg w8 hbox hb
               have BK171 := Ya hbox
               have GW171 := Yg hg
               have GE171 := GW171
               replace HB := Yh hb
               have NB161_171 := Yn BK161 hg
               have NB171_161 := Ym BK161 hg
               replace BK161 := Yb BK161 hb
               clear hb hbox hg
               refine hK.out _ _ trivial (fun hHeld => ?_)
               clear hK K
               refine norm_ (a' := ?_) ?_ ?_
               rotate_left
               ·show Act.put _ (some 3) _ = _
                simp only [Act.put, Z0, Z1, Z2, i64_w, i32_w]
                rfl
               exact norm_ Q4 (hJ10 (gb171) _ ⟨(Yk BK161.out), (Yk BK171.out), GW171.out, GE171.out, NB161_171.out, NB171_161.out, Q0⟩)
             ·skip
              rintro gb171 w9 ⟨h0_, h1_, h2_, h3_, h4_, h5_, h6_⟩
              replace BK161 : Aside0 (w9.heap[gb161]? = some (.cells #[.slice none 0 0, .slice none 0 0, .slice none 0 0, .slice none 0 0] 27 (0, 0))) := ⟨h0_⟩
              have BK171 : Aside0 (w9.heap[gb171]? = some (.cells #[.slice none 0 0, .slice none 0 0, .slice none 0 0, .slice none 0 0] 27 (0, 0))) := ⟨h1_⟩
              have GW171 : Aside0 (w.heap.size ≤ gb171) := ⟨h2_⟩
              have GE171 : Aside0 (w.heap.size ≤ gb171) := ⟨h3_⟩
              have NB161_171 : Aside0 (gb161 ≠ gb171) := ⟨h4_⟩
              have NB171_161 : Aside0 (gb171 ≠ gb161) := ⟨h5_⟩
              replace HB : Aside0 (Below w.heap.size w w9) := ⟨h6_⟩
              clear h0_ h1_ h2_ h3_ h4_ h5_ h6_
              have hHeld := trivial
              refine norm_ (a' := ?_) ?_ ?_
              rotate_left
              ·simp only [putAll, Act.put, Z0, Z1, Z2]
               rfl
              refine two_ (i := 1) (j := 4) (Ni := some 5) (Nj := some 8) (YA 12 1263) (YA 12 1277) rfl rfl rfl rfl (two_of HT_.out (by kernel_rfl)) (by decide) (by decide) (fun K hK => ?_) (fun K hK => ?_)
              ·skip
               refine goes_ Try.func79 (by kernel_rfl) rfl #[.slice A0 l0.length c0] (by rfl) rfl rfl Q6 ?_
               with_reducible refine (spec_l1Own.calls _ _ l0 t162 _ ?side1 ?side2 A2.out).mono ?_
               (case side1 => exact Yc (Z19 HR0.out HB.out))
               (case side2 => exact HC0.out)
               rintro e w10 ⟨v163, rfl, ho0, hb⟩
               refine ⟨_, rfl, ?_⟩
               have HO164 := Yl ho0
               replace BK161 := Yb BK161 hb
               replace BK171 := Yb BK171 hb
               replace HB := Yh hb
               (try clear hb ho0)
               refine hK.out _ _ trivial (fun hHeld => ?_)
               clear hK K
               refine norm_ (a' := ?_) ?_ ?_
               rotate_left
               ·show Act.put _ (some 5) _ = _
                simp only [Act.put, Z0, Z1, Z2, i64_w, i32_w]
                rfl
               exact norm_ Q4 (hJ1_10 (v163, gb171) _ ⟨(Yr HO164.out), (Yk BK161.out), (Yk BK171.out), GW171.out, GE171.out, NB161_171.out, NB171_161.out, Q0⟩)
              ·skip
               refine Kd.R_make_step (Kd.int .i64) _ 3 (by rfl) (N := 8) rfl 22 _ _ rfl (l0.length : Int) rfl rfl Try.underlying22 (.int .i64 0) 8 info3 rfl (by decide) (by omega) 0 (ok := fun _ => True) (okp := fun _ => True) rfl (fun _ hk => hk) trivial (Z27 Q1) (Nat.le_trans (Nat.mul_le_mul_right _ (Z27 Q1 : (l0.length : Int).toNat ≤ 35184372088832)) (by omega)) (Below.refl _ _) (Nat.le_refl _) ?_
               intro v166 w10 ho11 hb hg_ hnew_
               clear hg_ hnew_
               (first | rw [← Ny165.out] at ho11 | (simp only [Int.reduceToNat] at ho11; rw [← Ny165.out] at ho11))
               have HO167 := Yl ho11
               replace BK161 := Yb BK161 hb
               replace BK171 := Yb BK171 hb
               replace HB := Yh hb
               clear hb ho11
               refine hK.out _ _ trivial (fun hHeld => ?_)
               clear hK K
               refine norm_ (a' := ?_) ?_ ?_
               rotate_left
               ·show Act.put _ (some 8) _ = _
                simp only [Act.put, Z0, Z1, Z2, i64_w, i32_w]
                rfl
               exact norm_ Q4 (hJ4_10 (v166, gb171) _ ⟨(Yr HO167.out), (Yk BK161.out), (Yk BK171.out), GW171.out, GE171.out, NB161_171.out, NB171_161.out, Q0⟩)
            ·skip
             rintro v166 w10 ⟨h0_, h1_, h2_⟩
             have HO167 : Aside0 (Kd.R (Kd.int .i64) 3 w10 w.heap.size (fun _ => True) v166 y165) := ⟨h0_⟩
             replace BK161 : Aside0 (w10.heap[gb161]? = some (.cells #[.slice none 0 0, .slice none 0 0, .slice none 0 0, .slice none 0 0] 27 (0, 0))) := ⟨h1_⟩
             replace HB : Aside0 (Below w.heap.size w w10) := ⟨h2_⟩
             clear h0_ h1_ h2_
             have hHeld := trivial
             refine norm_ (a' := ?_) ?_ ?_
             rotate_left
             ·simp only [putAll, Act.put, Z0, Z1, Z2]
              rfl
             refine two_ (i := 1) (j := 10) (Ni := some 5) (Nj := some 3) (YA 12 255) (YA 12 1277) rfl rfl rfl rfl (two_of HT_.out (by kernel_rfl)) (by decide) (by decide) (fun K hK => ?_) (fun K hK => ?_)
             ·skip
              refine goes_ Try.func79 (by kernel_rfl) rfl #[.slice A0 l0.length c0] (by rfl) rfl rfl Q6 ?_
              with_reducible refine (spec_l1Own.calls _ _ l0 t162 _ ?side1 ?side2 A2.out).mono ?_
              (case side1 => exact Yc (Z19 HR0.out HB.out))
              (case side2 => exact HC0.out)
              rintro e w11 ⟨v163, rfl, ho0, hb⟩
              refine ⟨_, rfl, ?_⟩
              have HO164 := Yl (Kd.R_new' ho0 (Z17 (Yr HO167.out)))
              replace HO167 := Ya (Kd.R_elder' (Yr HO167.out) (Kd.R_base ho0) hb)
              replace BK161 := Yb BK161 hb
              replace HB := Yh hb
              (try clear hb ho0)
              refine hK.out _ _ trivial (fun hHeld => ?_)
              clear hK K
              refine norm_ (a' := ?_) ?_ ?_
              rotate_left
              ·show Act.put _ (some 5) _ = _
               simp only [Act.put, Z0, Z1, Z2, i64_w, i32_w]
               rfl
              exact norm_ Q4 (hJ1_4 (v163, v166) _ ⟨Q33, Q46, (Yk BK161.out), Q0⟩)
             ·skip
              refine Yy 3 #[.slice none 0 0, .slice none 0 0, .slice none 0 0, .slice none 0 0] 27 ?_
              intro gb171 hg w11 hbox hb
              replace HO167 := Yw HO167 hb
              have BK171 := Ya hbox
              have GW171 := Yg hg
              have GE171 := GW171
              replace HB := Yh hb
              have NB161_171 := Yn BK161 hg
              have NB171_161 := Ym BK161 hg
              replace BK161 := Yb BK161 hb
              clear hb hbox hg
              refine hK.out _ _ trivial (fun hHeld => ?_)
              clear hK K
              refine norm_ (a' := ?_) ?_ ?_
              rotate_left
              ·show Act.put _ (some 3) _ = _
               simp only [Act.put, Z0, Z1, Z2, i64_w, i32_w]
               rfl
              exact norm_ Q4 (hJ4_10 (v166, gb171) _ ⟨(Yr HO167.out), (Yk BK161.out), (Yk BK171.out), GW171.out, GE171.out, NB161_171.out, NB171_161.out, Q0⟩)
           ·skip
            rintro v163 w9 ⟨h0_, h1_, h2_⟩
            have HO164 : Aside0 (Kd.R (Kd.int .i64) 3 w9 w.heap.size (fun _ => True) v163 t162) := ⟨h0_⟩
            replace BK161 : Aside0 (w9.heap[gb161]? = some (.cells #[.slice none 0 0, .slice none 0 0, .slice none 0 0, .slice none 0 0] 27 (0, 0))) := ⟨h1_⟩
            replace HB : Aside0 (Below w.heap.size w w9) := ⟨h2_⟩
            clear h0_ h1_ h2_
            have hHeld := trivial
            refine norm_ (a' := ?_) ?_ ?_
            rotate_left
            ·simp only [putAll, Act.put, Z0, Z1, Z2]
             rfl
            refine three_ (i := 4) (j := 8) (k := 10) (Ni := some 8) (Nj := some 12) (Nk := some 3) (YA 12 255) (YA 12 495) (YA 12 1263) rfl rfl rfl rfl rfl rfl (three_of HT_.out (by kernel_rfl)) (by decide) (by decide) (by decide) (fun K hK => ?_) (fun K hK => ?_) (fun K hK => ?_)
            ·skip
             refine Kd.R_make_step (Kd.int .i64) _ 3 (by rfl) (N := 8) rfl 22 _ _ rfl (l0.length : Int) rfl rfl Try.underlying22 (.int .i64 0) 8 info3 rfl (by decide) (by omega) 0 (ok := fun _ => True) (okp := fun _ => True) rfl (fun _ hk => hk) trivial (Z27 Q1) (Nat.le_trans (Nat.mul_le_mul_right _ (Z27 Q1 : (l0.length : Int).toNat ≤ 35184372088832)) (by omega)) (Below.refl _ _) (Nat.le_refl _) ?_
             intro v166 w10 ho11 hb hg_ hnew_
             clear hg_ hnew_
             (first | rw [← Ny165.out] at ho11 | (simp only [Int.reduceToNat] at ho11; rw [← Ny165.out] at ho11))
             have HO167 := Yl (Kd.R_new' ho11 (Z17 (Yr HO164.out)))
             replace HO164 := Ya (Kd.R_elder' (Yr HO164.out) (Kd.R_base ho11) hb)
             replace BK161 := Yb BK161 hb
             replace HB := Yh hb
             clear hb ho11
             refine hK.out _ _ trivial (fun hHeld => ?_)
             clear hK K
             refine norm_ (a' := ?_) ?_ ?_
             rotate_left
             ·show Act.put _ (some 8) _ = _
              simp only [Act.put, Z0, Z1, Z2, i64_w, i32_w]
              rfl
             exact norm_ Q4 (hJ1_4 (v163, v166) _ ⟨Q33, Q46, (Yk BK161.out), Q0⟩)
            ·skip
             refine goes_ Try.func82 (by kernel_rfl) rfl #[.int .i64 (wrap64 ((l0.length : Int) + 1))] (by rfl) rfl rfl Q6 ?_
             with_reducible refine (spec_raUpTo.calls k (wrap64 ((l0.length : Int) + 1)) t168 _ A5.out).mono ?_
             rintro e w10 ⟨v169, rfl, ho0, hb⟩
             refine ⟨_, rfl, ?_⟩
             have HO170 := Yl (Kd.R_new' ho0 (Z17 (Yr HO164.out)))
             replace HO164 := Ya (Kd.R_elder' (Yr HO164.out) (Kd.R_base ho0) hb)
             replace BK161 := Yb BK161 hb
             replace HB := Yh hb
             (try clear hb ho0)
             refine hK.out _ _ trivial (fun hHeld => ?_)
             clear hK K
             refine norm_ (a' := ?_) ?_ ?_
             rotate_left
             ·show Act.put _ (some 12) _ = _
              simp only [Act.put, Z0, Z1, Z2, i64_w, i32_w]
              rfl
             exact norm_ Q4 (hJ1_8 (v163, v169) _ ⟨Q33, (by (with_reducible repeat (first | apply Z8 | apply Z9 | apply Z10)); exact Z11 HO170.out (fun _ hk => hk.2)), (Yk BK161.out), Q0⟩)
            ·skip
             refine Yy 3 #[.slice none 0 0, .slice none 0 0, .slice none 0 0, .slice none 0 0] 27 ?_
             intro gb171 hg w10 hbox hb
             replace HO164 := Yw HO164 hb
             have BK171 := Ya hbox
             have GW171 := Yg hg
             have GE171 := GW171
             replace HB := Yh hb
             have NB161_171 := Yn BK161 hg
             have NB171_161 := Ym BK161 hg
             replace BK161 := Yb BK161 hb
             clear hb hbox hg
             refine hK.out _ _ trivial (fun hHeld => ?_)
             clear hK K
             refine norm_ (a' := ?_) ?_ ?_
             rotate_left
             ·show Act.put _ (some 3) _ = _
              simp only [Act.put, Z0, Z1, Z2, i64_w, i32_w]
              rfl
             exact norm_ Q4 (hJ1_10 (v163, gb171) _ ⟨(Yr HO164.out), (Yk BK161.out), (Yk BK171.out), GW171.out, GE171.out, NB161_171.out, NB171_161.out, Q0⟩)
          ·skip
           rintro ⟨v166, gb171⟩ w11 ⟨h0_, h1_, h2_, h3_, h4_, h5_, h6_, h7_⟩
           have HO167 : Aside0 (Kd.R (Kd.int .i64) 3 w11 w.heap.size (fun _ => True) v166 y165) := ⟨h0_⟩
           replace BK161 : Aside0 (w11.heap[gb161]? = some (.cells #[.slice none 0 0, .slice none 0 0, .slice none 0 0, .slice none 0 0] 27 (0, 0))) := ⟨h1_⟩
           have BK171 : Aside0 (w11.heap[gb171]? = some (.cells #[.slice none 0 0, .slice none 0 0, .slice none 0 0, .slice none 0 0] 27 (0, 0))) := ⟨h2_⟩
           have GW171 : Aside0 (w.heap.size ≤ gb171) := ⟨h3_⟩
           have GE171 : Aside0 (w.heap.size ≤ gb171) := ⟨h4_⟩
           have NB161_171 : Aside0 (gb161 ≠ gb171) := ⟨h5_⟩
           have NB171_161 : Aside0 (gb171 ≠ gb161) := ⟨h6_⟩
           replace HB : Aside0 (Below w.heap.size w w11) := ⟨h7_⟩
           clear h0_ h1_ h2_ h3_ h4_ h5_ h6_ h7_
           have hHeld := trivial
           refine norm_ (a' := ?_) ?_ ?_
           rotate_left
           ·simp only [putAll, Act.put, Z0, Z1, Z2]
            rfl
           refine one_ (i := 1) (N := some 5) (YA 12 1279) rfl rfl (one_of HT_.out (by kernel_rfl)) (by decide) (fun K hK => ?_)
           refine goes_ Try.func79 (by kernel_rfl) rfl #[.slice A0 l0.length c0] (by rfl) rfl rfl Q6 ?_
           with_reducible refine (spec_l1Own.calls _ _ l0 t162 _ ?side1 ?side2 A2.out).mono ?_
           (case side1 => exact Yc (Z19 HR0.out HB.out))
           (case side2 => exact HC0.out)
           rintro e w12 ⟨v163, rfl, ho0, hb⟩
           refine ⟨_, rfl, ?_⟩
           have HO164 := Yl (Kd.R_new' ho0 (Z17 (Yr HO167.out)))
           replace HO167 := Ya (Kd.R_elder' (Yr HO167.out) (Kd.R_base ho0) hb)
           replace BK161 := Yb BK161 hb
           replace BK171 := Yb BK171 hb
           replace HB := Yh hb
           (try clear hb ho0)
           refine hK.out _ _ trivial (fun hHeld => ?_)
           clear hK K
           refine norm_ (a' := ?_) ?_ ?_
           rotate_left
           ·show Act.put _ (some 5) _ = _
            simp only [Act.put, Z0, Z1, Z2, i64_w, i32_w]
            rfl
           exact norm_ Q4 (hJ1_4_10 (v163, v166, gb171) _ ⟨Q33, Q46, (Yk BK161.out), (Yk BK171.out), GW171.out, GE171.out, NB161_171.out, NB171_161.out, Q0⟩)
         ·skip
          rintro ⟨v163, gb171⟩ w10 ⟨h0_, h1_, h2_, h3_, h4_, h5_, h6_, h7_⟩
          have HO164 : Aside0 (Kd.R (Kd.int .i64) 3 w10 w.heap.size (fun _ => True) v163 t162) := ⟨h0_⟩
          replace BK161 : Aside0 (w10.heap[gb161]? = some (.cells #[.slice none 0 0, .slice none 0 0, .slice none 0 0, .slice none 0 0] 27 (0, 0))) := ⟨h1_⟩
          have BK171 : Aside0 (w10.heap[gb171]? = some (.cells #[.slice none 0 0, .slice none 0 0, .slice none 0 0, .slice none 0 0] 27 (0, 0))) := ⟨h2_⟩
          have GW171 : Aside0 (w.heap.size ≤ gb171) := ⟨h3_⟩
          have GE171 : Aside0 (w.heap.size ≤ gb171) := ⟨h4_⟩
          have NB161_171 : Aside0 (gb161 ≠ gb171) := ⟨h5_⟩
          have NB171_161 : Aside0 (gb171 ≠ gb161) := ⟨h6_⟩
          replace HB : Aside0 (Below w.heap.size w w10) := ⟨h7_⟩
          clear h0_ h1_ h2_ h3_ h4_ h5_ h6_ h7_
          have hHeld := trivial
          refine norm_ (a' := ?_) ?_ ?_
          rotate_left
          ·simp only [putAll, Act.put, Z0, Z1, Z2]
           rfl
          refine two_ (i := 4) (j := 8) (Ni := some 8) (Nj := some 12) (YA 12 1279) (YA 12 1519) rfl rfl rfl rfl (two_of HT_.out (by kernel_rfl)) (by decide) (by decide) (fun K hK => ?_) (fun K hK => ?_)
          ·skip
           refine Kd.R_make_step (Kd.int .i64) _ 3 (by rfl) (N := 8) rfl 22 _ _ rfl (l0.length : Int) rfl rfl Try.underlying22 (.int .i64 0) 8 info3 rfl (by decide) (by omega) 0 (ok := fun _ => True) (okp := fun _ => True) rfl (fun _ hk => hk) trivial (Z27 Q1) (Nat.le_trans (Nat.mul_le_mul_right _ (Z27 Q1 : (l0.length : Int).toNat ≤ 35184372088832)) (by omega)) (Below.refl _ _) (Nat.le_refl _) ?_
           intro v166 w11 ho12 hb hg_ hnew_
           clear hg_ hnew_
           (first | rw [← Ny165.out] at ho12 | (simp only [Int.reduceToNat] at ho12; rw [← Ny165.out] at ho12))
           have HO167 := Yl (Kd.R_new' ho12 (Z17 (Yr HO164.out)))
           replace HO164 := Ya (Kd.R_elder' (Yr HO164.out) (Kd.R_base ho12) hb)
           replace BK161 := Yb BK161 hb
           replace BK171 := Yb BK171 hb
           replace HB := Yh hb
           clear hb ho12
           refine hK.out _ _ trivial (fun hHeld => ?_)
           clear hK K
           refine norm_ (a' := ?_) ?_ ?_
           rotate_left
           ·show Act.put _ (some 8) _ = _
            simp only [Act.put, Z0, Z1, Z2, i64_w, i32_w]
            rfl
           exact norm_ Q4 (hJ1_4_10 (v163, v166, gb171) _ ⟨Q33, Q46, (Yk BK161.out), (Yk BK171.out), GW171.out, GE171.out, NB161_171.out, NB171_161.out, Q0⟩)
          ·skip
           refine goes_ Try.func82 (by kernel_rfl) rfl #[.int .i64 (wrap64 ((l0.length : Int) + 1))] (by rfl) rfl rfl Q6 ?_
           with_reducible refine (spec_raUpTo.calls k (wrap64 ((l0.length : Int) + 1)) t168 _ A5.out).mono ?_
           rintro e w11 ⟨v169, rfl, ho0, hb⟩
           refine ⟨_, rfl, ?_⟩
           have HO170 := Yl (Kd.R_new' ho0 (Z17 (Yr HO164.out)))
           replace HO164 := Ya (Kd.R_elder' (Yr HO164.out) (Kd.R_base ho0) hb)
           replace BK161 := Yb BK161 hb
           replace BK171 := Yb BK171 hb
           replace HB := Yh hb
           (try clear hb ho0)
           refine hK.out _ _ trivial (fun hHeld => ?_)
           clear hK K
           refine norm_ (a' := ?_) ?_ ?_
           rotate_left
           ·show Act.put _ (some 12) _ = _
            simp only [Act.put, Z0, Z1, Z2, i64_w, i32_w]
            rfl
           exact norm_ Q4 (hJ1_8_10 (v163, v169, gb171) _ ⟨Q33, (by (with_reducible repeat (first | apply Z8 | apply Z9 | apply Z10)); exact Z11 HO170.out (fun _ hk => hk.2)), (Yk BK161.out), (Yk BK171.out), GW171.out, GE171.out, NB161_171.out, NB171_161.out, Q0⟩)
        ·skip
         rintro ⟨v163, v169⟩ w10 ⟨h0_, h1_, h2_, h3_⟩
         have HO164 : Aside0 (Kd.R (Kd.int .i64) 3 w10 w.heap.size (fun k_ => some k_ ≠ (v169 : Value).ownBlock) v163 t162) := ⟨h0_⟩
         have HO170 : Aside0 (Kd.R (Kd.int .i64) 3 w10 w.heap.size (fun k_ => some k_ ≠ (v163 : Value).ownBlock) v169 t168) := ⟨h1_⟩
         replace BK161 : Aside0 (w10.heap[gb161]? = some (.cells #[.slice none 0 0, .slice none 0 0, .slice none 0 0, .slice none 0 0] 27 (0, 0))) := ⟨h2_⟩
         replace HB : Aside0 (Below w.heap.size w w10) := ⟨h3_⟩
         clear h0_ h1_ h2_ h3_
         have hHeld := trivial
         refine norm_ (a' := ?_) ?_ ?_
         rotate_left
         ·simp only [putAll, Act.put, Z0, Z1, Z2]
          rfl
         refine two_ (i := 4) (j := 10) (Ni := some 8) (Nj := some 3) (YA 12 511) (YA 12 1519) rfl rfl rfl rfl (two_of HT_.out (by kernel_rfl)) (by decide) (by decide) (fun K hK => ?_) (fun K hK => ?_)
         ·skip
          refine Kd.R_make_step (Kd.int .i64) _ 3 (by rfl) (N := 8) rfl 22 _ _ rfl (l0.length : Int) rfl rfl Try.underlying22 (.int .i64 0) 8 info3 rfl (by decide) (by omega) 0 (ok := fun _ => True) (okp := fun _ => True) rfl (fun _ hk => hk) trivial (Z27 Q1) (Nat.le_trans (Nat.mul_le_mul_right _ (Z27 Q1 : (l0.length : Int).toNat ≤ 35184372088832)) (by omega)) (Below.refl _ _) (Nat.le_refl _) ?_
          intro v166 w11 ho12 hb hg_ hnew_
          clear hg_ hnew_
          (first | rw [← Ny165.out] at ho12 | (simp only [Int.reduceToNat] at ho12; rw [← Ny165.out] at ho12))
          have HO167 := Yl (Kd.R_new' (Kd.R_new' ho12 (Z17 (Yr HO164.out))) (Z17 (Yr HO170.out)))
          replace HO164 := Ya (Kd.R_elder' (Yr HO164.out) (Kd.R_base ho12) hb)
          replace HO170 := Ya (Kd.R_elder' (Yr HO170.out) (Kd.R_base ho12) hb)
          replace BK161 := Yb BK161 hb
          replace HB := Yh hb
          clear hb ho12
          obtain ⟨Ao13, co13, eo13⟩ := Z18 HO170.out
          (first | subst eo13 | (injection eo13 with f1_ f2_ f3_; have f4_ := f1_.symm; have f5_ := f3_.symm; clear f1_ f2_ f3_; subst f4_; subst f5_))
          obtain ⟨Ao14, co14, eo14⟩ := Z18 HO167.out
          (first | subst eo14 | (injection eo14 with f1_ f2_ f3_; have f4_ := f1_.symm; have f5_ := f3_.symm; clear f1_ f2_ f3_; subst f4_; subst f5_))
          obtain ⟨Ao15, co15, eo15⟩ := Z18 HO164.out
          (first | subst eo15 | (injection eo15 with f1_ f2_ f3_; have f4_ := f1_.symm; have f5_ := f3_.symm; clear f1_ f2_ f3_; subst f4_; subst f5_))
          refine hK.out _ _ trivial (fun hHeld => ?_)
          clear hK K
          refine norm_ (a' := ?_) ?_ ?_
          rotate_left
          ·show Act.put _ (some 8) _ = _
           simp only [Act.put, Z0, Z1, Z2, i64_w, i32_w]
           rfl
          refine Yp 9 (some 13) (YA 12 1023) rfl HT_.out ?_
          exact norm_ Q4 (hJ1_4_8 (.slice Ao15 t162.length co15, .slice Ao14 y165.length co14, .slice Ao13 t168.length co13) _ ⟨Q99, Q97, (Yr HO170.out), (Yk BK161.out), Q0⟩)
         ·skip
          refine Yy 3 #[.slice none 0 0, .slice none 0 0, .slice none 0 0, .slice none 0 0] 27 ?_
          intro gb171 hg w11 hbox hb
          replace HO164 := Yw HO164 hb
          replace HO170 := Yw HO170 hb
          have BK171 := Ya hbox
          have GW171 := Yg hg
          have GE171 := GW171
          replace HB := Yh hb
          have NB161_171 := Yn BK161 hg
          have NB171_161 := Ym BK161 hg
          replace BK161 := Yb BK161 hb
          clear hb hbox hg
          refine hK.out _ _ trivial (fun hHeld => ?_)
          clear hK K
          refine norm_ (a' := ?_) ?_ ?_
          rotate_left
          ·show Act.put _ (some 3) _ = _
           simp only [Act.put, Z0, Z1, Z2, i64_w, i32_w]
           rfl
          exact norm_ Q4 (hJ1_8_10 (v163, v169, gb171) _ ⟨(Yr HO164.out), (Yr HO170.out), (Yk BK161.out), (Yk BK171.out), GW171.out, GE171.out, NB161_171.out, NB171_161.out, Q0⟩)
       ·skip
        rintro ⟨v163, v166⟩ w11 ⟨h0_, h1_, h2_, h3_⟩
        have HO164 : Aside0 (Kd.R (Kd.int .i64) 3 w11 w.heap.size (fun k_ => some k_ ≠ (v166 : Value).ownBlock) v163 t162) := ⟨h0_⟩
        have HO167 : Aside0 (Kd.R (Kd.int .i64) 3 w11 w.heap.size (fun k_ => some k_ ≠ (v163 : Value).ownBlock) v166 y165) := ⟨h1_⟩
        replace BK161 : Aside0 (w11.heap[gb161]? = some (.cells #[.slice none 0 0, .slice none 0 0, .slice none 0 0, .slice none 0 0] 27 (0, 0))) := ⟨h2_⟩
        replace HB : Aside0 (Below w.heap.size w w11) := ⟨h3_⟩
        clear h0_ h1_ h2_ h3_
        have hHeld := trivial
        refine norm_ (a' := ?_) ?_ ?_
        rotate_left
        ·simp only [putAll, Act.put, Z0, Z1, Z2]
         rfl
        refine two_ (i := 8) (j := 10) (Ni := some 12) (Nj := some 3) (YA 12 511) (YA 12 1279) rfl rfl rfl rfl (two_of HT_.out (by kernel_rfl)) (by decide) (by decide) (fun K hK => ?_) (fun K hK => ?_)
        ·skip
         refine goes_ Try.func82 (by kernel_rfl) rfl #[.int .i64 (wrap64 ((l0.length : Int) + 1))] (by rfl) rfl rfl Q6 ?_
         with_reducible refine (spec_raUpTo.calls k (wrap64 ((l0.length : Int) + 1)) t168 _ A5.out).mono ?_
         rintro e w12 ⟨v169, rfl, ho0, hb⟩
         refine ⟨_, rfl, ?_⟩
         have HO170 := Yl (Kd.R_new' (Kd.R_new' ho0 (Z17 (Yr HO164.out))) (Z17 (Yr HO167.out)))
         replace HO164 := Ya (Kd.R_elder' (Yr HO164.out) (Kd.R_base ho0) hb)
         replace HO167 := Ya (Kd.R_elder' (Yr HO167.out) (Kd.R_base ho0) hb)
         replace BK161 := Yb BK161 hb
         replace HB := Yh hb
         (try clear hb ho0)
         obtain ⟨Ao13, co13, eo13⟩ := Z18 HO170.out
         (first | subst eo13 | (injection eo13 with f1_ f2_ f3_; have f4_ := f1_.symm; have f5_ := f3_.symm; clear f1_ f2_ f3_; subst f4_; subst f5_))
         obtain ⟨Ao14, co14, eo14⟩ := Z18 HO167.out
         (first | subst eo14 | (injection eo14 with f1_ f2_ f3_; have f4_ := f1_.symm; have f5_ := f3_.symm; clear f1_ f2_ f3_; subst f4_; subst f5_))
         obtain ⟨Ao15, co15, eo15⟩ := Z18 HO164.out
         (first | subst eo15 | (injection eo15 with f1_ f2_ f3_; have f4_ := f1_.symm; have f5_ := f3_.symm; clear f1_ f2_ f3_; subst f4_; subst f5_))
         refine hK.out _ _ trivial (fun hHeld => ?_)
         clear hK K
         refine norm_ (a' := ?_) ?_ ?_
         rotate_left
         ·show Act.put _ (some 12) _ = _
          simp only [Act.put, Z0, Z1, Z2, i64_w, i32_w]
          rfl
         refine Yp 9 (some 13) (YA 12 1023) rfl HT_.out ?_
         exact norm_ Q4 (hJ1_4_8 (.slice Ao15 t162.length co15, .slice Ao14 y165.length co14, .slice Ao13 t168.length co13) _ ⟨(Yr HO164.out), (Yr HO167.out), Q96, (Yk BK161.out), Q0⟩)
        ·skip
         refine Yy 3 #[.slice none 0 0, .slice none 0 0, .slice none 0 0, .slice none 0 0] 27 ?_
         intro gb171 hg w12 hbox hb
         replace HO164 := Yw HO164 hb
         replace HO167 := Yw HO167 hb
         have BK171 := Ya hbox
         have GW171 := Yg hg
         have GE171 := GW171
         replace HB := Yh hb
         have NB161_171 := Yn BK161 hg
         have NB171_161 := Ym BK161 hg
         replace BK161 := Yb BK161 hb
         clear hb hbox hg
         refine hK.out _ _ trivial (fun hHeld => ?_)
         clear hK K
         refine norm_ (a' := ?_) ?_ ?_
         rotate_left
         ·show Act.put _ (some 3) _ = _
          simp only [Act.put, Z0, Z1, Z2, i64_w, i32_w]
          rfl
         exact norm_ Q4 (hJ1_4_10 (v163, v166, gb171) _ ⟨(Yr HO164.out), (Yr HO167.out), (Yk BK161.out), (Yk BK171.out), GW171.out, GE171.out, NB161_171.out, NB171_161.out, Q0⟩)
      ·skip
       rintro ⟨v163, v169, gb171⟩ w11 ⟨h0_, h1_, h2_, h3_, h4_, h5_, h6_, h7_, h8_⟩
       have HO164 : Aside0 (Kd.R (Kd.int .i64) 3 w11 w.heap.size (fun k_ => some k_ ≠ (v169 : Value).ownBlock) v163 t162) := ⟨h0_⟩
       have HO170 : Aside0 (Kd.R (Kd.int .i64) 3 w11 w.heap.size (fun k_ => some k_ ≠ (v163 : Value).ownBlock) v169 t168) := ⟨h1_⟩
       replace BK161 : Aside0 (w11.heap[gb161]? = some (.cells #[.slice none 0 0, .slice none 0 0, .slice none 0 0, .slice none 0 0] 27 (0, 0))) := ⟨h2_⟩
       have BK171 : Aside0 (w11.heap[gb171]? = some (.cells #[.slice none 0 0, .slice none 0 0, .slice none 0 0, .slice none 0 0] 27 (0, 0))) := ⟨h3_⟩
       have GW171 : Aside0 (w.heap.size ≤ gb171) := ⟨h4_⟩
       have GE171 : Aside0 (w.heap.size ≤ gb171) := ⟨h5_⟩
       have NB161_171 : Aside0 (gb161 ≠ gb171) := ⟨h6_⟩
       have NB171_161 : Aside0 (gb171 ≠ gb161) := ⟨h7_⟩
       replace HB : Aside0 (Below w.heap.size w w11) := ⟨h8_⟩
       clear h0_ h1_ h2_ h3_ h4_ h5_ h6_ h7_ h8_
       have hHeld := trivial
       refine norm_ (a' := ?_) ?_ ?_
       rotate_left
       ·simp only [putAll, Act.put, Z0, Z1, Z2]
        rfl
       refine one_ (i := 4) (N := some 8) (YA 12 1535) rfl rfl (one_of HT_.out (by kernel_rfl)) (by decide) (fun K hK => ?_)
       refine Kd.R_make_step (Kd.int .i64) _ 3 (by rfl) (N := 8) rfl 22 _ _ rfl (l0.length : Int) rfl rfl Try.underlying22 (.int .i64 0) 8 info3 rfl (by decide) (by omega) 0 (ok := fun _ => True) (okp := fun _ => True) rfl (fun _ hk => hk) trivial (Z27 Q1) (Nat.le_trans (Nat.mul_le_mul_right _ (Z27 Q1 : (l0.length : Int).toNat ≤ 35184372088832)) (by omega)) (Below.refl _ _) (Nat.le_refl _) ?_
       intro v166 w12 ho13 hb hg_ hnew_
       clear hg_ hnew_
       (first | rw [← Ny165.out] at ho13 | (simp only [Int.reduceToNat] at ho13; rw [← Ny165.out] at ho13))
       have HO167 := Yl (Kd.R_new' (Kd.R_new' ho13 (Z17 (Yr HO164.out))) (Z17 (Yr HO170.out)))
       replace HO164 := Ya (Kd.R_elder' (Yr HO164.out) (Kd.R_base ho13) hb)
       replace HO170 := Ya (Kd.R_elder' (Yr HO170.out) (Kd.R_base ho13) hb)
       replace BK161 := Yb BK161 hb
       replace BK171 := Yb BK171 hb
       replace HB := Yh hb
       clear hb ho13
       obtain ⟨Ao14, co14, eo14⟩ := Z18 HO170.out
       (first | subst eo14 | (injection eo14 with f1_ f2_ f3_; have f4_ := f1_.symm; have f5_ := f3_.symm; clear f1_ f2_ f3_; subst f4_; subst f5_))
       obtain ⟨Ao15, co15, eo15⟩ := Z18 HO167.out
       (first | subst eo15 | (injection eo15 with f1_ f2_ f3_; have f4_ := f1_.symm; have f5_ := f3_.symm; clear f1_ f2_ f3_; subst f4_; subst f5_))
       obtain ⟨Ao16, co16, eo16⟩ := Z18 HO164.out
       (first | subst eo16 | (injection eo16 with f1_ f2_ f3_; have f4_ := f1_.symm; have f5_ := f3_.symm; clear f1_ f2_ f3_; subst f4_; subst f5_))
       refine hK.out _ _ trivial (fun hHeld => ?_)
       clear hK K
       refine norm_ (a' := ?_) ?_ ?_
       rotate_left
       ·show Act.put _ (some 8) _ = _
        simp only [Act.put, Z0, Z1, Z2, i64_w, i32_w]
        rfl
       refine Yp 9 (some 13) (YA 12 2047) rfl HT_.out ?_
       exact norm_ Q4 (hJ1_4_8_10 (.slice Ao16 t162.length co16, .slice Ao15 y165.length co15, .slice Ao14 t168.length co14, gb171) _ ⟨Q99, Q97, (Yr HO170.out), (Yk BK161.out), (Yk BK171.out), GW171.out, GE171.out, NB161_171.out, NB171_161.out, Q0⟩)
     ·skip
      rintro ⟨v163, v166, gb171⟩ w12 ⟨h0_, h1_, h2_, h3_, h4_, h5_, h6_, h7_, h8_⟩
      have HO164 : Aside0 (Kd.R (Kd.int .i64) 3 w12 w.heap.size (fun k_ => some k_ ≠ (v166 : Value).ownBlock) v163 t162) := ⟨h0_⟩
      have HO167 : Aside0 (Kd.R (Kd.int .i64) 3 w12 w.heap.size (fun k_ => some k_ ≠ (v163 : Value).ownBlock) v166 y165) := ⟨h1_⟩
      replace BK161 : Aside0 (w12.heap[gb161]? = some (.cells #[.slice none 0 0, .slice none 0 0, .slice none 0 0, .slice none 0 0] 27 (0, 0))) := ⟨h2_⟩
      have BK171 : Aside0 (w12.heap[gb171]? = some (.cells #[.slice none 0 0, .slice none 0 0, .slice none 0 0, .slice none 0 0] 27 (0, 0))) := ⟨h3_⟩
      have GW171 : Aside0 (w.heap.size ≤ gb171) := ⟨h4_⟩
      have GE171 : Aside0 (w.heap.size ≤ gb171) := ⟨h5_⟩
      have NB161_171 : Aside0 (gb161 ≠ gb171) := ⟨h6_⟩
      have NB171_161 : Aside0 (gb171 ≠ gb161) := ⟨h7_⟩
      replace HB : Aside0 (Below w.heap.size w w12) := ⟨h8_⟩
      clear h0_ h1_ h2_ h3_ h4_ h5_ h6_ h7_ h8_
      have hHeld := trivial
      refine norm_ (a' := ?_) ?_ ?_
      rotate_left
      ·simp only [putAll, Act.put, Z0, Z1, Z2]
       rfl
      refine one_ (i := 8) (N := some 12) (YA 12 1535) rfl rfl (one_of HT_.out (by kernel_rfl)) (by decide) (fun K hK => ?_)
      refine goes_ Try.func82 (by kernel_rfl) rfl #[.int .i64 (wrap64 ((l0.length : Int) + 1))] (by rfl) rfl rfl Q6 ?_
      with_reducible refine (spec_raUpTo.calls k (wrap64 ((l0.length : Int) + 1)) t168 _ A5.out).mono ?_
      rintro e w13 ⟨v169, rfl, ho0, hb⟩
      refine ⟨_, rfl, ?_⟩
      have HO170 := Yl (Kd.R_new' (Kd.R_new' ho0 (Z17 (Yr HO164.out))) (Z17 (Yr HO167.out)))
      replace HO164 := Ya (Kd.R_elder' (Yr HO164.out) (Kd.R_base ho0) hb)
      replace HO167 := Ya (Kd.R_elder' (Yr HO167.out) (Kd.R_base ho0) hb)
      replace BK161 := Yb BK161 hb
      replace BK171 := Yb BK171 hb
      replace HB := Yh hb
      (try clear hb ho0)
      obtain ⟨Ao14, co14, eo14⟩ := Z18 HO170.out
      (first | subst eo14 | (injection eo14 with f1_ f2_ f3_; have f4_ := f1_.symm; have f5_ := f3_.symm; clear f1_ f2_ f3_; subst f4_; subst f5_))
      obtain ⟨Ao15, co15, eo15⟩ := Z18 HO167.out
      (first | subst eo15 | (injection eo15 with f1_ f2_ f3_; have f4_ := f1_.symm; have f5_ := f3_.symm; clear f1_ f2_ f3_; subst f4_; subst f5_))
      obtain ⟨Ao16, co16, eo16⟩ := Z18 HO164.out
      (first | subst eo16 | (injection eo16 with f1_ f2_ f3_; have f4_ := f1_.symm; have f5_ := f3_.symm; clear f1_ f2_ f3_; subst f4_; subst f5_))
      refine hK.out _ _ trivial (fun hHeld => ?_)
      clear hK K
      refine norm_ (a' := ?_) ?_ ?_
      rotate_left
      ·show Act.put _ (some 12) _ = _
       simp only [Act.put, Z0, Z1, Z2, i64_w, i32_w]
       rfl
      refine Yp 9 (some 13) (YA 12 2047) rfl HT_.out ?_
      exact norm_ Q4 (hJ1_4_8_10 (.slice Ao16 t162.length co16, .slice Ao15 y165.length co15, .slice Ao14 t168.length co14, gb171) _ ⟨(Yr HO164.out), (Yr HO167.out), Q96, (Yk BK161.out), (Yk BK171.out), GW171.out, GE171.out, NB161_171.out, NB171_161.out, Q0⟩)
    ·skip
     rintro ⟨v163, v166, v169⟩ w15 ⟨h0_, h1_, h2_, h3_, h4_⟩
     have HO164 : Aside0 (Kd.R (Kd.int .i64) 3 w15 w.heap.size (fun k_ => some k_ ≠ (v166 : Value).ownBlock ∧ some k_ ≠ (v169 : Value).ownBlock) v163 t162) := ⟨h0_⟩
     have HO167 : Aside0 (Kd.R (Kd.int .i64) 3 w15 w.heap.size (fun k_ => some k_ ≠ (v163 : Value).ownBlock ∧ some k_ ≠ (v169 : Value).ownBlock) v166 y165) := ⟨h1_⟩
     have HO170 : Aside0 (Kd.R (Kd.int .i64) 3 w15 w.heap.size (fun k_ => some k_ ≠ (v163 : Value).ownBlock ∧ some k_ ≠ (v166 : Value).ownBlock) v169 t168) := ⟨h2_⟩
     replace BK161 : Aside0 (w15.heap[gb161]? = some (.cells #[.slice none 0 0, .slice none 0 0, .slice none 0 0, .slice none 0 0] 27 (0, 0))) := ⟨h3_⟩
     replace HB : Aside0 (Below w.heap.size w w15) := ⟨h4_⟩
     clear h0_ h1_ h2_ h3_ h4_
     have hHeld := trivial
     obtain ⟨Ao16, co16, eo16⟩ := Z18 HO170.out
     (first | subst eo16 | (injection eo16 with f1_ f2_ f3_; have f4_ := f1_.symm; have f5_ := f3_.symm; clear f1_ f2_ f3_; subst f4_; subst f5_))
     obtain ⟨Ao17, co17, eo17⟩ := Z18 HO167.out
     (first | subst eo17 | (injection eo17 with f1_ f2_ f3_; have f4_ := f1_.symm; have f5_ := f3_.symm; clear f1_ f2_ f3_; subst f4_; subst f5_))
     obtain ⟨Ao18, co18, eo18⟩ := Z18 HO164.out
     (first | subst eo18 | (injection eo18 with f1_ f2_ f3_; have f4_ := f1_.symm; have f5_ := f3_.symm; clear f1_ f2_ f3_; subst f4_; subst f5_))
     refine norm_ (a' := ?_) ?_ ?_
     rotate_left
     ·simp only [putAll, Act.put, Z0, Z1, Z2]
      rfl
     refine one_ (i := 10) (N := some 3) (YA 12 2047) rfl rfl (one_of HT_.out (by kernel_rfl)) (by decide) (fun K hK => ?_)
     refine Yy 3 #[.slice none 0 0, .slice none 0 0, .slice none 0 0, .slice none 0 0] 27 ?_
     intro gb171 hg w19 hbox hb
     replace HO164 := Yw HO164 hb
     replace HO167 := Yw HO167 hb
     replace HO170 := Yw HO170 hb
     have BK171 := Ya hbox
     have GW171 := Yg hg
     have GE171 := GW171
     replace HB := Yh hb
     have NB161_171 := Yn BK161 hg
     have NB171_161 := Ym BK161 hg
     replace BK161 := Yb BK161 hb
     clear hb hbox hg
     refine hK.out _ _ trivial (fun hHeld => ?_)
     clear hK K
     refine norm_ (a' := ?_) ?_ ?_
     rotate_left
     ·show Act.put _ (some 3) _ = _
      simp only [Act.put, Z0, Z1, Z2, i64_w, i32_w]
      rfl
     exact norm_ Q4 (hJ1_4_8_10 (.slice Ao18 t162.length co18, .slice Ao17 y165.length co17, .slice Ao16 t168.length co16, gb171) _ ⟨(Yr HO164.out), (Yr HO167.out), (Yr HO170.out), (Yk BK161.out), (Yk BK171.out), GW171.out, GE171.out, NB161_171.out, NB171_161.out, Q0⟩)
   rintro ⟨v163, v166, v169, gb171⟩ w16 ⟨h0_, h1_, h2_, h3_, h4_, h5_, h6_, h7_, h8_, h9_⟩
   have HO164 : Aside0 (Kd.R (Kd.int .i64) 3 w16 w.heap.size (fun k_ => some k_ ≠ (v166 : Value).ownBlock ∧ some k_ ≠ (v169 : Value).ownBlock) v163 t162) := ⟨h0_⟩
   have HO167 : Aside0 (Kd.R (Kd.int .i64) 3 w16 w.heap.size (fun k_ => some k_ ≠ (v163 : Value).ownBlock ∧ some k_ ≠ (v169 : Value).ownBlock) v166 y165) := ⟨h1_⟩
   have HO170 : Aside0 (Kd.R (Kd.int .i64) 3 w16 w.heap.size (fun k_ => some k_ ≠ (v163 : Value).ownBlock ∧ some k_ ≠ (v166 : Value).ownBlock) v169 t168) := ⟨h2_⟩
   replace BK161 : Aside0 (w16.heap[gb161]? = some (.cells #[.slice none 0 0, .slice none 0 0, .slice none 0 0, .slice none 0 0] 27 (0, 0))) := ⟨h3_⟩
   have BK171 : Aside0 (w16.heap[gb171]? = some (.cells #[.slice none 0 0, .slice none 0 0, .slice none 0 0, .slice none 0 0] 27 (0, 0))) := ⟨h4_⟩
   have GW171 : Aside0 (w.heap.size ≤ gb171) := ⟨h5_⟩
   have GE171 : Aside0 (w.heap.size ≤ gb171) := ⟨h6_⟩
   have NB161_171 : Aside0 (gb161 ≠ gb171) := ⟨h7_⟩
   have NB171_161 : Aside0 (gb171 ≠ gb161) := ⟨h8_⟩
   replace HB : Aside0 (Below w.heap.size w w16) := ⟨h9_⟩
   clear h0_ h1_ h2_ h3_ h4_ h5_ h6_ h7_ h8_ h9_
   have hHeld := trivial
   obtain ⟨Ao17, co17, eo17⟩ := Z18 HO170.out
   (first | subst eo17 | (injection eo17 with f1_ f2_ f3_; have f4_ := f1_.symm; have f5_ := f3_.symm; clear f1_ f2_ f3_; subst f4_; subst f5_))
   obtain ⟨Ao18, co18, eo18⟩ := Z18 HO167.out
   (first | subst eo18 | (injection eo18 with f1_ f2_ f3_; have f4_ := f1_.symm; have f5_ := f3_.symm; clear f1_ f2_ f3_; subst f4_; subst f5_))
   obtain ⟨Ao19, co19, eo19⟩ := Z18 HO164.out
   (first | subst eo19 | (injection eo19 with f1_ f2_ f3_; have f4_ := f1_.symm; have f5_ := f3_.symm; clear f1_ f2_ f3_; subst f4_; subst f5_))
   refine norm_ (a' := ?_) ?_ ?_
   rotate_left
   ·simp only [putAll, Act.put, Z0, Z1, Z2]
    rfl
   refine one_ (i := 11) (N := none) (YA 12 4095) rfl rfl (one_of HT_.out (by kernel_rfl)) (by decide) (fun K hK => ?_)
   have hs20 : w16.cell? ⟨gb171, 0, none⟩ = some (.slice none 0 0) := (Z20 BK171.out 0).trans rfl
   have hfs20 := Z21 BK171.out 0
   have hns20_0 := NB161_171.out
   have hms20_0 := NB171_161.out
   have hs21 : w16.cell? ⟨gb171, 1, none⟩ = some (.slice none 0 0) := (Z20 BK171.out 1).trans rfl
   have hfs21 := Z21 BK171.out 1
   have hns21_0 := NB161_171.out
   have hms21_0 := NB171_161.out
   have hs22 : w16.cell? ⟨gb171, 2, none⟩ = some (.slice none 0 0) := (Z20 BK171.out 2).trans rfl
   have hfs22 := Z21 BK171.out 2
   have hns22_0 := NB161_171.out
   have hms22_0 := NB171_161.out
   have hs23 : w16.cell? ⟨gb171, 3, none⟩ = some (.slice none 0 0) := (Z20 BK171.out 3).trans rfl
   have hfs23 := Z21 BK171.out 3
   have hns23_0 := NB161_171.out
   have hms23_0 := NB171_161.out
   refine skip_ (w1 := ?_) (by rfl) rfl ?_ ?_
   rotate_left
   ·go_simp
    rfl
   refine hK.out _ _ trivial (fun hHeld => ?_)
   clear hK K
   refine done_ (done_of HT_.out (by kernel_rfl)) ?_
   try go_wp2
   go_loopg [16] k (fun kq v16 w' => ∃ (x16_1 : Int) (x172002_1 : List Bool) (u172002 : Value), v16 = .int .i64 x16_1 ∧ Aside0 (spec_foStart.l0 kq (l0.length : Int) x16_1 t162 y165 x172002_1 t168 = some (r1, r2, r3, r4)) ∧ Aside0 (kq ≤ k) ∧ Aside0 (Kd.R (Kd.int .i64) 3 w' w.heap.size (fun k_ => some k_ ≠ ((.slice Ao18 y165.length co18) : Value).ownBlock ∧ some k_ ≠ ((.slice Ao17 t168.length co17) : Value).ownBlock) (.slice Ao19 t162.length co19) t162) ∧ Aside0 (Kd.R (Kd.int .i64) 3 w' w.heap.size (fun k_ => some k_ ≠ ((.slice Ao19 t162.length co19) : Value).ownBlock ∧ some k_ ≠ ((.slice Ao17 t168.length co17) : Value).ownBlock) (.slice Ao18 y165.length co18) y165) ∧ Aside0 (Kd.R Kd.bool 4 w' w.heap.size (fun _ => True) u172002 x172002_1) ∧ Aside0 (Kd.R (Kd.int .i64) 3 w' w.heap.size (fun k_ => some k_ ≠ ((.slice Ao19 t162.length co19) : Value).ownBlock ∧ some k_ ≠ ((.slice Ao18 y165.length co18) : Value).ownBlock) (.slice Ao17 t168.length co17) t168) ∧ Aside0 (w'.heap[gb161]? = some (.cells #[(.slice none 0 0), (.slice none 0 0), (.slice none 0 0), (.slice none 0 0)] 27 (0, 0))) ∧ Aside0 (w'.heap[gb171]? = some (.cells #[(.slice Ao19 t162.length co19), (.slice Ao18 y165.length co18), u172002, (.slice Ao17 t168.length co17)] 27 (0, 0))) ∧ Aside0 (Below w.heap.size w w'))
   case atStart => exact ⟨(0), (([] : List Bool)), (.slice none 0 0), Q7, H', ⟨Nat.le_refl _⟩, ⟨by (with_reducible repeat (first | apply Z8 | apply Z9 | apply Z10)); exact Z11 (Yf4 HO164.out BK171.out) (fun _ hk => ⟨hk.1.1, hk.1.2⟩)⟩, ⟨by (with_reducible repeat (first | apply Z8 | apply Z9 | apply Z10)); exact Z11 (Yf4 HO167.out BK171.out) (fun _ hk => ⟨hk.1.1, hk.1.2⟩)⟩, ⟨Q8⟩, ⟨by (with_reducible repeat (first | apply Z8 | apply Z9 | apply Z10)); exact Z11 (Yf4 HO170.out BK171.out) (fun _ hk => ⟨hk.1.1, hk.1.2⟩)⟩, ⟨by (with_reducible repeat (first | refine Z22 ?_ _ | refine Z23 ?_ | refine Z24 ?_ _)); refine blk_far ?_ NB161_171.out _; (with_reducible repeat (first | refine Z22 ?_ _ | refine Z23 ?_ | refine Z24 ?_ _)); refine blk_far ?_ NB161_171.out _; (with_reducible repeat (first | refine Z22 ?_ _ | refine Z23 ?_ | refine Z24 ?_ _)); refine blk_far ?_ NB161_171.out _; (with_reducible repeat (first | refine Z22 ?_ _ | refine Z23 ?_ | refine Z24 ?_ _)); refine blk_far ?_ NB161_171.out _; (with_reducible repeat (first | refine Z22 ?_ _ | refine Z23 ?_ | refine Z24 ?_ _)); exact BK161.out⟩, ⟨by (with_reducible repeat (first | refine Z22 ?_ _ | refine Z23 ?_ | refine Z24 ?_ _)); refine Z26 (cs := #[.slice Ao19 t162.length co19, .slice Ao18 y165.length co18, .slice none 0 0, .slice none 0 0]) ?_ 3 _ rfl; (with_reducible repeat (first | refine Z22 ?_ _ | refine Z23 ?_ | refine Z24 ?_ _)); refine Z26 (cs := #[.slice Ao19 t162.length co19, .slice Ao18 y165.length co18, .slice none 0 0, .slice none 0 0]) ?_ 2 _ rfl; (with_reducible repeat (first | refine Z22 ?_ _ | refine Z23 ?_ | refine Z24 ?_ _)); refine Z26 (cs := #[.slice Ao19 t162.length co19, .slice none 0 0, .slice none 0 0, .slice none 0 0]) ?_ 1 _ rfl; (with_reducible repeat (first | refine Z22 ?_ _ | refine Z23 ?_ | refine Z24 ?_ _)); refine Z26 (cs := #[.slice none 0 0, .slice none 0 0, .slice none 0 0, .slice none 0 0]) ?_ 0 _ rfl; (with_reducible repeat (first | refine Z22 ?_ _ | refine Z23 ?_ | refine Z24 ?_ _)); exact BK171.out⟩, ⟨Q12⟩⟩
   case round =>
    clear H'
    try clear p2
    try clear p6
    try clear c8
    obtain ⟨x16_1, x172002_1, u172002, rfl, HA, HK1, HO_172000, HO_172001, HO_172002, HO_172003, BK161, BK171, HB⟩ := hrel
    cases gk with
    | zero => exact absurd HA.out (by simp [spec_foStart.l0])
    | succ k1 =>
     have H := HA.out
     clear HA
     simp only [spec_foStart.l0] at H
     by_cases c24 : x16_1 < (l0.length : Int)
     ·rw [if_pos c24] at H
      have c24b0 : decide (x16_1 < (l0.length : Int)) = true := Z35 c24
      clear c24
      by_cases c25 : x172002_1.length < 140737488355328
      ·rw [if_pos c25] at H
       have LMc25 := Ya c25
       clear c25
       obtain ⟨y172, hy172⟩ : ∃ y_ : List Bool, y_ = (x172002_1 ++ [true]) := ⟨_, rfl⟩
       replace H : (spec_foStart.l0 k1 (l0.length : Int) (wrap64 (x16_1 + 1)) t162 y165 y172 t168) = some (r1, r2, r3, r4) := by first | (rw [hy172]; with_reducible exact H) | (have H2_ := (Option.bind_some _ _).symm.trans H; rw [hy172]; with_reducible exact H2_) | (have H2_ := (Option.bind_some _ _).symm.trans H; with_reducible exact H2_) | with_reducible exact H | (rw [hy172]; exact H) | exact H
       have Ny172 := Ya hy172
       clear hy172
       have H' := Ya H
       clear H
       have hnb26 := NB171_161.out
       have hnc26 := NB161_171.out
       have hz27 := Y4 BK171.out
       go_wp2_with (first | ((with_reducible refine gate_builtin (b := .append) (xs := #[.tmp 19, .tmp 20]) rfl ?_); at_builtin; refine Kd.R_append Kd.bool (w0 := w) w.heap.size rfl (.tmp 19) (.tmp 20) 23 4 (.bool false) 1 rfl Try.underlying23 info4 rfl (by decide) (by omega) u172002 x172002_1 true [.bool true] (fun _ => True) (fun _ => False) rfl rfl ?aP (fun _ hk => hk.elim) ?aF ?aO ?aB ?aS ?aL ?_; (case aP => exact rfl); (case aB => exact Q0); (case aF => exact (fun _ _ => trivial)); (case aO => exact (Yr HO_172002.out)); (case aS => exact (Z7 Q0)); (case aL => have := LMc25.out; omega); intro v173 w28 ho hb hg hat; rw [← Ny172.out] at ho; replace HO_172000 := Ya (Kd.R_over' (Yr HO_172000.out) (Kd.R_typed (Yr HO_172002.out)) (by decide) hg); replace HO_172001 := Ya (Kd.R_over' (Yr HO_172001.out) (Kd.R_typed (Yr HO_172002.out)) (by decide) hg); replace HO_172003 := Ya (Kd.R_over' (Yr HO_172003.out) (Kd.R_typed (Yr HO_172002.out)) (by decide) hg); replace BK161 := Ya (blk_grown (g := gb161) (o := .cells #[.slice none 0 0, .slice none 0 0, .slice none 0 0, .slice none 0 0] 27 (0, 0)) (Yk BK161.out) hg (Kd.R_ne HO_172002.out BK161.out (by decide))); replace BK171 := Ya (blk_grown (g := gb171) (o := .cells #[.slice Ao19 t162.length co19, .slice Ao18 y165.length co18, u172002, .slice Ao17 t168.length co17] 27 (0, 0)) (Yk BK171.out) hg (Kd.R_ne HO_172002.out BK171.out (by decide))); replace HB := Ya hb; have HO174 := Ya ho; clear HO_172002; clear ho hb hg hat; obtain ⟨Ao29, co29, rfl⟩ := Z18 HO174.out; have hz30 := Y4 BK171.out))
       go_roundg k1
       case measure => have := HK1.out; omega
       case rel => exact ⟨(wrap64 (x16_1 + 1)), (y172), (.slice Ao29 y172.length co29), Q7, H', ⟨Q30⟩, ⟨by (with_reducible repeat (first | apply Z8 | apply Z9 | apply Z10)); exact Z11 (Z12 (p := ⟨gb171, 2, none⟩) (Z14 HO_172000.out BK171.out (by decide)) (fun _ hk => hk.2) (.slice Ao29 y172.length co29)) (fun _ hk => ⟨hk.1.1, hk.1.2⟩)⟩, ⟨by (with_reducible repeat (first | apply Z8 | apply Z9 | apply Z10)); exact Z11 (Z12 (p := ⟨gb171, 2, none⟩) (Z14 HO_172001.out BK171.out (by decide)) (fun _ hk => hk.2) (.slice Ao29 y172.length co29)) (fun _ hk => ⟨hk.1.1, hk.1.2⟩)⟩, ⟨by (with_reducible repeat (first | apply Z8 | apply Z9 | apply Z10)); exact Z11 (Z12 (p := ⟨gb171, 2, none⟩) (Z14 HO174.out BK171.out (by decide)) (fun _ hk => hk.2) (.slice Ao29 y172.length co29)) (fun _ hk => trivial)⟩, ⟨by (with_reducible repeat (first | apply Z8 | apply Z9 | apply Z10)); exact Z11 (Z12 (p := ⟨gb171, 2, none⟩) (Z14 HO_172003.out BK171.out (by decide)) (fun _ hk => hk.2) (.slice Ao29 y172.length co29)) (fun _ hk => ⟨hk.1.1, hk.1.2⟩)⟩, ⟨by (with_reducible repeat (first | refine Z22 ?_ _ | refine Z23 ?_ | refine Z24 ?_ _)); refine blk_far ?_ NB161_171.out _; (with_reducible repeat (first | refine Z22 ?_ _ | refine Z23 ?_ | refine Z24 ?_ _)); exact BK161.out⟩, ⟨by (with_reducible repeat (first | refine Z22 ?_ _ | refine Z23 ?_ | refine Z24 ?_ _)); refine Z26 (cs := #[.slice Ao19 t162.length co19, .slice Ao18 y165.length co18, u172002, .slice Ao17 t168.length co17]) ?_ 2 _ rfl; (with_reducible repeat (first | refine Z22 ?_ _ | refine Z23 ?_ | refine Z24 ?_ _)); exact BK171.out⟩, ⟨Q12⟩⟩
      ·rw [if_neg c25] at H
       exact absurd H (by simp)
     ·rw [if_neg c24] at H
      have c24b0 : decide (x16_1 < (l0.length : Int)) = false := Z34 c24
      clear c24
      simp only [Option.some.injEq, Prod.mk.injEq] at H
      obtain ⟨rfl, rfl, rfl, rfl⟩ := H
      have hnb31 := NB171_161.out
      have hnc31 := NB161_171.out
      have hz32 := Y4 BK171.out
      have hz33 := Y4 BK161.out
      obtain ⟨Ao34, co34, rfl⟩ := Z18 HO_172002.out
      go_wp2
      refine bodyPost_ret (results_cell_row rfl _ _ gb161 27 #[.slice Ao19 t162.length co19, .slice Ao18 y165.length co18, .slice Ao34 x172002_1.length co34, .slice Ao17 t168.length co17] (0, 0) _ rfl (Yk (Yv4 BK161.out)) Try.underlying27 rfl (by kernel_rfl)) rfl ?_
      exact ⟨_, _, _, _, Q2, by (with_reducible repeat (first | apply Z8 | apply Z9 | apply Z10)); exact Z11 (Yf4 HO_172000.out BK161.out) (fun _ hk => ⟨hk.1.1, hk.1.2⟩), by (with_reducible repeat (first | apply Z8 | apply Z9 | apply Z10)); exact Z11 (Yf4 HO_172001.out BK161.out) (fun _ hk => ⟨hk.1.1, hk.1.2⟩), by (with_reducible repeat (first | apply Z8 | apply Z9 | apply Z10)); exact Z11 (Yf4 HO_172002.out BK161.out) (fun _ hk => trivial), by (with_reducible repeat (first | apply Z8 | apply Z9 | apply Z10)); exact Z11 (Yf4 HO_172003.out BK161.out) (fun _ hk => ⟨hk.1.1, hk.1.2⟩), Q12⟩
  ·rw [if_neg c4] at H
   exact absurd H (by simp)
 ·rw [if_neg c3] at H
  exact absurd H (by simp)
def spec_foAt.l0 : Nat → Int → List Int → List Int → List Bool → List Int → Option (List Int × List Int × List Bool × List Int × Bool)
 | 0, _, _, _, _, _ => none
 | k + 1, x1, x189000, x189001, x189002, x189003 => if x1 > 0 then ((spec_foStep.f x189000 x189001 x189002 x189003).bind fun bt189 => (if bt189.2.2.2.2 < 0 then (some (([] : List Int), ([] : List Int), ([] : List Bool), ([] : List Int), false)) else (spec_foAt.l0 k (wrap64 (x1 - 1)) bt189.1 bt189.2.1 bt189.2.2.1 bt189.2.2.2.1))) else (some (x189000, x189001, x189002, x189003, true))
def spec_foAt.f (k : Nat) (l0 : List Int) (a1 : Int) : Option (List Int × List Int × List Bool × List Int × Bool) := (spec_foStart.f k l0).bind fun bt176 => (spec_foAt.l0 k a1 bt176.1 bt176.2.1 bt176.2.2.1 bt176.2.2.2)
theorem spec_foAt.mono_l : ∀ k, (∀ y0 y1 y2 y3 y4, LeO (spec_foAt.l0 k y0 y1 y2 y3 y4) (spec_foAt.l0 (k + 1) y0 y1 y2 y3 y4))
 | 0 => fun _ _ _ _ _ r h => by simp [spec_foAt.l0] at h
 | k + 1 => by
  have ih0 := spec_foAt.mono_l k
  ·intro y0 y1 y2 y3 y4
   unfold spec_foAt.l0
   repeat' first
   | (with_reducible exact ih0 _ _ _ _ _)
   | (with_reducible exact spec_foStart.mono _ _)
   | (with_reducible exact LeO.refl _)
   | (with_reducible exact LeO.none _)
   | (with_reducible refine LeO.ite ?_ ?_)
   | (with_reducible refine LeO.bind ?_ (fun _ => ?_))
   | exact ih0 _ _ _ _ _
   | exact spec_foStart.mono _ _
   | exact LeO.none _
   | refine LeO.ite ?_ ?_
   | refine LeO.bind ?_ (fun _ => ?_)
theorem spec_foAt.mono : ∀ a0 a1 k, LeO (spec_foAt.f k a0 a1) (spec_foAt.f (k + 1) a0 a1) := by
 intro a0 a1 k
 have ih0 := spec_foAt.mono_l k
 unfold spec_foAt.f
 repeat' first
   | (with_reducible exact ih0 _ _ _ _ _)
   | (with_reducible exact spec_foStart.mono _ _)
   | (with_reducible exact LeO.refl _)
   | (with_reducible exact LeO.none _)
   | (with_reducible refine LeO.ite ?_ ?_)
   | (with_reducible refine LeO.bind ?_ (fun _ => ?_))
   | exact ih0 _ _ _ _ _
   | exact spec_foStart.mono _ _
   | exact LeO.none _
   | refine LeO.ite ?_ ?_
   | refine LeO.bind ?_ (fun _ => ?_)
set_option maxHeartbeats 8000000 in
set_option maxRecDepth 100000 in
theorem spec_foAt.calls (k : Nat) (A0 : Option Addr) (c0 : Nat) (l0 : List Int) (a1 : Int) (r1 : List Int) (r2 : List Int) (r3 : List Bool) (r4 : List Int) (r5 : Bool) (w : World) (hr0 : Kd.C (Kd.int .i64) w A0 l0.length l0) (hc0 : l0.length ≤ c0) (h : spec_foAt.f k l0 a1 = some (r1, r2, r3, r4, r5)) :
  Calls Try.prog 60 #[.slice A0 l0.length c0, .int .i64 a1] w fun e w' => ∃ v0_ v1_ v2_ v3_ : Value, e = .returned (.tuple #[.agg #[v0_, v1_, v2_, v3_], .bool r5]) ∧ Kd.R (Kd.int .i64) 3 w' w.heap.size (fun k_ => some k_ ≠ (v1_ : Value).ownBlock ∧ some k_ ≠ (v3_ : Value).ownBlock) v0_ r1 ∧ Kd.R (Kd.int .i64) 3 w' w.heap.size (fun k_ => some k_ ≠ (v0_ : Value).ownBlock ∧ some k_ ≠ (v3_ : Value).ownBlock) v1_ r2 ∧ Kd.R Kd.bool 4 w' w.heap.size (fun _ => True) v2_ r3 ∧ Kd.R (Kd.int .i64) 3 w' w.heap.size (fun k_ => some k_ ≠ (v0_ : Value).ownBlock ∧ some k_ ≠ (v1_ : Value).ownBlock) v3_ r4 ∧ Below w.heap.size w w' := by
 have hu27 := Try.underlying27
 have HR0 := Ya hr0
 have HC0 := Ya hc0
 clear hr0 hc0
 have HB := Ya (Below.refl w.heap.size w)
 have H : ((spec_foStart.f k l0).bind fun bt176 => (spec_foAt.l0 k a1 bt176.1 bt176.2.1 bt176.2.2.1 bt176.2.2.2)) = some (r1, r2, r3, r4, r5) := h
 clear h
 replace H := Z33.mp H
 obtain ⟨⟨t176, t179, t182, t185⟩, A30, H⟩ := H
 replace H : (spec_foAt.l0 k a1 t176 t179 t182 t185) = some (r1, r2, r3, r4, r5) := H
 have A3 := Ya A30
 clear A30
 have H' := Ya H
 clear H
 go_enter Try.func60, Try.ntmps60
 go_wp2_with (first | ((with_reducible refine gate_dst (N := 4) rfl ?_); refine Yx 4 #[.slice none 0 0, .slice none 0 0, .slice none 0 0, .slice none 0 0] 27 ?_; intro gb175 hg w4 hbox hb; have BK175 := Ya hbox; have GE175 := Yg hg; replace HB := Yh hb; clear hb hbox hg) | ((with_reducible refine gate_callee (f := 78) rfl ?_); refine Yz 10 Try.func78 #[.slice A0 l0.length c0] ?_; (with_reducible refine (spec_foStart.calls k _ _ l0 t176 t179 t182 t185 _ (Yc (Z19 HR0.out HB.out)) HC0.out A3.out).mono ?_); rintro e w5 ⟨v177, v180, v183, v186, rfl, ho0, ho1, ho2, ho3, hb⟩; refine ⟨_, rfl, ?_⟩; have HO178 := Yl ho0; have HO181 := Yl ho1; have HO184 := Yl ho2; have HO187 := Yl ho3; replace BK175 := Yb BK175 hb; replace HB := Yh hb; (try clear hb ho0 ho1 ho2 ho3)) | ((with_reducible refine gate_dst (N := 6) rfl ?_); refine Yx 6 #[.slice none 0 0, .slice none 0 0, .slice none 0 0, .slice none 0 0] 27 ?_; intro gb188 hg w6 hbox hb; replace HO178 := Yw HO178 hb; replace HO181 := Yw HO181 hb; replace HO184 := Yw HO184 hb; replace HO187 := Yw HO187 hb; have BK188 := Ya hbox; have GE188 := Yg hg; replace HB := Yh hb; have NB175_188 := Yn BK175 hg; have NB188_175 := Ym BK175 hg; replace BK175 := Yb BK175 hb; clear hb hbox hg; obtain ⟨Ao7, co7, rfl⟩ := Z18 HO178.out; have hnb8 := NB188_175.out; have hnc8 := NB175_188.out; obtain ⟨hcz9_0, hcz9_1, hcz9_2, hcz9_3, hfz9_0, hfz9_1, hfz9_2, hfz9_3⟩ := Y4 BK188.out; obtain ⟨Ao10, co10, rfl⟩ := Z18 HO181.out; obtain ⟨Ao11, co11, rfl⟩ := Z18 HO184.out; obtain ⟨Ao12, co12, rfl⟩ := Z18 HO187.out))
 go_loopg [1] k (fun kq v1 w' => ∃ (x1_1 : Int) (x189000_1 : List Int) (x189001_1 : List Int) (x189002_1 : List Bool) (x189003_1 : List Int) (u189000 : Value) (u189001 : Value) (u189002 : Value) (u189003 : Value), v1 = .int .i64 x1_1 ∧ Aside0 (spec_foAt.l0 kq x1_1 x189000_1 x189001_1 x189002_1 x189003_1 = some (r1, r2, r3, r4, r5)) ∧ Aside0 (kq ≤ k) ∧ Aside0 (Kd.R (Kd.int .i64) 3 w' w.heap.size (fun k_ => some k_ ≠ (u189001 : Value).ownBlock ∧ some k_ ≠ (u189003 : Value).ownBlock) u189000 x189000_1) ∧ Aside0 (Kd.R (Kd.int .i64) 3 w' w.heap.size (fun k_ => some k_ ≠ (u189000 : Value).ownBlock ∧ some k_ ≠ (u189003 : Value).ownBlock) u189001 x189001_1) ∧ Aside0 (Kd.R Kd.bool 4 w' w.heap.size (fun _ => True) u189002 x189002_1) ∧ Aside0 (Kd.R (Kd.int .i64) 3 w' w.heap.size (fun k_ => some k_ ≠ (u189000 : Value).ownBlock ∧ some k_ ≠ (u189001 : Value).ownBlock) u189003 x189003_1) ∧ Aside0 (w'.heap[gb175]? = some (.cells #[(.slice none 0 0), (.slice none 0 0), (.slice none 0 0), (.slice none 0 0)] 27 (0, 0))) ∧ Aside0 (w'.heap[gb188]? = some (.cells #[u189000, u189001, u189002, u189003] 27 (0, 0))) ∧ Aside0 (Below w.heap.size w w'))
 case atStart => exact ⟨(a1), (t176), (t179), (t182), (t185), (.slice Ao7 t176.length co7), (.slice Ao10 t179.length co10), (.slice Ao11 t182.length co11), (.slice Ao12 t185.length co12), Q7, H', ⟨Nat.le_refl _⟩, ⟨by (with_reducible repeat (first | apply Z8 | apply Z9 | apply Z10)); exact Z11 (Yf4 HO178.out BK188.out) (fun _ hk => ⟨hk.1.1, hk.1.2⟩)⟩, ⟨by (with_reducible repeat (first | apply Z8 | apply Z9 | apply Z10)); exact Z11 (Yf4 HO181.out BK188.out) (fun _ hk => ⟨hk.1.1, hk.1.2⟩)⟩, ⟨by (with_reducible repeat (first | apply Z8 | apply Z9 | apply Z10)); exact Z11 (Yf4 HO184.out BK188.out) (fun _ hk => trivial)⟩, ⟨by (with_reducible repeat (first | apply Z8 | apply Z9 | apply Z10)); exact Z11 (Yf4 HO187.out BK188.out) (fun _ hk => ⟨hk.1.1, hk.1.2⟩)⟩, ⟨by (with_reducible repeat (first | refine Z22 ?_ _ | refine Z23 ?_ | refine Z24 ?_ _)); refine blk_far ?_ NB175_188.out _; (with_reducible repeat (first | refine Z22 ?_ _ | refine Z23 ?_ | refine Z24 ?_ _)); refine blk_far ?_ NB175_188.out _; (with_reducible repeat (first | refine Z22 ?_ _ | refine Z23 ?_ | refine Z24 ?_ _)); refine blk_far ?_ NB175_188.out _; (with_reducible repeat (first | refine Z22 ?_ _ | refine Z23 ?_ | refine Z24 ?_ _)); refine blk_far ?_ NB175_188.out _; (with_reducible repeat (first | refine Z22 ?_ _ | refine Z23 ?_ | refine Z24 ?_ _)); exact BK175.out⟩, ⟨by (with_reducible repeat (first | refine Z22 ?_ _ | refine Z23 ?_ | refine Z24 ?_ _)); refine Z26 (cs := #[.slice Ao7 t176.length co7, .slice Ao10 t179.length co10, .slice Ao11 t182.length co11, .slice none 0 0]) ?_ 3 _ rfl; (with_reducible repeat (first | refine Z22 ?_ _ | refine Z23 ?_ | refine Z24 ?_ _)); refine Z26 (cs := #[.slice Ao7 t176.length co7, .slice Ao10 t179.length co10, .slice none 0 0, .slice none 0 0]) ?_ 2 _ rfl; (with_reducible repeat (first | refine Z22 ?_ _ | refine Z23 ?_ | refine Z24 ?_ _)); refine Z26 (cs := #[.slice Ao7 t176.length co7, .slice none 0 0, .slice none 0 0, .slice none 0 0]) ?_ 1 _ rfl; (with_reducible repeat (first | refine Z22 ?_ _ | refine Z23 ?_ | refine Z24 ?_ _)); refine Z26 (cs := #[.slice none 0 0, .slice none 0 0, .slice none 0 0, .slice none 0 0]) ?_ 0 _ rfl; (with_reducible repeat (first | refine Z22 ?_ _ | refine Z23 ?_ | refine Z24 ?_ _)); exact BK188.out⟩, ⟨Q12⟩⟩
 case round =>
  clear H'
  try clear p2
  try clear c6
  try clear c7
  try clear c8
  try clear hcz9_0
  try clear hcz9_1
  try clear hcz9_2
  try clear hcz9_3
  try clear hfz9_0
  try clear hfz9_1
  try clear hfz9_2
  try clear hfz9_3
  obtain ⟨x1_1, x189000_1, x189001_1, x189002_1, x189003_1, u189000, u189001, u189002, u189003, rfl, HA, HK1, HO_189000, HO_189001, HO_189002, HO_189003, BK175, BK188, HB⟩ := hrel
  cases gk with
  | zero => exact absurd HA.out (by simp [spec_foAt.l0])
  | succ k1 =>
   have H := HA.out
   clear HA
   simp only [spec_foAt.l0] at H
   by_cases c13 : x1_1 > 0
   ·rw [if_pos c13] at H
    have c13b0 : decide (0 < x1_1) = true := Z35 c13
    clear c13
    replace H := Z33.mp H
    obtain ⟨⟨t189, t192, t195, t198, t201⟩, A140, H⟩ := H
    replace H : (if t201 < 0 then (some (([] : List Int), ([] : List Int), ([] : List Bool), ([] : List Int), false)) else (spec_foAt.l0 k1 (wrap64 (x1_1 - 1)) t189 t192 t195 t198)) = some (r1, r2, r3, r4, r5) := H
    have A14 := Ya A140
    clear A140
    by_cases c15 : t201 < 0
    ·rw [if_pos c15] at H
     have c15b0 : decide (t201 < 0) = true := Z35 c15
     clear c15
     simp only [Option.some.injEq, Prod.mk.injEq] at H
     obtain ⟨rfl, rfl, rfl, rfl, rfl⟩ := H
     have hnb16 := NB188_175.out
     have hnc16 := NB175_188.out
     have hz17 := Y4 BK188.out
     obtain ⟨Ao18, co18, rfl⟩ := Z18 HO_189000.out
     obtain ⟨Ao19, co19, rfl⟩ := Z18 HO_189001.out
     obtain ⟨Ao20, co20, rfl⟩ := Z18 HO_189002.out
     obtain ⟨Ao21, co21, rfl⟩ := Z18 HO_189003.out
     go_wp2_with (first | ((with_reducible refine gate_callee (f := 31) rfl ?_); refine Yz 17 Try.func31 #[.agg #[.slice Ao18 x189000_1.length co18, .slice Ao19 x189001_1.length co19, .slice Ao20 x189002_1.length co20, .slice Ao21 x189003_1.length co21]] ?_; (with_reducible refine (spec_foStep.calls _ _ x189000_1 _ _ x189001_1 _ _ x189002_1 _ _ x189003_1 t189 t192 t195 t198 t201 _ (Yc (Kd.R_reads' HO_189000.out).2.2) ((Kd.R_reads' HO_189000.out).2.1) (Yc (Kd.R_reads' HO_189001.out).2.2) ((Kd.R_reads' HO_189001.out).2.1) (Yc (Kd.R_reads' HO_189002.out).2.2) ((Kd.R_reads' HO_189002.out).2.1) (Yc (Kd.R_reads' HO_189003.out).2.2) ((Kd.R_reads' HO_189003.out).2.1) A14.out).mono ?_); rintro e w22 ⟨v190, v193, v196, v199, rfl, ho0, ho1, ho2, ho3, hb⟩; refine ⟨_, rfl, ?_⟩; have HO191 := Yl (Kd.R_new' (Kd.R_new' (Kd.R_new' ho0 (Z17 (Yr HO_189000.out))) (Z17 (Yr HO_189001.out))) (Z17 (Yr HO_189003.out))); have HO194 := Yl (Kd.R_new' (Kd.R_new' (Kd.R_new' ho1 (Z17 (Yr HO_189000.out))) (Z17 (Yr HO_189001.out))) (Z17 (Yr HO_189003.out))); have HO197 := Yl (Kd.R_new' ho2 (Z17 (Yr HO_189002.out))); replace HO_189002 := Ya (Kd.R_elder' (Yr HO_189002.out) (Kd.R_base ho2) hb); have HO200 := Yl (Kd.R_new' (Kd.R_new' (Kd.R_new' ho3 (Z17 (Yr HO_189000.out))) (Z17 (Yr HO_189001.out))) (Z17 (Yr HO_189003.out))); replace HO_189000 := Ya (Z11 (Z15 (Z15 (Z15 (Z16 (Yr HO_189000.out) hb) (Kd.R_base ho0)) (Kd.R_base ho1)) (Kd.R_base ho3)) (fun _ h_ => h_.1)); replace HO_189001 := Ya (Z11 (Z15 (Z15 (Z15 (Z16 (Yr HO_189001.out) hb) (Kd.R_base ho0)) (Kd.R_base ho1)) (Kd.R_base ho3)) (fun _ h_ => h_.1)); replace HO_189003 := Ya (Z11 (Z15 (Z15 (Z15 (Z16 (Yr HO_189003.out) hb) (Kd.R_base ho0)) (Kd.R_base ho1)) (Kd.R_base ho3)) (fun _ h_ => h_.1)); replace BK175 := Yb BK175 hb; replace BK188 := Yb BK188 hb; replace HB := Yh hb; (try clear hb ho0 ho1 ho2 ho3)) | ((with_reducible refine gate_dst (N := 7) rfl ?_); refine Yx 7 #[.slice none 0 0, .slice none 0 0, .slice none 0 0, .slice none 0 0] 27 ?_; intro gb202 hg w23 hbox hb; replace HO_189000 := Yw HO_189000 hb; replace HO_189001 := Yw HO_189001 hb; replace HO_189002 := Yw HO_189002 hb; replace HO_189003 := Yw HO_189003 hb; replace HO191 := Yw HO191 hb; replace HO194 := Yw HO194 hb; replace HO197 := Yw HO197 hb; replace HO200 := Yw HO200 hb; have BK202 := Ya hbox; have GE202 := Yg hg; replace HB := Yh hb; have NB175_202 := Yn BK175 hg; have NB202_175 := Ym BK175 hg; replace BK175 := Yb BK175 hb; have NB188_202 := Yn BK188 hg; have NB202_188 := Ym BK188 hg; replace BK188 := Yb BK188 hb; clear hb hbox hg; obtain ⟨Ao24, co24, rfl⟩ := Z18 HO191.out; have hnb25 := NB202_175.out; have hnc25 := NB175_202.out; have hnb26 := NB202_188.out; have hnc26 := NB188_202.out; have hz27 := Y4 BK202.out; obtain ⟨Ao28, co28, rfl⟩ := Z18 HO194.out; obtain ⟨Ao29, co29, rfl⟩ := Z18 HO197.out; obtain ⟨Ao30, co30, rfl⟩ := Z18 HO200.out; have hz31 := Y4 BK175.out))
     refine bodyPost_ret (results_ct rfl _ _ gb175 27 #[.slice none 0 0, .slice none 0 0, .slice none 0 0, .slice none 0 0] (0, 0) _ rfl (by (with_reducible repeat (first | refine Z22 ?_ _ | refine Z23 ?_ | refine Z24 ?_ _)); refine Z26 (cs := #[.slice none 0 0, .slice none 0 0, .slice none 0 0, .slice none 0 0]) ?_ 3 _ rfl; (with_reducible repeat (first | refine Z22 ?_ _ | refine Z23 ?_ | refine Z24 ?_ _)); refine Z26 (cs := #[.slice none 0 0, .slice none 0 0, .slice none 0 0, .slice none 0 0]) ?_ 2 _ rfl; (with_reducible repeat (first | refine Z22 ?_ _ | refine Z23 ?_ | refine Z24 ?_ _)); refine Z26 (cs := #[.slice none 0 0, .slice none 0 0, .slice none 0 0, .slice none 0 0]) ?_ 1 _ rfl; (with_reducible repeat (first | refine Z22 ?_ _ | refine Z23 ?_ | refine Z24 ?_ _)); refine Z26 (cs := #[.slice none 0 0, .slice none 0 0, .slice none 0 0, .slice none 0 0]) ?_ 0 _ rfl; (with_reducible repeat (first | refine Z22 ?_ _ | refine Z23 ?_ | refine Z24 ?_ _)); refine blk_far ?_ NB175_202.out _; (with_reducible repeat (first | refine Z22 ?_ _ | refine Z23 ?_ | refine Z24 ?_ _)); refine blk_far ?_ NB175_202.out _; (with_reducible repeat (first | refine Z22 ?_ _ | refine Z23 ?_ | refine Z24 ?_ _)); refine blk_far ?_ NB175_202.out _; (with_reducible repeat (first | refine Z22 ?_ _ | refine Z23 ?_ | refine Z24 ?_ _)); refine blk_far ?_ NB175_202.out _; (with_reducible repeat (first | refine Z22 ?_ _ | refine Z23 ?_ | refine Z24 ?_ _)); exact BK175.out) Try.underlying27 rfl (by kernel_rfl)) rfl ?_
     exact ⟨_, _, _, _, Q2, Q8, Q8, Q8, Q8, Q12⟩
    ·rw [if_neg c15] at H
     have c15b0 : decide (t201 < 0) = false := Z34 c15
     clear c15
     have H' := Ya H
     clear H
     have hnb32 := NB188_175.out
     have hnc32 := NB175_188.out
     have hz33 := Y4 BK188.out
     obtain ⟨Ao34, co34, rfl⟩ := Z18 HO_189000.out
     obtain ⟨Ao35, co35, rfl⟩ := Z18 HO_189001.out
     obtain ⟨Ao36, co36, rfl⟩ := Z18 HO_189002.out
     obtain ⟨Ao37, co37, rfl⟩ := Z18 HO_189003.out
     go_wp2_with (first | ((with_reducible refine gate_callee (f := 31) rfl ?_); refine Yz 17 Try.func31 #[.agg #[.slice Ao34 x189000_1.length co34, .slice Ao35 x189001_1.length co35, .slice Ao36 x189002_1.length co36, .slice Ao37 x189003_1.length co37]] ?_; (with_reducible refine (spec_foStep.calls _ _ x189000_1 _ _ x189001_1 _ _ x189002_1 _ _ x189003_1 t189 t192 t195 t198 t201 _ (Yc (Kd.R_reads' HO_189000.out).2.2) ((Kd.R_reads' HO_189000.out).2.1) (Yc (Kd.R_reads' HO_189001.out).2.2) ((Kd.R_reads' HO_189001.out).2.1) (Yc (Kd.R_reads' HO_189002.out).2.2) ((Kd.R_reads' HO_189002.out).2.1) (Yc (Kd.R_reads' HO_189003.out).2.2) ((Kd.R_reads' HO_189003.out).2.1) A14.out).mono ?_); rintro e w38 ⟨v190, v193, v196, v199, rfl, ho0, ho1, ho2, ho3, hb⟩; refine ⟨_, rfl, ?_⟩; have HO191 := Yl (Kd.R_new' (Kd.R_new' (Kd.R_new' ho0 (Z17 (Yr HO_189000.out))) (Z17 (Yr HO_189001.out))) (Z17 (Yr HO_189003.out))); have HO194 := Yl (Kd.R_new' (Kd.R_new' (Kd.R_new' ho1 (Z17 (Yr HO_189000.out))) (Z17 (Yr HO_189001.out))) (Z17 (Yr HO_189003.out))); have HO197 := Yl (Kd.R_new' ho2 (Z17 (Yr HO_189002.out))); replace HO_189002 := Ya (Kd.R_elder' (Yr HO_189002.out) (Kd.R_base ho2) hb); have HO200 := Yl (Kd.R_new' (Kd.R_new' (Kd.R_new' ho3 (Z17 (Yr HO_189000.out))) (Z17 (Yr HO_189001.out))) (Z17 (Yr HO_189003.out))); replace HO_189000 := Ya (Z11 (Z15 (Z15 (Z15 (Z16 (Yr HO_189000.out) hb) (Kd.R_base ho0)) (Kd.R_base ho1)) (Kd.R_base ho3)) (fun _ h_ => h_.1)); replace HO_189001 := Ya (Z11 (Z15 (Z15 (Z15 (Z16 (Yr HO_189001.out) hb) (Kd.R_base ho0)) (Kd.R_base ho1)) (Kd.R_base ho3)) (fun _ h_ => h_.1)); replace HO_189003 := Ya (Z11 (Z15 (Z15 (Z15 (Z16 (Yr HO_189003.out) hb) (Kd.R_base ho0)) (Kd.R_base ho1)) (Kd.R_base ho3)) (fun _ h_ => h_.1)); replace BK175 := Yb BK175 hb; replace BK188 := Yb BK188 hb; replace HB := Yh hb; (try clear hb ho0 ho1 ho2 ho3)) | ((with_reducible refine gate_dst (N := 7) rfl ?_); refine Yx 7 #[.slice none 0 0, .slice none 0 0, .slice none 0 0, .slice none 0 0] 27 ?_; intro gb202 hg w39 hbox hb; replace HO_189000 := Yw HO_189000 hb; replace HO_189001 := Yw HO_189001 hb; replace HO_189002 := Yw HO_189002 hb; replace HO_189003 := Yw HO_189003 hb; replace HO191 := Yw HO191 hb; replace HO194 := Yw HO194 hb; replace HO197 := Yw HO197 hb; replace HO200 := Yw HO200 hb; have BK202 := Ya hbox; have GE202 := Yg hg; replace HB := Yh hb; have NB175_202 := Yn BK175 hg; have NB202_175 := Ym BK175 hg; replace BK175 := Yb BK175 hb; have NB188_202 := Yn BK188 hg; have NB202_188 := Ym BK188 hg; replace BK188 := Yb BK188 hb; clear hb hbox hg; obtain ⟨Ao40, co40, rfl⟩ := Z18 HO191.out; have hnb41 := NB202_175.out; have hnc41 := NB175_202.out; have hnb42 := NB202_188.out; have hnc42 := NB188_202.out; have hz43 := Y4 BK202.out; obtain ⟨Ao44, co44, rfl⟩ := Z18 HO194.out; obtain ⟨Ao45, co45, rfl⟩ := Z18 HO197.out; obtain ⟨Ao46, co46, rfl⟩ := Z18 HO200.out; have hz47 := Y4 BK188.out))
     go_roundg k1
     case measure => have := HK1.out; omega
     case rel => exact ⟨(wrap64 (x1_1 - 1)), (t189), (t192), (t195), (t198), (.slice Ao40 t189.length co40), (.slice Ao44 t192.length co44), (.slice Ao45 t195.length co45), (.slice Ao46 t198.length co46), Q7, H', ⟨Q30⟩, ⟨by (with_reducible repeat (first | apply Z8 | apply Z9 | apply Z10)); exact Z11 (Z12 (p := ⟨gb188, 3, none⟩) (Z12 (p := ⟨gb188, 2, none⟩) (Z12 (p := ⟨gb188, 1, none⟩) (Z12 (p := ⟨gb188, 0, none⟩) (Z12 (p := ⟨gb202, 3, none⟩) (Z12 (p := ⟨gb202, 2, none⟩) (Z12 (p := ⟨gb202, 1, none⟩) (Z12 (p := ⟨gb202, 0, none⟩) (Z14 (Z14 HO191.out BK202.out (by decide)) BK188.out (by decide)) (fun _ hk => hk.1.2) (.slice Ao40 t189.length co40)) (fun _ hk => hk.1.2) (.slice Ao44 t192.length co44)) (fun _ hk => hk.1.2) (.slice Ao45 t195.length co45)) (fun _ hk => hk.1.2) (.slice Ao46 t198.length co46)) (fun _ hk => hk.2) (.slice Ao40 t189.length co40)) (fun _ hk => hk.2) (.slice Ao44 t192.length co44)) (fun _ hk => hk.2) (.slice Ao45 t195.length co45)) (fun _ hk => hk.2) (.slice Ao46 t198.length co46)) (fun _ hk => ⟨hk.1.1.1.1.1.1, hk.1.1.1.1.1.2⟩)⟩, ⟨by (with_reducible repeat (first | apply Z8 | apply Z9 | apply Z10)); exact Z11 (Z12 (p := ⟨gb188, 3, none⟩) (Z12 (p := ⟨gb188, 2, none⟩) (Z12 (p := ⟨gb188, 1, none⟩) (Z12 (p := ⟨gb188, 0, none⟩) (Z12 (p := ⟨gb202, 3, none⟩) (Z12 (p := ⟨gb202, 2, none⟩) (Z12 (p := ⟨gb202, 1, none⟩) (Z12 (p := ⟨gb202, 0, none⟩) (Z14 (Z14 HO194.out BK202.out (by decide)) BK188.out (by decide)) (fun _ hk => hk.1.2) (.slice Ao40 t189.length co40)) (fun _ hk => hk.1.2) (.slice Ao44 t192.length co44)) (fun _ hk => hk.1.2) (.slice Ao45 t195.length co45)) (fun _ hk => hk.1.2) (.slice Ao46 t198.length co46)) (fun _ hk => hk.2) (.slice Ao40 t189.length co40)) (fun _ hk => hk.2) (.slice Ao44 t192.length co44)) (fun _ hk => hk.2) (.slice Ao45 t195.length co45)) (fun _ hk => hk.2) (.slice Ao46 t198.length co46)) (fun _ hk => ⟨hk.1.1.1.1.1.1, hk.1.1.1.1.1.2⟩)⟩, ⟨by (with_reducible repeat (first | apply Z8 | apply Z9 | apply Z10)); exact Z11 (Z12 (p := ⟨gb188, 3, none⟩) (Z12 (p := ⟨gb188, 2, none⟩) (Z12 (p := ⟨gb188, 1, none⟩) (Z12 (p := ⟨gb188, 0, none⟩) (Z12 (p := ⟨gb202, 3, none⟩) (Z12 (p := ⟨gb202, 2, none⟩) (Z12 (p := ⟨gb202, 1, none⟩) (Z12 (p := ⟨gb202, 0, none⟩) (Z14 (Z14 HO197.out BK202.out (by decide)) BK188.out (by decide)) (fun _ hk => hk.1.2) (.slice Ao40 t189.length co40)) (fun _ hk => hk.1.2) (.slice Ao44 t192.length co44)) (fun _ hk => hk.1.2) (.slice Ao45 t195.length co45)) (fun _ hk => hk.1.2) (.slice Ao46 t198.length co46)) (fun _ hk => hk.2) (.slice Ao40 t189.length co40)) (fun _ hk => hk.2) (.slice Ao44 t192.length co44)) (fun _ hk => hk.2) (.slice Ao45 t195.length co45)) (fun _ hk => hk.2) (.slice Ao46 t198.length co46)) (fun _ hk => trivial)⟩, ⟨by (with_reducible repeat (first | apply Z8 | apply Z9 | apply Z10)); exact Z11 (Z12 (p := ⟨gb188, 3, none⟩) (Z12 (p := ⟨gb188, 2, none⟩) (Z12 (p := ⟨gb188, 1, none⟩) (Z12 (p := ⟨gb188, 0, none⟩) (Z12 (p := ⟨gb202, 3, none⟩) (Z12 (p := ⟨gb202, 2, none⟩) (Z12 (p := ⟨gb202, 1, none⟩) (Z12 (p := ⟨gb202, 0, none⟩) (Z14 (Z14 HO200.out BK202.out (by decide)) BK188.out (by decide)) (fun _ hk => hk.1.2) (.slice Ao40 t189.length co40)) (fun _ hk => hk.1.2) (.slice Ao44 t192.length co44)) (fun _ hk => hk.1.2) (.slice Ao45 t195.length co45)) (fun _ hk => hk.1.2) (.slice Ao46 t198.length co46)) (fun _ hk => hk.2) (.slice Ao40 t189.length co40)) (fun _ hk => hk.2) (.slice Ao44 t192.length co44)) (fun _ hk => hk.2) (.slice Ao45 t195.length co45)) (fun _ hk => hk.2) (.slice Ao46 t198.length co46)) (fun _ hk => ⟨hk.1.1.1.1.1.1, hk.1.1.1.1.1.2⟩)⟩, ⟨by (with_reducible repeat (first | refine Z22 ?_ _ | refine Z23 ?_ | refine Z24 ?_ _)); refine blk_far ?_ NB175_188.out _; (with_reducible repeat (first | refine Z22 ?_ _ | refine Z23 ?_ | refine Z24 ?_ _)); refine blk_far ?_ NB175_188.out _; (with_reducible repeat (first | refine Z22 ?_ _ | refine Z23 ?_ | refine Z24 ?_ _)); refine blk_far ?_ NB175_188.out _; (with_reducible repeat (first | refine Z22 ?_ _ | refine Z23 ?_ | refine Z24 ?_ _)); refine blk_far ?_ NB175_188.out _; (with_reducible repeat (first | refine Z22 ?_ _ | refine Z23 ?_ | refine Z24 ?_ _)); refine blk_far ?_ NB175_202.out _; (with_reducible repeat (first | refine Z22 ?_ _ | refine Z23 ?_ | refine Z24 ?_ _)); refine blk_far ?_ NB175_202.out _; (with_reducible repeat (first | refine Z22 ?_ _ | refine Z23 ?_ | refine Z24 ?_ _)); refine blk_far ?_ NB175_202.out _; (with_reducible repeat (first | refine Z22 ?_ _ | refine Z23 ?_ | refine Z24 ?_ _)); refine blk_far ?_ NB175_202.out _; (with_reducible repeat (first | refine Z22 ?_ _ | refine Z23 ?_ | refine Z24 ?_ _)); exact BK175.out⟩, ⟨by (with_reducible repeat (first | refine Z22 ?_ _ | refine Z23 ?_ | refine Z24 ?_ _)); refine Z26 (cs := #[.slice Ao40 t189.length co40, .slice Ao44 t192.length co44, .slice Ao45 t195.length co45, .slice Ao37 x189003_1.length co37]) ?_ 3 _ rfl; (with_reducible repeat (first | refine Z22 ?_ _ | refine Z23 ?_ | refine Z24 ?_ _)); refine Z26 (cs := #[.slice Ao40 t189.length co40, .slice Ao44 t192.length co44, .slice Ao36 x189002_1.length co36, .slice Ao37 x189003_1.length co37]) ?_ 2 _ rfl; (with_reducible repeat (first | refine Z22 ?_ _ | refine Z23 ?_ | refine Z24 ?_ _)); refine Z26 (cs := #[.slice Ao40 t189.length co40, .slice Ao35 x189001_1.length co35, .slice Ao36 x189002_1.length co36, .slice Ao37 x189003_1.length co37]) ?_ 1 _ rfl; (with_reducible repeat (first | refine Z22 ?_ _ | refine Z23 ?_ | refine Z24 ?_ _)); refine Z26 (cs := #[.slice Ao34 x189000_1.length co34, .slice Ao35 x189001_1.length co35, .slice Ao36 x189002_1.length co36, .slice Ao37 x189003_1.length co37]) ?_ 0 _ rfl; (with_reducible repeat (first | refine Z22 ?_ _ | refine Z23 ?_ | refine Z24 ?_ _)); refine blk_far ?_ NB188_202.out _; (with_reducible repeat (first | refine Z22 ?_ _ | refine Z23 ?_ | refine Z24 ?_ _)); refine blk_far ?_ NB188_202.out _; (with_reducible repeat (first | refine Z22 ?_ _ | refine Z23 ?_ | refine Z24 ?_ _)); refine blk_far ?_ NB188_202.out _; (with_reducible repeat (first | refine Z22 ?_ _ | refine Z23 ?_ | refine Z24 ?_ _)); refine blk_far ?_ NB188_202.out _; (with_reducible repeat (first | refine Z22 ?_ _ | refine Z23 ?_ | refine Z24 ?_ _)); exact BK188.out⟩, ⟨Q12⟩⟩
   ·rw [if_neg c13] at H
    have c13b0 : decide (0 < x1_1) = false := Z34 c13
    clear c13
    simp only [Option.some.injEq, Prod.mk.injEq] at H
    obtain ⟨rfl, rfl, rfl, rfl, rfl⟩ := H
    have hnb48 := NB188_175.out
    have hnc48 := NB175_188.out
    have hz49 := Y4 BK188.out
    obtain ⟨Ao50, co50, rfl⟩ := Z18 HO_189000.out
    have hz51 := Y4 BK175.out
    obtain ⟨Ao52, co52, rfl⟩ := Z18 HO_189001.out
    obtain ⟨Ao53, co53, rfl⟩ := Z18 HO_189002.out
    obtain ⟨Ao54, co54, rfl⟩ := Z18 HO_189003.out
    go_wp2
    refine bodyPost_ret (results_ct rfl _ _ gb175 27 #[.slice Ao50 x189000_1.length co50, .slice Ao52 x189001_1.length co52, .slice Ao53 x189002_1.length co53, .slice Ao54 x189003_1.length co54] (0, 0) _ rfl (Yk (Yv4 BK175.out)) Try.underlying27 rfl (by kernel_rfl)) rfl ?_
    exact ⟨_, _, _, _, Q2, by (with_reducible repeat (first | apply Z8 | apply Z9 | apply Z10)); exact Z11 (Yf4 HO_189000.out BK175.out) (fun _ hk => ⟨hk.1.1, hk.1.2⟩), by (with_reducible repeat (first | apply Z8 | apply Z9 | apply Z10)); exact Z11 (Yf4 HO_189001.out BK175.out) (fun _ hk => ⟨hk.1.1, hk.1.2⟩), by (with_reducible repeat (first | apply Z8 | apply Z9 | apply Z10)); exact Z11 (Yf4 HO_189002.out BK175.out) (fun _ hk => trivial), by (with_reducible repeat (first | apply Z8 | apply Z9 | apply Z10)); exact Z11 (Yf4 HO_189003.out BK175.out) (fun _ hk => ⟨hk.1.1, hk.1.2⟩), Q12⟩
def spec_gcMixedRank.f : Nat → List Int → List Int → Option (Int)
 | 0, _, _ => none
 | k + 1, l0, l1 => if (l0.length : Int) = 0 then (some 0) else (if 1 ≤ (l0.length : Int) then ((spec_raProduct.f k (l0.drop 1)).bind fun t204 => (if 1 ≤ (l1.length : Int) then ((spec_gcMixedRank.f k (l0.drop 1) (l1.drop 1)).bind fun t207 => (if 0 < (l1.length : Int) then (if (Int.tmod (rd l1 0) 2) = 1 then (some (wrap64 ((wrap64 ((rd l1 0) * t204)) + (wrap64 ((wrap64 (t204 - 1)) - t207))))) else (some (wrap64 ((wrap64 ((rd l1 0) * t204)) + t207)))) else (none))) else (none))) else (none))
theorem spec_gcMixedRank.mono_l : ∀ k, (∀ y0 y1, LeO (spec_gcMixedRank.f k y0 y1) (spec_gcMixedRank.f (k + 1) y0 y1))
 | 0 => fun _ _ r h => by simp [spec_gcMixedRank.f] at h
 | k + 1 => by
  have ih0 := spec_gcMixedRank.mono_l k
  ·intro y0 y1
   unfold spec_gcMixedRank.f
   repeat' first
   | (with_reducible exact ih0 _ _)
   | (with_reducible exact spec_raProduct.mono _ _)
   | (with_reducible exact LeO.refl _)
   | (with_reducible exact LeO.none _)
   | (with_reducible refine LeO.ite ?_ ?_)
   | (with_reducible refine LeO.bind ?_ (fun _ => ?_))
   | exact ih0 _ _
   | exact spec_raProduct.mono _ _
   | exact LeO.none _
   | refine LeO.ite ?_ ?_
   | refine LeO.bind ?_ (fun _ => ?_)
theorem spec_gcMixedRank.mono : ∀ a0 a1 k, LeO (spec_gcMixedRank.f k a0 a1) (spec_gcMixedRank.f (k + 1) a0 a1) := by
 intro a0 a1 k
 have ih0 := spec_gcMixedRank.mono_l k
 exact ih0 a0 a1
set_option maxHeartbeats 8000000 in
set_option maxRecDepth 100000 in
theorem spec_gcMixedRank.calls (k : Nat) : ∀ (A0 : Option Addr) (c0 : Nat) (l0 : List Int) (A1 : Option Addr) (c1 : Nat) (l1 : List Int) (r : Int) (w : World) (hr0 : Kd.C (Kd.int .i64) w A0 l0.length l0) (hc0 : l0.length ≤ c0) (hr1 : Kd.C (Kd.int .i64) w A1 l1.length l1) (hc1 : l1.length ≤ c1) (h : spec_gcMixedRank.f k l0 l1 = some r),
  Calls Try.prog 61 #[.slice A0 l0.length c0, .slice A1 l1.length c1] w fun e w' => e = .returned (.int .i64 r) ∧ Below w.heap.size w w' := by
 induction k using Nat.strongRecOn with
 | _ k ih =>
 intro A0 c0 l0 A1 c1 l1 r w hr0 hc0 hr1 hc1 h
 cases k with
 | zero => exact absurd h (by simp [spec_gcMixedRank.f])
 | succ k =>
 simp only [spec_gcMixedRank.f] at h
 have HR0 := Ya hr0
 have HC0 := Ya hc0
 clear hr0 hc0
 have HR1 := Ya hr1
 have HC1 := Ya hc1
 clear hr1 hc1
 have HB := Ya (Below.refl w.heap.size w)
 have H : (if (l0.length : Int) = 0 then (some 0) else (if 1 ≤ (l0.length : Int) then ((spec_raProduct.f k (l0.drop 1)).bind fun t204 => (if 1 ≤ (l1.length : Int) then ((spec_gcMixedRank.f k (l0.drop 1) (l1.drop 1)).bind fun t207 => (if 0 < (l1.length : Int) then (if (Int.tmod (rd l1 0) 2) = 1 then (some (wrap64 ((wrap64 ((rd l1 0) * t204)) + (wrap64 ((wrap64 (t204 - 1)) - t207))))) else (some (wrap64 ((wrap64 ((rd l1 0) * t204)) + t207)))) else (none))) else (none))) else (none))) = some r := h
 clear h
 by_cases c3 : (l0.length : Int) = 0
 ·rw [if_pos c3] at H
  have c3b0 : ((l0.length : Int) == 0) = true := beq_iff_eq.mpr c3
  have c3b1 : ((l0.length : Int) != 0) = false := bne_eq_false_iff_eq.mpr c3
  clear c3
  obtain rfl := Option.some.inj H
  go_enter Try.func61, Try.ntmps61
  go_wp2
  go_ret
  exact ⟨Q2, Q12⟩
 ·rw [if_neg c3] at H
  have c3b0 : ((l0.length : Int) == 0) = false := beq_eq_false_iff_ne.mpr c3
  have c3b1 : ((l0.length : Int) != 0) = true := bne_iff_ne.mpr c3
  have c3b2 : ¬ (l0 = []) := fun h_ => c3 (by rw [h_]; rfl)
  by_cases c4 : 1 ≤ (l0.length : Int)
  ·rw [if_pos c4] at H
   have c4b0 := eq_true c4
   have c4b1 : decide (1 ≤ (l0.length : Int)) = true := Z35 c4
   have HLEc4 := Ya c4
   clear c4
   replace H := Z33.mp H
   obtain ⟨t204, A50, H⟩ := H
   replace H : (if 1 ≤ (l1.length : Int) then ((spec_gcMixedRank.f k (l0.drop 1) (l1.drop 1)).bind fun t207 => (if 0 < (l1.length : Int) then (if (Int.tmod (rd l1 0) 2) = 1 then (some (wrap64 ((wrap64 ((rd l1 0) * t204)) + (wrap64 ((wrap64 (t204 - 1)) - t207))))) else (some (wrap64 ((wrap64 ((rd l1 0) * t204)) + t207)))) else (none))) else (none)) = some r := H
   have A5 := Ya A50
   clear A50
   have c6b0 := eq_true (Z27 Q1 : 1 ≤ (l0.length : Int))
   by_cases c7 : 1 ≤ (l1.length : Int)
   ·rw [if_pos c7] at H
    have c7b0 := eq_true c7
    have c7b1 : decide (1 ≤ (l1.length : Int)) = true := Z35 c7
    have HLEc7 := Ya c7
    clear c7
    replace H := Z33.mp H
    obtain ⟨t207, A80, H⟩ := H
    replace H : (if 0 < (l1.length : Int) then (if (Int.tmod (rd l1 0) 2) = 1 then (some (wrap64 ((wrap64 ((rd l1 0) * t204)) + (wrap64 ((wrap64 (t204 - 1)) - t207))))) else (some (wrap64 ((wrap64 ((rd l1 0) * t204)) + t207)))) else (none)) = some r := H
    have A8 := Ya A80
    clear A80
    by_cases c9 : 0 < (l1.length : Int)
    ·rw [if_pos c9] at H
     have c9b0 : decide (0 < (l1.length : Int)) = true := Z35 c9
     have c9b1 : decide (0 < l1.length) = true := Z35 (by omega)
     clear c9
     by_cases c10 : (Int.tmod (rd l1 0) 2) = 1
     ·rw [if_pos c10] at H
      have c10b0 : ((Int.tmod (rd l1 0) 2) == 1) = true := beq_iff_eq.mpr c10
      have c10b1 : ((Int.tmod (rd l1 0) 2) != 1) = false := bne_eq_false_iff_eq.mpr c10
      clear c10
      obtain rfl := Option.some.inj H
      obtain ⟨i011, hi011, _, hsz11, _⟩ := info_parts info3
      obtain ⟨A11, hcut11, hA11, hC11⟩ := print_drop_of (P := Try.prog) (Value.int .i64) 0 22 3 .i64 Try.underlying22 hi011 hsz11 A0 c0 l0 1 (by omega) (Z27 Q1) HC0.out
      have HR203 := Ya (Kd.C_of_reads (h1 := fun _ => rfl) (hA11 _ (Kd.reads_of_C HR0.out)))
      have HC203 := Ya hC11
      clear hA11 hC11 hi011 hsz11
      go_enter Try.func61, Try.ntmps61
      try go_wp2_with (first | ((with_reducible refine gate_callee (f := 77) rfl ?_); refine Yz 12 Try.func77 #[.slice A11 (l0.drop 1).length (c0 - 1)] ?_ (hargs := Q37); (with_reducible refine (spec_raProduct.calls k _ _ (l0.drop 1) t204 _ ?side1 ?side2 A5.out).mono ?_); (case side1 => exact Yc HR203.out); (case side2 => exact HC203.out); rintro e w' ⟨rfl, ⟨nd, rfl⟩⟩; refine ⟨_, rfl, ?_⟩))
      replace HB := Ya (Z4 (Z3 HB.out nd))
      have HR205 := HR203
      have HC205 := HC203
      obtain ⟨i014, hi014, _, hsz14, _⟩ := info_parts info3
      obtain ⟨A14, hcut14, hA14, hC14⟩ := print_drop_of (P := Try.prog) (Value.int .i64) 0 22 3 .i64 Try.underlying22 hi014 hsz14 A1 c1 l1 1 (by omega) (Z27 Q1) HC1.out
      have HR206 := Ya (Kd.C_of_reads (h1 := fun _ => rfl) (hA14 _ (Kd.reads_of_C HR1.out)))
      have HC206 := Ya hC14
      clear hA14 hC14 hi014 hsz14
      refine start_ (n := 6) (S := fun w' => True) (ds := []) (YA 6 0) (by kernel_rfl) rfl rfl trivial (fun hHeld => ?_)
      generalize (w.drewN nd).drew = w12 at HB HR205 HR206 hHeld ⊢
      refine Yq 0 (some 13) (YA 6 1) rfl ?_
      refine Yq 1 (some 14) (YA 6 3) rfl ?_
      refine Yq 2 (some 15) (YA 6 7) rfl ?_
      refine Yq 3 (some 16) (YA 6 15) rfl ?_
      refine one_ (i := 4) (N := some 17) (YA 6 31) rfl rfl (by kernel_rfl) (by decide) (fun K hK => ?_)
      refine goes_ Try.func61 (by kernel_rfl) rfl #[.slice A11 (l0.drop 1).length (c0 - 1), .slice A14 (l1.drop 1).length (c1 - 1)] (by rfl) rfl rfl Q20 ?_
      with_reducible refine (ih k (by omega) _ _ (l0.drop 1) _ _ (l1.drop 1) t207 _ ?side1 ?side2 ?side3 ?side4 A8.out).mono ?_
      (case side1 => exact Yc (Z19 HR205.out HB.out))
      (case side2 => exact HC205.out)
      (case side3 => exact Yc (Z19 HR206.out HB.out))
      (case side4 => exact HC206.out)
      rintro e w15 ⟨rfl, hb⟩
      refine ⟨_, rfl, ?_⟩
      replace HB := Yh hb
      (try clear hb)
      refine hK.out _ _ trivial (fun hHeld => ?_)
      clear hK K
      refine norm_ (a' := ?_) ?_ ?_
      rotate_left
      ·show Act.put _ (some 17) _ = _
       simp only [Act.put, Z0, Z1, Z2, i64_w, i32_w]
       rfl
      refine Yq 5 (some 6) (YA 6 63) rfl ?_
      refine done_ (by kernel_rfl) ?_
      have p208 : 0 ≤ (0 : Int) := (by omega)
      have q208 : 0 < (l1.length : Int) := Z27 Q1
      obtain ⟨ad208, e208, hx208_0⟩ := Kd.at_int HR1.out 0 p208 q208
      cases e208
      have qi208 : (0 < l1.length) = True := eq_true (by omega)
      (try rw [show ((0 : Int)).toNat = 0 from rfl] at hx208_0)
      (try rw [Addr.add_zero'] at hx208_0)
      try replace hx208_0 := (HB.out.cell (World.block_lt_of_cell? w _ hx208_0)).trans hx208_0
      replace p208 := eq_true p208
      replace q208 := eq_true q208
      have p209 : 0 ≤ (0 : Int) := (by omega)
      have q209 : 0 < (l1.length : Int) := Z27 Q1
      obtain ⟨ad209, e209, hx209_0⟩ := Kd.at_int HR1.out 0 p209 q209
      obtain rfl : ad208 = ad209 := (by injection e209)
      have qi209 : (0 < l1.length) = True := eq_true (by omega)
      (try rw [show ((0 : Int)).toNat = 0 from rfl] at hx209_0)
      (try rw [Addr.add_zero'] at hx209_0)
      try replace hx209_0 := (HB.out.cell (World.block_lt_of_cell? w _ hx209_0)).trans hx209_0
      replace p209 := eq_true p209
      replace q209 := eq_true q209
      try go_wp2
      go_ret
      exact ⟨Q2, Q12⟩
     ·rw [if_neg c10] at H
      have c10b0 : ((Int.tmod (rd l1 0) 2) == 1) = false := beq_eq_false_iff_ne.mpr c10
      have c10b1 : ((Int.tmod (rd l1 0) 2) != 1) = true := bne_iff_ne.mpr c10
      obtain rfl := Option.some.inj H
      obtain ⟨i016, hi016, _, hsz16, _⟩ := info_parts info3
      obtain ⟨A16, hcut16, hA16, hC16⟩ := print_drop_of (P := Try.prog) (Value.int .i64) 0 22 3 .i64 Try.underlying22 hi016 hsz16 A0 c0 l0 1 (by omega) (Z27 Q1) HC0.out
      have HR203 := Ya (Kd.C_of_reads (h1 := fun _ => rfl) (hA16 _ (Kd.reads_of_C HR0.out)))
      have HC203 := Ya hC16
      clear hA16 hC16 hi016 hsz16
      go_enter Try.func61, Try.ntmps61
      try go_wp2_with (first | ((with_reducible refine gate_callee (f := 77) rfl ?_); refine Yz 12 Try.func77 #[.slice A16 (l0.drop 1).length (c0 - 1)] ?_ (hargs := Q37); (with_reducible refine (spec_raProduct.calls k _ _ (l0.drop 1) t204 _ ?side1 ?side2 A5.out).mono ?_); (case side1 => exact Yc HR203.out); (case side2 => exact HC203.out); rintro e w' ⟨rfl, ⟨nd, rfl⟩⟩; refine ⟨_, rfl, ?_⟩))
      replace HB := Ya (Z4 (Z3 HB.out nd))
      have HR205 := HR203
      have HC205 := HC203
      obtain ⟨i019, hi019, _, hsz19, _⟩ := info_parts info3
      obtain ⟨A19, hcut19, hA19, hC19⟩ := print_drop_of (P := Try.prog) (Value.int .i64) 0 22 3 .i64 Try.underlying22 hi019 hsz19 A1 c1 l1 1 (by omega) (Z27 Q1) HC1.out
      have HR206 := Ya (Kd.C_of_reads (h1 := fun _ => rfl) (hA19 _ (Kd.reads_of_C HR1.out)))
      have HC206 := Ya hC19
      clear hA19 hC19 hi019 hsz19
      refine start_ (n := 6) (S := fun w' => True) (ds := []) (YA 6 0) (by kernel_rfl) rfl rfl trivial (fun hHeld => ?_)
      generalize (w.drewN nd).drew = w17 at HB HR205 HR206 hHeld ⊢
      refine Yq 0 (some 13) (YA 6 1) rfl ?_
      refine Yq 1 (some 14) (YA 6 3) rfl ?_
      refine Yq 2 (some 15) (YA 6 7) rfl ?_
      refine Yq 3 (some 16) (YA 6 15) rfl ?_
      refine one_ (i := 4) (N := some 17) (YA 6 31) rfl rfl (by kernel_rfl) (by decide) (fun K hK => ?_)
      refine goes_ Try.func61 (by kernel_rfl) rfl #[.slice A16 (l0.drop 1).length (c0 - 1), .slice A19 (l1.drop 1).length (c1 - 1)] (by rfl) rfl rfl Q20 ?_
      with_reducible refine (ih k (by omega) _ _ (l0.drop 1) _ _ (l1.drop 1) t207 _ ?side1 ?side2 ?side3 ?side4 A8.out).mono ?_
      (case side1 => exact Yc (Z19 HR205.out HB.out))
      (case side2 => exact HC205.out)
      (case side3 => exact Yc (Z19 HR206.out HB.out))
      (case side4 => exact HC206.out)
      rintro e w20 ⟨rfl, hb⟩
      refine ⟨_, rfl, ?_⟩
      replace HB := Yh hb
      (try clear hb)
      refine hK.out _ _ trivial (fun hHeld => ?_)
      clear hK K
      refine norm_ (a' := ?_) ?_ ?_
      rotate_left
      ·show Act.put _ (some 17) _ = _
       simp only [Act.put, Z0, Z1, Z2, i64_w, i32_w]
       rfl
      refine Yq 5 (some 6) (YA 6 63) rfl ?_
      refine done_ (by kernel_rfl) ?_
      have p208 : 0 ≤ (0 : Int) := (by omega)
      have q208 : 0 < (l1.length : Int) := Z27 Q1
      obtain ⟨ad208, e208, hx208_0⟩ := Kd.at_int HR1.out 0 p208 q208
      cases e208
      have qi208 : (0 < l1.length) = True := eq_true (by omega)
      (try rw [show ((0 : Int)).toNat = 0 from rfl] at hx208_0)
      (try rw [Addr.add_zero'] at hx208_0)
      try replace hx208_0 := (HB.out.cell (World.block_lt_of_cell? w _ hx208_0)).trans hx208_0
      replace p208 := eq_true p208
      replace q208 := eq_true q208
      have p210 : 0 ≤ (0 : Int) := (by omega)
      have q210 : 0 < (l1.length : Int) := Z27 Q1
      obtain ⟨ad210, e210, hx210_0⟩ := Kd.at_int HR1.out 0 p210 q210
      obtain rfl : ad208 = ad210 := (by injection e210)
      have qi210 : (0 < l1.length) = True := eq_true (by omega)
      (try rw [show ((0 : Int)).toNat = 0 from rfl] at hx210_0)
      (try rw [Addr.add_zero'] at hx210_0)
      try replace hx210_0 := (HB.out.cell (World.block_lt_of_cell? w _ hx210_0)).trans hx210_0
      replace p210 := eq_true p210
      replace q210 := eq_true q210
      try go_wp2
      go_ret
      exact ⟨Q2, Q12⟩
    ·rw [if_neg c9] at H
     exact absurd H (by simp)
   ·rw [if_neg c7] at H
    exact absurd H (by simp)
  ·rw [if_neg c4] at H
   exact absurd H (by simp)
def spec_l1Same.l0 : Nat → List Int → List Int → Int → Int → Option (Bool)
 | 0, _, _, _, _ => none
 | k + 1, x0, x1, x12, x13 => if x13 < x12 then (if 0 ≤ x13 then (if x13 < (x0.length : Int) then (if x13 < (x1.length : Int) then (if (rd x0 x13) = (rd x1 x13) then (spec_l1Same.l0 k x0 x1 x12 (wrap64 (x13 + 1))) else (some false)) else (none)) else (none)) else (none)) else (some true)
def spec_l1Same.f (k : Nat) (l0 : List Int) (l1 : List Int) : Option (Bool) := if (l0.length : Int) = (l1.length : Int) then (spec_l1Same.l0 k l0 l1 (l0.length : Int) 0) else (some false)
theorem spec_l1Same.mono_l : ∀ k, (∀ y0 y1 y2 y3, LeO (spec_l1Same.l0 k y0 y1 y2 y3) (spec_l1Same.l0 (k + 1) y0 y1 y2 y3))
 | 0 => fun _ _ _ _ r h => by simp [spec_l1Same.l0] at h
 | k + 1 => by
  have ih0 := spec_l1Same.mono_l k
  ·intro y0 y1 y2 y3
   unfold spec_l1Same.l0
   repeat' first
   | (with_reducible exact ih0 _ _ _ _)
   | (with_reducible exact LeO.refl _)
   | (with_reducible exact LeO.none _)
   | (with_reducible refine LeO.ite ?_ ?_)
   | (with_reducible refine LeO.bind ?_ (fun _ => ?_))
   | exact ih0 _ _ _ _
   | exact LeO.none _
   | refine LeO.ite ?_ ?_
   | refine LeO.bind ?_ (fun _ => ?_)
theorem spec_l1Same.mono : ∀ a0 a1 k, LeO (spec_l1Same.f k a0 a1) (spec_l1Same.f (k + 1) a0 a1) := by
 intro a0 a1 k
 have ih0 := spec_l1Same.mono_l k
 unfold spec_l1Same.f
 repeat' first
   | (with_reducible exact ih0 _ _ _ _)
   | (with_reducible exact LeO.refl _)
   | (with_reducible exact LeO.none _)
   | (with_reducible refine LeO.ite ?_ ?_)
   | (with_reducible refine LeO.bind ?_ (fun _ => ?_))
   | exact ih0 _ _ _ _
   | exact LeO.none _
   | refine LeO.ite ?_ ?_
   | refine LeO.bind ?_ (fun _ => ?_)
set_option maxHeartbeats 8000000 in
set_option maxRecDepth 100000 in
theorem spec_l1Same.calls (k : Nat) (A0 : Option Addr) (c0 : Nat) (l0 : List Int) (A1 : Option Addr) (c1 : Nat) (l1 : List Int) (r : Bool) (w : World) (hr0 : Kd.C (Kd.int .i64) w A0 l0.length l0) (hc0 : l0.length ≤ c0) (hr1 : Kd.C (Kd.int .i64) w A1 l1.length l1) (hc1 : l1.length ≤ c1) (h : spec_l1Same.f k l0 l1 = some r) :
  Calls Try.prog 70 #[.slice A0 l0.length c0, .slice A1 l1.length c1] w fun e w' => e = .returned (.bool r) ∧ Drawn0 w w' := by
 have HR0 := Ya hr0
 have HC0 := Ya hc0
 clear hr0 hc0
 have HR1 := Ya hr1
 have HC1 := Ya hc1
 clear hr1 hc1
 have H : (if (l0.length : Int) = (l1.length : Int) then (spec_l1Same.l0 k l0 l1 (l0.length : Int) 0) else (some false)) = some r := h
 clear h
 by_cases c3 : (l0.length : Int) = (l1.length : Int)
 ·rw [if_pos c3] at H
  have c3b0 : ((l0.length : Int) == (l1.length : Int)) = true := beq_iff_eq.mpr c3
  have c3b1 : ((l0.length : Int) != (l1.length : Int)) = false := bne_eq_false_iff_eq.mpr c3
  have c3b2 : (l0.length == l1.length) = true := by first | simpa using c3 | (simp at c3 ⊢; omega)
  clear c3
  have H' := Ya H
  clear H
  go_enter Try.func70, Try.ntmps70
  go_wp2
  repeat (go_quiet (fail); try go_wp2)
  go_loopg [13] k (fun kq v13 w' => ∃ (x13_1 : Int), v13 = .int .i64 x13_1 ∧ Aside0 (spec_l1Same.l0 kq l0 l1 (l0.length : Int) x13_1 = some r) ∧ Aside0 (kq ≤ k) ∧ Drawn0 w w')
  case atStart => exact ⟨(0), Q7, H', ⟨Nat.le_refl _⟩, Q5⟩
  case round =>
   clear H'
   try clear c1
   try clear p2
   try clear c3
   try clear c3b0
   try clear c3b1
   try clear c3b2
   obtain ⟨x13_1, rfl, HA, HK1, ⟨m1, rfl⟩⟩ := hrel
   cases gk with
   | zero => exact absurd HA.out (by simp [spec_l1Same.l0])
   | succ k1 =>
    have H := HA.out
    clear HA
    simp only [spec_l1Same.l0] at H
    by_cases c4 : x13_1 < (l0.length : Int)
    ·rw [if_pos c4] at H
     have c4b0 : decide (x13_1 < (l0.length : Int)) = true := Z35 c4
     clear c4
     by_cases c5 : 0 ≤ x13_1
     ·rw [if_pos c5] at H
      have c5b0 : decide (0 ≤ x13_1) = true := Z35 c5
      clear c5
      by_cases c6 : x13_1 < (l0.length : Int)
      ·rw [if_pos c6] at H
       have c6b0 : decide (x13_1 < (l0.length : Int)) = true := Z35 c6
       clear c6
       by_cases c7 : x13_1 < (l1.length : Int)
       ·rw [if_pos c7] at H
        have c7b0 : decide (x13_1 < (l1.length : Int)) = true := Z35 c7
        clear c7
        by_cases c8 : (rd l0 x13_1) = (rd l1 x13_1)
        ·rw [if_pos c8] at H
         have c8b0 : ((rd l0 x13_1) == (rd l1 x13_1)) = true := beq_iff_eq.mpr c8
         have c8b1 : ((rd l0 x13_1) != (rd l1 x13_1)) = false := bne_eq_false_iff_eq.mpr c8
         clear c8
         have H' := Ya H
         clear H
         have p211 : 0 ≤ (x13_1 : Int) := Z27 Q1
         have q211 : x13_1 < (l0.length : Int) := Z27 Q1
         obtain ⟨ad211, e211, hx211_0⟩ := Kd.at_int HR0.out x13_1 p211 q211
         cases e211
         replace p211 := eq_true p211
         replace q211 := eq_true q211
         have p212 : 0 ≤ (x13_1 : Int) := Z27 Q1
         have q212 : x13_1 < (l1.length : Int) := Z27 Q1
         obtain ⟨ad212, e212, hx212_0⟩ := Kd.at_int HR1.out x13_1 p212 q212
         cases e212
         replace p212 := eq_true p212
         replace q212 := eq_true q212
         go_wp2
         repeat (go_quiet (fail); try go_wp2)
         go_roundg k1
         case measure => have := HK1.out; omega
         case rel => exact ⟨(wrap64 (x13_1 + 1)), Q7, H', ⟨Q30⟩, Q5⟩
        ·rw [if_neg c8] at H
         have c8b0 : ((rd l0 x13_1) == (rd l1 x13_1)) = false := beq_eq_false_iff_ne.mpr c8
         have c8b1 : ((rd l0 x13_1) != (rd l1 x13_1)) = true := bne_iff_ne.mpr c8
         obtain rfl := Option.some.inj H
         have p211 : 0 ≤ (x13_1 : Int) := Z27 Q1
         have q211 : x13_1 < (l0.length : Int) := Z27 Q1
         obtain ⟨ad211, e211, hx211_0⟩ := Kd.at_int HR0.out x13_1 p211 q211
         cases e211
         replace p211 := eq_true p211
         replace q211 := eq_true q211
         have p212 : 0 ≤ (x13_1 : Int) := Z27 Q1
         have q212 : x13_1 < (l1.length : Int) := Z27 Q1
         obtain ⟨ad212, e212, hx212_0⟩ := Kd.at_int HR1.out x13_1 p212 q212
         cases e212
         replace p212 := eq_true p212
         replace q212 := eq_true q212
         go_wp2
         repeat (go_quiet (fail); try go_wp2)
         go_ret
         exact ⟨Q13, Q5⟩
       ·rw [if_neg c7] at H
        exact absurd H (by simp)
      ·rw [if_neg c6] at H
       exact absurd H (by simp)
     ·rw [if_neg c5] at H
      exact absurd H (by simp)
    ·rw [if_neg c4] at H
     have c4b0 : decide (x13_1 < (l0.length : Int)) = false := Z34 c4
     clear c4
     obtain rfl := Option.some.inj H
     go_wp2
     repeat (go_quiet (fail); try go_wp2)
     go_ret
     exact ⟨Q13, Q5⟩
 ·rw [if_neg c3] at H
  have c3b0 : ((l0.length : Int) == (l1.length : Int)) = false := beq_eq_false_iff_ne.mpr c3
  have c3b1 : ((l0.length : Int) != (l1.length : Int)) = true := bne_iff_ne.mpr c3
  have c3b2 : (l0.length == l1.length) = false := by first | simpa using c3 | (simp at c3 ⊢; omega)
  obtain rfl := Option.some.inj H
  go_enter Try.func70, Try.ntmps70
  go_wp2
  repeat (go_quiet (fail); try go_wp2)
  go_ret
  exact ⟨Q13, Q5⟩
end Go.Proofs.Ytpfakdhfffehaaa.MFnExactIsSwapper
