import Derived.Test.YtpfakdhfffehaaaMFnExactStepFocusx0
import Derived.Test.YtpfakdhfffehaaaMFnExactStepFocusx1
import Derived.Test.YtpfakdhfffehaaaMFnExactStepFocusx3
namespace Go.Proofs.Ytpfakdhfffehaaa.MFnExactStepFocus
open Go.RowKit Go.Proofs.YtpfakdhfffehaaaW.PrintWords Go.Proofs.YtpfakdhfffehaaaW.PrintLast Go.Proofs.YtpfakdhfffehaaaW.PrintMore
attribute [local go_sem] max2_int min2_int max_two min_two max_three min_three max_four min_four   
set_option linter.unusedVariables false
set_option linter.unusedSimpArgs false
def spec_foStart.l0 : Nat → Int → Int → List Int → List Int → List Bool → List Int → Option (List Int × List Int × List Bool × List Int)
 | 0, _, _, _, _, _, _ => none
 | k + 1, x15, x16, x153000, x153001, x153002, x153003 => if x16 < x15 then (if x153002.length < 140737488355328 then (spec_foStart.l0 k x15 (wrap64 (x16 + 1)) x153000 x153001 (x153002 ++ [true]) x153003) else (none)) else (some (x153000, x153001, x153002, x153003))
def spec_foStart.f (k : Nat) (l0 : List Int) : Option (List Int × List Int × List Bool × List Int) := (spec_l1Own.f l0).bind fun t143 => (if 0 ≤ (l0.length : Int) then (if ((l0.length : Int) : Int).toNat ≤ 35184372088832 then ((spec_raUpTo.f k (wrap64 ((l0.length : Int) + 1))).bind fun t149 => (spec_foStart.l0 k (l0.length : Int) 0 t143 (List.replicate ((l0.length : Int) : Int).toNat 0) ([] : List Bool) t149)) else (none)) else (none))
theorem spec_foStart.mono_l : ∀ k, (∀ y0 y1 y2 y3 y4 y5, LeO (spec_foStart.l0 k y0 y1 y2 y3 y4 y5) (spec_foStart.l0 (k + 1) y0 y1 y2 y3 y4 y5))
 | 0 => fun _ _ _ _ _ _ r h => by simp [spec_foStart.l0] at h
 | k + 1 => by
  have ih0 := spec_foStart.mono_l k
  ·intro y0 y1 y2 y3 y4 y5
   unfold spec_foStart.l0
   repeat' first
   | (with_reducible exact ih0 _ _ _ _ _ _)
   | (with_reducible exact spec_raUpTo.mono _ _)
   | (with_reducible exact LeO.refl _)
   | (with_reducible exact LeO.none _)
   | (with_reducible refine LeO.ite ?_ ?_)
   | (with_reducible refine LeO.bind ?_ (fun _ => ?_))
   | exact ih0 _ _ _ _ _ _
   | exact spec_raUpTo.mono _ _
   | exact LeO.none _
   | refine LeO.ite ?_ ?_
   | refine LeO.bind ?_ (fun _ => ?_)
theorem spec_foStart.mono : ∀ a0 k, LeO (spec_foStart.f k a0) (spec_foStart.f (k + 1) a0) := by
 intro a0 k
 have ih0 := spec_foStart.mono_l k
 unfold spec_foStart.f
 repeat' first
   | (with_reducible exact ih0 _ _ _ _ _ _)
   | (with_reducible exact spec_raUpTo.mono _ _)
   | (with_reducible exact LeO.refl _)
   | (with_reducible exact LeO.none _)
   | (with_reducible refine LeO.ite ?_ ?_)
   | (with_reducible refine LeO.bind ?_ (fun _ => ?_))
   | exact ih0 _ _ _ _ _ _
   | exact spec_raUpTo.mono _ _
   | exact LeO.none _
   | refine LeO.ite ?_ ?_
   | refine LeO.bind ?_ (fun _ => ?_)
def spec_foStart.T1 : Bool × List (List Nat × List Nat) := (true, [([], []), ([0], [0]), ([], []), ([2], [2]), ([3, 3], [3]), ([], []), ([5], [5]), ([6], [6]), ([7, 1], [7]), ([1, 4, 8], [1, 4, 8]), ([], []), ([10, 9, 8, 0, 1, 2, 3, 4, 5, 6, 7, 8, 9, 10], [9, 10])])
def spec_foStart.B1 : List Nat := [0, 1, 0, 4, 12, 0, 32, 96, 227, 511, 0, 2047]
theorem spec_foStart.tab1 : rtab .any (opsOf Try.f78 1) = spec_foStart.T1 := by kernel_rfl
theorem spec_foStart.bits1 : waitsOk spec_foStart.T1.2 spec_foStart.B1 = true := by kernel_rfl
set_option maxHeartbeats 8000000 in
set_option maxRecDepth 100000 in
theorem spec_foStart.calls (k : Nat) (A0 : Option Addr) (c0 : Nat) (l0 : List Int) (r1 : List Int) (r2 : List Int) (r3 : List Bool) (r4 : List Int) (w : World) (hr0 : Kd.C (Kd.int .i64) w A0 l0.length l0) (hc0 : l0.length ≤ c0) (h : spec_foStart.f k l0 = some (r1, r2, r3, r4)) :
  Calls Try.prog 78 #[.slice A0 l0.length c0] w fun e w' => ∃ v0_ v1_ v2_ v3_ : Value, e = .returned (.agg #[v0_, v1_, v2_, v3_]) ∧ Kd.R (Kd.int .i64) 3 w' w.heap.size (fun k_ => some k_ ≠ (v1_ : Value).ownBlock ∧ some k_ ≠ (v3_ : Value).ownBlock) v0_ r1 ∧ Kd.R (Kd.int .i64) 3 w' w.heap.size (fun k_ => some k_ ≠ (v0_ : Value).ownBlock ∧ some k_ ≠ (v3_ : Value).ownBlock) v1_ r2 ∧ Kd.R Kd.bool 4 w' w.heap.size (fun _ => True) v2_ r3 ∧ Kd.R (Kd.int .i64) 3 w' w.heap.size (fun k_ => some k_ ≠ (v0_ : Value).ownBlock ∧ some k_ ≠ (v1_ : Value).ownBlock) v3_ r4 ∧ Below w.heap.size w w' := by
 have hu27 := Try.underlying27
 have HR0 := Ya hr0
 have HC0 := Ya hc0
 clear hr0 hc0
 have HB := Ya (Below.refl w.heap.size w)
 have H : ((spec_l1Own.f l0).bind fun t143 => (if 0 ≤ (l0.length : Int) then (if ((l0.length : Int) : Int).toNat ≤ 35184372088832 then ((spec_raUpTo.f k (wrap64 ((l0.length : Int) + 1))).bind fun t149 => (spec_foStart.l0 k (l0.length : Int) 0 t143 (List.replicate ((l0.length : Int) : Int).toNat 0) ([] : List Bool) t149)) else (none)) else (none))) = some (r1, r2, r3, r4) := h
 clear h
 replace H := Z36.mp H
 obtain ⟨t143, A20, H⟩ := H
 replace H : (if 0 ≤ (l0.length : Int) then (if ((l0.length : Int) : Int).toNat ≤ 35184372088832 then ((spec_raUpTo.f k (wrap64 ((l0.length : Int) + 1))).bind fun t149 => (spec_foStart.l0 k (l0.length : Int) 0 t143 (List.replicate ((l0.length : Int) : Int).toNat 0) ([] : List Bool) t149)) else (none)) else (none)) = some (r1, r2, r3, r4) := H
 have A2 := Ya A20
 clear A20
 by_cases c3 : 0 ≤ (l0.length : Int)
 ·rw [if_pos c3] at H
  have c3b0 := eq_true c3
  have c3b1 : decide (0 ≤ (l0.length : Int)) = true := Z38 c3
  have HLEc3 := Ya c3
  clear c3
  by_cases c4 : ((l0.length : Int) : Int).toNat ≤ 35184372088832
  ·rw [if_pos c4] at H
   have c4b0 := eq_true c4
   have c4b1 : decide (((l0.length : Int) : Int).toNat ≤ 35184372088832) = true := Z38 c4
   clear c4
   obtain ⟨y146, hy146⟩ : ∃ y_ : List Int, y_ = (List.replicate ((l0.length : Int) : Int).toNat 0) := ⟨_, rfl⟩
   replace H : ((spec_raUpTo.f k (wrap64 ((l0.length : Int) + 1))).bind fun t149 => (spec_foStart.l0 k (l0.length : Int) 0 t143 y146 ([] : List Bool) t149)) = some (r1, r2, r3, r4) := by first | (rw [hy146]; with_reducible exact H) | (have H2_ := (Option.bind_some _ _).symm.trans H; rw [hy146]; with_reducible exact H2_) | (have H2_ := (Option.bind_some _ _).symm.trans H; with_reducible exact H2_) | with_reducible exact H | (rw [hy146]; exact H) | exact H
   have Ny146 := Ya hy146
   clear hy146
   replace H := Z36.mp H
   obtain ⟨t149, A50, H⟩ := H
   replace H : (spec_foStart.l0 k (l0.length : Int) 0 t143 y146 ([] : List Bool) t149) = some (r1, r2, r3, r4) := H
   have A5 := Ya A50
   clear A50
   have H' := Ya H
   clear H
   go_enter Try.func78, Try.ntmps78
   try go_wp2_with (first | ((with_reducible refine gate_dst (N := 2) rfl ?_); refine Yx 2 #[.slice none 0 0, .slice none 0 0, .slice none 0 0, .slice none 0 0] 27 ?_; intro gb142 hg w6 hbox hb; have BK142 := Ya hbox; have GW142 := Yg hg; have GE142 := GW142; replace HB := Yh hb; clear hb hbox hg))
   replace BK142 := Ya (Z26 BK142.out)
   replace HB := Ya (Z4 HB.out)
   refine start_ (n := 12) (S := fun w' => True) (ds := []) (YA 12 0) (by kernel_rfl) rfl rfl trivial (fun hHeld => ?_); refine with_tabW spec_foStart.tab1 spec_foStart.bits1 (fun HT_ HW_ => ?_)
   generalize w6.drew = w7 at BK142 HB hHeld ⊢
   refine Yp 0 (some 4) (YA 12 1) rfl HT_.out ?_
   refine Yp 2 (some 6) (YA 12 5) rfl HT_.out ?_
   refine Yp 3 (some 7) (YA 12 13) rfl HT_.out ?_
   refine Yp 5 (some 9) (YA 12 45) rfl HT_.out ?_
   refine Yp 6 (some 10) (YA 12 109) rfl HT_.out ?_
   refine Yp 7 (some 11) (YA 12 237) rfl HT_.out ?_
   refine join_ (σ := Value × Value × Value × Nat) 1 (YA 12 2047) (fun s_ => [(5, s_.1), (8, s_.2.1), (12, s_.2.2.1), (3, .pointer (some ⟨s_.2.2.2, 0, none⟩)), (13, .agg #[s_.1, s_.2.1, .slice none 0 0, s_.2.2.1])]) (fun s_ w' => (Kd.R (Kd.int .i64) 3 w' w.heap.size (fun k_ => some k_ ≠ (s_.2.1 : Value).ownBlock ∧ some k_ ≠ (s_.2.2.1 : Value).ownBlock) s_.1 t143) ∧ (Kd.R (Kd.int .i64) 3 w' w.heap.size (fun k_ => some k_ ≠ (s_.1 : Value).ownBlock ∧ some k_ ≠ (s_.2.2.1 : Value).ownBlock) s_.2.1 y146) ∧ (Kd.R (Kd.int .i64) 3 w' w.heap.size (fun k_ => some k_ ≠ (s_.1 : Value).ownBlock ∧ some k_ ≠ (s_.2.1 : Value).ownBlock) s_.2.2.1 t149) ∧ (w'.heap[gb142]? = some (.cells #[.slice none 0 0, .slice none 0 0, .slice none 0 0, .slice none 0 0] 27 (0, 0))) ∧ (w'.heap[s_.2.2.2]? = some (.cells #[.slice none 0 0, .slice none 0 0, .slice none 0 0, .slice none 0 0] 27 (0, 0))) ∧ (w.heap.size ≤ s_.2.2.2) ∧ (w.heap.size ≤ s_.2.2.2) ∧ (gb142 ≠ s_.2.2.2) ∧ (s_.2.2.2 ≠ gb142) ∧ (Below w.heap.size w w')) ?_ ?_
   rotate_left
   ·intro hJ1_4_8_10
    refine join_ (σ := Value × Value × Value) 2 (YA 12 1023) (fun s_ => [(5, s_.1), (8, s_.2.1), (12, s_.2.2), (13, .agg #[s_.1, s_.2.1, .slice none 0 0, s_.2.2])]) (fun s_ w' => (Kd.R (Kd.int .i64) 3 w' w.heap.size (fun k_ => some k_ ≠ (s_.2.1 : Value).ownBlock ∧ some k_ ≠ (s_.2.2 : Value).ownBlock) s_.1 t143) ∧ (Kd.R (Kd.int .i64) 3 w' w.heap.size (fun k_ => some k_ ≠ (s_.1 : Value).ownBlock ∧ some k_ ≠ (s_.2.2 : Value).ownBlock) s_.2.1 y146) ∧ (Kd.R (Kd.int .i64) 3 w' w.heap.size (fun k_ => some k_ ≠ (s_.1 : Value).ownBlock ∧ some k_ ≠ (s_.2.1 : Value).ownBlock) s_.2.2 t149) ∧ (w'.heap[gb142]? = some (.cells #[.slice none 0 0, .slice none 0 0, .slice none 0 0, .slice none 0 0] 27 (0, 0))) ∧ (Below w.heap.size w w')) ?_ ?_
    rotate_left
    ·intro hJ1_4_8
     refine join_ (σ := Value × Value × Nat) 3 (YA 12 1279) (fun s_ => [(5, s_.1), (8, s_.2.1), (3, .pointer (some ⟨s_.2.2, 0, none⟩))]) (fun s_ w' => (Kd.R (Kd.int .i64) 3 w' w.heap.size (fun k_ => some k_ ≠ (s_.2.1 : Value).ownBlock) s_.1 t143) ∧ (Kd.R (Kd.int .i64) 3 w' w.heap.size (fun k_ => some k_ ≠ (s_.1 : Value).ownBlock) s_.2.1 y146) ∧ (w'.heap[gb142]? = some (.cells #[.slice none 0 0, .slice none 0 0, .slice none 0 0, .slice none 0 0] 27 (0, 0))) ∧ (w'.heap[s_.2.2]? = some (.cells #[.slice none 0 0, .slice none 0 0, .slice none 0 0, .slice none 0 0] 27 (0, 0))) ∧ (w.heap.size ≤ s_.2.2) ∧ (w.heap.size ≤ s_.2.2) ∧ (gb142 ≠ s_.2.2) ∧ (s_.2.2 ≠ gb142) ∧ (Below w.heap.size w w')) ?_ ?_
     rotate_left
     ·intro hJ1_4_10
      refine join_ (σ := Value × Value × Nat) 3 (YA 12 1519) (fun s_ => [(5, s_.1), (12, s_.2.1), (3, .pointer (some ⟨s_.2.2, 0, none⟩))]) (fun s_ w' => (Kd.R (Kd.int .i64) 3 w' w.heap.size (fun k_ => some k_ ≠ (s_.2.1 : Value).ownBlock) s_.1 t143) ∧ (Kd.R (Kd.int .i64) 3 w' w.heap.size (fun k_ => some k_ ≠ (s_.1 : Value).ownBlock) s_.2.1 t149) ∧ (w'.heap[gb142]? = some (.cells #[.slice none 0 0, .slice none 0 0, .slice none 0 0, .slice none 0 0] 27 (0, 0))) ∧ (w'.heap[s_.2.2]? = some (.cells #[.slice none 0 0, .slice none 0 0, .slice none 0 0, .slice none 0 0] 27 (0, 0))) ∧ (w.heap.size ≤ s_.2.2) ∧ (w.heap.size ≤ s_.2.2) ∧ (gb142 ≠ s_.2.2) ∧ (s_.2.2 ≠ gb142) ∧ (Below w.heap.size w w')) ?_ ?_
      rotate_left
      ·intro hJ1_8_10
       refine join_ (σ := Value × Value) 4 (YA 12 255) (fun s_ => [(5, s_.1), (8, s_.2)]) (fun s_ w' => (Kd.R (Kd.int .i64) 3 w' w.heap.size (fun k_ => some k_ ≠ (s_.2 : Value).ownBlock) s_.1 t143) ∧ (Kd.R (Kd.int .i64) 3 w' w.heap.size (fun k_ => some k_ ≠ (s_.1 : Value).ownBlock) s_.2 y146) ∧ (w'.heap[gb142]? = some (.cells #[.slice none 0 0, .slice none 0 0, .slice none 0 0, .slice none 0 0] 27 (0, 0))) ∧ (Below w.heap.size w w')) ?_ ?_
       rotate_left
       ·intro hJ1_4
        refine join_ (σ := Value × Value) 4 (YA 12 495) (fun s_ => [(5, s_.1), (12, s_.2)]) (fun s_ w' => (Kd.R (Kd.int .i64) 3 w' w.heap.size (fun k_ => some k_ ≠ (s_.2 : Value).ownBlock) s_.1 t143) ∧ (Kd.R (Kd.int .i64) 3 w' w.heap.size (fun k_ => some k_ ≠ (s_.1 : Value).ownBlock) s_.2 t149) ∧ (w'.heap[gb142]? = some (.cells #[.slice none 0 0, .slice none 0 0, .slice none 0 0, .slice none 0 0] 27 (0, 0))) ∧ (Below w.heap.size w w')) ?_ ?_
        rotate_left
        ·intro hJ1_8
         refine join_ (σ := Value × Nat) 4 (YA 12 1263) (fun s_ => [(5, s_.1), (3, .pointer (some ⟨s_.2, 0, none⟩))]) (fun s_ w' => (Kd.R (Kd.int .i64) 3 w' w.heap.size (fun _ => True) s_.1 t143) ∧ (w'.heap[gb142]? = some (.cells #[.slice none 0 0, .slice none 0 0, .slice none 0 0, .slice none 0 0] 27 (0, 0))) ∧ (w'.heap[s_.2]? = some (.cells #[.slice none 0 0, .slice none 0 0, .slice none 0 0, .slice none 0 0] 27 (0, 0))) ∧ (w.heap.size ≤ s_.2) ∧ (w.heap.size ≤ s_.2) ∧ (gb142 ≠ s_.2) ∧ (s_.2 ≠ gb142) ∧ (Below w.heap.size w w')) ?_ ?_
         rotate_left
         ·intro hJ1_10
          refine join_ (σ := Value × Nat) 4 (YA 12 1277) (fun s_ => [(8, s_.1), (3, .pointer (some ⟨s_.2, 0, none⟩))]) (fun s_ w' => (Kd.R (Kd.int .i64) 3 w' w.heap.size (fun _ => True) s_.1 y146) ∧ (w'.heap[gb142]? = some (.cells #[.slice none 0 0, .slice none 0 0, .slice none 0 0, .slice none 0 0] 27 (0, 0))) ∧ (w'.heap[s_.2]? = some (.cells #[.slice none 0 0, .slice none 0 0, .slice none 0 0, .slice none 0 0] 27 (0, 0))) ∧ (w.heap.size ≤ s_.2) ∧ (w.heap.size ≤ s_.2) ∧ (gb142 ≠ s_.2) ∧ (s_.2 ≠ gb142) ∧ (Below w.heap.size w w')) ?_ ?_
          rotate_left
          ·intro hJ4_10
           refine join_ (σ := Value) 5 (YA 12 239) (fun s_ => [(5, s_)]) (fun s_ w' => (Kd.R (Kd.int .i64) 3 w' w.heap.size (fun _ => True) s_ t143) ∧ (w'.heap[gb142]? = some (.cells #[.slice none 0 0, .slice none 0 0, .slice none 0 0, .slice none 0 0] 27 (0, 0))) ∧ (Below w.heap.size w w')) ?_ ?_
           rotate_left
           ·intro hJ1
            refine join_ (σ := Value) 5 (YA 12 253) (fun s_ => [(8, s_)]) (fun s_ w' => (Kd.R (Kd.int .i64) 3 w' w.heap.size (fun _ => True) s_ y146) ∧ (w'.heap[gb142]? = some (.cells #[.slice none 0 0, .slice none 0 0, .slice none 0 0, .slice none 0 0] 27 (0, 0))) ∧ (Below w.heap.size w w')) ?_ ?_
            rotate_left
            ·intro hJ4
             refine join_ (σ := Nat) 5 (YA 12 1261) (fun s_ => [(3, .pointer (some ⟨s_, 0, none⟩))]) (fun s_ w' => (w'.heap[gb142]? = some (.cells #[.slice none 0 0, .slice none 0 0, .slice none 0 0, .slice none 0 0] 27 (0, 0))) ∧ (w'.heap[s_]? = some (.cells #[.slice none 0 0, .slice none 0 0, .slice none 0 0, .slice none 0 0] 27 (0, 0))) ∧ (w.heap.size ≤ s_) ∧ (w.heap.size ≤ s_) ∧ (gb142 ≠ s_) ∧ (s_ ≠ gb142) ∧ (Below w.heap.size w w')) ?_ ?_
             rotate_left
             ·intro hJ10
              refine three_ (i := 1) (j := 4) (k := 10) (Ni := some 5) (Nj := some 8) (Nk := some 3) (YA 12 239) (YA 12 253) (YA 12 1261) rfl rfl rfl rfl rfl rfl (three_of HT_.out (by kernel_rfl)) (by decide) (by decide) (by decide) (fun K hK => ?_) (fun K hK => ?_) (fun K hK => ?_)
              ·skip
               refine goes_ Try.func79 (by kernel_rfl) rfl #[.slice A0 l0.length c0] (by rfl) rfl rfl Q4 ?_
               with_reducible refine (spec_l1Own.calls _ _ l0 t143 _ ?side1 ?side2 A2.out).mono ?_
               (case side1 => exact Yc (Z22 HR0.out HB.out))
               (case side2 => exact HC0.out)
               rintro e w8 ⟨v144, rfl, ho0, hb⟩
               refine ⟨_, rfl, ?_⟩
               have HO145 := Yl ho0
               replace BK142 := Yb BK142 hb
               replace HB := Yh hb
               (try clear hb ho0)
               refine hK.out _ _ trivial (fun hHeld => ?_)
               clear hK K
               refine norm_ (a' := ?_) ?_ ?_
               rotate_left
               ·show Act.put _ (some 5) _ = _
                simp only [Act.put, Z0, Z1, Z2, i64_w, i32_w]
                rfl
               exact norm_ Q3 (hJ1 (v144) _ ⟨(Yr HO145.out), (Yk BK142.out), Q0⟩)
              ·skip
               refine Kd.R_make_step (Kd.int .i64) _ 3 (by rfl) (N := 8) rfl 22 _ _ rfl (l0.length : Int) rfl rfl Try.underlying22 (.int .i64 0) 8 info3 rfl (by decide) (by omega) 0 (ok := fun _ => True) (okp := fun _ => True) rfl (fun _ hk => hk) trivial (Z30 Q1) (Nat.le_trans (Nat.mul_le_mul_right _ (Z30 Q1 : (l0.length : Int).toNat ≤ 35184372088832)) (by omega)) (Below.refl _ _) (Nat.le_refl _) ?_
               intro v147 w8 ho9 hb hg_ hnew_
               clear hg_ hnew_
               (first | rw [← Ny146.out] at ho9 | (simp only [Int.reduceToNat] at ho9; rw [← Ny146.out] at ho9))
               have HO148 := Yl ho9
               replace BK142 := Yb BK142 hb
               replace HB := Yh hb
               clear hb ho9
               refine hK.out _ _ trivial (fun hHeld => ?_)
               clear hK K
               refine norm_ (a' := ?_) ?_ ?_
               rotate_left
               ·show Act.put _ (some 8) _ = _
                simp only [Act.put, Z0, Z1, Z2, i64_w, i32_w]
                rfl
               exact norm_ Q3 (hJ4 (v147) _ ⟨(Yr HO148.out), (Yk BK142.out), Q0⟩)
              ·skip
               refine Yy 3 #[.slice none 0 0, .slice none 0 0, .slice none 0 0, .slice none 0 0] 27 ?_
               intro gb152 hg w8 hbox hb
               have BK152 := Ya hbox
               have GW152 := Yg hg
               have GE152 := GW152
               replace HB := Yh hb
               have NB142_152 := Yn BK142 hg
               have NB152_142 := Ym BK142 hg
               replace BK142 := Yb BK142 hb
               clear hb hbox hg
               refine hK.out _ _ trivial (fun hHeld => ?_)
               clear hK K
               refine norm_ (a' := ?_) ?_ ?_
               rotate_left
               ·show Act.put _ (some 3) _ = _
                simp only [Act.put, Z0, Z1, Z2, i64_w, i32_w]
                rfl
               exact norm_ Q3 (hJ10 (gb152) _ ⟨(Yk BK142.out), (Yk BK152.out), GW152.out, GE152.out, NB142_152.out, NB152_142.out, Q0⟩)
             ·skip
              rintro gb152 w9 ⟨h0_, h1_, h2_, h3_, h4_, h5_, h6_⟩
              replace BK142 : Aside0 (w9.heap[gb142]? = some (.cells #[.slice none 0 0, .slice none 0 0, .slice none 0 0, .slice none 0 0] 27 (0, 0))) := ⟨h0_⟩
              have BK152 : Aside0 (w9.heap[gb152]? = some (.cells #[.slice none 0 0, .slice none 0 0, .slice none 0 0, .slice none 0 0] 27 (0, 0))) := ⟨h1_⟩
              have GW152 : Aside0 (w.heap.size ≤ gb152) := ⟨h2_⟩
              have GE152 : Aside0 (w.heap.size ≤ gb152) := ⟨h3_⟩
              have NB142_152 : Aside0 (gb142 ≠ gb152) := ⟨h4_⟩
              have NB152_142 : Aside0 (gb152 ≠ gb142) := ⟨h5_⟩
              replace HB : Aside0 (Below w.heap.size w w9) := ⟨h6_⟩
              clear h0_ h1_ h2_ h3_ h4_ h5_ h6_
              have hHeld := trivial
              refine norm_ (a' := ?_) ?_ ?_
              rotate_left
              ·simp only [putAll, Act.put, Z0, Z1, Z2]
               rfl
              refine two_ (i := 1) (j := 4) (Ni := some 5) (Nj := some 8) (YA 12 1263) (YA 12 1277) rfl rfl rfl rfl (two_of HT_.out (by kernel_rfl)) (by decide) (by decide) (fun K hK => ?_) (fun K hK => ?_)
              ·skip
               refine goes_ Try.func79 (by kernel_rfl) rfl #[.slice A0 l0.length c0] (by rfl) rfl rfl Q4 ?_
               with_reducible refine (spec_l1Own.calls _ _ l0 t143 _ ?side1 ?side2 A2.out).mono ?_
               (case side1 => exact Yc (Z22 HR0.out HB.out))
               (case side2 => exact HC0.out)
               rintro e w10 ⟨v144, rfl, ho0, hb⟩
               refine ⟨_, rfl, ?_⟩
               have HO145 := Yl ho0
               replace BK142 := Yb BK142 hb
               replace BK152 := Yb BK152 hb
               replace HB := Yh hb
               (try clear hb ho0)
               refine hK.out _ _ trivial (fun hHeld => ?_)
               clear hK K
               refine norm_ (a' := ?_) ?_ ?_
               rotate_left
               ·show Act.put _ (some 5) _ = _
                simp only [Act.put, Z0, Z1, Z2, i64_w, i32_w]
                rfl
               exact norm_ Q3 (hJ1_10 (v144, gb152) _ ⟨(Yr HO145.out), (Yk BK142.out), (Yk BK152.out), GW152.out, GE152.out, NB142_152.out, NB152_142.out, Q0⟩)
              ·skip
               refine Kd.R_make_step (Kd.int .i64) _ 3 (by rfl) (N := 8) rfl 22 _ _ rfl (l0.length : Int) rfl rfl Try.underlying22 (.int .i64 0) 8 info3 rfl (by decide) (by omega) 0 (ok := fun _ => True) (okp := fun _ => True) rfl (fun _ hk => hk) trivial (Z30 Q1) (Nat.le_trans (Nat.mul_le_mul_right _ (Z30 Q1 : (l0.length : Int).toNat ≤ 35184372088832)) (by omega)) (Below.refl _ _) (Nat.le_refl _) ?_
               intro v147 w10 ho11 hb hg_ hnew_
               clear hg_ hnew_
               (first | rw [← Ny146.out] at ho11 | (simp only [Int.reduceToNat] at ho11; rw [← Ny146.out] at ho11))
               have HO148 := Yl ho11
               replace BK142 := Yb BK142 hb
               replace BK152 := Yb BK152 hb
               replace HB := Yh hb
               clear hb ho11
               refine hK.out _ _ trivial (fun hHeld => ?_)
               clear hK K
               refine norm_ (a' := ?_) ?_ ?_
               rotate_left
               ·show Act.put _ (some 8) _ = _
                simp only [Act.put, Z0, Z1, Z2, i64_w, i32_w]
                rfl
               exact norm_ Q3 (hJ4_10 (v147, gb152) _ ⟨(Yr HO148.out), (Yk BK142.out), (Yk BK152.out), GW152.out, GE152.out, NB142_152.out, NB152_142.out, Q0⟩)
            ·skip
             rintro v147 w10 ⟨h0_, h1_, h2_⟩
             have HO148 : Aside0 (Kd.R (Kd.int .i64) 3 w10 w.heap.size (fun _ => True) v147 y146) := ⟨h0_⟩
             replace BK142 : Aside0 (w10.heap[gb142]? = some (.cells #[.slice none 0 0, .slice none 0 0, .slice none 0 0, .slice none 0 0] 27 (0, 0))) := ⟨h1_⟩
             replace HB : Aside0 (Below w.heap.size w w10) := ⟨h2_⟩
             clear h0_ h1_ h2_
             have hHeld := trivial
             refine norm_ (a' := ?_) ?_ ?_
             rotate_left
             ·simp only [putAll, Act.put, Z0, Z1, Z2]
              rfl
             refine two_ (i := 1) (j := 10) (Ni := some 5) (Nj := some 3) (YA 12 255) (YA 12 1277) rfl rfl rfl rfl (two_of HT_.out (by kernel_rfl)) (by decide) (by decide) (fun K hK => ?_) (fun K hK => ?_)
             ·skip
              refine goes_ Try.func79 (by kernel_rfl) rfl #[.slice A0 l0.length c0] (by rfl) rfl rfl Q4 ?_
              with_reducible refine (spec_l1Own.calls _ _ l0 t143 _ ?side1 ?side2 A2.out).mono ?_
              (case side1 => exact Yc (Z22 HR0.out HB.out))
              (case side2 => exact HC0.out)
              rintro e w11 ⟨v144, rfl, ho0, hb⟩
              refine ⟨_, rfl, ?_⟩
              have HO145 := Yl (Kd.R_new' ho0 (Z17 (Yr HO148.out)))
              replace HO148 := Ya (Kd.R_elder' (Yr HO148.out) (Kd.R_base ho0) hb)
              replace BK142 := Yb BK142 hb
              replace HB := Yh hb
              (try clear hb ho0)
              refine hK.out _ _ trivial (fun hHeld => ?_)
              clear hK K
              refine norm_ (a' := ?_) ?_ ?_
              rotate_left
              ·show Act.put _ (some 5) _ = _
               simp only [Act.put, Z0, Z1, Z2, i64_w, i32_w]
               rfl
              exact norm_ Q3 (hJ1_4 (v144, v147) _ ⟨Q59, Q111, (Yk BK142.out), Q0⟩)
             ·skip
              refine Yy 3 #[.slice none 0 0, .slice none 0 0, .slice none 0 0, .slice none 0 0] 27 ?_
              intro gb152 hg w11 hbox hb
              replace HO148 := Yw HO148 hb
              have BK152 := Ya hbox
              have GW152 := Yg hg
              have GE152 := GW152
              replace HB := Yh hb
              have NB142_152 := Yn BK142 hg
              have NB152_142 := Ym BK142 hg
              replace BK142 := Yb BK142 hb
              clear hb hbox hg
              refine hK.out _ _ trivial (fun hHeld => ?_)
              clear hK K
              refine norm_ (a' := ?_) ?_ ?_
              rotate_left
              ·show Act.put _ (some 3) _ = _
               simp only [Act.put, Z0, Z1, Z2, i64_w, i32_w]
               rfl
              exact norm_ Q3 (hJ4_10 (v147, gb152) _ ⟨(Yr HO148.out), (Yk BK142.out), (Yk BK152.out), GW152.out, GE152.out, NB142_152.out, NB152_142.out, Q0⟩)
           ·skip
            rintro v144 w9 ⟨h0_, h1_, h2_⟩
            have HO145 : Aside0 (Kd.R (Kd.int .i64) 3 w9 w.heap.size (fun _ => True) v144 t143) := ⟨h0_⟩
            replace BK142 : Aside0 (w9.heap[gb142]? = some (.cells #[.slice none 0 0, .slice none 0 0, .slice none 0 0, .slice none 0 0] 27 (0, 0))) := ⟨h1_⟩
            replace HB : Aside0 (Below w.heap.size w w9) := ⟨h2_⟩
            clear h0_ h1_ h2_
            have hHeld := trivial
            refine norm_ (a' := ?_) ?_ ?_
            rotate_left
            ·simp only [putAll, Act.put, Z0, Z1, Z2]
             rfl
            refine three_ (i := 4) (j := 8) (k := 10) (Ni := some 8) (Nj := some 12) (Nk := some 3) (YA 12 255) (YA 12 495) (YA 12 1263) rfl rfl rfl rfl rfl rfl (three_of HT_.out (by kernel_rfl)) (by decide) (by decide) (by decide) (fun K hK => ?_) (fun K hK => ?_) (fun K hK => ?_)
            ·skip
             refine Kd.R_make_step (Kd.int .i64) _ 3 (by rfl) (N := 8) rfl 22 _ _ rfl (l0.length : Int) rfl rfl Try.underlying22 (.int .i64 0) 8 info3 rfl (by decide) (by omega) 0 (ok := fun _ => True) (okp := fun _ => True) rfl (fun _ hk => hk) trivial (Z30 Q1) (Nat.le_trans (Nat.mul_le_mul_right _ (Z30 Q1 : (l0.length : Int).toNat ≤ 35184372088832)) (by omega)) (Below.refl _ _) (Nat.le_refl _) ?_
             intro v147 w10 ho11 hb hg_ hnew_
             clear hg_ hnew_
             (first | rw [← Ny146.out] at ho11 | (simp only [Int.reduceToNat] at ho11; rw [← Ny146.out] at ho11))
             have HO148 := Yl (Kd.R_new' ho11 (Z17 (Yr HO145.out)))
             replace HO145 := Ya (Kd.R_elder' (Yr HO145.out) (Kd.R_base ho11) hb)
             replace BK142 := Yb BK142 hb
             replace HB := Yh hb
             clear hb ho11
             refine hK.out _ _ trivial (fun hHeld => ?_)
             clear hK K
             refine norm_ (a' := ?_) ?_ ?_
             rotate_left
             ·show Act.put _ (some 8) _ = _
              simp only [Act.put, Z0, Z1, Z2, i64_w, i32_w]
              rfl
             exact norm_ Q3 (hJ1_4 (v144, v147) _ ⟨Q59, Q111, (Yk BK142.out), Q0⟩)
            ·skip
             refine goes_ Try.func82 (by kernel_rfl) rfl #[.int .i64 (wrap64 ((l0.length : Int) + 1))] (by rfl) rfl rfl Q4 ?_
             with_reducible refine (spec_raUpTo.calls k (wrap64 ((l0.length : Int) + 1)) t149 _ A5.out).mono ?_
             rintro e w10 ⟨v150, rfl, ho0, hb⟩
             refine ⟨_, rfl, ?_⟩
             have HO151 := Yl (Kd.R_new' ho0 (Z17 (Yr HO145.out)))
             replace HO145 := Ya (Kd.R_elder' (Yr HO145.out) (Kd.R_base ho0) hb)
             replace BK142 := Yb BK142 hb
             replace HB := Yh hb
             (try clear hb ho0)
             refine hK.out _ _ trivial (fun hHeld => ?_)
             clear hK K
             refine norm_ (a' := ?_) ?_ ?_
             rotate_left
             ·show Act.put _ (some 12) _ = _
              simp only [Act.put, Z0, Z1, Z2, i64_w, i32_w]
              rfl
             exact norm_ Q3 (hJ1_8 (v144, v150) _ ⟨Q59, (by (with_reducible repeat (first | apply Z8 | apply Z9 | apply Z10)); exact Z11 HO151.out (fun _ hk => hk.2)), (Yk BK142.out), Q0⟩)
            ·skip
             refine Yy 3 #[.slice none 0 0, .slice none 0 0, .slice none 0 0, .slice none 0 0] 27 ?_
             intro gb152 hg w10 hbox hb
             replace HO145 := Yw HO145 hb
             have BK152 := Ya hbox
             have GW152 := Yg hg
             have GE152 := GW152
             replace HB := Yh hb
             have NB142_152 := Yn BK142 hg
             have NB152_142 := Ym BK142 hg
             replace BK142 := Yb BK142 hb
             clear hb hbox hg
             refine hK.out _ _ trivial (fun hHeld => ?_)
             clear hK K
             refine norm_ (a' := ?_) ?_ ?_
             rotate_left
             ·show Act.put _ (some 3) _ = _
              simp only [Act.put, Z0, Z1, Z2, i64_w, i32_w]
              rfl
             exact norm_ Q3 (hJ1_10 (v144, gb152) _ ⟨(Yr HO145.out), (Yk BK142.out), (Yk BK152.out), GW152.out, GE152.out, NB142_152.out, NB152_142.out, Q0⟩)
          ·skip
           rintro ⟨v147, gb152⟩ w11 ⟨h0_, h1_, h2_, h3_, h4_, h5_, h6_, h7_⟩
           have HO148 : Aside0 (Kd.R (Kd.int .i64) 3 w11 w.heap.size (fun _ => True) v147 y146) := ⟨h0_⟩
           replace BK142 : Aside0 (w11.heap[gb142]? = some (.cells #[.slice none 0 0, .slice none 0 0, .slice none 0 0, .slice none 0 0] 27 (0, 0))) := ⟨h1_⟩
           have BK152 : Aside0 (w11.heap[gb152]? = some (.cells #[.slice none 0 0, .slice none 0 0, .slice none 0 0, .slice none 0 0] 27 (0, 0))) := ⟨h2_⟩
           have GW152 : Aside0 (w.heap.size ≤ gb152) := ⟨h3_⟩
           have GE152 : Aside0 (w.heap.size ≤ gb152) := ⟨h4_⟩
           have NB142_152 : Aside0 (gb142 ≠ gb152) := ⟨h5_⟩
           have NB152_142 : Aside0 (gb152 ≠ gb142) := ⟨h6_⟩
           replace HB : Aside0 (Below w.heap.size w w11) := ⟨h7_⟩
           clear h0_ h1_ h2_ h3_ h4_ h5_ h6_ h7_
           have hHeld := trivial
           refine norm_ (a' := ?_) ?_ ?_
           rotate_left
           ·simp only [putAll, Act.put, Z0, Z1, Z2]
            rfl
           refine one_ (i := 1) (N := some 5) (YA 12 1279) rfl rfl (one_of HT_.out (by kernel_rfl)) (by decide) (fun K hK => ?_)
           refine goes_ Try.func79 (by kernel_rfl) rfl #[.slice A0 l0.length c0] (by rfl) rfl rfl Q4 ?_
           with_reducible refine (spec_l1Own.calls _ _ l0 t143 _ ?side1 ?side2 A2.out).mono ?_
           (case side1 => exact Yc (Z22 HR0.out HB.out))
           (case side2 => exact HC0.out)
           rintro e w12 ⟨v144, rfl, ho0, hb⟩
           refine ⟨_, rfl, ?_⟩
           have HO145 := Yl (Kd.R_new' ho0 (Z17 (Yr HO148.out)))
           replace HO148 := Ya (Kd.R_elder' (Yr HO148.out) (Kd.R_base ho0) hb)
           replace BK142 := Yb BK142 hb
           replace BK152 := Yb BK152 hb
           replace HB := Yh hb
           (try clear hb ho0)
           refine hK.out _ _ trivial (fun hHeld => ?_)
           clear hK K
           refine norm_ (a' := ?_) ?_ ?_
           rotate_left
           ·show Act.put _ (some 5) _ = _
            simp only [Act.put, Z0, Z1, Z2, i64_w, i32_w]
            rfl
           exact norm_ Q3 (hJ1_4_10 (v144, v147, gb152) _ ⟨Q59, Q111, (Yk BK142.out), (Yk BK152.out), GW152.out, GE152.out, NB142_152.out, NB152_142.out, Q0⟩)
         ·skip
          rintro ⟨v144, gb152⟩ w10 ⟨h0_, h1_, h2_, h3_, h4_, h5_, h6_, h7_⟩
          have HO145 : Aside0 (Kd.R (Kd.int .i64) 3 w10 w.heap.size (fun _ => True) v144 t143) := ⟨h0_⟩
          replace BK142 : Aside0 (w10.heap[gb142]? = some (.cells #[.slice none 0 0, .slice none 0 0, .slice none 0 0, .slice none 0 0] 27 (0, 0))) := ⟨h1_⟩
          have BK152 : Aside0 (w10.heap[gb152]? = some (.cells #[.slice none 0 0, .slice none 0 0, .slice none 0 0, .slice none 0 0] 27 (0, 0))) := ⟨h2_⟩
          have GW152 : Aside0 (w.heap.size ≤ gb152) := ⟨h3_⟩
          have GE152 : Aside0 (w.heap.size ≤ gb152) := ⟨h4_⟩
          have NB142_152 : Aside0 (gb142 ≠ gb152) := ⟨h5_⟩
          have NB152_142 : Aside0 (gb152 ≠ gb142) := ⟨h6_⟩
          replace HB : Aside0 (Below w.heap.size w w10) := ⟨h7_⟩
          clear h0_ h1_ h2_ h3_ h4_ h5_ h6_ h7_
          have hHeld := trivial
          refine norm_ (a' := ?_) ?_ ?_
          rotate_left
          ·simp only [putAll, Act.put, Z0, Z1, Z2]
           rfl
          refine two_ (i := 4) (j := 8) (Ni := some 8) (Nj := some 12) (YA 12 1279) (YA 12 1519) rfl rfl rfl rfl (two_of HT_.out (by kernel_rfl)) (by decide) (by decide) (fun K hK => ?_) (fun K hK => ?_)
          ·skip
           refine Kd.R_make_step (Kd.int .i64) _ 3 (by rfl) (N := 8) rfl 22 _ _ rfl (l0.length : Int) rfl rfl Try.underlying22 (.int .i64 0) 8 info3 rfl (by decide) (by omega) 0 (ok := fun _ => True) (okp := fun _ => True) rfl (fun _ hk => hk) trivial (Z30 Q1) (Nat.le_trans (Nat.mul_le_mul_right _ (Z30 Q1 : (l0.length : Int).toNat ≤ 35184372088832)) (by omega)) (Below.refl _ _) (Nat.le_refl _) ?_
           intro v147 w11 ho12 hb hg_ hnew_
           clear hg_ hnew_
           (first | rw [← Ny146.out] at ho12 | (simp only [Int.reduceToNat] at ho12; rw [← Ny146.out] at ho12))
           have HO148 := Yl (Kd.R_new' ho12 (Z17 (Yr HO145.out)))
           replace HO145 := Ya (Kd.R_elder' (Yr HO145.out) (Kd.R_base ho12) hb)
           replace BK142 := Yb BK142 hb
           replace BK152 := Yb BK152 hb
           replace HB := Yh hb
           clear hb ho12
           refine hK.out _ _ trivial (fun hHeld => ?_)
           clear hK K
           refine norm_ (a' := ?_) ?_ ?_
           rotate_left
           ·show Act.put _ (some 8) _ = _
            simp only [Act.put, Z0, Z1, Z2, i64_w, i32_w]
            rfl
           exact norm_ Q3 (hJ1_4_10 (v144, v147, gb152) _ ⟨Q59, Q111, (Yk BK142.out), (Yk BK152.out), GW152.out, GE152.out, NB142_152.out, NB152_142.out, Q0⟩)
          ·skip
           refine goes_ Try.func82 (by kernel_rfl) rfl #[.int .i64 (wrap64 ((l0.length : Int) + 1))] (by rfl) rfl rfl Q4 ?_
           with_reducible refine (spec_raUpTo.calls k (wrap64 ((l0.length : Int) + 1)) t149 _ A5.out).mono ?_
           rintro e w11 ⟨v150, rfl, ho0, hb⟩
           refine ⟨_, rfl, ?_⟩
           have HO151 := Yl (Kd.R_new' ho0 (Z17 (Yr HO145.out)))
           replace HO145 := Ya (Kd.R_elder' (Yr HO145.out) (Kd.R_base ho0) hb)
           replace BK142 := Yb BK142 hb
           replace BK152 := Yb BK152 hb
           replace HB := Yh hb
           (try clear hb ho0)
           refine hK.out _ _ trivial (fun hHeld => ?_)
           clear hK K
           refine norm_ (a' := ?_) ?_ ?_
           rotate_left
           ·show Act.put _ (some 12) _ = _
            simp only [Act.put, Z0, Z1, Z2, i64_w, i32_w]
            rfl
           exact norm_ Q3 (hJ1_8_10 (v144, v150, gb152) _ ⟨Q59, (by (with_reducible repeat (first | apply Z8 | apply Z9 | apply Z10)); exact Z11 HO151.out (fun _ hk => hk.2)), (Yk BK142.out), (Yk BK152.out), GW152.out, GE152.out, NB142_152.out, NB152_142.out, Q0⟩)
        ·skip
         rintro ⟨v144, v150⟩ w10 ⟨h0_, h1_, h2_, h3_⟩
         have HO145 : Aside0 (Kd.R (Kd.int .i64) 3 w10 w.heap.size (fun k_ => some k_ ≠ (v150 : Value).ownBlock) v144 t143) := ⟨h0_⟩
         have HO151 : Aside0 (Kd.R (Kd.int .i64) 3 w10 w.heap.size (fun k_ => some k_ ≠ (v144 : Value).ownBlock) v150 t149) := ⟨h1_⟩
         replace BK142 : Aside0 (w10.heap[gb142]? = some (.cells #[.slice none 0 0, .slice none 0 0, .slice none 0 0, .slice none 0 0] 27 (0, 0))) := ⟨h2_⟩
         replace HB : Aside0 (Below w.heap.size w w10) := ⟨h3_⟩
         clear h0_ h1_ h2_ h3_
         have hHeld := trivial
         refine norm_ (a' := ?_) ?_ ?_
         rotate_left
         ·simp only [putAll, Act.put, Z0, Z1, Z2]
          rfl
         refine two_ (i := 4) (j := 10) (Ni := some 8) (Nj := some 3) (YA 12 511) (YA 12 1519) rfl rfl rfl rfl (two_of HT_.out (by kernel_rfl)) (by decide) (by decide) (fun K hK => ?_) (fun K hK => ?_)
         ·skip
          refine Kd.R_make_step (Kd.int .i64) _ 3 (by rfl) (N := 8) rfl 22 _ _ rfl (l0.length : Int) rfl rfl Try.underlying22 (.int .i64 0) 8 info3 rfl (by decide) (by omega) 0 (ok := fun _ => True) (okp := fun _ => True) rfl (fun _ hk => hk) trivial (Z30 Q1) (Nat.le_trans (Nat.mul_le_mul_right _ (Z30 Q1 : (l0.length : Int).toNat ≤ 35184372088832)) (by omega)) (Below.refl _ _) (Nat.le_refl _) ?_
          intro v147 w11 ho12 hb hg_ hnew_
          clear hg_ hnew_
          (first | rw [← Ny146.out] at ho12 | (simp only [Int.reduceToNat] at ho12; rw [← Ny146.out] at ho12))
          have HO148 := Yl (Kd.R_new' (Kd.R_new' ho12 (Z17 (Yr HO145.out))) (Z17 (Yr HO151.out)))
          replace HO145 := Ya (Kd.R_elder' (Yr HO145.out) (Kd.R_base ho12) hb)
          replace HO151 := Ya (Kd.R_elder' (Yr HO151.out) (Kd.R_base ho12) hb)
          replace BK142 := Yb BK142 hb
          replace HB := Yh hb
          clear hb ho12
          obtain ⟨Ao13, co13, eo13⟩ := Z18 HO151.out
          (first | subst eo13 | (injection eo13 with f1_ f2_ f3_; have f4_ := f1_.symm; have f5_ := f3_.symm; clear f1_ f2_ f3_; subst f4_; subst f5_))
          obtain ⟨Ao14, co14, eo14⟩ := Z18 HO148.out
          (first | subst eo14 | (injection eo14 with f1_ f2_ f3_; have f4_ := f1_.symm; have f5_ := f3_.symm; clear f1_ f2_ f3_; subst f4_; subst f5_))
          obtain ⟨Ao15, co15, eo15⟩ := Z18 HO145.out
          (first | subst eo15 | (injection eo15 with f1_ f2_ f3_; have f4_ := f1_.symm; have f5_ := f3_.symm; clear f1_ f2_ f3_; subst f4_; subst f5_))
          refine hK.out _ _ trivial (fun hHeld => ?_)
          clear hK K
          refine norm_ (a' := ?_) ?_ ?_
          rotate_left
          ·show Act.put _ (some 8) _ = _
           simp only [Act.put, Z0, Z1, Z2, i64_w, i32_w]
           rfl
          refine Yp 9 (some 13) (YA 12 1023) rfl HT_.out ?_
          exact norm_ Q3 (hJ1_4_8 (.slice Ao15 t143.length co15, .slice Ao14 y146.length co14, .slice Ao13 t149.length co13) _ ⟨Q164, Q162, (Yr HO151.out), (Yk BK142.out), Q0⟩)
         ·skip
          refine Yy 3 #[.slice none 0 0, .slice none 0 0, .slice none 0 0, .slice none 0 0] 27 ?_
          intro gb152 hg w11 hbox hb
          replace HO145 := Yw HO145 hb
          replace HO151 := Yw HO151 hb
          have BK152 := Ya hbox
          have GW152 := Yg hg
          have GE152 := GW152
          replace HB := Yh hb
          have NB142_152 := Yn BK142 hg
          have NB152_142 := Ym BK142 hg
          replace BK142 := Yb BK142 hb
          clear hb hbox hg
          refine hK.out _ _ trivial (fun hHeld => ?_)
          clear hK K
          refine norm_ (a' := ?_) ?_ ?_
          rotate_left
          ·show Act.put _ (some 3) _ = _
           simp only [Act.put, Z0, Z1, Z2, i64_w, i32_w]
           rfl
          exact norm_ Q3 (hJ1_8_10 (v144, v150, gb152) _ ⟨(Yr HO145.out), (Yr HO151.out), (Yk BK142.out), (Yk BK152.out), GW152.out, GE152.out, NB142_152.out, NB152_142.out, Q0⟩)
       ·skip
        rintro ⟨v144, v147⟩ w11 ⟨h0_, h1_, h2_, h3_⟩
        have HO145 : Aside0 (Kd.R (Kd.int .i64) 3 w11 w.heap.size (fun k_ => some k_ ≠ (v147 : Value).ownBlock) v144 t143) := ⟨h0_⟩
        have HO148 : Aside0 (Kd.R (Kd.int .i64) 3 w11 w.heap.size (fun k_ => some k_ ≠ (v144 : Value).ownBlock) v147 y146) := ⟨h1_⟩
        replace BK142 : Aside0 (w11.heap[gb142]? = some (.cells #[.slice none 0 0, .slice none 0 0, .slice none 0 0, .slice none 0 0] 27 (0, 0))) := ⟨h2_⟩
        replace HB : Aside0 (Below w.heap.size w w11) := ⟨h3_⟩
        clear h0_ h1_ h2_ h3_
        have hHeld := trivial
        refine norm_ (a' := ?_) ?_ ?_
        rotate_left
        ·simp only [putAll, Act.put, Z0, Z1, Z2]
         rfl
        refine two_ (i := 8) (j := 10) (Ni := some 12) (Nj := some 3) (YA 12 511) (YA 12 1279) rfl rfl rfl rfl (two_of HT_.out (by kernel_rfl)) (by decide) (by decide) (fun K hK => ?_) (fun K hK => ?_)
        ·skip
         refine goes_ Try.func82 (by kernel_rfl) rfl #[.int .i64 (wrap64 ((l0.length : Int) + 1))] (by rfl) rfl rfl Q4 ?_
         with_reducible refine (spec_raUpTo.calls k (wrap64 ((l0.length : Int) + 1)) t149 _ A5.out).mono ?_
         rintro e w12 ⟨v150, rfl, ho0, hb⟩
         refine ⟨_, rfl, ?_⟩
         have HO151 := Yl (Kd.R_new' (Kd.R_new' ho0 (Z17 (Yr HO145.out))) (Z17 (Yr HO148.out)))
         replace HO145 := Ya (Kd.R_elder' (Yr HO145.out) (Kd.R_base ho0) hb)
         replace HO148 := Ya (Kd.R_elder' (Yr HO148.out) (Kd.R_base ho0) hb)
         replace BK142 := Yb BK142 hb
         replace HB := Yh hb
         (try clear hb ho0)
         obtain ⟨Ao13, co13, eo13⟩ := Z18 HO151.out
         (first | subst eo13 | (injection eo13 with f1_ f2_ f3_; have f4_ := f1_.symm; have f5_ := f3_.symm; clear f1_ f2_ f3_; subst f4_; subst f5_))
         obtain ⟨Ao14, co14, eo14⟩ := Z18 HO148.out
         (first | subst eo14 | (injection eo14 with f1_ f2_ f3_; have f4_ := f1_.symm; have f5_ := f3_.symm; clear f1_ f2_ f3_; subst f4_; subst f5_))
         obtain ⟨Ao15, co15, eo15⟩ := Z18 HO145.out
         (first | subst eo15 | (injection eo15 with f1_ f2_ f3_; have f4_ := f1_.symm; have f5_ := f3_.symm; clear f1_ f2_ f3_; subst f4_; subst f5_))
         refine hK.out _ _ trivial (fun hHeld => ?_)
         clear hK K
         refine norm_ (a' := ?_) ?_ ?_
         rotate_left
         ·show Act.put _ (some 12) _ = _
          simp only [Act.put, Z0, Z1, Z2, i64_w, i32_w]
          rfl
         refine Yp 9 (some 13) (YA 12 1023) rfl HT_.out ?_
         exact norm_ Q3 (hJ1_4_8 (.slice Ao15 t143.length co15, .slice Ao14 y146.length co14, .slice Ao13 t149.length co13) _ ⟨(Yr HO145.out), (Yr HO148.out), Q161, (Yk BK142.out), Q0⟩)
        ·skip
         refine Yy 3 #[.slice none 0 0, .slice none 0 0, .slice none 0 0, .slice none 0 0] 27 ?_
         intro gb152 hg w12 hbox hb
         replace HO145 := Yw HO145 hb
         replace HO148 := Yw HO148 hb
         have BK152 := Ya hbox
         have GW152 := Yg hg
         have GE152 := GW152
         replace HB := Yh hb
         have NB142_152 := Yn BK142 hg
         have NB152_142 := Ym BK142 hg
         replace BK142 := Yb BK142 hb
         clear hb hbox hg
         refine hK.out _ _ trivial (fun hHeld => ?_)
         clear hK K
         refine norm_ (a' := ?_) ?_ ?_
         rotate_left
         ·show Act.put _ (some 3) _ = _
          simp only [Act.put, Z0, Z1, Z2, i64_w, i32_w]
          rfl
         exact norm_ Q3 (hJ1_4_10 (v144, v147, gb152) _ ⟨(Yr HO145.out), (Yr HO148.out), (Yk BK142.out), (Yk BK152.out), GW152.out, GE152.out, NB142_152.out, NB152_142.out, Q0⟩)
      ·skip
       rintro ⟨v144, v150, gb152⟩ w11 ⟨h0_, h1_, h2_, h3_, h4_, h5_, h6_, h7_, h8_⟩
       have HO145 : Aside0 (Kd.R (Kd.int .i64) 3 w11 w.heap.size (fun k_ => some k_ ≠ (v150 : Value).ownBlock) v144 t143) := ⟨h0_⟩
       have HO151 : Aside0 (Kd.R (Kd.int .i64) 3 w11 w.heap.size (fun k_ => some k_ ≠ (v144 : Value).ownBlock) v150 t149) := ⟨h1_⟩
       replace BK142 : Aside0 (w11.heap[gb142]? = some (.cells #[.slice none 0 0, .slice none 0 0, .slice none 0 0, .slice none 0 0] 27 (0, 0))) := ⟨h2_⟩
       have BK152 : Aside0 (w11.heap[gb152]? = some (.cells #[.slice none 0 0, .slice none 0 0, .slice none 0 0, .slice none 0 0] 27 (0, 0))) := ⟨h3_⟩
       have GW152 : Aside0 (w.heap.size ≤ gb152) := ⟨h4_⟩
       have GE152 : Aside0 (w.heap.size ≤ gb152) := ⟨h5_⟩
       have NB142_152 : Aside0 (gb142 ≠ gb152) := ⟨h6_⟩
       have NB152_142 : Aside0 (gb152 ≠ gb142) := ⟨h7_⟩
       replace HB : Aside0 (Below w.heap.size w w11) := ⟨h8_⟩
       clear h0_ h1_ h2_ h3_ h4_ h5_ h6_ h7_ h8_
       have hHeld := trivial
       refine norm_ (a' := ?_) ?_ ?_
       rotate_left
       ·simp only [putAll, Act.put, Z0, Z1, Z2]
        rfl
       refine one_ (i := 4) (N := some 8) (YA 12 1535) rfl rfl (one_of HT_.out (by kernel_rfl)) (by decide) (fun K hK => ?_)
       refine Kd.R_make_step (Kd.int .i64) _ 3 (by rfl) (N := 8) rfl 22 _ _ rfl (l0.length : Int) rfl rfl Try.underlying22 (.int .i64 0) 8 info3 rfl (by decide) (by omega) 0 (ok := fun _ => True) (okp := fun _ => True) rfl (fun _ hk => hk) trivial (Z30 Q1) (Nat.le_trans (Nat.mul_le_mul_right _ (Z30 Q1 : (l0.length : Int).toNat ≤ 35184372088832)) (by omega)) (Below.refl _ _) (Nat.le_refl _) ?_
       intro v147 w12 ho13 hb hg_ hnew_
       clear hg_ hnew_
       (first | rw [← Ny146.out] at ho13 | (simp only [Int.reduceToNat] at ho13; rw [← Ny146.out] at ho13))
       have HO148 := Yl (Kd.R_new' (Kd.R_new' ho13 (Z17 (Yr HO145.out))) (Z17 (Yr HO151.out)))
       replace HO145 := Ya (Kd.R_elder' (Yr HO145.out) (Kd.R_base ho13) hb)
       replace HO151 := Ya (Kd.R_elder' (Yr HO151.out) (Kd.R_base ho13) hb)
       replace BK142 := Yb BK142 hb
       replace BK152 := Yb BK152 hb
       replace HB := Yh hb
       clear hb ho13
       obtain ⟨Ao14, co14, eo14⟩ := Z18 HO151.out
       (first | subst eo14 | (injection eo14 with f1_ f2_ f3_; have f4_ := f1_.symm; have f5_ := f3_.symm; clear f1_ f2_ f3_; subst f4_; subst f5_))
       obtain ⟨Ao15, co15, eo15⟩ := Z18 HO148.out
       (first | subst eo15 | (injection eo15 with f1_ f2_ f3_; have f4_ := f1_.symm; have f5_ := f3_.symm; clear f1_ f2_ f3_; subst f4_; subst f5_))
       obtain ⟨Ao16, co16, eo16⟩ := Z18 HO145.out
       (first | subst eo16 | (injection eo16 with f1_ f2_ f3_; have f4_ := f1_.symm; have f5_ := f3_.symm; clear f1_ f2_ f3_; subst f4_; subst f5_))
       refine hK.out _ _ trivial (fun hHeld => ?_)
       clear hK K
       refine norm_ (a' := ?_) ?_ ?_
       rotate_left
       ·show Act.put _ (some 8) _ = _
        simp only [Act.put, Z0, Z1, Z2, i64_w, i32_w]
        rfl
       refine Yp 9 (some 13) (YA 12 2047) rfl HT_.out ?_
       exact norm_ Q3 (hJ1_4_8_10 (.slice Ao16 t143.length co16, .slice Ao15 y146.length co15, .slice Ao14 t149.length co14, gb152) _ ⟨Q164, Q162, (Yr HO151.out), (Yk BK142.out), (Yk BK152.out), GW152.out, GE152.out, NB142_152.out, NB152_142.out, Q0⟩)
     ·skip
      rintro ⟨v144, v147, gb152⟩ w12 ⟨h0_, h1_, h2_, h3_, h4_, h5_, h6_, h7_, h8_⟩
      have HO145 : Aside0 (Kd.R (Kd.int .i64) 3 w12 w.heap.size (fun k_ => some k_ ≠ (v147 : Value).ownBlock) v144 t143) := ⟨h0_⟩
      have HO148 : Aside0 (Kd.R (Kd.int .i64) 3 w12 w.heap.size (fun k_ => some k_ ≠ (v144 : Value).ownBlock) v147 y146) := ⟨h1_⟩
      replace BK142 : Aside0 (w12.heap[gb142]? = some (.cells #[.slice none 0 0, .slice none 0 0, .slice none 0 0, .slice none 0 0] 27 (0, 0))) := ⟨h2_⟩
      have BK152 : Aside0 (w12.heap[gb152]? = some (.cells #[.slice none 0 0, .slice none 0 0, .slice none 0 0, .slice none 0 0] 27 (0, 0))) := ⟨h3_⟩
      have GW152 : Aside0 (w.heap.size ≤ gb152) := ⟨h4_⟩
      have GE152 : Aside0 (w.heap.size ≤ gb152) := ⟨h5_⟩
      have NB142_152 : Aside0 (gb142 ≠ gb152) := ⟨h6_⟩
      have NB152_142 : Aside0 (gb152 ≠ gb142) := ⟨h7_⟩
      replace HB : Aside0 (Below w.heap.size w w12) := ⟨h8_⟩
      clear h0_ h1_ h2_ h3_ h4_ h5_ h6_ h7_ h8_
      have hHeld := trivial
      refine norm_ (a' := ?_) ?_ ?_
      rotate_left
      ·simp only [putAll, Act.put, Z0, Z1, Z2]
       rfl
      refine one_ (i := 8) (N := some 12) (YA 12 1535) rfl rfl (one_of HT_.out (by kernel_rfl)) (by decide) (fun K hK => ?_)
      refine goes_ Try.func82 (by kernel_rfl) rfl #[.int .i64 (wrap64 ((l0.length : Int) + 1))] (by rfl) rfl rfl Q4 ?_
      with_reducible refine (spec_raUpTo.calls k (wrap64 ((l0.length : Int) + 1)) t149 _ A5.out).mono ?_
      rintro e w13 ⟨v150, rfl, ho0, hb⟩
      refine ⟨_, rfl, ?_⟩
      have HO151 := Yl (Kd.R_new' (Kd.R_new' ho0 (Z17 (Yr HO145.out))) (Z17 (Yr HO148.out)))
      replace HO145 := Ya (Kd.R_elder' (Yr HO145.out) (Kd.R_base ho0) hb)
      replace HO148 := Ya (Kd.R_elder' (Yr HO148.out) (Kd.R_base ho0) hb)
      replace BK142 := Yb BK142 hb
      replace BK152 := Yb BK152 hb
      replace HB := Yh hb
      (try clear hb ho0)
      obtain ⟨Ao14, co14, eo14⟩ := Z18 HO151.out
      (first | subst eo14 | (injection eo14 with f1_ f2_ f3_; have f4_ := f1_.symm; have f5_ := f3_.symm; clear f1_ f2_ f3_; subst f4_; subst f5_))
      obtain ⟨Ao15, co15, eo15⟩ := Z18 HO148.out
      (first | subst eo15 | (injection eo15 with f1_ f2_ f3_; have f4_ := f1_.symm; have f5_ := f3_.symm; clear f1_ f2_ f3_; subst f4_; subst f5_))
      obtain ⟨Ao16, co16, eo16⟩ := Z18 HO145.out
      (first | subst eo16 | (injection eo16 with f1_ f2_ f3_; have f4_ := f1_.symm; have f5_ := f3_.symm; clear f1_ f2_ f3_; subst f4_; subst f5_))
      refine hK.out _ _ trivial (fun hHeld => ?_)
      clear hK K
      refine norm_ (a' := ?_) ?_ ?_
      rotate_left
      ·show Act.put _ (some 12) _ = _
       simp only [Act.put, Z0, Z1, Z2, i64_w, i32_w]
       rfl
      refine Yp 9 (some 13) (YA 12 2047) rfl HT_.out ?_
      exact norm_ Q3 (hJ1_4_8_10 (.slice Ao16 t143.length co16, .slice Ao15 y146.length co15, .slice Ao14 t149.length co14, gb152) _ ⟨(Yr HO145.out), (Yr HO148.out), Q161, (Yk BK142.out), (Yk BK152.out), GW152.out, GE152.out, NB142_152.out, NB152_142.out, Q0⟩)
    ·skip
     rintro ⟨v144, v147, v150⟩ w15 ⟨h0_, h1_, h2_, h3_, h4_⟩
     have HO145 : Aside0 (Kd.R (Kd.int .i64) 3 w15 w.heap.size (fun k_ => some k_ ≠ (v147 : Value).ownBlock ∧ some k_ ≠ (v150 : Value).ownBlock) v144 t143) := ⟨h0_⟩
     have HO148 : Aside0 (Kd.R (Kd.int .i64) 3 w15 w.heap.size (fun k_ => some k_ ≠ (v144 : Value).ownBlock ∧ some k_ ≠ (v150 : Value).ownBlock) v147 y146) := ⟨h1_⟩
     have HO151 : Aside0 (Kd.R (Kd.int .i64) 3 w15 w.heap.size (fun k_ => some k_ ≠ (v144 : Value).ownBlock ∧ some k_ ≠ (v147 : Value).ownBlock) v150 t149) := ⟨h2_⟩
     replace BK142 : Aside0 (w15.heap[gb142]? = some (.cells #[.slice none 0 0, .slice none 0 0, .slice none 0 0, .slice none 0 0] 27 (0, 0))) := ⟨h3_⟩
     replace HB : Aside0 (Below w.heap.size w w15) := ⟨h4_⟩
     clear h0_ h1_ h2_ h3_ h4_
     have hHeld := trivial
     obtain ⟨Ao16, co16, eo16⟩ := Z18 HO151.out
     (first | subst eo16 | (injection eo16 with f1_ f2_ f3_; have f4_ := f1_.symm; have f5_ := f3_.symm; clear f1_ f2_ f3_; subst f4_; subst f5_))
     obtain ⟨Ao17, co17, eo17⟩ := Z18 HO148.out
     (first | subst eo17 | (injection eo17 with f1_ f2_ f3_; have f4_ := f1_.symm; have f5_ := f3_.symm; clear f1_ f2_ f3_; subst f4_; subst f5_))
     obtain ⟨Ao18, co18, eo18⟩ := Z18 HO145.out
     (first | subst eo18 | (injection eo18 with f1_ f2_ f3_; have f4_ := f1_.symm; have f5_ := f3_.symm; clear f1_ f2_ f3_; subst f4_; subst f5_))
     refine norm_ (a' := ?_) ?_ ?_
     rotate_left
     ·simp only [putAll, Act.put, Z0, Z1, Z2]
      rfl
     refine one_ (i := 10) (N := some 3) (YA 12 2047) rfl rfl (one_of HT_.out (by kernel_rfl)) (by decide) (fun K hK => ?_)
     refine Yy 3 #[.slice none 0 0, .slice none 0 0, .slice none 0 0, .slice none 0 0] 27 ?_
     intro gb152 hg w19 hbox hb
     replace HO145 := Yw HO145 hb
     replace HO148 := Yw HO148 hb
     replace HO151 := Yw HO151 hb
     have BK152 := Ya hbox
     have GW152 := Yg hg
     have GE152 := GW152
     replace HB := Yh hb
     have NB142_152 := Yn BK142 hg
     have NB152_142 := Ym BK142 hg
     replace BK142 := Yb BK142 hb
     clear hb hbox hg
     refine hK.out _ _ trivial (fun hHeld => ?_)
     clear hK K
     refine norm_ (a' := ?_) ?_ ?_
     rotate_left
     ·show Act.put _ (some 3) _ = _
      simp only [Act.put, Z0, Z1, Z2, i64_w, i32_w]
      rfl
     exact norm_ Q3 (hJ1_4_8_10 (.slice Ao18 t143.length co18, .slice Ao17 y146.length co17, .slice Ao16 t149.length co16, gb152) _ ⟨(Yr HO145.out), (Yr HO148.out), (Yr HO151.out), (Yk BK142.out), (Yk BK152.out), GW152.out, GE152.out, NB142_152.out, NB152_142.out, Q0⟩)
   rintro ⟨v144, v147, v150, gb152⟩ w16 ⟨h0_, h1_, h2_, h3_, h4_, h5_, h6_, h7_, h8_, h9_⟩
   have HO145 : Aside0 (Kd.R (Kd.int .i64) 3 w16 w.heap.size (fun k_ => some k_ ≠ (v147 : Value).ownBlock ∧ some k_ ≠ (v150 : Value).ownBlock) v144 t143) := ⟨h0_⟩
   have HO148 : Aside0 (Kd.R (Kd.int .i64) 3 w16 w.heap.size (fun k_ => some k_ ≠ (v144 : Value).ownBlock ∧ some k_ ≠ (v150 : Value).ownBlock) v147 y146) := ⟨h1_⟩
   have HO151 : Aside0 (Kd.R (Kd.int .i64) 3 w16 w.heap.size (fun k_ => some k_ ≠ (v144 : Value).ownBlock ∧ some k_ ≠ (v147 : Value).ownBlock) v150 t149) := ⟨h2_⟩
   replace BK142 : Aside0 (w16.heap[gb142]? = some (.cells #[.slice none 0 0, .slice none 0 0, .slice none 0 0, .slice none 0 0] 27 (0, 0))) := ⟨h3_⟩
   have BK152 : Aside0 (w16.heap[gb152]? = some (.cells #[.slice none 0 0, .slice none 0 0, .slice none 0 0, .slice none 0 0] 27 (0, 0))) := ⟨h4_⟩
   have GW152 : Aside0 (w.heap.size ≤ gb152) := ⟨h5_⟩
   have GE152 : Aside0 (w.heap.size ≤ gb152) := ⟨h6_⟩
   have NB142_152 : Aside0 (gb142 ≠ gb152) := ⟨h7_⟩
   have NB152_142 : Aside0 (gb152 ≠ gb142) := ⟨h8_⟩
   replace HB : Aside0 (Below w.heap.size w w16) := ⟨h9_⟩
   clear h0_ h1_ h2_ h3_ h4_ h5_ h6_ h7_ h8_ h9_
   have hHeld := trivial
   obtain ⟨Ao17, co17, eo17⟩ := Z18 HO151.out
   (first | subst eo17 | (injection eo17 with f1_ f2_ f3_; have f4_ := f1_.symm; have f5_ := f3_.symm; clear f1_ f2_ f3_; subst f4_; subst f5_))
   obtain ⟨Ao18, co18, eo18⟩ := Z18 HO148.out
   (first | subst eo18 | (injection eo18 with f1_ f2_ f3_; have f4_ := f1_.symm; have f5_ := f3_.symm; clear f1_ f2_ f3_; subst f4_; subst f5_))
   obtain ⟨Ao19, co19, eo19⟩ := Z18 HO145.out
   (first | subst eo19 | (injection eo19 with f1_ f2_ f3_; have f4_ := f1_.symm; have f5_ := f3_.symm; clear f1_ f2_ f3_; subst f4_; subst f5_))
   refine norm_ (a' := ?_) ?_ ?_
   rotate_left
   ·simp only [putAll, Act.put, Z0, Z1, Z2]
    rfl
   refine one_ (i := 11) (N := none) (YA 12 4095) rfl rfl (one_of HT_.out (by kernel_rfl)) (by decide) (fun K hK => ?_)
   have hs20 : w16.cell? ⟨gb152, 0, none⟩ = some (.slice none 0 0) := (Z23 BK152.out 0).trans rfl
   have hfs20 := Z24 BK152.out 0
   have hns20_0 := NB142_152.out
   have hms20_0 := NB152_142.out
   have hs21 : w16.cell? ⟨gb152, 1, none⟩ = some (.slice none 0 0) := (Z23 BK152.out 1).trans rfl
   have hfs21 := Z24 BK152.out 1
   have hns21_0 := NB142_152.out
   have hms21_0 := NB152_142.out
   have hs22 : w16.cell? ⟨gb152, 2, none⟩ = some (.slice none 0 0) := (Z23 BK152.out 2).trans rfl
   have hfs22 := Z24 BK152.out 2
   have hns22_0 := NB142_152.out
   have hms22_0 := NB152_142.out
   have hs23 : w16.cell? ⟨gb152, 3, none⟩ = some (.slice none 0 0) := (Z23 BK152.out 3).trans rfl
   have hfs23 := Z24 BK152.out 3
   have hns23_0 := NB142_152.out
   have hms23_0 := NB152_142.out
   refine skip_ (w1 := ?_) (by rfl) rfl ?_ ?_
   rotate_left
   ·go_simp
    rfl
   refine hK.out _ _ trivial (fun hHeld => ?_)
   clear hK K
   refine done_ (done_of HT_.out (by kernel_rfl)) ?_
   try go_wp2
   go_loopg [16] k (fun kq v16 w' => ∃ (x16_1 : Int) (x153002_1 : List Bool) (u153002 : Value), v16 = .int .i64 x16_1 ∧ Aside0 (spec_foStart.l0 kq (l0.length : Int) x16_1 t143 y146 x153002_1 t149 = some (r1, r2, r3, r4)) ∧ Aside0 (kq ≤ k) ∧ Aside0 (Kd.R (Kd.int .i64) 3 w' w.heap.size (fun k_ => some k_ ≠ ((.slice Ao18 y146.length co18) : Value).ownBlock ∧ some k_ ≠ ((.slice Ao17 t149.length co17) : Value).ownBlock) (.slice Ao19 t143.length co19) t143) ∧ Aside0 (Kd.R (Kd.int .i64) 3 w' w.heap.size (fun k_ => some k_ ≠ ((.slice Ao19 t143.length co19) : Value).ownBlock ∧ some k_ ≠ ((.slice Ao17 t149.length co17) : Value).ownBlock) (.slice Ao18 y146.length co18) y146) ∧ Aside0 (Kd.R Kd.bool 4 w' w.heap.size (fun _ => True) u153002 x153002_1) ∧ Aside0 (Kd.R (Kd.int .i64) 3 w' w.heap.size (fun k_ => some k_ ≠ ((.slice Ao19 t143.length co19) : Value).ownBlock ∧ some k_ ≠ ((.slice Ao18 y146.length co18) : Value).ownBlock) (.slice Ao17 t149.length co17) t149) ∧ Aside0 (w'.heap[gb142]? = some (.cells #[(.slice none 0 0), (.slice none 0 0), (.slice none 0 0), (.slice none 0 0)] 27 (0, 0))) ∧ Aside0 (w'.heap[gb152]? = some (.cells #[(.slice Ao19 t143.length co19), (.slice Ao18 y146.length co18), u153002, (.slice Ao17 t149.length co17)] 27 (0, 0))) ∧ Aside0 (Below w.heap.size w w'))
   case atStart => exact ⟨(0), (([] : List Bool)), (.slice none 0 0), Q7, H', ⟨Nat.le_refl _⟩, ⟨by (with_reducible repeat (first | apply Z8 | apply Z9 | apply Z10)); exact Z11 (Yf4 HO145.out BK152.out) (fun _ hk => ⟨hk.1.1, hk.1.2⟩)⟩, ⟨by (with_reducible repeat (first | apply Z8 | apply Z9 | apply Z10)); exact Z11 (Yf4 HO148.out BK152.out) (fun _ hk => ⟨hk.1.1, hk.1.2⟩)⟩, ⟨Q8⟩, ⟨by (with_reducible repeat (first | apply Z8 | apply Z9 | apply Z10)); exact Z11 (Yf4 HO151.out BK152.out) (fun _ hk => ⟨hk.1.1, hk.1.2⟩)⟩, ⟨by (with_reducible repeat (first | refine Z25 ?_ _ | refine Z26 ?_ | refine Z27 ?_ _)); refine blk_far ?_ NB142_152.out _; (with_reducible repeat (first | refine Z25 ?_ _ | refine Z26 ?_ | refine Z27 ?_ _)); refine blk_far ?_ NB142_152.out _; (with_reducible repeat (first | refine Z25 ?_ _ | refine Z26 ?_ | refine Z27 ?_ _)); refine blk_far ?_ NB142_152.out _; (with_reducible repeat (first | refine Z25 ?_ _ | refine Z26 ?_ | refine Z27 ?_ _)); refine blk_far ?_ NB142_152.out _; (with_reducible repeat (first | refine Z25 ?_ _ | refine Z26 ?_ | refine Z27 ?_ _)); exact BK142.out⟩, ⟨by (with_reducible repeat (first | refine Z25 ?_ _ | refine Z26 ?_ | refine Z27 ?_ _)); refine Z29 (cs := #[.slice Ao19 t143.length co19, .slice Ao18 y146.length co18, .slice none 0 0, .slice none 0 0]) ?_ 3 _ rfl; (with_reducible repeat (first | refine Z25 ?_ _ | refine Z26 ?_ | refine Z27 ?_ _)); refine Z29 (cs := #[.slice Ao19 t143.length co19, .slice Ao18 y146.length co18, .slice none 0 0, .slice none 0 0]) ?_ 2 _ rfl; (with_reducible repeat (first | refine Z25 ?_ _ | refine Z26 ?_ | refine Z27 ?_ _)); refine Z29 (cs := #[.slice Ao19 t143.length co19, .slice none 0 0, .slice none 0 0, .slice none 0 0]) ?_ 1 _ rfl; (with_reducible repeat (first | refine Z25 ?_ _ | refine Z26 ?_ | refine Z27 ?_ _)); refine Z29 (cs := #[.slice none 0 0, .slice none 0 0, .slice none 0 0, .slice none 0 0]) ?_ 0 _ rfl; (with_reducible repeat (first | refine Z25 ?_ _ | refine Z26 ?_ | refine Z27 ?_ _)); exact BK152.out⟩, ⟨Q12⟩⟩
   case round =>
    clear H'
    try clear p2
    try clear p6
    try clear c8
    obtain ⟨x16_1, x153002_1, u153002, rfl, HA, HK1, HO_153000, HO_153001, HO_153002, HO_153003, BK142, BK152, HB⟩ := hrel
    cases gk with
    | zero => exact absurd HA.out (by simp [spec_foStart.l0])
    | succ k1 =>
     have H := HA.out
     clear HA
     simp only [spec_foStart.l0] at H
     by_cases c24 : x16_1 < (l0.length : Int)
     ·rw [if_pos c24] at H
      have c24b0 : decide (x16_1 < (l0.length : Int)) = true := Z38 c24
      clear c24
      by_cases c25 : x153002_1.length < 140737488355328
      ·rw [if_pos c25] at H
       have LMc25 := Ya c25
       clear c25
       obtain ⟨y153, hy153⟩ : ∃ y_ : List Bool, y_ = (x153002_1 ++ [true]) := ⟨_, rfl⟩
       replace H : (spec_foStart.l0 k1 (l0.length : Int) (wrap64 (x16_1 + 1)) t143 y146 y153 t149) = some (r1, r2, r3, r4) := by first | (rw [hy153]; with_reducible exact H) | (have H2_ := (Option.bind_some _ _).symm.trans H; rw [hy153]; with_reducible exact H2_) | (have H2_ := (Option.bind_some _ _).symm.trans H; with_reducible exact H2_) | with_reducible exact H | (rw [hy153]; exact H) | exact H
       have Ny153 := Ya hy153
       clear hy153
       have H' := Ya H
       clear H
       have hnb26 := NB152_142.out
       have hnc26 := NB142_152.out
       have hz27 := Y4 BK152.out
       go_wp2_with (first | ((with_reducible refine gate_builtin (b := .append) (xs := #[.tmp 19, .tmp 20]) rfl ?_); at_builtin; refine Kd.R_append Kd.bool (w0 := w) w.heap.size rfl (.tmp 19) (.tmp 20) 23 4 (.bool false) 1 rfl Try.underlying23 info4 rfl (by decide) (by omega) u153002 x153002_1 true [.bool true] (fun _ => True) (fun _ => False) rfl rfl ?aP (fun _ hk => hk.elim) ?aF ?aO ?aB ?aS ?aL ?_; (case aP => exact rfl); (case aB => exact Q0); (case aF => exact (fun _ _ => trivial)); (case aO => exact (Yr HO_153002.out)); (case aS => exact (Z7 Q0)); (case aL => have := LMc25.out; omega); intro v154 w28 ho hb hg hat; rw [← Ny153.out] at ho; replace HO_153000 := Ya (Kd.R_over' (Yr HO_153000.out) (Kd.R_typed (Yr HO_153002.out)) (by decide) hg); replace HO_153001 := Ya (Kd.R_over' (Yr HO_153001.out) (Kd.R_typed (Yr HO_153002.out)) (by decide) hg); replace HO_153003 := Ya (Kd.R_over' (Yr HO_153003.out) (Kd.R_typed (Yr HO_153002.out)) (by decide) hg); replace BK142 := Ya (blk_grown (g := gb142) (o := .cells #[.slice none 0 0, .slice none 0 0, .slice none 0 0, .slice none 0 0] 27 (0, 0)) (Yk BK142.out) hg (Kd.R_ne HO_153002.out BK142.out (by decide))); replace BK152 := Ya (blk_grown (g := gb152) (o := .cells #[.slice Ao19 t143.length co19, .slice Ao18 y146.length co18, u153002, .slice Ao17 t149.length co17] 27 (0, 0)) (Yk BK152.out) hg (Kd.R_ne HO_153002.out BK152.out (by decide))); replace HB := Ya hb; have HO155 := Ya ho; clear HO_153002; clear ho hb hg hat; obtain ⟨Ao29, co29, rfl⟩ := Z18 HO155.out; have hz30 := Y4 BK152.out))
       go_roundg k1
       case measure => have := HK1.out; omega
       case rel => exact ⟨(wrap64 (x16_1 + 1)), (y153), (.slice Ao29 y153.length co29), Q7, H', ⟨Q80⟩, ⟨by (with_reducible repeat (first | apply Z8 | apply Z9 | apply Z10)); exact Z11 (Z12 (p := ⟨gb152, 2, none⟩) (Z14 HO_153000.out BK152.out (by decide)) (fun _ hk => hk.2) (.slice Ao29 y153.length co29)) (fun _ hk => ⟨hk.1.1, hk.1.2⟩)⟩, ⟨by (with_reducible repeat (first | apply Z8 | apply Z9 | apply Z10)); exact Z11 (Z12 (p := ⟨gb152, 2, none⟩) (Z14 HO_153001.out BK152.out (by decide)) (fun _ hk => hk.2) (.slice Ao29 y153.length co29)) (fun _ hk => ⟨hk.1.1, hk.1.2⟩)⟩, ⟨by (with_reducible repeat (first | apply Z8 | apply Z9 | apply Z10)); exact Z11 (Z12 (p := ⟨gb152, 2, none⟩) (Z14 HO155.out BK152.out (by decide)) (fun _ hk => hk.2) (.slice Ao29 y153.length co29)) (fun _ hk => trivial)⟩, ⟨by (with_reducible repeat (first | apply Z8 | apply Z9 | apply Z10)); exact Z11 (Z12 (p := ⟨gb152, 2, none⟩) (Z14 HO_153003.out BK152.out (by decide)) (fun _ hk => hk.2) (.slice Ao29 y153.length co29)) (fun _ hk => ⟨hk.1.1, hk.1.2⟩)⟩, ⟨by (with_reducible repeat (first | refine Z25 ?_ _ | refine Z26 ?_ | refine Z27 ?_ _)); refine blk_far ?_ NB142_152.out _; (with_reducible repeat (first | refine Z25 ?_ _ | refine Z26 ?_ | refine Z27 ?_ _)); exact BK142.out⟩, ⟨by (with_reducible repeat (first | refine Z25 ?_ _ | refine Z26 ?_ | refine Z27 ?_ _)); refine Z29 (cs := #[.slice Ao19 t143.length co19, .slice Ao18 y146.length co18, u153002, .slice Ao17 t149.length co17]) ?_ 2 _ rfl; (with_reducible repeat (first | refine Z25 ?_ _ | refine Z26 ?_ | refine Z27 ?_ _)); exact BK152.out⟩, ⟨Q12⟩⟩
      ·rw [if_neg c25] at H
       exact absurd H (by simp)
     ·rw [if_neg c24] at H
      have c24b0 : decide (x16_1 < (l0.length : Int)) = false := Z37 c24
      clear c24
      simp only [Option.some.injEq, Prod.mk.injEq] at H
      obtain ⟨rfl, rfl, rfl, rfl⟩ := H
      have hnb31 := NB152_142.out
      have hnc31 := NB142_152.out
      have hz32 := Y4 BK152.out
      have hz33 := Y4 BK142.out
      obtain ⟨Ao34, co34, rfl⟩ := Z18 HO_153002.out
      go_wp2
      refine bodyPost_ret (results_cell_row rfl _ _ gb142 27 #[.slice Ao19 t143.length co19, .slice Ao18 y146.length co18, .slice Ao34 x153002_1.length co34, .slice Ao17 t149.length co17] (0, 0) _ rfl (Yk (Yv4 BK142.out)) Try.underlying27 rfl (by kernel_rfl)) rfl ?_
      exact ⟨_, _, _, _, Q2, by (with_reducible repeat (first | apply Z8 | apply Z9 | apply Z10)); exact Z11 (Yf4 HO_153000.out BK142.out) (fun _ hk => ⟨hk.1.1, hk.1.2⟩), by (with_reducible repeat (first | apply Z8 | apply Z9 | apply Z10)); exact Z11 (Yf4 HO_153001.out BK142.out) (fun _ hk => ⟨hk.1.1, hk.1.2⟩), by (with_reducible repeat (first | apply Z8 | apply Z9 | apply Z10)); exact Z11 (Yf4 HO_153002.out BK142.out) (fun _ hk => trivial), by (with_reducible repeat (first | apply Z8 | apply Z9 | apply Z10)); exact Z11 (Yf4 HO_153003.out BK142.out) (fun _ hk => ⟨hk.1.1, hk.1.2⟩), Q12⟩
  ·rw [if_neg c4] at H
   exact absurd H (by simp)
 ·rw [if_neg c3] at H
  exact absurd H (by simp)
end Go.Proofs.Ytpfakdhfffehaaa.MFnExactStepFocus
