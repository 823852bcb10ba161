/- Functions of the program as Lean functions, each with the proof that its call comes to just that: laid for this claim by this session's own program. -/
import Derived.Test.YtpfakdhfffehaaaMFnExactSwapperAtx0
import Derived.Test.YtpfakdhfffehaaaMFnExactSwapperAtx7
namespace Go.Proofs.Ytpfakdhfffehaaa.MFnExactSwapperAt
open Go.RowKit Go.Proofs.YtpfakdhfffehaaaW.PrintWords Go.Proofs.YtpfakdhfffehaaaW.PrintLast Go.Proofs.YtpfakdhfffehaaaW.PrintMore
attribute [local go_sem] max2_int min2_int max_two min_two max_three min_three max_four min_four   -- for this text's walks alone
set_option linter.unusedVariables false
set_option linter.unusedSimpArgs false

/-! ### impl_startFocus: function 71 -/
def impl_startFocus.l0 : Nat → Int → Int → List Int → List Int → List Bool → List Int → Option (List Int × List Int × List Bool × List Int)
 | 0, _, _, _, _, _, _ => none
 | k + 1, x15, x16, x300000, x300001, x300002, x300003 => if x16 < x15 then (if x300002.length < 140737488355328 then (impl_startFocus.l0 k x15 (wrap64 (x16 + 1)) x300000 x300001 (x300002 ++ [true]) x300003) else (none)) else (some (x300000, x300001, x300002, x300003))
def impl_startFocus.f (k : Nat) (l0 : List Int) : Option (List Int × List Int × List Bool × List Int) := (impl_copied.f l0).bind fun t290 => (if 0 ≤ (l0.length : Int) then (if ((l0.length : Int) : Int).toNat ≤ 35184372088832 then ((impl_identity.f k (wrap64 ((l0.length : Int) + 1))).bind fun t296 => (impl_startFocus.l0 k (l0.length : Int) 0 t290 (List.replicate ((l0.length : Int) : Int).toNat 0) ([] : List Bool) t296)) else (none)) else (none))
theorem impl_startFocus.mono_l : ∀ k, (∀ y0 y1 y2 y3 y4 y5, LeO (impl_startFocus.l0 k y0 y1 y2 y3 y4 y5) (impl_startFocus.l0 (k + 1) y0 y1 y2 y3 y4 y5))
 | 0 => fun _ _ _ _ _ _ r h => by simp [impl_startFocus.l0] at h
 | k + 1 => by
  have ih0 := impl_startFocus.mono_l k
  ·intro y0 y1 y2 y3 y4 y5
   unfold impl_startFocus.l0
   repeat' first
   | (with_reducible exact ih0 _ _ _ _ _ _)
   | (with_reducible exact impl_identity.mono _ _)
   | (with_reducible exact LeO.refl _)
   | (with_reducible exact LeO.none _)
   | (with_reducible refine LeO.ite ?_ ?_)
   | (with_reducible refine LeO.bind ?_ (fun _ => ?_))
   | exact ih0 _ _ _ _ _ _
   | exact impl_identity.mono _ _
   | exact LeO.none _
   | refine LeO.ite ?_ ?_
   | refine LeO.bind ?_ (fun _ => ?_)
theorem impl_startFocus.mono : ∀ a0 k, LeO (impl_startFocus.f k a0) (impl_startFocus.f (k + 1) a0) := by
 intro a0 k
 have ih0 := impl_startFocus.mono_l k
 unfold impl_startFocus.f
 repeat' first
   | (with_reducible exact ih0 _ _ _ _ _ _)
   | (with_reducible exact impl_identity.mono _ _)
   | (with_reducible exact LeO.refl _)
   | (with_reducible exact LeO.none _)
   | (with_reducible refine LeO.ite ?_ ?_)
   | (with_reducible refine LeO.bind ?_ (fun _ => ?_))
   | exact ih0 _ _ _ _ _ _
   | exact impl_identity.mono _ _
   | exact LeO.none _
   | refine LeO.ite ?_ ?_
   | refine LeO.bind ?_ (fun _ => ?_)
def impl_startFocus.T2 : Bool × List (List Nat × List Nat) := (true, [([], []), ([0], [0]), ([], []), ([2, 2], [2]), ([], []), ([4], [4]), ([5, 1], [5]), ([1, 3, 6], [1, 3, 6]), ([], []), ([8, 7, 6, 0, 1, 2, 3, 4, 5, 6, 7, 8], [7, 8])])
def impl_startFocus.B2 : List Nat := [0, 1, 0, 4, 0, 16, 51, 127, 0, 511]
theorem impl_startFocus.tab2 : rtab .any (opsOf Try.f71 2) = impl_startFocus.T2 := by kernel_rfl
theorem impl_startFocus.bits2 : waitsOk impl_startFocus.T2.2 impl_startFocus.B2 = true := by kernel_rfl
set_option maxHeartbeats 8000000 in
set_option maxRecDepth 100000 in
theorem impl_startFocus.calls (k : Nat) (A0 : Option Addr) (c0 : Nat) (l0 : List Int) (r1 : List Int) (r2 : List Int) (r3 : List Bool) (r4 : List Int) (w : World) (hr0 : Kd.C (Kd.int .i64) w A0 l0.length l0) (hc0 : l0.length ≤ c0) (h : impl_startFocus.f k l0 = some (r1, r2, r3, r4)) :
  Calls Try.prog 71 #[.slice A0 l0.length c0] w fun e w' => ∃ v0_ v1_ v2_ v3_ : Value, e = .returned (.agg #[v0_, v1_, v2_, v3_]) ∧ Kd.R (Kd.int .i64) 3 w' w.heap.size (fun k_ => some k_ ≠ (v1_ : Value).ownBlock ∧ some k_ ≠ (v3_ : Value).ownBlock) v0_ r1 ∧ Kd.R (Kd.int .i64) 3 w' w.heap.size (fun k_ => some k_ ≠ (v0_ : Value).ownBlock ∧ some k_ ≠ (v3_ : Value).ownBlock) v1_ r2 ∧ Kd.R Kd.bool 4 w' w.heap.size (fun _ => True) v2_ r3 ∧ Kd.R (Kd.int .i64) 3 w' w.heap.size (fun k_ => some k_ ≠ (v0_ : Value).ownBlock ∧ some k_ ≠ (v1_ : Value).ownBlock) v3_ r4 ∧ Below w.heap.size w w' := by
 have hu27 := Try.underlying27
 have HR0 := Ya hr0
 have HC0 := Ya hc0
 clear hr0 hc0
 have HB := Ya (Below.refl w.heap.size w)
 have H : ((impl_copied.f l0).bind fun t290 => (if 0 ≤ (l0.length : Int) then (if ((l0.length : Int) : Int).toNat ≤ 35184372088832 then ((impl_identity.f k (wrap64 ((l0.length : Int) + 1))).bind fun t296 => (impl_startFocus.l0 k (l0.length : Int) 0 t290 (List.replicate ((l0.length : Int) : Int).toNat 0) ([] : List Bool) t296)) else (none)) else (none))) = some (r1, r2, r3, r4) := h
 clear h
 replace H := Z37.mp H
 obtain ⟨t290, A20, H⟩ := H
 replace H : (if 0 ≤ (l0.length : Int) then (if ((l0.length : Int) : Int).toNat ≤ 35184372088832 then ((impl_identity.f k (wrap64 ((l0.length : Int) + 1))).bind fun t296 => (impl_startFocus.l0 k (l0.length : Int) 0 t290 (List.replicate ((l0.length : Int) : Int).toNat 0) ([] : List Bool) t296)) else (none)) else (none)) = some (r1, r2, r3, r4) := H
 have A2 := Ya A20
 clear A20
 by_cases c3 : 0 ≤ (l0.length : Int)
 ·rw [if_pos c3] at H
  have c3b0 := eq_true c3
  have c3b1 : decide (0 ≤ (l0.length : Int)) = true := Z39 c3
  have HLEc3 := Ya c3
  clear c3
  by_cases c4 : ((l0.length : Int) : Int).toNat ≤ 35184372088832
  ·rw [if_pos c4] at H
   have c4b0 := eq_true c4
   have c4b1 : decide (((l0.length : Int) : Int).toNat ≤ 35184372088832) = true := Z39 c4
   clear c4
   obtain ⟨y293, hy293⟩ : ∃ y_ : List Int, y_ = (List.replicate ((l0.length : Int) : Int).toNat 0) := ⟨_, rfl⟩
   replace H : ((impl_identity.f k (wrap64 ((l0.length : Int) + 1))).bind fun t296 => (impl_startFocus.l0 k (l0.length : Int) 0 t290 y293 ([] : List Bool) t296)) = some (r1, r2, r3, r4) := by first | (rw [hy293]; with_reducible exact H) | (have H2_ := (Option.bind_some _ _).symm.trans H; rw [hy293]; with_reducible exact H2_) | (have H2_ := (Option.bind_some _ _).symm.trans H; with_reducible exact H2_) | with_reducible exact H | (rw [hy293]; exact H) | exact H
   have Ny293 := Ya hy293
   clear hy293
   replace H := Z37.mp H
   obtain ⟨t296, A50, H⟩ := H
   replace H : (impl_startFocus.l0 k (l0.length : Int) 0 t290 y293 ([] : List Bool) t296) = some (r1, r2, r3, r4) := H
   have A5 := Ya A50
   clear A50
   have H' := Ya H
   clear H
   go_enter Try.func71, Try.ntmps71
   try go_wp2_with (first | ((with_reducible refine gate_dst (N := 2) rfl ?_); refine Yx 2 #[.slice none 0 0, .slice none 0 0, .slice none 0 0, .slice none 0 0] 27 ?_; intro gb289 hg w6 hbox hb; have BK289 := Ya hbox; have GW289 := Yg hg Q0; have GE289 := GW289; replace HB := Ya (Z8 Q0 hb); clear hb hbox hg))
   replace BK289 := Ya (Z27 BK289.out)
   replace HB := Ya (Z4 HB.out)
   refine start_ (n := 10) (S := fun w' => True) (ds := []) (YA 10 0) (by kernel_rfl) rfl rfl trivial (fun hHeld => ?_); refine with_tabW impl_startFocus.tab2 impl_startFocus.bits2 (fun HT_ HW_ => ?_)
   generalize w6.drew = w7 at BK289 HB hHeld ⊢
   refine Yp 0 (some 7) (YA 10 1) rfl HT_.out ?_
   refine Yp 2 (some 9) (YA 10 5) rfl HT_.out ?_
   refine Yp 4 (some 11) (YA 10 21) rfl HT_.out ?_
   refine Yp 5 (some 12) (YA 10 53) rfl HT_.out ?_
   refine join_ (σ := Value × Value × Value × Nat) 1 (YA 10 511) (fun s_ => [(8, s_.1), (10, s_.2.1), (13, s_.2.2.1), (4, .pointer (some ⟨s_.2.2.2, 0, none⟩)), (14, .agg #[s_.1, s_.2.1, .slice none 0 0, s_.2.2.1])]) (fun s_ w' => (Kd.R (Kd.int .i64) 3 w' w.heap.size (fun k_ => some k_ ≠ (s_.2.1 : Value).ownBlock ∧ some k_ ≠ (s_.2.2.1 : Value).ownBlock) s_.1 t290) ∧ (Kd.R (Kd.int .i64) 3 w' w.heap.size (fun k_ => some k_ ≠ (s_.1 : Value).ownBlock ∧ some k_ ≠ (s_.2.2.1 : Value).ownBlock) s_.2.1 y293) ∧ (Kd.R (Kd.int .i64) 3 w' w.heap.size (fun k_ => some k_ ≠ (s_.1 : Value).ownBlock ∧ some k_ ≠ (s_.2.1 : Value).ownBlock) s_.2.2.1 t296) ∧ (w'.heap[gb289]? = some (.cells #[.slice none 0 0, .slice none 0 0, .slice none 0 0, .slice none 0 0] 27 (0, 0))) ∧ (w'.heap[s_.2.2.2]? = some (.cells #[.slice none 0 0, .slice none 0 0, .slice none 0 0, .slice none 0 0] 27 (0, 0))) ∧ (w.heap.size ≤ s_.2.2.2) ∧ (w.heap.size ≤ s_.2.2.2) ∧ (gb289 ≠ s_.2.2.2) ∧ (s_.2.2.2 ≠ gb289) ∧ (Below w.heap.size w w')) ?_ ?_
   rotate_left
   ·intro hJ1_3_6_8
    refine join_ (σ := Value × Value × Value) 2 (YA 10 255) (fun s_ => [(8, s_.1), (10, s_.2.1), (13, s_.2.2), (14, .agg #[s_.1, s_.2.1, .slice none 0 0, s_.2.2])]) (fun s_ w' => (Kd.R (Kd.int .i64) 3 w' w.heap.size (fun k_ => some k_ ≠ (s_.2.1 : Value).ownBlock ∧ some k_ ≠ (s_.2.2 : Value).ownBlock) s_.1 t290) ∧ (Kd.R (Kd.int .i64) 3 w' w.heap.size (fun k_ => some k_ ≠ (s_.1 : Value).ownBlock ∧ some k_ ≠ (s_.2.2 : Value).ownBlock) s_.2.1 y293) ∧ (Kd.R (Kd.int .i64) 3 w' w.heap.size (fun k_ => some k_ ≠ (s_.1 : Value).ownBlock ∧ some k_ ≠ (s_.2.1 : Value).ownBlock) s_.2.2 t296) ∧ (w'.heap[gb289]? = some (.cells #[.slice none 0 0, .slice none 0 0, .slice none 0 0, .slice none 0 0] 27 (0, 0))) ∧ (Below w.heap.size w w')) ?_ ?_
    rotate_left
    ·intro hJ1_3_6
     refine join_ (σ := Value × Value × Nat) 3 (YA 10 319) (fun s_ => [(8, s_.1), (10, s_.2.1), (4, .pointer (some ⟨s_.2.2, 0, none⟩))]) (fun s_ w' => (Kd.R (Kd.int .i64) 3 w' w.heap.size (fun k_ => some k_ ≠ (s_.2.1 : Value).ownBlock) s_.1 t290) ∧ (Kd.R (Kd.int .i64) 3 w' w.heap.size (fun k_ => some k_ ≠ (s_.1 : Value).ownBlock) s_.2.1 y293) ∧ (w'.heap[gb289]? = some (.cells #[.slice none 0 0, .slice none 0 0, .slice none 0 0, .slice none 0 0] 27 (0, 0))) ∧ (w'.heap[s_.2.2]? = some (.cells #[.slice none 0 0, .slice none 0 0, .slice none 0 0, .slice none 0 0] 27 (0, 0))) ∧ (w.heap.size ≤ s_.2.2) ∧ (w.heap.size ≤ s_.2.2) ∧ (gb289 ≠ s_.2.2) ∧ (s_.2.2 ≠ gb289) ∧ (Below w.heap.size w w')) ?_ ?_
     rotate_left
     ·intro hJ1_3_8
      refine join_ (σ := Value × Value × Nat) 3 (YA 10 375) (fun s_ => [(8, s_.1), (13, s_.2.1), (4, .pointer (some ⟨s_.2.2, 0, none⟩))]) (fun s_ w' => (Kd.R (Kd.int .i64) 3 w' w.heap.size (fun k_ => some k_ ≠ (s_.2.1 : Value).ownBlock) s_.1 t290) ∧ (Kd.R (Kd.int .i64) 3 w' w.heap.size (fun k_ => some k_ ≠ (s_.1 : Value).ownBlock) s_.2.1 t296) ∧ (w'.heap[gb289]? = some (.cells #[.slice none 0 0, .slice none 0 0, .slice none 0 0, .slice none 0 0] 27 (0, 0))) ∧ (w'.heap[s_.2.2]? = some (.cells #[.slice none 0 0, .slice none 0 0, .slice none 0 0, .slice none 0 0] 27 (0, 0))) ∧ (w.heap.size ≤ s_.2.2) ∧ (w.heap.size ≤ s_.2.2) ∧ (gb289 ≠ s_.2.2) ∧ (s_.2.2 ≠ gb289) ∧ (Below w.heap.size w w')) ?_ ?_
      rotate_left
      ·intro hJ1_6_8
       refine join_ (σ := Value × Value) 4 (YA 10 63) (fun s_ => [(8, s_.1), (10, s_.2)]) (fun s_ w' => (Kd.R (Kd.int .i64) 3 w' w.heap.size (fun k_ => some k_ ≠ (s_.2 : Value).ownBlock) s_.1 t290) ∧ (Kd.R (Kd.int .i64) 3 w' w.heap.size (fun k_ => some k_ ≠ (s_.1 : Value).ownBlock) s_.2 y293) ∧ (w'.heap[gb289]? = some (.cells #[.slice none 0 0, .slice none 0 0, .slice none 0 0, .slice none 0 0] 27 (0, 0))) ∧ (Below w.heap.size w w')) ?_ ?_
       rotate_left
       ·intro hJ1_3
        refine join_ (σ := Value × Value) 4 (YA 10 119) (fun s_ => [(8, s_.1), (13, s_.2)]) (fun s_ w' => (Kd.R (Kd.int .i64) 3 w' w.heap.size (fun k_ => some k_ ≠ (s_.2 : Value).ownBlock) s_.1 t290) ∧ (Kd.R (Kd.int .i64) 3 w' w.heap.size (fun k_ => some k_ ≠ (s_.1 : Value).ownBlock) s_.2 t296) ∧ (w'.heap[gb289]? = some (.cells #[.slice none 0 0, .slice none 0 0, .slice none 0 0, .slice none 0 0] 27 (0, 0))) ∧ (Below w.heap.size w w')) ?_ ?_
        rotate_left
        ·intro hJ1_6
         refine join_ (σ := Value × Nat) 4 (YA 10 311) (fun s_ => [(8, s_.1), (4, .pointer (some ⟨s_.2, 0, none⟩))]) (fun s_ w' => (Kd.R (Kd.int .i64) 3 w' w.heap.size (fun _ => True) s_.1 t290) ∧ (w'.heap[gb289]? = some (.cells #[.slice none 0 0, .slice none 0 0, .slice none 0 0, .slice none 0 0] 27 (0, 0))) ∧ (w'.heap[s_.2]? = some (.cells #[.slice none 0 0, .slice none 0 0, .slice none 0 0, .slice none 0 0] 27 (0, 0))) ∧ (w.heap.size ≤ s_.2) ∧ (w.heap.size ≤ s_.2) ∧ (gb289 ≠ s_.2) ∧ (s_.2 ≠ gb289) ∧ (Below w.heap.size w w')) ?_ ?_
         rotate_left
         ·intro hJ1_8
          refine join_ (σ := Value × Nat) 4 (YA 10 317) (fun s_ => [(10, s_.1), (4, .pointer (some ⟨s_.2, 0, none⟩))]) (fun s_ w' => (Kd.R (Kd.int .i64) 3 w' w.heap.size (fun _ => True) s_.1 y293) ∧ (w'.heap[gb289]? = some (.cells #[.slice none 0 0, .slice none 0 0, .slice none 0 0, .slice none 0 0] 27 (0, 0))) ∧ (w'.heap[s_.2]? = some (.cells #[.slice none 0 0, .slice none 0 0, .slice none 0 0, .slice none 0 0] 27 (0, 0))) ∧ (w.heap.size ≤ s_.2) ∧ (w.heap.size ≤ s_.2) ∧ (gb289 ≠ s_.2) ∧ (s_.2 ≠ gb289) ∧ (Below w.heap.size w w')) ?_ ?_
          rotate_left
          ·intro hJ3_8
           refine join_ (σ := Value) 5 (YA 10 55) (fun s_ => [(8, s_)]) (fun s_ w' => (Kd.R (Kd.int .i64) 3 w' w.heap.size (fun _ => True) s_ t290) ∧ (w'.heap[gb289]? = some (.cells #[.slice none 0 0, .slice none 0 0, .slice none 0 0, .slice none 0 0] 27 (0, 0))) ∧ (Below w.heap.size w w')) ?_ ?_
           rotate_left
           ·intro hJ1
            refine join_ (σ := Value) 5 (YA 10 61) (fun s_ => [(10, s_)]) (fun s_ w' => (Kd.R (Kd.int .i64) 3 w' w.heap.size (fun _ => True) s_ y293) ∧ (w'.heap[gb289]? = some (.cells #[.slice none 0 0, .slice none 0 0, .slice none 0 0, .slice none 0 0] 27 (0, 0))) ∧ (Below w.heap.size w w')) ?_ ?_
            rotate_left
            ·intro hJ3
             refine join_ (σ := Nat) 5 (YA 10 309) (fun s_ => [(4, .pointer (some ⟨s_, 0, none⟩))]) (fun s_ w' => (w'.heap[gb289]? = some (.cells #[.slice none 0 0, .slice none 0 0, .slice none 0 0, .slice none 0 0] 27 (0, 0))) ∧ (w'.heap[s_]? = some (.cells #[.slice none 0 0, .slice none 0 0, .slice none 0 0, .slice none 0 0] 27 (0, 0))) ∧ (w.heap.size ≤ s_) ∧ (w.heap.size ≤ s_) ∧ (gb289 ≠ s_) ∧ (s_ ≠ gb289) ∧ (Below w.heap.size w w')) ?_ ?_
             rotate_left
             ·intro hJ8
              refine three_ (i := 1) (j := 3) (k := 8) (Ni := some 8) (Nj := some 10) (Nk := some 4) (YA 10 55) (YA 10 61) (YA 10 309) rfl rfl rfl rfl rfl rfl (three_of HT_.out (by kernel_rfl)) (by decide) (by decide) (by decide) (fun K hK => ?_) (fun K hK => ?_) (fun K hK => ?_)
              ·skip
               refine goes_ Try.func56 (by kernel_rfl) rfl #[.slice A0 l0.length c0] (by rfl) rfl rfl Q1 ?_
               with_reducible refine (impl_copied.calls _ _ l0 t290 _ ?side1 ?side2 A2.out).mono ?_
               (case side1 => exact Yc (Z23 HR0.out HB.out))
               (case side2 => exact HC0.out)
               rintro e w8 ⟨v291, rfl, ho0, hb⟩
               refine ⟨_, rfl, ?_⟩
               have HO292 := Ya (Kd.R_lower ho0 (Z7 Q6))
               replace BK289 := Yb BK289 hb
               replace HB := Ya (Z8 Q6 hb)
               (try clear hb)
               (try clear hb2)
               (try clear hk)
               (try clear hi)
               (try clear ho0)
               refine hK.out _ _ trivial (fun hHeld => ?_)
               clear hK K
               refine norm_ (a' := ?_) ?_ ?_
               rotate_left
               ·show Act.put _ (some 8) _ = _
                simp only [Act.put, Z0, Z1, Z2, i64_w, i32_w]
                rfl
               exact norm_ Q8 (hJ1 (v291) _ ⟨(Yr HO292.out), (Yk BK289.out), Q6⟩)
              ·skip
               refine Kd.R_make_step (Kd.int .i64) _ 3 (by rfl) (N := 10) rfl 22 _ _ rfl (l0.length : Int) rfl rfl Try.underlying22 (.int .i64 0) 8 info3 rfl (by decide) (by omega) 0 (ok := fun _ => True) (okp := fun _ => True) rfl (fun _ hk => hk) trivial (Z31 Q5) (Nat.le_trans (Nat.mul_le_mul_right _ (Z31 Q5 : (l0.length : Int).toNat ≤ 35184372088832)) (by omega)) (Below.refl _ _) (Nat.le_refl _) ?_
               intro v294 w8 ho9 hb hg_ hnew_
               clear hg_ hnew_
               (first | rw [← Ny293.out] at ho9 | (simp only [Int.reduceToNat] at ho9; rw [← Ny293.out] at ho9))
               have HO295 := Ya (Kd.R_lower ho9 (Z7 Q6))
               replace BK289 := Yb BK289 hb
               replace HB := Ya (Z8 Q6 hb)
               clear hb ho9
               refine hK.out _ _ trivial (fun hHeld => ?_)
               clear hK K
               refine norm_ (a' := ?_) ?_ ?_
               rotate_left
               ·show Act.put _ (some 10) _ = _
                simp only [Act.put, Z0, Z1, Z2, i64_w, i32_w]
                rfl
               exact norm_ Q8 (hJ3 (v294) _ ⟨(Yr HO295.out), (Yk BK289.out), Q6⟩)
              ·skip
               refine Yy 4 #[.slice none 0 0, .slice none 0 0, .slice none 0 0, .slice none 0 0] 27 ?_
               intro gb299 hg w8 hbox hb
               have BK299 := Ya hbox
               have GW299 := Yg hg Q6
               have GE299 := GW299
               replace HB := Ya (Z8 Q6 hb)
               have NB289_299 := Yn BK289 hg
               have NB299_289 := Ym BK289 hg
               replace BK289 := Yb BK289 hb
               clear hb hbox hg
               refine hK.out _ _ trivial (fun hHeld => ?_)
               clear hK K
               refine norm_ (a' := ?_) ?_ ?_
               rotate_left
               ·show Act.put _ (some 4) _ = _
                simp only [Act.put, Z0, Z1, Z2, i64_w, i32_w]
                rfl
               exact norm_ Q8 (hJ8 (gb299) _ ⟨(Yk BK289.out), (Yk BK299.out), GW299.out, GE299.out, NB289_299.out, NB299_289.out, Q3⟩)
             ·skip
              rintro gb299 w9 ⟨h0_, h1_, h2_, h3_, h4_, h5_, h6_⟩
              replace BK289 : Aside0 (w9.heap[gb289]? = some (.cells #[.slice none 0 0, .slice none 0 0, .slice none 0 0, .slice none 0 0] 27 (0, 0))) := ⟨h0_⟩
              have BK299 : Aside0 (w9.heap[gb299]? = some (.cells #[.slice none 0 0, .slice none 0 0, .slice none 0 0, .slice none 0 0] 27 (0, 0))) := ⟨h1_⟩
              have GW299 : Aside0 (w.heap.size ≤ gb299) := ⟨h2_⟩
              have GE299 : Aside0 (w.heap.size ≤ gb299) := ⟨h3_⟩
              have NB289_299 : Aside0 (gb289 ≠ gb299) := ⟨h4_⟩
              have NB299_289 : Aside0 (gb299 ≠ gb289) := ⟨h5_⟩
              replace HB : Aside0 (Below w.heap.size w w9) := ⟨h6_⟩
              clear h0_ h1_ h2_ h3_ h4_ h5_ h6_
              have hHeld := trivial
              refine norm_ (a' := ?_) ?_ ?_
              rotate_left
              ·simp only [putAll, Act.put, Z0, Z1, Z2]
               rfl
              refine two_ (i := 1) (j := 3) (Ni := some 8) (Nj := some 10) (YA 10 311) (YA 10 317) rfl rfl rfl rfl (two_of HT_.out (by kernel_rfl)) (by decide) (by decide) (fun K hK => ?_) (fun K hK => ?_)
              ·skip
               refine goes_ Try.func56 (by kernel_rfl) rfl #[.slice A0 l0.length c0] (by rfl) rfl rfl Q1 ?_
               with_reducible refine (impl_copied.calls _ _ l0 t290 _ ?side1 ?side2 A2.out).mono ?_
               (case side1 => exact Yc (Z23 HR0.out HB.out))
               (case side2 => exact HC0.out)
               rintro e w10 ⟨v291, rfl, ho0, hb⟩
               refine ⟨_, rfl, ?_⟩
               have HO292 := Ya (Kd.R_lower ho0 (Z7 Q3))
               replace BK289 := Yb BK289 hb
               replace BK299 := Yb BK299 hb
               replace HB := Ya (Z8 Q3 hb)
               (try clear hb)
               (try clear hb2)
               (try clear hk)
               (try clear hi)
               (try clear ho0)
               refine hK.out _ _ trivial (fun hHeld => ?_)
               clear hK K
               refine norm_ (a' := ?_) ?_ ?_
               rotate_left
               ·show Act.put _ (some 8) _ = _
                simp only [Act.put, Z0, Z1, Z2, i64_w, i32_w]
                rfl
               exact norm_ Q8 (hJ1_8 (v291, gb299) _ ⟨(Yr HO292.out), (Yk BK289.out), (Yk BK299.out), GW299.out, GE299.out, NB289_299.out, NB299_289.out, Q3⟩)
              ·skip
               refine Kd.R_make_step (Kd.int .i64) _ 3 (by rfl) (N := 10) rfl 22 _ _ rfl (l0.length : Int) rfl rfl Try.underlying22 (.int .i64 0) 8 info3 rfl (by decide) (by omega) 0 (ok := fun _ => True) (okp := fun _ => True) rfl (fun _ hk => hk) trivial (Z31 Q5) (Nat.le_trans (Nat.mul_le_mul_right _ (Z31 Q5 : (l0.length : Int).toNat ≤ 35184372088832)) (by omega)) (Below.refl _ _) (Nat.le_refl _) ?_
               intro v294 w10 ho11 hb hg_ hnew_
               clear hg_ hnew_
               (first | rw [← Ny293.out] at ho11 | (simp only [Int.reduceToNat] at ho11; rw [← Ny293.out] at ho11))
               have HO295 := Ya (Kd.R_lower ho11 (Z7 Q3))
               replace BK289 := Yb BK289 hb
               replace BK299 := Yb BK299 hb
               replace HB := Ya (Z8 Q3 hb)
               clear hb ho11
               refine hK.out _ _ trivial (fun hHeld => ?_)
               clear hK K
               refine norm_ (a' := ?_) ?_ ?_
               rotate_left
               ·show Act.put _ (some 10) _ = _
                simp only [Act.put, Z0, Z1, Z2, i64_w, i32_w]
                rfl
               exact norm_ Q8 (hJ3_8 (v294, gb299) _ ⟨(Yr HO295.out), (Yk BK289.out), (Yk BK299.out), GW299.out, GE299.out, NB289_299.out, NB299_289.out, Q3⟩)
            ·skip
             rintro v294 w10 ⟨h0_, h1_, h2_⟩
             have HO295 : Aside0 (Kd.R (Kd.int .i64) 3 w10 w.heap.size (fun _ => True) v294 y293) := ⟨h0_⟩
             replace BK289 : Aside0 (w10.heap[gb289]? = some (.cells #[.slice none 0 0, .slice none 0 0, .slice none 0 0, .slice none 0 0] 27 (0, 0))) := ⟨h1_⟩
             replace HB : Aside0 (Below w.heap.size w w10) := ⟨h2_⟩
             clear h0_ h1_ h2_
             have hHeld := trivial
             refine norm_ (a' := ?_) ?_ ?_
             rotate_left
             ·simp only [putAll, Act.put, Z0, Z1, Z2]
              rfl
             refine two_ (i := 1) (j := 8) (Ni := some 8) (Nj := some 4) (YA 10 63) (YA 10 317) rfl rfl rfl rfl (two_of HT_.out (by kernel_rfl)) (by decide) (by decide) (fun K hK => ?_) (fun K hK => ?_)
             ·skip
              refine goes_ Try.func56 (by kernel_rfl) rfl #[.slice A0 l0.length c0] (by rfl) rfl rfl Q1 ?_
              with_reducible refine (impl_copied.calls _ _ l0 t290 _ ?side1 ?side2 A2.out).mono ?_
              (case side1 => exact Yc (Z23 HR0.out HB.out))
              (case side2 => exact HC0.out)
              rintro e w11 ⟨v291, rfl, ho0, hb⟩
              refine ⟨_, rfl, ?_⟩
              have HO292 := Ya (Kd.R_lower (Kd.R_new' ho0 (Z18 (Yr HO295.out))) (Z7 Q6))
              replace HO295 := Ya (Kd.R_elder' (Yr HO295.out) (Kd.R_base ho0) hb)
              replace BK289 := Yb BK289 hb
              replace HB := Ya (Z8 Q6 hb)
              (try clear hb)
              (try clear hb2)
              (try clear hk)
              (try clear hi)
              (try clear ho0)
              refine hK.out _ _ trivial (fun hHeld => ?_)
              clear hK K
              refine norm_ (a' := ?_) ?_ ?_
              rotate_left
              ·show Act.put _ (some 8) _ = _
               simp only [Act.put, Z0, Z1, Z2, i64_w, i32_w]
               rfl
              exact norm_ Q8 (hJ1_3 (v291, v294) _ ⟨Q45, Q57, (Yk BK289.out), Q6⟩)
             ·skip
              refine Yy 4 #[.slice none 0 0, .slice none 0 0, .slice none 0 0, .slice none 0 0] 27 ?_
              intro gb299 hg w11 hbox hb
              replace HO295 := Ya (Z14 (Yr HO295.out) hb)
              have BK299 := Ya hbox
              have GW299 := Yg hg Q6
              have GE299 := GW299
              replace HB := Ya (Z8 Q6 hb)
              have NB289_299 := Yn BK289 hg
              have NB299_289 := Ym BK289 hg
              replace BK289 := Yb BK289 hb
              clear hb hbox hg
              refine hK.out _ _ trivial (fun hHeld => ?_)
              clear hK K
              refine norm_ (a' := ?_) ?_ ?_
              rotate_left
              ·show Act.put _ (some 4) _ = _
               simp only [Act.put, Z0, Z1, Z2, i64_w, i32_w]
               rfl
              exact norm_ Q8 (hJ3_8 (v294, gb299) _ ⟨(Yr HO295.out), (Yk BK289.out), (Yk BK299.out), GW299.out, GE299.out, NB289_299.out, NB299_289.out, Q3⟩)
           ·skip
            rintro v291 w9 ⟨h0_, h1_, h2_⟩
            have HO292 : Aside0 (Kd.R (Kd.int .i64) 3 w9 w.heap.size (fun _ => True) v291 t290) := ⟨h0_⟩
            replace BK289 : Aside0 (w9.heap[gb289]? = some (.cells #[.slice none 0 0, .slice none 0 0, .slice none 0 0, .slice none 0 0] 27 (0, 0))) := ⟨h1_⟩
            replace HB : Aside0 (Below w.heap.size w w9) := ⟨h2_⟩
            clear h0_ h1_ h2_
            have hHeld := trivial
            refine norm_ (a' := ?_) ?_ ?_
            rotate_left
            ·simp only [putAll, Act.put, Z0, Z1, Z2]
             rfl
            refine three_ (i := 3) (j := 6) (k := 8) (Ni := some 10) (Nj := some 13) (Nk := some 4) (YA 10 63) (YA 10 119) (YA 10 311) rfl rfl rfl rfl rfl rfl (three_of HT_.out (by kernel_rfl)) (by decide) (by decide) (by decide) (fun K hK => ?_) (fun K hK => ?_) (fun K hK => ?_)
            ·skip
             refine Kd.R_make_step (Kd.int .i64) _ 3 (by rfl) (N := 10) rfl 22 _ _ rfl (l0.length : Int) rfl rfl Try.underlying22 (.int .i64 0) 8 info3 rfl (by decide) (by omega) 0 (ok := fun _ => True) (okp := fun _ => True) rfl (fun _ hk => hk) trivial (Z31 Q5) (Nat.le_trans (Nat.mul_le_mul_right _ (Z31 Q5 : (l0.length : Int).toNat ≤ 35184372088832)) (by omega)) (Below.refl _ _) (Nat.le_refl _) ?_
             intro v294 w10 ho11 hb hg_ hnew_
             clear hg_ hnew_
             (first | rw [← Ny293.out] at ho11 | (simp only [Int.reduceToNat] at ho11; rw [← Ny293.out] at ho11))
             have HO295 := Ya (Kd.R_lower (Kd.R_new' ho11 (Z18 (Yr HO292.out))) (Z7 Q6))
             replace HO292 := Ya (Kd.R_elder' (Yr HO292.out) (Kd.R_base ho11) hb)
             replace BK289 := Yb BK289 hb
             replace HB := Ya (Z8 Q6 hb)
             clear hb ho11
             refine hK.out _ _ trivial (fun hHeld => ?_)
             clear hK K
             refine norm_ (a' := ?_) ?_ ?_
             rotate_left
             ·show Act.put _ (some 10) _ = _
              simp only [Act.put, Z0, Z1, Z2, i64_w, i32_w]
              rfl
             exact norm_ Q8 (hJ1_3 (v291, v294) _ ⟨Q45, Q57, (Yk BK289.out), Q6⟩)
            ·skip
             refine goes_ Try.func72 (by kernel_rfl) rfl #[.int .i64 (wrap64 ((l0.length : Int) + 1))] (by rfl) rfl rfl Q1 ?_
             with_reducible refine (impl_identity.calls k (wrap64 ((l0.length : Int) + 1)) t296 _ A5.out).mono ?_
             rintro e w10 ⟨v297, rfl, ho0, hb⟩
             refine ⟨_, rfl, ?_⟩
             have HO298 := Ya (Kd.R_lower (Kd.R_new' ho0 (Z18 (Yr HO292.out))) (Z7 Q6))
             replace HO292 := Ya (Kd.R_elder' (Yr HO292.out) (Kd.R_base ho0) hb)
             replace BK289 := Yb BK289 hb
             replace HB := Ya (Z8 Q6 hb)
             (try clear hb)
             (try clear hb2)
             (try clear hk)
             (try clear hi)
             (try clear ho0)
             refine hK.out _ _ trivial (fun hHeld => ?_)
             clear hK K
             refine norm_ (a' := ?_) ?_ ?_
             rotate_left
             ·show Act.put _ (some 13) _ = _
              simp only [Act.put, Z0, Z1, Z2, i64_w, i32_w]
              rfl
             exact norm_ Q8 (hJ1_6 (v291, v297) _ ⟨Q45, (by (with_reducible repeat (first | apply Z9 | apply Z10 | apply Z11)); exact Z12 HO298.out (fun _ hk => hk.2)), (Yk BK289.out), Q6⟩)
            ·skip
             refine Yy 4 #[.slice none 0 0, .slice none 0 0, .slice none 0 0, .slice none 0 0] 27 ?_
             intro gb299 hg w10 hbox hb
             replace HO292 := Ya (Z14 (Yr HO292.out) hb)
             have BK299 := Ya hbox
             have GW299 := Yg hg Q6
             have GE299 := GW299
             replace HB := Ya (Z8 Q6 hb)
             have NB289_299 := Yn BK289 hg
             have NB299_289 := Ym BK289 hg
             replace BK289 := Yb BK289 hb
             clear hb hbox hg
             refine hK.out _ _ trivial (fun hHeld => ?_)
             clear hK K
             refine norm_ (a' := ?_) ?_ ?_
             rotate_left
             ·show Act.put _ (some 4) _ = _
              simp only [Act.put, Z0, Z1, Z2, i64_w, i32_w]
              rfl
             exact norm_ Q8 (hJ1_8 (v291, gb299) _ ⟨(Yr HO292.out), (Yk BK289.out), (Yk BK299.out), GW299.out, GE299.out, NB289_299.out, NB299_289.out, Q3⟩)
          ·skip
           rintro ⟨v294, gb299⟩ w11 ⟨h0_, h1_, h2_, h3_, h4_, h5_, h6_, h7_⟩
           have HO295 : Aside0 (Kd.R (Kd.int .i64) 3 w11 w.heap.size (fun _ => True) v294 y293) := ⟨h0_⟩
           replace BK289 : Aside0 (w11.heap[gb289]? = some (.cells #[.slice none 0 0, .slice none 0 0, .slice none 0 0, .slice none 0 0] 27 (0, 0))) := ⟨h1_⟩
           have BK299 : Aside0 (w11.heap[gb299]? = some (.cells #[.slice none 0 0, .slice none 0 0, .slice none 0 0, .slice none 0 0] 27 (0, 0))) := ⟨h2_⟩
           have GW299 : Aside0 (w.heap.size ≤ gb299) := ⟨h3_⟩
           have GE299 : Aside0 (w.heap.size ≤ gb299) := ⟨h4_⟩
           have NB289_299 : Aside0 (gb289 ≠ gb299) := ⟨h5_⟩
           have NB299_289 : Aside0 (gb299 ≠ gb289) := ⟨h6_⟩
           replace HB : Aside0 (Below w.heap.size w w11) := ⟨h7_⟩
           clear h0_ h1_ h2_ h3_ h4_ h5_ h6_ h7_
           have hHeld := trivial
           refine norm_ (a' := ?_) ?_ ?_
           rotate_left
           ·simp only [putAll, Act.put, Z0, Z1, Z2]
            rfl
           refine one_ (i := 1) (N := some 8) (YA 10 319) rfl rfl (one_of HT_.out (by kernel_rfl)) (by decide) (fun K hK => ?_)
           refine goes_ Try.func56 (by kernel_rfl) rfl #[.slice A0 l0.length c0] (by rfl) rfl rfl Q1 ?_
           with_reducible refine (impl_copied.calls _ _ l0 t290 _ ?side1 ?side2 A2.out).mono ?_
           (case side1 => exact Yc (Z23 HR0.out HB.out))
           (case side2 => exact HC0.out)
           rintro e w12 ⟨v291, rfl, ho0, hb⟩
           refine ⟨_, rfl, ?_⟩
           have HO292 := Ya (Kd.R_lower (Kd.R_new' ho0 (Z18 (Yr HO295.out))) (Z7 Q3))
           replace HO295 := Ya (Kd.R_elder' (Yr HO295.out) (Kd.R_base ho0) hb)
           replace BK289 := Yb BK289 hb
           replace BK299 := Yb BK299 hb
           replace HB := Ya (Z8 Q3 hb)
           (try clear hb)
           (try clear hb2)
           (try clear hk)
           (try clear hi)
           (try clear ho0)
           refine hK.out _ _ trivial (fun hHeld => ?_)
           clear hK K
           refine norm_ (a' := ?_) ?_ ?_
           rotate_left
           ·show Act.put _ (some 8) _ = _
            simp only [Act.put, Z0, Z1, Z2, i64_w, i32_w]
            rfl
           exact norm_ Q8 (hJ1_3_8 (v291, v294, gb299) _ ⟨Q45, Q57, (Yk BK289.out), (Yk BK299.out), GW299.out, GE299.out, NB289_299.out, NB299_289.out, Q3⟩)
         ·skip
          rintro ⟨v291, gb299⟩ w10 ⟨h0_, h1_, h2_, h3_, h4_, h5_, h6_, h7_⟩
          have HO292 : Aside0 (Kd.R (Kd.int .i64) 3 w10 w.heap.size (fun _ => True) v291 t290) := ⟨h0_⟩
          replace BK289 : Aside0 (w10.heap[gb289]? = some (.cells #[.slice none 0 0, .slice none 0 0, .slice none 0 0, .slice none 0 0] 27 (0, 0))) := ⟨h1_⟩
          have BK299 : Aside0 (w10.heap[gb299]? = some (.cells #[.slice none 0 0, .slice none 0 0, .slice none 0 0, .slice none 0 0] 27 (0, 0))) := ⟨h2_⟩
          have GW299 : Aside0 (w.heap.size ≤ gb299) := ⟨h3_⟩
          have GE299 : Aside0 (w.heap.size ≤ gb299) := ⟨h4_⟩
          have NB289_299 : Aside0 (gb289 ≠ gb299) := ⟨h5_⟩
          have NB299_289 : Aside0 (gb299 ≠ gb289) := ⟨h6_⟩
          replace HB : Aside0 (Below w.heap.size w w10) := ⟨h7_⟩
          clear h0_ h1_ h2_ h3_ h4_ h5_ h6_ h7_
          have hHeld := trivial
          refine norm_ (a' := ?_) ?_ ?_
          rotate_left
          ·simp only [putAll, Act.put, Z0, Z1, Z2]
           rfl
          refine two_ (i := 3) (j := 6) (Ni := some 10) (Nj := some 13) (YA 10 319) (YA 10 375) rfl rfl rfl rfl (two_of HT_.out (by kernel_rfl)) (by decide) (by decide) (fun K hK => ?_) (fun K hK => ?_)
          ·skip
           refine Kd.R_make_step (Kd.int .i64) _ 3 (by rfl) (N := 10) rfl 22 _ _ rfl (l0.length : Int) rfl rfl Try.underlying22 (.int .i64 0) 8 info3 rfl (by decide) (by omega) 0 (ok := fun _ => True) (okp := fun _ => True) rfl (fun _ hk => hk) trivial (Z31 Q5) (Nat.le_trans (Nat.mul_le_mul_right _ (Z31 Q5 : (l0.length : Int).toNat ≤ 35184372088832)) (by omega)) (Below.refl _ _) (Nat.le_refl _) ?_
           intro v294 w11 ho12 hb hg_ hnew_
           clear hg_ hnew_
           (first | rw [← Ny293.out] at ho12 | (simp only [Int.reduceToNat] at ho12; rw [← Ny293.out] at ho12))
           have HO295 := Ya (Kd.R_lower (Kd.R_new' ho12 (Z18 (Yr HO292.out))) (Z7 Q3))
           replace HO292 := Ya (Kd.R_elder' (Yr HO292.out) (Kd.R_base ho12) hb)
           replace BK289 := Yb BK289 hb
           replace BK299 := Yb BK299 hb
           replace HB := Ya (Z8 Q3 hb)
           clear hb ho12
           refine hK.out _ _ trivial (fun hHeld => ?_)
           clear hK K
           refine norm_ (a' := ?_) ?_ ?_
           rotate_left
           ·show Act.put _ (some 10) _ = _
            simp only [Act.put, Z0, Z1, Z2, i64_w, i32_w]
            rfl
           exact norm_ Q8 (hJ1_3_8 (v291, v294, gb299) _ ⟨Q45, Q57, (Yk BK289.out), (Yk BK299.out), GW299.out, GE299.out, NB289_299.out, NB299_289.out, Q3⟩)
          ·skip
           refine goes_ Try.func72 (by kernel_rfl) rfl #[.int .i64 (wrap64 ((l0.length : Int) + 1))] (by rfl) rfl rfl Q1 ?_
           with_reducible refine (impl_identity.calls k (wrap64 ((l0.length : Int) + 1)) t296 _ A5.out).mono ?_
           rintro e w11 ⟨v297, rfl, ho0, hb⟩
           refine ⟨_, rfl, ?_⟩
           have HO298 := Ya (Kd.R_lower (Kd.R_new' ho0 (Z18 (Yr HO292.out))) (Z7 Q3))
           replace HO292 := Ya (Kd.R_elder' (Yr HO292.out) (Kd.R_base ho0) hb)
           replace BK289 := Yb BK289 hb
           replace BK299 := Yb BK299 hb
           replace HB := Ya (Z8 Q3 hb)
           (try clear hb)
           (try clear hb2)
           (try clear hk)
           (try clear hi)
           (try clear ho0)
           refine hK.out _ _ trivial (fun hHeld => ?_)
           clear hK K
           refine norm_ (a' := ?_) ?_ ?_
           rotate_left
           ·show Act.put _ (some 13) _ = _
            simp only [Act.put, Z0, Z1, Z2, i64_w, i32_w]
            rfl
           exact norm_ Q8 (hJ1_6_8 (v291, v297, gb299) _ ⟨Q45, (by (with_reducible repeat (first | apply Z9 | apply Z10 | apply Z11)); exact Z12 HO298.out (fun _ hk => hk.2)), (Yk BK289.out), (Yk BK299.out), GW299.out, GE299.out, NB289_299.out, NB299_289.out, Q3⟩)
        ·skip
         rintro ⟨v291, v297⟩ w10 ⟨h0_, h1_, h2_, h3_⟩
         have HO292 : Aside0 (Kd.R (Kd.int .i64) 3 w10 w.heap.size (fun k_ => some k_ ≠ (v297 : Value).ownBlock) v291 t290) := ⟨h0_⟩
         have HO298 : Aside0 (Kd.R (Kd.int .i64) 3 w10 w.heap.size (fun k_ => some k_ ≠ (v291 : Value).ownBlock) v297 t296) := ⟨h1_⟩
         replace BK289 : Aside0 (w10.heap[gb289]? = some (.cells #[.slice none 0 0, .slice none 0 0, .slice none 0 0, .slice none 0 0] 27 (0, 0))) := ⟨h2_⟩
         replace HB : Aside0 (Below w.heap.size w w10) := ⟨h3_⟩
         clear h0_ h1_ h2_ h3_
         have hHeld := trivial
         refine norm_ (a' := ?_) ?_ ?_
         rotate_left
         ·simp only [putAll, Act.put, Z0, Z1, Z2]
          rfl
         refine two_ (i := 3) (j := 8) (Ni := some 10) (Nj := some 4) (YA 10 127) (YA 10 375) rfl rfl rfl rfl (two_of HT_.out (by kernel_rfl)) (by decide) (by decide) (fun K hK => ?_) (fun K hK => ?_)
         ·skip
          refine Kd.R_make_step (Kd.int .i64) _ 3 (by rfl) (N := 10) rfl 22 _ _ rfl (l0.length : Int) rfl rfl Try.underlying22 (.int .i64 0) 8 info3 rfl (by decide) (by omega) 0 (ok := fun _ => True) (okp := fun _ => True) rfl (fun _ hk => hk) trivial (Z31 Q5) (Nat.le_trans (Nat.mul_le_mul_right _ (Z31 Q5 : (l0.length : Int).toNat ≤ 35184372088832)) (by omega)) (Below.refl _ _) (Nat.le_refl _) ?_
          intro v294 w11 ho12 hb hg_ hnew_
          clear hg_ hnew_
          (first | rw [← Ny293.out] at ho12 | (simp only [Int.reduceToNat] at ho12; rw [← Ny293.out] at ho12))
          have HO295 := Ya (Kd.R_lower (Kd.R_new' (Kd.R_new' ho12 (Z18 (Yr HO292.out))) (Z18 (Yr HO298.out))) (Z7 Q6))
          replace HO292 := Ya (Kd.R_elder' (Yr HO292.out) (Kd.R_base ho12) hb)
          replace HO298 := Ya (Kd.R_elder' (Yr HO298.out) (Kd.R_base ho12) hb)
          replace BK289 := Yb BK289 hb
          replace HB := Ya (Z8 Q6 hb)
          clear hb ho12
          obtain ⟨Ao13, co13, eo13⟩ := Z19 HO298.out
          (first | subst eo13 | (injection eo13 with f1_ f2_ f3_; have f4_ := f1_.symm; have f5_ := f3_.symm; clear f1_ f2_ f3_; subst f4_; subst f5_))
          obtain ⟨Ao14, co14, eo14⟩ := Z19 HO295.out
          (first | subst eo14 | (injection eo14 with f1_ f2_ f3_; have f4_ := f1_.symm; have f5_ := f3_.symm; clear f1_ f2_ f3_; subst f4_; subst f5_))
          obtain ⟨Ao15, co15, eo15⟩ := Z19 HO292.out
          (first | subst eo15 | (injection eo15 with f1_ f2_ f3_; have f4_ := f1_.symm; have f5_ := f3_.symm; clear f1_ f2_ f3_; subst f4_; subst f5_))
          refine hK.out _ _ trivial (fun hHeld => ?_)
          clear hK K
          refine norm_ (a' := ?_) ?_ ?_
          rotate_left
          ·show Act.put _ (some 10) _ = _
           simp only [Act.put, Z0, Z1, Z2, i64_w, i32_w]
           rfl
          refine Yp 7 (some 14) (YA 10 255) rfl HT_.out ?_
          exact norm_ Q8 (hJ1_3_6 (.slice Ao15 t290.length co15, .slice Ao14 y293.length co14, .slice Ao13 t296.length co13) _ ⟨Q90, Q87, (Yr HO298.out), (Yk BK289.out), Q6⟩)
         ·skip
          refine Yy 4 #[.slice none 0 0, .slice none 0 0, .slice none 0 0, .slice none 0 0] 27 ?_
          intro gb299 hg w11 hbox hb
          replace HO292 := Ya (Z14 (Yr HO292.out) hb)
          replace HO298 := Ya (Z14 (Yr HO298.out) hb)
          have BK299 := Ya hbox
          have GW299 := Yg hg Q6
          have GE299 := GW299
          replace HB := Ya (Z8 Q6 hb)
          have NB289_299 := Yn BK289 hg
          have NB299_289 := Ym BK289 hg
          replace BK289 := Yb BK289 hb
          clear hb hbox hg
          refine hK.out _ _ trivial (fun hHeld => ?_)
          clear hK K
          refine norm_ (a' := ?_) ?_ ?_
          rotate_left
          ·show Act.put _ (some 4) _ = _
           simp only [Act.put, Z0, Z1, Z2, i64_w, i32_w]
           rfl
          exact norm_ Q8 (hJ1_6_8 (v291, v297, gb299) _ ⟨(Yr HO292.out), (Yr HO298.out), (Yk BK289.out), (Yk BK299.out), GW299.out, GE299.out, NB289_299.out, NB299_289.out, Q3⟩)
       ·skip
        rintro ⟨v291, v294⟩ w11 ⟨h0_, h1_, h2_, h3_⟩
        have HO292 : Aside0 (Kd.R (Kd.int .i64) 3 w11 w.heap.size (fun k_ => some k_ ≠ (v294 : Value).ownBlock) v291 t290) := ⟨h0_⟩
        have HO295 : Aside0 (Kd.R (Kd.int .i64) 3 w11 w.heap.size (fun k_ => some k_ ≠ (v291 : Value).ownBlock) v294 y293) := ⟨h1_⟩
        replace BK289 : Aside0 (w11.heap[gb289]? = some (.cells #[.slice none 0 0, .slice none 0 0, .slice none 0 0, .slice none 0 0] 27 (0, 0))) := ⟨h2_⟩
        replace HB : Aside0 (Below w.heap.size w w11) := ⟨h3_⟩
        clear h0_ h1_ h2_ h3_
        have hHeld := trivial
        refine norm_ (a' := ?_) ?_ ?_
        rotate_left
        ·simp only [putAll, Act.put, Z0, Z1, Z2]
         rfl
        refine two_ (i := 6) (j := 8) (Ni := some 13) (Nj := some 4) (YA 10 127) (YA 10 319) rfl rfl rfl rfl (two_of HT_.out (by kernel_rfl)) (by decide) (by decide) (fun K hK => ?_) (fun K hK => ?_)
        ·skip
         refine goes_ Try.func72 (by kernel_rfl) rfl #[.int .i64 (wrap64 ((l0.length : Int) + 1))] (by rfl) rfl rfl Q1 ?_
         with_reducible refine (impl_identity.calls k (wrap64 ((l0.length : Int) + 1)) t296 _ A5.out).mono ?_
         rintro e w12 ⟨v297, rfl, ho0, hb⟩
         refine ⟨_, rfl, ?_⟩
         have HO298 := Ya (Kd.R_lower (Kd.R_new' (Kd.R_new' ho0 (Z18 (Yr HO292.out))) (Z18 (Yr HO295.out))) (Z7 Q6))
         replace HO292 := Ya (Kd.R_elder' (Yr HO292.out) (Kd.R_base ho0) hb)
         replace HO295 := Ya (Kd.R_elder' (Yr HO295.out) (Kd.R_base ho0) hb)
         replace BK289 := Yb BK289 hb
         replace HB := Ya (Z8 Q6 hb)
         (try clear hb)
         (try clear hb2)
         (try clear hk)
         (try clear hi)
         (try clear ho0)
         obtain ⟨Ao13, co13, eo13⟩ := Z19 HO298.out
         (first | subst eo13 | (injection eo13 with f1_ f2_ f3_; have f4_ := f1_.symm; have f5_ := f3_.symm; clear f1_ f2_ f3_; subst f4_; subst f5_))
         obtain ⟨Ao14, co14, eo14⟩ := Z19 HO295.out
         (first | subst eo14 | (injection eo14 with f1_ f2_ f3_; have f4_ := f1_.symm; have f5_ := f3_.symm; clear f1_ f2_ f3_; subst f4_; subst f5_))
         obtain ⟨Ao15, co15, eo15⟩ := Z19 HO292.out
         (first | subst eo15 | (injection eo15 with f1_ f2_ f3_; have f4_ := f1_.symm; have f5_ := f3_.symm; clear f1_ f2_ f3_; subst f4_; subst f5_))
         refine hK.out _ _ trivial (fun hHeld => ?_)
         clear hK K
         refine norm_ (a' := ?_) ?_ ?_
         rotate_left
         ·show Act.put _ (some 13) _ = _
          simp only [Act.put, Z0, Z1, Z2, i64_w, i32_w]
          rfl
         refine Yp 7 (some 14) (YA 10 255) rfl HT_.out ?_
         exact norm_ Q8 (hJ1_3_6 (.slice Ao15 t290.length co15, .slice Ao14 y293.length co14, .slice Ao13 t296.length co13) _ ⟨(Yr HO292.out), (Yr HO295.out), Q86, (Yk BK289.out), Q6⟩)
        ·skip
         refine Yy 4 #[.slice none 0 0, .slice none 0 0, .slice none 0 0, .slice none 0 0] 27 ?_
         intro gb299 hg w12 hbox hb
         replace HO292 := Ya (Z14 (Yr HO292.out) hb)
         replace HO295 := Ya (Z14 (Yr HO295.out) hb)
         have BK299 := Ya hbox
         have GW299 := Yg hg Q6
         have GE299 := GW299
         replace HB := Ya (Z8 Q6 hb)
         have NB289_299 := Yn BK289 hg
         have NB299_289 := Ym BK289 hg
         replace BK289 := Yb BK289 hb
         clear hb hbox hg
         refine hK.out _ _ trivial (fun hHeld => ?_)
         clear hK K
         refine norm_ (a' := ?_) ?_ ?_
         rotate_left
         ·show Act.put _ (some 4) _ = _
          simp only [Act.put, Z0, Z1, Z2, i64_w, i32_w]
          rfl
         exact norm_ Q8 (hJ1_3_8 (v291, v294, gb299) _ ⟨(Yr HO292.out), (Yr HO295.out), (Yk BK289.out), (Yk BK299.out), GW299.out, GE299.out, NB289_299.out, NB299_289.out, Q3⟩)
      ·skip
       rintro ⟨v291, v297, gb299⟩ w11 ⟨h0_, h1_, h2_, h3_, h4_, h5_, h6_, h7_, h8_⟩
       have HO292 : Aside0 (Kd.R (Kd.int .i64) 3 w11 w.heap.size (fun k_ => some k_ ≠ (v297 : Value).ownBlock) v291 t290) := ⟨h0_⟩
       have HO298 : Aside0 (Kd.R (Kd.int .i64) 3 w11 w.heap.size (fun k_ => some k_ ≠ (v291 : Value).ownBlock) v297 t296) := ⟨h1_⟩
       replace BK289 : Aside0 (w11.heap[gb289]? = some (.cells #[.slice none 0 0, .slice none 0 0, .slice none 0 0, .slice none 0 0] 27 (0, 0))) := ⟨h2_⟩
       have BK299 : Aside0 (w11.heap[gb299]? = some (.cells #[.slice none 0 0, .slice none 0 0, .slice none 0 0, .slice none 0 0] 27 (0, 0))) := ⟨h3_⟩
       have GW299 : Aside0 (w.heap.size ≤ gb299) := ⟨h4_⟩
       have GE299 : Aside0 (w.heap.size ≤ gb299) := ⟨h5_⟩
       have NB289_299 : Aside0 (gb289 ≠ gb299) := ⟨h6_⟩
       have NB299_289 : Aside0 (gb299 ≠ gb289) := ⟨h7_⟩
       replace HB : Aside0 (Below w.heap.size w w11) := ⟨h8_⟩
       clear h0_ h1_ h2_ h3_ h4_ h5_ h6_ h7_ h8_
       have hHeld := trivial
       refine norm_ (a' := ?_) ?_ ?_
       rotate_left
       ·simp only [putAll, Act.put, Z0, Z1, Z2]
        rfl
       refine one_ (i := 3) (N := some 10) (YA 10 383) rfl rfl (one_of HT_.out (by kernel_rfl)) (by decide) (fun K hK => ?_)
       refine Kd.R_make_step (Kd.int .i64) _ 3 (by rfl) (N := 10) rfl 22 _ _ rfl (l0.length : Int) rfl rfl Try.underlying22 (.int .i64 0) 8 info3 rfl (by decide) (by omega) 0 (ok := fun _ => True) (okp := fun _ => True) rfl (fun _ hk => hk) trivial (Z31 Q5) (Nat.le_trans (Nat.mul_le_mul_right _ (Z31 Q5 : (l0.length : Int).toNat ≤ 35184372088832)) (by omega)) (Below.refl _ _) (Nat.le_refl _) ?_
       intro v294 w12 ho13 hb hg_ hnew_
       clear hg_ hnew_
       (first | rw [← Ny293.out] at ho13 | (simp only [Int.reduceToNat] at ho13; rw [← Ny293.out] at ho13))
       have HO295 := Ya (Kd.R_lower (Kd.R_new' (Kd.R_new' ho13 (Z18 (Yr HO292.out))) (Z18 (Yr HO298.out))) (Z7 Q3))
       replace HO292 := Ya (Kd.R_elder' (Yr HO292.out) (Kd.R_base ho13) hb)
       replace HO298 := Ya (Kd.R_elder' (Yr HO298.out) (Kd.R_base ho13) hb)
       replace BK289 := Yb BK289 hb
       replace BK299 := Yb BK299 hb
       replace HB := Ya (Z8 Q3 hb)
       clear hb ho13
       obtain ⟨Ao14, co14, eo14⟩ := Z19 HO298.out
       (first | subst eo14 | (injection eo14 with f1_ f2_ f3_; have f4_ := f1_.symm; have f5_ := f3_.symm; clear f1_ f2_ f3_; subst f4_; subst f5_))
       obtain ⟨Ao15, co15, eo15⟩ := Z19 HO295.out
       (first | subst eo15 | (injection eo15 with f1_ f2_ f3_; have f4_ := f1_.symm; have f5_ := f3_.symm; clear f1_ f2_ f3_; subst f4_; subst f5_))
       obtain ⟨Ao16, co16, eo16⟩ := Z19 HO292.out
       (first | subst eo16 | (injection eo16 with f1_ f2_ f3_; have f4_ := f1_.symm; have f5_ := f3_.symm; clear f1_ f2_ f3_; subst f4_; subst f5_))
       refine hK.out _ _ trivial (fun hHeld => ?_)
       clear hK K
       refine norm_ (a' := ?_) ?_ ?_
       rotate_left
       ·show Act.put _ (some 10) _ = _
        simp only [Act.put, Z0, Z1, Z2, i64_w, i32_w]
        rfl
       refine Yp 7 (some 14) (YA 10 511) rfl HT_.out ?_
       exact norm_ Q8 (hJ1_3_6_8 (.slice Ao16 t290.length co16, .slice Ao15 y293.length co15, .slice Ao14 t296.length co14, gb299) _ ⟨Q90, Q87, (Yr HO298.out), (Yk BK289.out), (Yk BK299.out), GW299.out, GE299.out, NB289_299.out, NB299_289.out, Q3⟩)
     ·skip
      rintro ⟨v291, v294, gb299⟩ w12 ⟨h0_, h1_, h2_, h3_, h4_, h5_, h6_, h7_, h8_⟩
      have HO292 : Aside0 (Kd.R (Kd.int .i64) 3 w12 w.heap.size (fun k_ => some k_ ≠ (v294 : Value).ownBlock) v291 t290) := ⟨h0_⟩
      have HO295 : Aside0 (Kd.R (Kd.int .i64) 3 w12 w.heap.size (fun k_ => some k_ ≠ (v291 : Value).ownBlock) v294 y293) := ⟨h1_⟩
      replace BK289 : Aside0 (w12.heap[gb289]? = some (.cells #[.slice none 0 0, .slice none 0 0, .slice none 0 0, .slice none 0 0] 27 (0, 0))) := ⟨h2_⟩
      have BK299 : Aside0 (w12.heap[gb299]? = some (.cells #[.slice none 0 0, .slice none 0 0, .slice none 0 0, .slice none 0 0] 27 (0, 0))) := ⟨h3_⟩
      have GW299 : Aside0 (w.heap.size ≤ gb299) := ⟨h4_⟩
      have GE299 : Aside0 (w.heap.size ≤ gb299) := ⟨h5_⟩
      have NB289_299 : Aside0 (gb289 ≠ gb299) := ⟨h6_⟩
      have NB299_289 : Aside0 (gb299 ≠ gb289) := ⟨h7_⟩
      replace HB : Aside0 (Below w.heap.size w w12) := ⟨h8_⟩
      clear h0_ h1_ h2_ h3_ h4_ h5_ h6_ h7_ h8_
      have hHeld := trivial
      refine norm_ (a' := ?_) ?_ ?_
      rotate_left
      ·simp only [putAll, Act.put, Z0, Z1, Z2]
       rfl
      refine one_ (i := 6) (N := some 13) (YA 10 383) rfl rfl (one_of HT_.out (by kernel_rfl)) (by decide) (fun K hK => ?_)
      refine goes_ Try.func72 (by kernel_rfl) rfl #[.int .i64 (wrap64 ((l0.length : Int) + 1))] (by rfl) rfl rfl Q1 ?_
      with_reducible refine (impl_identity.calls k (wrap64 ((l0.length : Int) + 1)) t296 _ A5.out).mono ?_
      rintro e w13 ⟨v297, rfl, ho0, hb⟩
      refine ⟨_, rfl, ?_⟩
      have HO298 := Ya (Kd.R_lower (Kd.R_new' (Kd.R_new' ho0 (Z18 (Yr HO292.out))) (Z18 (Yr HO295.out))) (Z7 Q3))
      replace HO292 := Ya (Kd.R_elder' (Yr HO292.out) (Kd.R_base ho0) hb)
      replace HO295 := Ya (Kd.R_elder' (Yr HO295.out) (Kd.R_base ho0) hb)
      replace BK289 := Yb BK289 hb
      replace BK299 := Yb BK299 hb
      replace HB := Ya (Z8 Q3 hb)
      (try clear hb)
      (try clear hb2)
      (try clear hk)
      (try clear hi)
      (try clear ho0)
      obtain ⟨Ao14, co14, eo14⟩ := Z19 HO298.out
      (first | subst eo14 | (injection eo14 with f1_ f2_ f3_; have f4_ := f1_.symm; have f5_ := f3_.symm; clear f1_ f2_ f3_; subst f4_; subst f5_))
      obtain ⟨Ao15, co15, eo15⟩ := Z19 HO295.out
      (first | subst eo15 | (injection eo15 with f1_ f2_ f3_; have f4_ := f1_.symm; have f5_ := f3_.symm; clear f1_ f2_ f3_; subst f4_; subst f5_))
      obtain ⟨Ao16, co16, eo16⟩ := Z19 HO292.out
      (first | subst eo16 | (injection eo16 with f1_ f2_ f3_; have f4_ := f1_.symm; have f5_ := f3_.symm; clear f1_ f2_ f3_; subst f4_; subst f5_))
      refine hK.out _ _ trivial (fun hHeld => ?_)
      clear hK K
      refine norm_ (a' := ?_) ?_ ?_
      rotate_left
      ·show Act.put _ (some 13) _ = _
       simp only [Act.put, Z0, Z1, Z2, i64_w, i32_w]
       rfl
      refine Yp 7 (some 14) (YA 10 511) rfl HT_.out ?_
      exact norm_ Q8 (hJ1_3_6_8 (.slice Ao16 t290.length co16, .slice Ao15 y293.length co15, .slice Ao14 t296.length co14, gb299) _ ⟨(Yr HO292.out), (Yr HO295.out), Q86, (Yk BK289.out), (Yk BK299.out), GW299.out, GE299.out, NB289_299.out, NB299_289.out, Q3⟩)
    ·skip
     rintro ⟨v291, v294, v297⟩ w15 ⟨h0_, h1_, h2_, h3_, h4_⟩
     have HO292 : Aside0 (Kd.R (Kd.int .i64) 3 w15 w.heap.size (fun k_ => some k_ ≠ (v294 : Value).ownBlock ∧ some k_ ≠ (v297 : Value).ownBlock) v291 t290) := ⟨h0_⟩
     have HO295 : Aside0 (Kd.R (Kd.int .i64) 3 w15 w.heap.size (fun k_ => some k_ ≠ (v291 : Value).ownBlock ∧ some k_ ≠ (v297 : Value).ownBlock) v294 y293) := ⟨h1_⟩
     have HO298 : Aside0 (Kd.R (Kd.int .i64) 3 w15 w.heap.size (fun k_ => some k_ ≠ (v291 : Value).ownBlock ∧ some k_ ≠ (v294 : Value).ownBlock) v297 t296) := ⟨h2_⟩
     replace BK289 : Aside0 (w15.heap[gb289]? = some (.cells #[.slice none 0 0, .slice none 0 0, .slice none 0 0, .slice none 0 0] 27 (0, 0))) := ⟨h3_⟩
     replace HB : Aside0 (Below w.heap.size w w15) := ⟨h4_⟩
     clear h0_ h1_ h2_ h3_ h4_
     have hHeld := trivial
     obtain ⟨Ao16, co16, eo16⟩ := Z19 HO298.out
     (first | subst eo16 | (injection eo16 with f1_ f2_ f3_; have f4_ := f1_.symm; have f5_ := f3_.symm; clear f1_ f2_ f3_; subst f4_; subst f5_))
     obtain ⟨Ao17, co17, eo17⟩ := Z19 HO295.out
     (first | subst eo17 | (injection eo17 with f1_ f2_ f3_; have f4_ := f1_.symm; have f5_ := f3_.symm; clear f1_ f2_ f3_; subst f4_; subst f5_))
     obtain ⟨Ao18, co18, eo18⟩ := Z19 HO292.out
     (first | subst eo18 | (injection eo18 with f1_ f2_ f3_; have f4_ := f1_.symm; have f5_ := f3_.symm; clear f1_ f2_ f3_; subst f4_; subst f5_))
     refine norm_ (a' := ?_) ?_ ?_
     rotate_left
     ·simp only [putAll, Act.put, Z0, Z1, Z2]
      rfl
     refine one_ (i := 8) (N := some 4) (YA 10 511) rfl rfl (one_of HT_.out (by kernel_rfl)) (by decide) (fun K hK => ?_)
     refine Yy 4 #[.slice none 0 0, .slice none 0 0, .slice none 0 0, .slice none 0 0] 27 ?_
     intro gb299 hg w19 hbox hb
     replace HO292 := Ya (Z14 (Yr HO292.out) hb)
     replace HO295 := Ya (Z14 (Yr HO295.out) hb)
     replace HO298 := Ya (Z14 (Yr HO298.out) hb)
     have BK299 := Ya hbox
     have GW299 := Yg hg Q6
     have GE299 := GW299
     replace HB := Ya (Z8 Q6 hb)
     have NB289_299 := Yn BK289 hg
     have NB299_289 := Ym BK289 hg
     replace BK289 := Yb BK289 hb
     clear hb hbox hg
     refine hK.out _ _ trivial (fun hHeld => ?_)
     clear hK K
     refine norm_ (a' := ?_) ?_ ?_
     rotate_left
     ·show Act.put _ (some 4) _ = _
      simp only [Act.put, Z0, Z1, Z2, i64_w, i32_w]
      rfl
     exact norm_ Q8 (hJ1_3_6_8 (.slice Ao18 t290.length co18, .slice Ao17 y293.length co17, .slice Ao16 t296.length co16, gb299) _ ⟨(Yr HO292.out), (Yr HO295.out), (Yr HO298.out), (Yk BK289.out), (Yk BK299.out), GW299.out, GE299.out, NB289_299.out, NB299_289.out, Q3⟩)
   rintro ⟨v291, v294, v297, gb299⟩ w16 ⟨h0_, h1_, h2_, h3_, h4_, h5_, h6_, h7_, h8_, h9_⟩
   have HO292 : Aside0 (Kd.R (Kd.int .i64) 3 w16 w.heap.size (fun k_ => some k_ ≠ (v294 : Value).ownBlock ∧ some k_ ≠ (v297 : Value).ownBlock) v291 t290) := ⟨h0_⟩
   have HO295 : Aside0 (Kd.R (Kd.int .i64) 3 w16 w.heap.size (fun k_ => some k_ ≠ (v291 : Value).ownBlock ∧ some k_ ≠ (v297 : Value).ownBlock) v294 y293) := ⟨h1_⟩
   have HO298 : Aside0 (Kd.R (Kd.int .i64) 3 w16 w.heap.size (fun k_ => some k_ ≠ (v291 : Value).ownBlock ∧ some k_ ≠ (v294 : Value).ownBlock) v297 t296) := ⟨h2_⟩
   replace BK289 : Aside0 (w16.heap[gb289]? = some (.cells #[.slice none 0 0, .slice none 0 0, .slice none 0 0, .slice none 0 0] 27 (0, 0))) := ⟨h3_⟩
   have BK299 : Aside0 (w16.heap[gb299]? = some (.cells #[.slice none 0 0, .slice none 0 0, .slice none 0 0, .slice none 0 0] 27 (0, 0))) := ⟨h4_⟩
   have GW299 : Aside0 (w.heap.size ≤ gb299) := ⟨h5_⟩
   have GE299 : Aside0 (w.heap.size ≤ gb299) := ⟨h6_⟩
   have NB289_299 : Aside0 (gb289 ≠ gb299) := ⟨h7_⟩
   have NB299_289 : Aside0 (gb299 ≠ gb289) := ⟨h8_⟩
   replace HB : Aside0 (Below w.heap.size w w16) := ⟨h9_⟩
   clear h0_ h1_ h2_ h3_ h4_ h5_ h6_ h7_ h8_ h9_
   have hHeld := trivial
   obtain ⟨Ao17, co17, eo17⟩ := Z19 HO298.out
   (first | subst eo17 | (injection eo17 with f1_ f2_ f3_; have f4_ := f1_.symm; have f5_ := f3_.symm; clear f1_ f2_ f3_; subst f4_; subst f5_))
   obtain ⟨Ao18, co18, eo18⟩ := Z19 HO295.out
   (first | subst eo18 | (injection eo18 with f1_ f2_ f3_; have f4_ := f1_.symm; have f5_ := f3_.symm; clear f1_ f2_ f3_; subst f4_; subst f5_))
   obtain ⟨Ao19, co19, eo19⟩ := Z19 HO292.out
   (first | subst eo19 | (injection eo19 with f1_ f2_ f3_; have f4_ := f1_.symm; have f5_ := f3_.symm; clear f1_ f2_ f3_; subst f4_; subst f5_))
   refine norm_ (a' := ?_) ?_ ?_
   rotate_left
   ·simp only [putAll, Act.put, Z0, Z1, Z2]
    rfl
   refine one_ (i := 9) (N := none) (YA 10 1023) rfl rfl (one_of HT_.out (by kernel_rfl)) (by decide) (fun K hK => ?_)
   have hs20 : w16.cell? ⟨gb299, 0, none⟩ = some (.slice none 0 0) := (Z24 BK299.out 0).trans rfl
   have hfs20 := Z25 BK299.out 0
   have hns20_0 := NB289_299.out
   have hms20_0 := NB299_289.out
   have hs21 : w16.cell? ⟨gb299, 1, none⟩ = some (.slice none 0 0) := (Z24 BK299.out 1).trans rfl
   have hfs21 := Z25 BK299.out 1
   have hns21_0 := NB289_299.out
   have hms21_0 := NB299_289.out
   have hs22 : w16.cell? ⟨gb299, 2, none⟩ = some (.slice none 0 0) := (Z24 BK299.out 2).trans rfl
   have hfs22 := Z25 BK299.out 2
   have hns22_0 := NB289_299.out
   have hms22_0 := NB299_289.out
   have hs23 : w16.cell? ⟨gb299, 3, none⟩ = some (.slice none 0 0) := (Z24 BK299.out 3).trans rfl
   have hfs23 := Z25 BK299.out 3
   have hns23_0 := NB289_299.out
   have hms23_0 := NB299_289.out
   refine skip_ (w1 := ?_) (by rfl) rfl ?_ ?_
   rotate_left
   ·go_simp
    rfl
   refine hK.out _ _ trivial (fun hHeld => ?_)
   clear hK K
   refine done_ (done_of HT_.out (by kernel_rfl)) ?_
   try go_wp2
   go_loopg [16] k (fun kq v16 w' => ∃ (x16_1 : Int) (x300002_1 : List Bool) (u300002 : Value), v16 = .int .i64 x16_1 ∧ Aside0 (impl_startFocus.l0 kq (l0.length : Int) x16_1 t290 y293 x300002_1 t296 = some (r1, r2, r3, r4)) ∧ Aside0 (kq ≤ k) ∧ Aside0 (Kd.R (Kd.int .i64) 3 w' w.heap.size (fun k_ => some k_ ≠ ((.slice Ao18 y293.length co18) : Value).ownBlock ∧ some k_ ≠ ((.slice Ao17 t296.length co17) : Value).ownBlock) (.slice Ao19 t290.length co19) t290) ∧ Aside0 (Kd.R (Kd.int .i64) 3 w' w.heap.size (fun k_ => some k_ ≠ ((.slice Ao19 t290.length co19) : Value).ownBlock ∧ some k_ ≠ ((.slice Ao17 t296.length co17) : Value).ownBlock) (.slice Ao18 y293.length co18) y293) ∧ Aside0 (Kd.R Kd.bool 4 w' w.heap.size (fun _ => True) u300002 x300002_1) ∧ Aside0 (Kd.R (Kd.int .i64) 3 w' w.heap.size (fun k_ => some k_ ≠ ((.slice Ao19 t290.length co19) : Value).ownBlock ∧ some k_ ≠ ((.slice Ao18 y293.length co18) : Value).ownBlock) (.slice Ao17 t296.length co17) t296) ∧ Aside0 (w'.heap[gb289]? = some (.cells #[(.slice none 0 0), (.slice none 0 0), (.slice none 0 0), (.slice none 0 0)] 27 (0, 0))) ∧ Aside0 (w'.heap[gb299]? = some (.cells #[(.slice Ao19 t290.length co19), (.slice Ao18 y293.length co18), u300002, (.slice Ao17 t296.length co17)] 27 (0, 0))) ∧ Aside0 (Below w.heap.size w w'))
   case atStart => exact ⟨(0), (([] : List Bool)), (.slice none 0 0), Q15, H', ⟨Nat.le_refl _⟩, ⟨by (with_reducible repeat (first | apply Z9 | apply Z10 | apply Z11)); exact Z12 (Z13 (p := ⟨gb299, 3, none⟩) (Z13 (p := ⟨gb299, 2, none⟩) (Z13 (p := ⟨gb299, 1, none⟩) (Z13 (p := ⟨gb299, 0, none⟩) (Z15 HO292.out BK299.out (by decide)) (fun _ hk => hk.2) (.slice Ao19 t290.length co19)) (fun _ hk => hk.2) (.slice Ao18 y293.length co18)) (fun _ hk => hk.2) (.slice none 0 0)) (fun _ hk => hk.2) (.slice Ao17 t296.length co17)) (fun _ hk => ⟨hk.1.1, hk.1.2⟩)⟩, ⟨by (with_reducible repeat (first | apply Z9 | apply Z10 | apply Z11)); exact Z12 (Z13 (p := ⟨gb299, 3, none⟩) (Z13 (p := ⟨gb299, 2, none⟩) (Z13 (p := ⟨gb299, 1, none⟩) (Z13 (p := ⟨gb299, 0, none⟩) (Z15 HO295.out BK299.out (by decide)) (fun _ hk => hk.2) (.slice Ao19 t290.length co19)) (fun _ hk => hk.2) (.slice Ao18 y293.length co18)) (fun _ hk => hk.2) (.slice none 0 0)) (fun _ hk => hk.2) (.slice Ao17 t296.length co17)) (fun _ hk => ⟨hk.1.1, hk.1.2⟩)⟩, ⟨Q2⟩, ⟨by (with_reducible repeat (first | apply Z9 | apply Z10 | apply Z11)); exact Z12 (Z13 (p := ⟨gb299, 3, none⟩) (Z13 (p := ⟨gb299, 2, none⟩) (Z13 (p := ⟨gb299, 1, none⟩) (Z13 (p := ⟨gb299, 0, none⟩) (Z15 HO298.out BK299.out (by decide)) (fun _ hk => hk.2) (.slice Ao19 t290.length co19)) (fun _ hk => hk.2) (.slice Ao18 y293.length co18)) (fun _ hk => hk.2) (.slice none 0 0)) (fun _ hk => hk.2) (.slice Ao17 t296.length co17)) (fun _ hk => ⟨hk.1.1, hk.1.2⟩)⟩, ⟨by (with_reducible repeat (first | refine Z26 ?_ _ | refine Z27 ?_ | refine Z28 ?_ _)); refine blk_far ?_ NB289_299.out _; (with_reducible repeat (first | refine Z26 ?_ _ | refine Z27 ?_ | refine Z28 ?_ _)); refine blk_far ?_ NB289_299.out _; (with_reducible repeat (first | refine Z26 ?_ _ | refine Z27 ?_ | refine Z28 ?_ _)); refine blk_far ?_ NB289_299.out _; (with_reducible repeat (first | refine Z26 ?_ _ | refine Z27 ?_ | refine Z28 ?_ _)); refine blk_far ?_ NB289_299.out _; (with_reducible repeat (first | refine Z26 ?_ _ | refine Z27 ?_ | refine Z28 ?_ _)); exact BK289.out⟩, ⟨by (with_reducible repeat (first | refine Z26 ?_ _ | refine Z27 ?_ | refine Z28 ?_ _)); refine Z30 (cs := #[.slice Ao19 t290.length co19, .slice Ao18 y293.length co18, .slice none 0 0, .slice none 0 0]) ?_ 3 _ rfl; (with_reducible repeat (first | refine Z26 ?_ _ | refine Z27 ?_ | refine Z28 ?_ _)); refine Z30 (cs := #[.slice Ao19 t290.length co19, .slice Ao18 y293.length co18, .slice none 0 0, .slice none 0 0]) ?_ 2 _ rfl; (with_reducible repeat (first | refine Z26 ?_ _ | refine Z27 ?_ | refine Z28 ?_ _)); refine Z30 (cs := #[.slice Ao19 t290.length co19, .slice none 0 0, .slice none 0 0, .slice none 0 0]) ?_ 1 _ rfl; (with_reducible repeat (first | refine Z26 ?_ _ | refine Z27 ?_ | refine Z28 ?_ _)); refine Z30 (cs := #[.slice none 0 0, .slice none 0 0, .slice none 0 0, .slice none 0 0]) ?_ 0 _ rfl; (with_reducible repeat (first | refine Z26 ?_ _ | refine Z27 ?_ | refine Z28 ?_ _)); exact BK299.out⟩, ⟨Q59⟩⟩
   case round =>
    clear H'
    try clear p2
    try clear p6
    try clear c7
    obtain ⟨x16_1, x300002_1, u300002, rfl, HA, HK1, HO_300000, HO_300001, HO_300002, HO_300003, BK289, BK299, HB⟩ := hrel
    cases gk with
    | zero => exact absurd HA.out (by simp [impl_startFocus.l0])
    | succ k1 =>
     have H := HA.out
     clear HA
     simp only [impl_startFocus.l0] at H
     by_cases c24 : x16_1 < (l0.length : Int)
     ·rw [if_pos c24] at H
      have c24b0 : decide (x16_1 < (l0.length : Int)) = true := Z39 c24
      clear c24
      by_cases c25 : x300002_1.length < 140737488355328
      ·rw [if_pos c25] at H
       have LMc25 := Ya c25
       clear c25
       obtain ⟨y300, hy300⟩ : ∃ y_ : List Bool, y_ = (x300002_1 ++ [true]) := ⟨_, rfl⟩
       replace H : (impl_startFocus.l0 k1 (l0.length : Int) (wrap64 (x16_1 + 1)) t290 y293 y300 t296) = some (r1, r2, r3, r4) := by first | (rw [hy300]; with_reducible exact H) | (have H2_ := (Option.bind_some _ _).symm.trans H; rw [hy300]; with_reducible exact H2_) | (have H2_ := (Option.bind_some _ _).symm.trans H; with_reducible exact H2_) | with_reducible exact H | (rw [hy300]; exact H) | exact H
       have Ny300 := Ya hy300
       clear hy300
       have H' := Ya H
       clear H
       have hnb26 := NB299_289.out
       have hnc26 := NB289_299.out
       obtain ⟨hcz27_0, hcz27_1, hcz27_2, hcz27_3, hfz27_0, hfz27_1, hfz27_2, hfz27_3⟩ := Y4 BK299.out
       go_wp2_with (first | ((with_reducible refine gate_builtin (b := .append) (xs := #[.tmp 19, .tmp 20]) rfl ?_); at_builtin; refine Kd.R_append Kd.bool (w0 := w) w.heap.size rfl (.tmp 19) (.tmp 20) 23 4 (.bool false) 1 rfl Try.underlying23 info4 rfl (by decide) (by omega) u300002 x300002_1 true [.bool true] (fun _ => True) (fun _ => False) rfl rfl ?aP (fun _ hk => hk.elim) ?aF ?aO ?aB ?aS ?aL ?_; (case aP => exact rfl); (case aB => exact Q3); (case aF => exact (fun _ _ => trivial)); (case aO => exact (Yr HO_300002.out)); (case aS => exact (Z7 Q3)); (case aL => have := LMc25.out; omega); intro v301 w28 ho hb hg hat; rw [← Ny300.out] at ho; replace HO_300000 := Ya (Kd.R_over' (Yr HO_300000.out) (Kd.R_typed (Yr HO_300002.out)) (by decide) hg); replace HO_300001 := Ya (Kd.R_over' (Yr HO_300001.out) (Kd.R_typed (Yr HO_300002.out)) (by decide) hg); replace HO_300003 := Ya (Kd.R_over' (Yr HO_300003.out) (Kd.R_typed (Yr HO_300002.out)) (by decide) hg); replace BK289 := Ya (blk_grown (g := gb289) (o := .cells #[.slice none 0 0, .slice none 0 0, .slice none 0 0, .slice none 0 0] 27 (0, 0)) (Yk BK289.out) hg (Kd.R_ne HO_300002.out BK289.out (by decide))); replace BK299 := Ya (blk_grown (g := gb299) (o := .cells #[.slice Ao19 t290.length co19, .slice Ao18 y293.length co18, u300002, .slice Ao17 t296.length co17] 27 (0, 0)) (Yk BK299.out) hg (Kd.R_ne HO_300002.out BK299.out (by decide))); replace HB := Ya hb; have HO302 := Ya ho; clear HO_300002; clear ho hb hg hat; obtain ⟨Ao29, co29, eo29⟩ := Z19 HO302.out; subst eo29; obtain ⟨hcz30_0, hcz30_1, hcz30_2, hcz30_3, hfz30_0, hfz30_1, hfz30_2, hfz30_3⟩ := Y4 BK299.out))
       go_roundg k1
       case measure => have := HK1.out; omega
       case rel => exact ⟨(wrap64 (x16_1 + 1)), (y300), (.slice Ao29 y300.length co29), Q15, H', ⟨Q55⟩, ⟨by (with_reducible repeat (first | apply Z9 | apply Z10 | apply Z11)); exact Z12 (Z13 (p := ⟨gb299, 2, none⟩) (Z15 HO_300000.out BK299.out (by decide)) (fun _ hk => hk.2) (.slice Ao29 y300.length co29)) (fun _ hk => ⟨hk.1.1, hk.1.2⟩)⟩, ⟨by (with_reducible repeat (first | apply Z9 | apply Z10 | apply Z11)); exact Z12 (Z13 (p := ⟨gb299, 2, none⟩) (Z15 HO_300001.out BK299.out (by decide)) (fun _ hk => hk.2) (.slice Ao29 y300.length co29)) (fun _ hk => ⟨hk.1.1, hk.1.2⟩)⟩, ⟨by (with_reducible repeat (first | apply Z9 | apply Z10 | apply Z11)); exact Z12 (Z13 (p := ⟨gb299, 2, none⟩) (Z15 HO302.out BK299.out (by decide)) (fun _ hk => hk.2) (.slice Ao29 y300.length co29)) (fun _ hk => trivial)⟩, ⟨by (with_reducible repeat (first | apply Z9 | apply Z10 | apply Z11)); exact Z12 (Z13 (p := ⟨gb299, 2, none⟩) (Z15 HO_300003.out BK299.out (by decide)) (fun _ hk => hk.2) (.slice Ao29 y300.length co29)) (fun _ hk => ⟨hk.1.1, hk.1.2⟩)⟩, ⟨by (with_reducible repeat (first | refine Z26 ?_ _ | refine Z27 ?_ | refine Z28 ?_ _)); refine blk_far ?_ NB289_299.out _; (with_reducible repeat (first | refine Z26 ?_ _ | refine Z27 ?_ | refine Z28 ?_ _)); exact BK289.out⟩, ⟨by (with_reducible repeat (first | refine Z26 ?_ _ | refine Z27 ?_ | refine Z28 ?_ _)); refine Z30 (cs := #[.slice Ao19 t290.length co19, .slice Ao18 y293.length co18, u300002, .slice Ao17 t296.length co17]) ?_ 2 _ rfl; (with_reducible repeat (first | refine Z26 ?_ _ | refine Z27 ?_ | refine Z28 ?_ _)); exact BK299.out⟩, ⟨Q59⟩⟩
      ·rw [if_neg c25] at H
       exact absurd H (by simp)
     ·rw [if_neg c24] at H
      have c24b0 : decide (x16_1 < (l0.length : Int)) = false := Z38 c24
      clear c24
      simp only [Option.some.injEq, Prod.mk.injEq] at H
      obtain ⟨rfl, rfl, rfl, rfl⟩ := H
      have hnb31 := NB299_289.out
      have hnc31 := NB289_299.out
      obtain ⟨hcz32_0, hcz32_1, hcz32_2, hcz32_3, hfz32_0, hfz32_1, hfz32_2, hfz32_3⟩ := Y4 BK299.out
      obtain ⟨hcz33_0, hcz33_1, hcz33_2, hcz33_3, hfz33_0, hfz33_1, hfz33_2, hfz33_3⟩ := Y4 BK289.out
      obtain ⟨Ao34, co34, eo34⟩ := Z19 HO_300002.out
      subst eo34
      go_wp2
      refine bodyPost_ret (results_cell_row rfl _ _ gb289 27 #[.slice Ao19 t290.length co19, .slice Ao18 y293.length co18, .slice Ao34 x300002_1.length co34, .slice Ao17 t296.length co17] (0, 0) _ rfl (by (with_reducible repeat (first | refine Z26 ?_ _ | refine Z27 ?_ | refine Z28 ?_ _)); refine Z30 (cs := #[.slice Ao19 t290.length co19, .slice Ao18 y293.length co18, .slice Ao34 x300002_1.length co34, .slice none 0 0]) ?_ 3 _ rfl; (with_reducible repeat (first | refine Z26 ?_ _ | refine Z27 ?_ | refine Z28 ?_ _)); refine Z30 (cs := #[.slice Ao19 t290.length co19, .slice Ao18 y293.length co18, .slice none 0 0, .slice none 0 0]) ?_ 2 _ rfl; (with_reducible repeat (first | refine Z26 ?_ _ | refine Z27 ?_ | refine Z28 ?_ _)); refine Z30 (cs := #[.slice Ao19 t290.length co19, .slice none 0 0, .slice none 0 0, .slice none 0 0]) ?_ 1 _ rfl; (with_reducible repeat (first | refine Z26 ?_ _ | refine Z27 ?_ | refine Z28 ?_ _)); refine Z30 (cs := #[.slice none 0 0, .slice none 0 0, .slice none 0 0, .slice none 0 0]) ?_ 0 _ rfl; (with_reducible repeat (first | refine Z26 ?_ _ | refine Z27 ?_ | refine Z28 ?_ _)); exact BK289.out) Try.underlying27 rfl (by kernel_rfl)) rfl ?_
      exact ⟨_, _, _, _, Q9, by (with_reducible repeat (first | apply Z9 | apply Z10 | apply Z11)); exact Z12 (Z13 (p := ⟨gb289, 3, none⟩) (Z13 (p := ⟨gb289, 2, none⟩) (Z13 (p := ⟨gb289, 1, none⟩) (Z13 (p := ⟨gb289, 0, none⟩) (Z15 HO_300000.out BK289.out (by decide)) (fun _ hk => hk.2) (.slice Ao19 t290.length co19)) (fun _ hk => hk.2) (.slice Ao18 y293.length co18)) (fun _ hk => hk.2) (.slice Ao34 x300002_1.length co34)) (fun _ hk => hk.2) (.slice Ao17 t296.length co17)) (fun _ hk => ⟨hk.1.1, hk.1.2⟩), by (with_reducible repeat (first | apply Z9 | apply Z10 | apply Z11)); exact Z12 (Z13 (p := ⟨gb289, 3, none⟩) (Z13 (p := ⟨gb289, 2, none⟩) (Z13 (p := ⟨gb289, 1, none⟩) (Z13 (p := ⟨gb289, 0, none⟩) (Z15 HO_300001.out BK289.out (by decide)) (fun _ hk => hk.2) (.slice Ao19 t290.length co19)) (fun _ hk => hk.2) (.slice Ao18 y293.length co18)) (fun _ hk => hk.2) (.slice Ao34 x300002_1.length co34)) (fun _ hk => hk.2) (.slice Ao17 t296.length co17)) (fun _ hk => ⟨hk.1.1, hk.1.2⟩), by (with_reducible repeat (first | apply Z9 | apply Z10 | apply Z11)); exact Z12 (Z13 (p := ⟨gb289, 3, none⟩) (Z13 (p := ⟨gb289, 2, none⟩) (Z13 (p := ⟨gb289, 1, none⟩) (Z13 (p := ⟨gb289, 0, none⟩) (Z15 HO_300002.out BK289.out (by decide)) (fun _ hk => hk.2) (.slice Ao19 t290.length co19)) (fun _ hk => hk.2) (.slice Ao18 y293.length co18)) (fun _ hk => hk.2) (.slice Ao34 x300002_1.length co34)) (fun _ hk => hk.2) (.slice Ao17 t296.length co17)) (fun _ hk => trivial), by (with_reducible repeat (first | apply Z9 | apply Z10 | apply Z11)); exact Z12 (Z13 (p := ⟨gb289, 3, none⟩) (Z13 (p := ⟨gb289, 2, none⟩) (Z13 (p := ⟨gb289, 1, none⟩) (Z13 (p := ⟨gb289, 0, none⟩) (Z15 HO_300003.out BK289.out (by decide)) (fun _ hk => hk.2) (.slice Ao19 t290.length co19)) (fun _ hk => hk.2) (.slice Ao18 y293.length co18)) (fun _ hk => hk.2) (.slice Ao34 x300002_1.length co34)) (fun _ hk => hk.2) (.slice Ao17 t296.length co17)) (fun _ hk => ⟨hk.1.1, hk.1.2⟩), Q59⟩
  ·rw [if_neg c4] at H
   exact absurd H (by simp)
 ·rw [if_neg c3] at H
  exact absurd H (by simp)

end Go.Proofs.Ytpfakdhfffehaaa.MFnExactSwapperAt
