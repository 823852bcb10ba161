import Derived.Test.YtedijkelbdpcdaaMFnExactRunSwapperx0
import Derived.Test.YtedijkelbdpcdaaMFnExactRunSwapperx1
namespace Go.Proofs.Ytedijkelbdpcdaa.MFnExactRunSwapper
open Go.RowKit Go.Proofs.YtedijkelbdpcdaaW.PrintWords Go.Proofs.YtedijkelbdpcdaaW.PrintLast Go.Proofs.YtedijkelbdpcdaaW.PrintMore
attribute [local go_sem] max2_int min2_int max_two min_two max_three min_three max_four min_four   
set_option linter.unusedVariables false
set_option linter.unusedSimpArgs false
def spec_foStart.l0 : Nat → Int → Int → List Int → List Int → List Bool → List Int → Option (List Int × List Int × List Bool × List Int)
 | 0, _, _, _, _, _, _ => none
 | k + 1, x15, x16, x122000, x122001, x122002, x122003 => if x16 < x15 then (if x122002.length < 140737488355328 then (spec_foStart.l0 k x15 (wrap64 (x16 + 1)) x122000 x122001 (x122002 ++ [true]) x122003) else (none)) else (some (x122000, x122001, x122002, x122003))
def spec_foStart.f (k : Nat) (l0 : List Int) : Option (List Int × List Int × List Bool × List Int) := (spec_l1Own.f l0).bind fun t112 => (if 0 ≤ (l0.length : Int) then (if ((l0.length : Int) : Int).toNat ≤ 35184372088832 then ((spec_raUpTo.f k (wrap64 ((l0.length : Int) + 1))).bind fun t118 => (spec_foStart.l0 k (l0.length : Int) 0 t112 (List.replicate ((l0.length : Int) : Int).toNat 0) ([] : List Bool) t118)) else (none)) else (none))
theorem spec_foStart.mono_l : ∀ k, (∀ y0 y1 y2 y3 y4 y5, LeO (spec_foStart.l0 k y0 y1 y2 y3 y4 y5) (spec_foStart.l0 (k + 1) y0 y1 y2 y3 y4 y5))
 | 0 => fun _ _ _ _ _ _ r h => by simp [spec_foStart.l0] at h
 | k + 1 => by
  have ih0 := spec_foStart.mono_l k
  ·intro y0 y1 y2 y3 y4 y5
   unfold spec_foStart.l0
   repeat' first
   | (with_reducible exact ih0 _ _ _ _ _ _)
   | (with_reducible exact spec_raUpTo.mono _ _)
   | (with_reducible exact LeO.refl _)
   | (with_reducible exact LeO.none _)
   | (with_reducible refine LeO.ite ?_ ?_)
   | (with_reducible refine LeO.bind ?_ (fun _ => ?_))
   | exact ih0 _ _ _ _ _ _
   | exact spec_raUpTo.mono _ _
   | exact LeO.none _
   | refine LeO.ite ?_ ?_
   | refine LeO.bind ?_ (fun _ => ?_)
theorem spec_foStart.mono : ∀ a0 k, LeO (spec_foStart.f k a0) (spec_foStart.f (k + 1) a0) := by
 intro a0 k
 have ih0 := spec_foStart.mono_l k
 unfold spec_foStart.f
 repeat' first
   | (with_reducible exact ih0 _ _ _ _ _ _)
   | (with_reducible exact spec_raUpTo.mono _ _)
   | (with_reducible exact LeO.refl _)
   | (with_reducible exact LeO.none _)
   | (with_reducible refine LeO.ite ?_ ?_)
   | (with_reducible refine LeO.bind ?_ (fun _ => ?_))
   | exact ih0 _ _ _ _ _ _
   | exact spec_raUpTo.mono _ _
   | exact LeO.none _
   | refine LeO.ite ?_ ?_
   | refine LeO.bind ?_ (fun _ => ?_)
def spec_foStart.T1 : Bool × List (List Nat × List Nat) := (true, [([], []), ([0], [0]), ([], []), ([2], [2]), ([3, 3], [3]), ([], []), ([5], [5]), ([6], [6]), ([7, 1], [7]), ([1, 4, 8], [1, 4, 8]), ([], []), ([10, 9, 8, 0, 1, 2, 3, 4, 5, 6, 7, 8, 9, 10], [9, 10])])
def spec_foStart.B1 : List Nat := [0, 1, 0, 4, 12, 0, 32, 96, 227, 511, 0, 2047]
theorem spec_foStart.tab1 : rtab .any (opsOf Try.f84 1) = spec_foStart.T1 := by kernel_rfl
theorem spec_foStart.bits1 : waitsOk spec_foStart.T1.2 spec_foStart.B1 = true := by kernel_rfl
set_option maxHeartbeats 8000000 in
set_option maxRecDepth 100000 in
theorem spec_foStart.calls (k : Nat) (A0 : Option Addr) (c0 : Nat) (l0 : List Int) (r1 : List Int) (r2 : List Int) (r3 : List Bool) (r4 : List Int) (w : World) (hr0 : Kd.C (Kd.int .i64) w A0 l0.length l0) (hc0 : l0.length ≤ c0) (h : spec_foStart.f k l0 = some (r1, r2, r3, r4)) :
  Calls Try.prog 84 #[.slice A0 l0.length c0] w fun e w' => ∃ v0_ v1_ v2_ v3_ : Value, e = .returned (.agg #[v0_, v1_, v2_, v3_]) ∧ Kd.R (Kd.int .i64) 3 w' w.heap.size (fun k_ => some k_ ≠ (v1_ : Value).ownBlock ∧ some k_ ≠ (v3_ : Value).ownBlock) v0_ r1 ∧ Kd.R (Kd.int .i64) 3 w' w.heap.size (fun k_ => some k_ ≠ (v0_ : Value).ownBlock ∧ some k_ ≠ (v3_ : Value).ownBlock) v1_ r2 ∧ Kd.R Kd.bool 4 w' w.heap.size (fun _ => True) v2_ r3 ∧ Kd.R (Kd.int .i64) 3 w' w.heap.size (fun k_ => some k_ ≠ (v0_ : Value).ownBlock ∧ some k_ ≠ (v1_ : Value).ownBlock) v3_ r4 ∧ Below w.heap.size w w' := by
 have hu29 := Try.underlying29
 have HR0 := Aside0.mk hr0
 have HC0 := Aside0.mk hc0
 clear hr0 hc0
 have HB := Aside0.mk (Below.refl w.heap.size w)
 have H : ((spec_l1Own.f l0).bind fun t112 => (if 0 ≤ (l0.length : Int) then (if ((l0.length : Int) : Int).toNat ≤ 35184372088832 then ((spec_raUpTo.f k (wrap64 ((l0.length : Int) + 1))).bind fun t118 => (spec_foStart.l0 k (l0.length : Int) 0 t112 (List.replicate ((l0.length : Int) : Int).toNat 0) ([] : List Bool) t118)) else (none)) else (none))) = some (r1, r2, r3, r4) := h
 clear h
 replace H := Z37.mp H
 obtain ⟨t112, A20, H⟩ := H
 replace H : (if 0 ≤ (l0.length : Int) then (if ((l0.length : Int) : Int).toNat ≤ 35184372088832 then ((spec_raUpTo.f k (wrap64 ((l0.length : Int) + 1))).bind fun t118 => (spec_foStart.l0 k (l0.length : Int) 0 t112 (List.replicate ((l0.length : Int) : Int).toNat 0) ([] : List Bool) t118)) else (none)) else (none)) = some (r1, r2, r3, r4) := H
 have A2 := Aside0.mk A20
 clear A20
 by_cases c3 : 0 ≤ (l0.length : Int)
 ·rw [if_pos c3] at H
  have c3b0 := eq_true c3
  have c3b1 : decide (0 ≤ (l0.length : Int)) = true := Z39 c3
  have HLEc3 := Aside0.mk c3
  clear c3
  by_cases c4 : ((l0.length : Int) : Int).toNat ≤ 35184372088832
  ·rw [if_pos c4] at H
   have c4b0 := eq_true c4
   have c4b1 : decide (((l0.length : Int) : Int).toNat ≤ 35184372088832) = true := Z39 c4
   clear c4
   obtain ⟨y115, hy115⟩ : ∃ y_ : List Int, y_ = (List.replicate ((l0.length : Int) : Int).toNat 0) := ⟨_, rfl⟩
   replace H : ((spec_raUpTo.f k (wrap64 ((l0.length : Int) + 1))).bind fun t118 => (spec_foStart.l0 k (l0.length : Int) 0 t112 y115 ([] : List Bool) t118)) = some (r1, r2, r3, r4) := by first | (rw [hy115]; with_reducible exact H) | (have H2_ := (Option.bind_some _ _).symm.trans H; rw [hy115]; with_reducible exact H2_) | (have H2_ := (Option.bind_some _ _).symm.trans H; with_reducible exact H2_) | with_reducible exact H | (rw [hy115]; exact H) | exact H
   have Ny115 := Aside0.mk hy115
   clear hy115
   replace H := Z37.mp H
   obtain ⟨t118, A50, H⟩ := H
   replace H : (spec_foStart.l0 k (l0.length : Int) 0 t112 y115 ([] : List Bool) t118) = some (r1, r2, r3, r4) := H
   have A5 := Aside0.mk A50
   clear A50
   have H' := Aside0.mk H
   clear H
   go_enter Try.func84, Try.ntmps84
   try go_wp2_with (first | ((with_reducible refine gate_dst (N := 2) rfl ?_); refine box_event ?hg (N := 2) ?hd (cs := #[.slice none 0 0, .slice none 0 0, .slice none 0 0, .slice none 0 0]) (t := 29) ?hr ?_; (case hd => rfl); (case hg => rfl); (case hr => first | (go_simp; done) | (go_simp; rfl)); intro gb111 hg w6 hbox hb; have n0_ := Aside0.mk (Z8 (by repeat (first | (with_reducible first | exact HB.out | apply Z5 | apply Z3 | apply Z4) | exact HB.out)) hb); have n1_ := Aside0.mk (hbox); have n2_ := Aside0.mk ((by rw [hg]; exact (Z7 (by repeat (first | (with_reducible first | exact HB.out | apply Z5 | apply Z3 | apply Z4) | exact HB.out))) : w.heap.size ≤ gb111)); have n3_ := Aside0.mk ((by rw [hg]; exact (Z7 (by repeat (first | (with_reducible first | exact HB.out | apply Z5 | apply Z3 | apply Z4) | exact HB.out))) : w.heap.size ≤ gb111)); clear HB; have HB := n0_; have BK111 := n1_; have GW111 := n2_; have GE111 := n3_; clear n0_ n1_ n2_ n3_; clear hb hbox hg))
   have n0_ := Aside0.mk (Z27 BK111.out)
   have n1_ := Aside0.mk (Z4 HB.out)
   clear BK111
   clear HB
   have BK111 := n0_
   have HB := n1_
   clear n0_ n1_
   refine start_ (n := 12) (S := fun w' => True) (ds := []) #[false, false, false, false, false, false, false, false, false, false, false, false] (by kernel_rfl) rfl rfl trivial (fun hHeld => ?_); refine with_tabW spec_foStart.tab1 spec_foStart.bits1 (fun HT_ HW_ => ?_)
   generalize w6.drew = w7 at BK111 HB hHeld ⊢
   refine pure_ (i := 0) (N := some 4) (v := ?_) (a' := ?_) #[true, false, false, false, false, false, false, false, false, false, false, false] rfl rfl (any_of HT_.out (by kernel_rfl)) (fun _ _ _ h => h) (Or.inl ⟨by rfl, ?_⟩) ?_ ?_
   rotate_left
   ·intro w'
    go_simp
    with_reducible rfl
   rotate_left
   ·simp only [Act.put, Z0, Z1, Z2, i64_w, i32_w]
    rfl
   refine pure_ (i := 2) (N := some 6) (v := ?_) (a' := ?_) #[true, false, true, false, false, false, false, false, false, false, false, false] rfl rfl (any_of HT_.out (by kernel_rfl)) (fun _ _ _ h => h) (Or.inl ⟨by rfl, ?_⟩) ?_ ?_
   rotate_left
   ·intro w'
    go_simp
    with_reducible rfl
   rotate_left
   ·simp only [Act.put, Z0, Z1, Z2, i64_w, i32_w]
    rfl
   refine pure_ (i := 3) (N := some 7) (v := ?_) (a' := ?_) #[true, false, true, true, false, false, false, false, false, false, false, false] rfl rfl (any_of HT_.out (by kernel_rfl)) (fun _ _ _ h => h) (Or.inl ⟨by rfl, ?_⟩) ?_ ?_
   rotate_left
   ·intro w'
    go_simp
    with_reducible rfl
   rotate_left
   ·simp only [Act.put, Z0, Z1, Z2, i64_w, i32_w]
    rfl
   refine pure_ (i := 5) (N := some 9) (v := ?_) (a' := ?_) #[true, false, true, true, false, true, false, false, false, false, false, false] rfl rfl (any_of HT_.out (by kernel_rfl)) (fun _ _ _ h => h) (Or.inl ⟨by rfl, ?_⟩) ?_ ?_
   rotate_left
   ·intro w'
    go_simp
    with_reducible rfl
   rotate_left
   ·simp only [Act.put, Z0, Z1, Z2, i64_w, i32_w]
    rfl
   refine pure_ (i := 6) (N := some 10) (v := ?_) (a' := ?_) #[true, false, true, true, false, true, true, false, false, false, false, false] rfl rfl (any_of HT_.out (by kernel_rfl)) (fun _ _ _ h => h) (Or.inl ⟨by rfl, ?_⟩) ?_ ?_
   rotate_left
   ·intro w'
    go_simp
    with_reducible rfl
   rotate_left
   ·simp only [Act.put, Z0, Z1, Z2, i64_w, i32_w]
    rfl
   refine pure_ (i := 7) (N := some 11) (v := ?_) (a' := ?_) #[true, false, true, true, false, true, true, true, false, false, false, false] rfl rfl (any_of HT_.out (by kernel_rfl)) (fun _ _ _ h => h) (Or.inl ⟨by rfl, ?_⟩) ?_ ?_
   rotate_left
   ·intro w'
    go_simp
    with_reducible rfl
   rotate_left
   ·simp only [Act.put, Z0, Z1, Z2, i64_w, i32_w]
    rfl
   refine join_ (σ := Value × Value × Value × Nat) 1 #[true, true, true, true, true, true, true, true, true, true, true, false] (fun s_ => [(5, s_.1), (8, s_.2.1), (12, s_.2.2.1), (3, .pointer (some ⟨s_.2.2.2, 0, none⟩)), (13, .agg #[s_.1, s_.2.1, .slice none 0 0, s_.2.2.1])]) (fun s_ w' => (Kd.R (Kd.int .i64) 3 w' w.heap.size (fun k_ => some k_ ≠ (s_.2.1 : Value).ownBlock ∧ some k_ ≠ (s_.2.2.1 : Value).ownBlock) s_.1 t112) ∧ (Kd.R (Kd.int .i64) 3 w' w.heap.size (fun k_ => some k_ ≠ (s_.1 : Value).ownBlock ∧ some k_ ≠ (s_.2.2.1 : Value).ownBlock) s_.2.1 y115) ∧ (Kd.R (Kd.int .i64) 3 w' w.heap.size (fun k_ => some k_ ≠ (s_.1 : Value).ownBlock ∧ some k_ ≠ (s_.2.1 : Value).ownBlock) s_.2.2.1 t118) ∧ (w'.heap[gb111]? = some (.cells #[.slice none 0 0, .slice none 0 0, .slice none 0 0, .slice none 0 0] 29 (0, 0))) ∧ (w'.heap[s_.2.2.2]? = some (.cells #[.slice none 0 0, .slice none 0 0, .slice none 0 0, .slice none 0 0] 29 (0, 0))) ∧ (w.heap.size ≤ s_.2.2.2) ∧ (w.heap.size ≤ s_.2.2.2) ∧ (gb111 ≠ s_.2.2.2) ∧ (s_.2.2.2 ≠ gb111) ∧ (Below w.heap.size w w')) ?_ ?_
   rotate_left
   ·intro hJ1_4_8_10
    refine join_ (σ := Value × Value × Value) 2 #[true, true, true, true, true, true, true, true, true, true, false, false] (fun s_ => [(5, s_.1), (8, s_.2.1), (12, s_.2.2), (13, .agg #[s_.1, s_.2.1, .slice none 0 0, s_.2.2])]) (fun s_ w' => (Kd.R (Kd.int .i64) 3 w' w.heap.size (fun k_ => some k_ ≠ (s_.2.1 : Value).ownBlock ∧ some k_ ≠ (s_.2.2 : Value).ownBlock) s_.1 t112) ∧ (Kd.R (Kd.int .i64) 3 w' w.heap.size (fun k_ => some k_ ≠ (s_.1 : Value).ownBlock ∧ some k_ ≠ (s_.2.2 : Value).ownBlock) s_.2.1 y115) ∧ (Kd.R (Kd.int .i64) 3 w' w.heap.size (fun k_ => some k_ ≠ (s_.1 : Value).ownBlock ∧ some k_ ≠ (s_.2.1 : Value).ownBlock) s_.2.2 t118) ∧ (w'.heap[gb111]? = some (.cells #[.slice none 0 0, .slice none 0 0, .slice none 0 0, .slice none 0 0] 29 (0, 0))) ∧ (Below w.heap.size w w')) ?_ ?_
    rotate_left
    ·intro hJ1_4_8
     refine join_ (σ := Value × Value × Nat) 3 #[true, true, true, true, true, true, true, true, false, false, true, false] (fun s_ => [(5, s_.1), (8, s_.2.1), (3, .pointer (some ⟨s_.2.2, 0, none⟩))]) (fun s_ w' => (Kd.R (Kd.int .i64) 3 w' w.heap.size (fun k_ => some k_ ≠ (s_.2.1 : Value).ownBlock) s_.1 t112) ∧ (Kd.R (Kd.int .i64) 3 w' w.heap.size (fun k_ => some k_ ≠ (s_.1 : Value).ownBlock) s_.2.1 y115) ∧ (w'.heap[gb111]? = some (.cells #[.slice none 0 0, .slice none 0 0, .slice none 0 0, .slice none 0 0] 29 (0, 0))) ∧ (w'.heap[s_.2.2]? = some (.cells #[.slice none 0 0, .slice none 0 0, .slice none 0 0, .slice none 0 0] 29 (0, 0))) ∧ (w.heap.size ≤ s_.2.2) ∧ (w.heap.size ≤ s_.2.2) ∧ (gb111 ≠ s_.2.2) ∧ (s_.2.2 ≠ gb111) ∧ (Below w.heap.size w w')) ?_ ?_
     rotate_left
     ·intro hJ1_4_10
      refine join_ (σ := Value × Value × Nat) 3 #[true, true, true, true, false, true, true, true, true, false, true, false] (fun s_ => [(5, s_.1), (12, s_.2.1), (3, .pointer (some ⟨s_.2.2, 0, none⟩))]) (fun s_ w' => (Kd.R (Kd.int .i64) 3 w' w.heap.size (fun k_ => some k_ ≠ (s_.2.1 : Value).ownBlock) s_.1 t112) ∧ (Kd.R (Kd.int .i64) 3 w' w.heap.size (fun k_ => some k_ ≠ (s_.1 : Value).ownBlock) s_.2.1 t118) ∧ (w'.heap[gb111]? = some (.cells #[.slice none 0 0, .slice none 0 0, .slice none 0 0, .slice none 0 0] 29 (0, 0))) ∧ (w'.heap[s_.2.2]? = some (.cells #[.slice none 0 0, .slice none 0 0, .slice none 0 0, .slice none 0 0] 29 (0, 0))) ∧ (w.heap.size ≤ s_.2.2) ∧ (w.heap.size ≤ s_.2.2) ∧ (gb111 ≠ s_.2.2) ∧ (s_.2.2 ≠ gb111) ∧ (Below w.heap.size w w')) ?_ ?_
      rotate_left
      ·intro hJ1_8_10
       refine join_ (σ := Value × Value) 4 #[true, true, true, true, true, true, true, true, false, false, false, false] (fun s_ => [(5, s_.1), (8, s_.2)]) (fun s_ w' => (Kd.R (Kd.int .i64) 3 w' w.heap.size (fun k_ => some k_ ≠ (s_.2 : Value).ownBlock) s_.1 t112) ∧ (Kd.R (Kd.int .i64) 3 w' w.heap.size (fun k_ => some k_ ≠ (s_.1 : Value).ownBlock) s_.2 y115) ∧ (w'.heap[gb111]? = some (.cells #[.slice none 0 0, .slice none 0 0, .slice none 0 0, .slice none 0 0] 29 (0, 0))) ∧ (Below w.heap.size w w')) ?_ ?_
       rotate_left
       ·intro hJ1_4
        refine join_ (σ := Value × Value) 4 #[true, true, true, true, false, true, true, true, true, false, false, false] (fun s_ => [(5, s_.1), (12, s_.2)]) (fun s_ w' => (Kd.R (Kd.int .i64) 3 w' w.heap.size (fun k_ => some k_ ≠ (s_.2 : Value).ownBlock) s_.1 t112) ∧ (Kd.R (Kd.int .i64) 3 w' w.heap.size (fun k_ => some k_ ≠ (s_.1 : Value).ownBlock) s_.2 t118) ∧ (w'.heap[gb111]? = some (.cells #[.slice none 0 0, .slice none 0 0, .slice none 0 0, .slice none 0 0] 29 (0, 0))) ∧ (Below w.heap.size w w')) ?_ ?_
        rotate_left
        ·intro hJ1_8
         refine join_ (σ := Value × Nat) 4 #[true, true, true, true, false, true, true, true, false, false, true, false] (fun s_ => [(5, s_.1), (3, .pointer (some ⟨s_.2, 0, none⟩))]) (fun s_ w' => (Kd.R (Kd.int .i64) 3 w' w.heap.size (fun _ => True) s_.1 t112) ∧ (w'.heap[gb111]? = some (.cells #[.slice none 0 0, .slice none 0 0, .slice none 0 0, .slice none 0 0] 29 (0, 0))) ∧ (w'.heap[s_.2]? = some (.cells #[.slice none 0 0, .slice none 0 0, .slice none 0 0, .slice none 0 0] 29 (0, 0))) ∧ (w.heap.size ≤ s_.2) ∧ (w.heap.size ≤ s_.2) ∧ (gb111 ≠ s_.2) ∧ (s_.2 ≠ gb111) ∧ (Below w.heap.size w w')) ?_ ?_
         rotate_left
         ·intro hJ1_10
          refine join_ (σ := Value × Nat) 4 #[true, false, true, true, true, true, true, true, false, false, true, false] (fun s_ => [(8, s_.1), (3, .pointer (some ⟨s_.2, 0, none⟩))]) (fun s_ w' => (Kd.R (Kd.int .i64) 3 w' w.heap.size (fun _ => True) s_.1 y115) ∧ (w'.heap[gb111]? = some (.cells #[.slice none 0 0, .slice none 0 0, .slice none 0 0, .slice none 0 0] 29 (0, 0))) ∧ (w'.heap[s_.2]? = some (.cells #[.slice none 0 0, .slice none 0 0, .slice none 0 0, .slice none 0 0] 29 (0, 0))) ∧ (w.heap.size ≤ s_.2) ∧ (w.heap.size ≤ s_.2) ∧ (gb111 ≠ s_.2) ∧ (s_.2 ≠ gb111) ∧ (Below w.heap.size w w')) ?_ ?_
          rotate_left
          ·intro hJ4_10
           refine join_ (σ := Value) 5 #[true, true, true, true, false, true, true, true, false, false, false, false] (fun s_ => [(5, s_)]) (fun s_ w' => (Kd.R (Kd.int .i64) 3 w' w.heap.size (fun _ => True) s_ t112) ∧ (w'.heap[gb111]? = some (.cells #[.slice none 0 0, .slice none 0 0, .slice none 0 0, .slice none 0 0] 29 (0, 0))) ∧ (Below w.heap.size w w')) ?_ ?_
           rotate_left
           ·intro hJ1
            refine join_ (σ := Value) 5 #[true, false, true, true, true, true, true, true, false, false, false, false] (fun s_ => [(8, s_)]) (fun s_ w' => (Kd.R (Kd.int .i64) 3 w' w.heap.size (fun _ => True) s_ y115) ∧ (w'.heap[gb111]? = some (.cells #[.slice none 0 0, .slice none 0 0, .slice none 0 0, .slice none 0 0] 29 (0, 0))) ∧ (Below w.heap.size w w')) ?_ ?_
            rotate_left
            ·intro hJ4
             refine join_ (σ := Nat) 5 #[true, false, true, true, false, true, true, true, false, false, true, false] (fun s_ => [(3, .pointer (some ⟨s_, 0, none⟩))]) (fun s_ w' => (w'.heap[gb111]? = some (.cells #[.slice none 0 0, .slice none 0 0, .slice none 0 0, .slice none 0 0] 29 (0, 0))) ∧ (w'.heap[s_]? = some (.cells #[.slice none 0 0, .slice none 0 0, .slice none 0 0, .slice none 0 0] 29 (0, 0))) ∧ (w.heap.size ≤ s_) ∧ (w.heap.size ≤ s_) ∧ (gb111 ≠ s_) ∧ (s_ ≠ gb111) ∧ (Below w.heap.size w w')) ?_ ?_
             rotate_left
             ·intro hJ10
              refine three_ (i := 1) (j := 4) (k := 10) (Ni := some 5) (Nj := some 8) (Nk := some 3) #[true, true, true, true, false, true, true, true, false, false, false, false] #[true, false, true, true, true, true, true, true, false, false, false, false] #[true, false, true, true, false, true, true, true, false, false, true, false] rfl rfl rfl rfl rfl rfl (three_of HT_.out (by kernel_rfl)) (by decide) (by decide) (by decide) (fun K hK => ?_) (fun K hK => ?_) (fun K hK => ?_)
              ·skip
               refine goes_ Try.func95 (by kernel_rfl) rfl #[.slice A0 l0.length c0] (by rfl) rfl rfl (by (try simp only [Z34, Z35, Z36]); first | done | rfl | (simp only [Z32, Z33]; rfl)) ?_
               with_reducible refine (spec_l1Own.calls _ _ l0 t112 _ ?side1 ?side2 A2.out).mono ?_
               (case side1 => repeat (first | exact (Z23 HR0.out HB.out) | (with_reducible refine Z20 ?_ _) | (with_reducible refine Z21 ?_ _) | (with_reducible refine Z22 ?_)))
               (case side2 => exact HC0.out)
               rintro e w8 ⟨v113, rfl, ho0, hb⟩
               refine ⟨_, rfl, ?_⟩
               have n0_ := Aside0.mk (Kd.R_lower ho0 (Z7 (by repeat (first | (with_reducible first | exact HB.out | apply Z5 | apply Z3 | apply Z4 | refine Z6 ?_ GE111.out) | exact HB.out))))
               have n1_ := Aside0.mk (Z29 (g := gb111) (o := .cells #[.slice none 0 0, .slice none 0 0, .slice none 0 0, .slice none 0 0] 29 (0, 0)) (by (with_reducible repeat (first | refine Z26 ?_ _ | refine Z27 ?_ | refine Z28 ?_ _)); exact BK111.out) hb)
               have n2_ := Aside0.mk (Z8 (by repeat (first | (with_reducible first | exact HB.out | apply Z5 | apply Z3 | apply Z4 | refine Z6 ?_ GE111.out) | exact HB.out)) hb)
               clear BK111
               clear HB
               have HO114 := n0_
               have BK111 := n1_
               have HB := n2_
               clear n0_ n1_ n2_
               (try clear hb)
               (try clear hb2)
               (try clear hk)
               (try clear hi)
               (try clear ho0)
               refine hK.out _ _ trivial (fun hHeld => ?_)
               clear hK K
               refine norm_ (a' := ?_) ?_ ?_
               rotate_left
               ·show Act.put _ (some 5) _ = _
                simp only [Act.put, Z0, Z1, Z2, i64_w, i32_w]
                rfl
               exact norm_ (by first | (simp only [putAll, Act.put, Z0, Z1, Z2]; done) | (simp only [putAll, Act.put, Z0, Z1, Z2]; rfl)) (hJ1 (v113) _ ⟨(by (with_reducible repeat (first | apply Z9 | apply Z10 | apply Z11)); exact HO114.out), (by (with_reducible repeat (first | refine Z26 ?_ _ | refine Z27 ?_ | refine Z28 ?_ _)); exact BK111.out), (by repeat (first | (with_reducible first | exact HB.out | apply Z5 | apply Z3 | apply Z4 | refine Z6 ?_ GE111.out) | exact HB.out))⟩)
              ·skip
               refine Kd.R_make_step (Kd.int .i64) _ 3 (by rfl) (N := 8) rfl 22 _ _ rfl (l0.length : Int) rfl rfl Try.underlying22 (.int .i64 0) 8 info3 rfl (by decide) (by omega) 0 (ok := fun _ => True) (okp := fun _ => True) rfl (fun _ hk => hk) trivial (Z31 (by first | (with_reducible assumption) | assumption)) (Nat.le_trans (Nat.mul_le_mul_right _ (Z31 (by first | (with_reducible assumption) | assumption) : (l0.length : Int).toNat ≤ 35184372088832)) (by omega)) (Below.refl _ _) (Nat.le_refl _) ?_
               intro v116 w8 ho9 hb hg_ hnew_
               clear hg_ hnew_
               (first | rw [← Ny115.out] at ho9 | (simp only [Int.reduceToNat] at ho9; rw [← Ny115.out] at ho9))
               have n0_ := Aside0.mk (Kd.R_lower ho9 (Z7 (by repeat (first | (with_reducible first | exact HB.out | apply Z5 | apply Z3 | apply Z4 | refine Z6 ?_ GE111.out) | exact HB.out))))
               have n1_ := Aside0.mk (Z29 (g := gb111) (o := .cells #[.slice none 0 0, .slice none 0 0, .slice none 0 0, .slice none 0 0] 29 (0, 0)) (by (with_reducible repeat (first | refine Z26 ?_ _ | refine Z27 ?_ | refine Z28 ?_ _)); exact BK111.out) hb)
               have n2_ := Aside0.mk (Z8 (by repeat (first | (with_reducible first | exact HB.out | apply Z5 | apply Z3 | apply Z4 | refine Z6 ?_ GE111.out) | exact HB.out)) hb)
               clear BK111
               clear HB
               have HO117 := n0_
               have BK111 := n1_
               have HB := n2_
               clear n0_ n1_ n2_
               clear hb ho9
               refine hK.out _ _ trivial (fun hHeld => ?_)
               clear hK K
               refine norm_ (a' := ?_) ?_ ?_
               rotate_left
               ·show Act.put _ (some 8) _ = _
                simp only [Act.put, Z0, Z1, Z2, i64_w, i32_w]
                rfl
               exact norm_ (by first | (simp only [putAll, Act.put, Z0, Z1, Z2]; done) | (simp only [putAll, Act.put, Z0, Z1, Z2]; rfl)) (hJ4 (v116) _ ⟨(by (with_reducible repeat (first | apply Z9 | apply Z10 | apply Z11)); exact HO117.out), (by (with_reducible repeat (first | refine Z26 ?_ _ | refine Z27 ?_ | refine Z28 ?_ _)); exact BK111.out), (by repeat (first | (with_reducible first | exact HB.out | apply Z5 | apply Z3 | apply Z4 | refine Z6 ?_ GE111.out) | exact HB.out))⟩)
              ·skip
               refine box_step ?hg (N := 3) ?hd (cs := #[.slice none 0 0, .slice none 0 0, .slice none 0 0, .slice none 0 0]) (t := 29) ?hr ?_; (case hd => rfl); (case hg => rfl); (case hr => first | (go_simp; done) | (go_simp; rfl))
               intro gb121 hg w8 hbox hb
               have n0_ := Aside0.mk (Z29 (g := gb111) (o := .cells #[.slice none 0 0, .slice none 0 0, .slice none 0 0, .slice none 0 0] 29 (0, 0)) (by (with_reducible repeat (first | refine Z26 ?_ _ | refine Z27 ?_ | refine Z28 ?_ _)); exact BK111.out) hb)
               have n1_ := Aside0.mk (Z8 (by repeat (first | (with_reducible first | exact HB.out | apply Z5 | apply Z3 | apply Z4 | refine Z6 ?_ GE111.out) | exact HB.out)) hb)
               have n2_ := Aside0.mk (hbox)
               have n3_ := Aside0.mk ((by rw [hg]; exact (Z7 (by repeat (first | (with_reducible first | exact HB.out | apply Z5 | apply Z3 | apply Z4 | refine Z6 ?_ GE111.out) | exact HB.out))) : w.heap.size ≤ gb121))
               have n4_ := Aside0.mk ((by rw [hg]; exact (Z7 (by repeat (first | (with_reducible first | exact HB.out | apply Z5 | apply Z3 | apply Z4 | refine Z6 ?_ GE111.out) | exact HB.out))) : w.heap.size ≤ gb121))
               have n5_ := Aside0.mk ((by rw [hg]; exact Nat.ne_of_lt (blk_lt (g := gb111) (o := .cells #[.slice none 0 0, .slice none 0 0, .slice none 0 0, .slice none 0 0] 29 (0, 0)) (by (with_reducible repeat (first | refine Z26 ?_ _ | refine Z27 ?_ | refine Z28 ?_ _)); exact BK111.out)) : gb111 ≠ gb121))
               have n6_ := Aside0.mk ((by rw [hg]; exact Nat.ne_of_gt (blk_lt (g := gb111) (o := .cells #[.slice none 0 0, .slice none 0 0, .slice none 0 0, .slice none 0 0] 29 (0, 0)) (by (with_reducible repeat (first | refine Z26 ?_ _ | refine Z27 ?_ | refine Z28 ?_ _)); exact BK111.out)) : gb121 ≠ gb111))
               clear BK111
               clear HB
               have BK111 := n0_
               have HB := n1_
               have BK121 := n2_
               have GW121 := n3_
               have GE121 := n4_
               have NB111_121 := n5_
               have NB121_111 := n6_
               clear n0_ n1_ n2_ n3_ n4_ n5_ n6_
               clear hb hbox hg
               refine hK.out _ _ trivial (fun hHeld => ?_)
               clear hK K
               refine norm_ (a' := ?_) ?_ ?_
               rotate_left
               ·show Act.put _ (some 3) _ = _
                simp only [Act.put, Z0, Z1, Z2, i64_w, i32_w]
                rfl
               exact norm_ (by first | (simp only [putAll, Act.put, Z0, Z1, Z2]; done) | (simp only [putAll, Act.put, Z0, Z1, Z2]; rfl)) (hJ10 (gb121) _ ⟨(by (with_reducible repeat (first | refine Z26 ?_ _ | refine Z27 ?_ | refine Z28 ?_ _)); exact BK111.out), (by (with_reducible repeat (first | refine Z26 ?_ _ | refine Z27 ?_ | refine Z28 ?_ _)); exact BK121.out), GW121.out, GE121.out, NB111_121.out, NB121_111.out, (by repeat (first | (with_reducible first | exact HB.out | apply Z5 | apply Z3 | apply Z4 | refine Z6 ?_ GE111.out | refine Z6 ?_ GE121.out) | exact HB.out))⟩)
             ·skip
              rintro gb121 w9 ⟨h0_, h1_, h2_, h3_, h4_, h5_, h6_⟩
              have n0_ : Aside0 (w9.heap[gb111]? = some (.cells #[.slice none 0 0, .slice none 0 0, .slice none 0 0, .slice none 0 0] 29 (0, 0))) := ⟨h0_⟩
              have n1_ : Aside0 (w9.heap[gb121]? = some (.cells #[.slice none 0 0, .slice none 0 0, .slice none 0 0, .slice none 0 0] 29 (0, 0))) := ⟨h1_⟩
              have n2_ : Aside0 (w.heap.size ≤ gb121) := ⟨h2_⟩
              have n3_ : Aside0 (w.heap.size ≤ gb121) := ⟨h3_⟩
              have n4_ : Aside0 (gb111 ≠ gb121) := ⟨h4_⟩
              have n5_ : Aside0 (gb121 ≠ gb111) := ⟨h5_⟩
              have n6_ : Aside0 (Below w.heap.size w w9) := ⟨h6_⟩
              clear BK111
              clear HB
              clear h0_ h1_ h2_ h3_ h4_ h5_ h6_
              have BK111 := n0_
              have BK121 := n1_
              have GW121 := n2_
              have GE121 := n3_
              have NB111_121 := n4_
              have NB121_111 := n5_
              have HB := n6_
              clear n0_ n1_ n2_ n3_ n4_ n5_ n6_
              have hHeld := trivial
              refine norm_ (a' := ?_) ?_ ?_
              rotate_left
              ·simp only [putAll, Act.put, Z0, Z1, Z2]
               rfl
              refine two_ (i := 1) (j := 4) (Ni := some 5) (Nj := some 8) #[true, true, true, true, false, true, true, true, false, false, true, false] #[true, false, true, true, true, true, true, true, false, false, true, false] rfl rfl rfl rfl (two_of HT_.out (by kernel_rfl)) (by decide) (by decide) (fun K hK => ?_) (fun K hK => ?_)
              ·skip
               refine goes_ Try.func95 (by kernel_rfl) rfl #[.slice A0 l0.length c0] (by rfl) rfl rfl (by (try simp only [Z34, Z35, Z36]); first | done | rfl | (simp only [Z32, Z33]; rfl)) ?_
               with_reducible refine (spec_l1Own.calls _ _ l0 t112 _ ?side1 ?side2 A2.out).mono ?_
               (case side1 => repeat (first | exact (Z23 HR0.out HB.out) | (with_reducible refine Z20 ?_ _) | (with_reducible refine Z21 ?_ _) | (with_reducible refine Z22 ?_)))
               (case side2 => exact HC0.out)
               rintro e w10 ⟨v113, rfl, ho0, hb⟩
               refine ⟨_, rfl, ?_⟩
               have n0_ := Aside0.mk (Kd.R_lower ho0 (Z7 (by repeat (first | (with_reducible first | exact HB.out | apply Z5 | apply Z3 | apply Z4 | refine Z6 ?_ GE111.out | refine Z6 ?_ GE121.out) | exact HB.out))))
               have n1_ := Aside0.mk (Z29 (g := gb111) (o := .cells #[.slice none 0 0, .slice none 0 0, .slice none 0 0, .slice none 0 0] 29 (0, 0)) (by (with_reducible repeat (first | refine Z26 ?_ _ | refine Z27 ?_ | refine Z28 ?_ _)); exact BK111.out) hb)
               have n2_ := Aside0.mk (Z29 (g := gb121) (o := .cells #[.slice none 0 0, .slice none 0 0, .slice none 0 0, .slice none 0 0] 29 (0, 0)) (by (with_reducible repeat (first | refine Z26 ?_ _ | refine Z27 ?_ | refine Z28 ?_ _)); exact BK121.out) hb)
               have n3_ := Aside0.mk (Z8 (by repeat (first | (with_reducible first | exact HB.out | apply Z5 | apply Z3 | apply Z4 | refine Z6 ?_ GE111.out | refine Z6 ?_ GE121.out) | exact HB.out)) hb)
               clear BK111
               clear BK121
               clear HB
               have HO114 := n0_
               have BK111 := n1_
               have BK121 := n2_
               have HB := n3_
               clear n0_ n1_ n2_ n3_
               (try clear hb)
               (try clear hb2)
               (try clear hk)
               (try clear hi)
               (try clear ho0)
               refine hK.out _ _ trivial (fun hHeld => ?_)
               clear hK K
               refine norm_ (a' := ?_) ?_ ?_
               rotate_left
               ·show Act.put _ (some 5) _ = _
                simp only [Act.put, Z0, Z1, Z2, i64_w, i32_w]
                rfl
               exact norm_ (by first | (simp only [putAll, Act.put, Z0, Z1, Z2]; done) | (simp only [putAll, Act.put, Z0, Z1, Z2]; rfl)) (hJ1_10 (v113, gb121) _ ⟨(by (with_reducible repeat (first | apply Z9 | apply Z10 | apply Z11)); exact HO114.out), (by (with_reducible repeat (first | refine Z26 ?_ _ | refine Z27 ?_ | refine Z28 ?_ _)); exact BK111.out), (by (with_reducible repeat (first | refine Z26 ?_ _ | refine Z27 ?_ | refine Z28 ?_ _)); exact BK121.out), GW121.out, GE121.out, NB111_121.out, NB121_111.out, (by repeat (first | (with_reducible first | exact HB.out | apply Z5 | apply Z3 | apply Z4 | refine Z6 ?_ GE111.out | refine Z6 ?_ GE121.out) | exact HB.out))⟩)
              ·skip
               refine Kd.R_make_step (Kd.int .i64) _ 3 (by rfl) (N := 8) rfl 22 _ _ rfl (l0.length : Int) rfl rfl Try.underlying22 (.int .i64 0) 8 info3 rfl (by decide) (by omega) 0 (ok := fun _ => True) (okp := fun _ => True) rfl (fun _ hk => hk) trivial (Z31 (by first | (with_reducible assumption) | assumption)) (Nat.le_trans (Nat.mul_le_mul_right _ (Z31 (by first | (with_reducible assumption) | assumption) : (l0.length : Int).toNat ≤ 35184372088832)) (by omega)) (Below.refl _ _) (Nat.le_refl _) ?_
               intro v116 w10 ho11 hb hg_ hnew_
               clear hg_ hnew_
               (first | rw [← Ny115.out] at ho11 | (simp only [Int.reduceToNat] at ho11; rw [← Ny115.out] at ho11))
               have n0_ := Aside0.mk (Kd.R_lower ho11 (Z7 (by repeat (first | (with_reducible first | exact HB.out | apply Z5 | apply Z3 | apply Z4 | refine Z6 ?_ GE111.out | refine Z6 ?_ GE121.out) | exact HB.out))))
               have n1_ := Aside0.mk (Z29 (g := gb111) (o := .cells #[.slice none 0 0, .slice none 0 0, .slice none 0 0, .slice none 0 0] 29 (0, 0)) (by (with_reducible repeat (first | refine Z26 ?_ _ | refine Z27 ?_ | refine Z28 ?_ _)); exact BK111.out) hb)
               have n2_ := Aside0.mk (Z29 (g := gb121) (o := .cells #[.slice none 0 0, .slice none 0 0, .slice none 0 0, .slice none 0 0] 29 (0, 0)) (by (with_reducible repeat (first | refine Z26 ?_ _ | refine Z27 ?_ | refine Z28 ?_ _)); exact BK121.out) hb)
               have n3_ := Aside0.mk (Z8 (by repeat (first | (with_reducible first | exact HB.out | apply Z5 | apply Z3 | apply Z4 | refine Z6 ?_ GE111.out | refine Z6 ?_ GE121.out) | exact HB.out)) hb)
               clear BK111
               clear BK121
               clear HB
               have HO117 := n0_
               have BK111 := n1_
               have BK121 := n2_
               have HB := n3_
               clear n0_ n1_ n2_ n3_
               clear hb ho11
               refine hK.out _ _ trivial (fun hHeld => ?_)
               clear hK K
               refine norm_ (a' := ?_) ?_ ?_
               rotate_left
               ·show Act.put _ (some 8) _ = _
                simp only [Act.put, Z0, Z1, Z2, i64_w, i32_w]
                rfl
               exact norm_ (by first | (simp only [putAll, Act.put, Z0, Z1, Z2]; done) | (simp only [putAll, Act.put, Z0, Z1, Z2]; rfl)) (hJ4_10 (v116, gb121) _ ⟨(by (with_reducible repeat (first | apply Z9 | apply Z10 | apply Z11)); exact HO117.out), (by (with_reducible repeat (first | refine Z26 ?_ _ | refine Z27 ?_ | refine Z28 ?_ _)); exact BK111.out), (by (with_reducible repeat (first | refine Z26 ?_ _ | refine Z27 ?_ | refine Z28 ?_ _)); exact BK121.out), GW121.out, GE121.out, NB111_121.out, NB121_111.out, (by repeat (first | (with_reducible first | exact HB.out | apply Z5 | apply Z3 | apply Z4 | refine Z6 ?_ GE111.out | refine Z6 ?_ GE121.out) | exact HB.out))⟩)
            ·skip
             rintro v116 w10 ⟨h0_, h1_, h2_⟩
             have n0_ : Aside0 (Kd.R (Kd.int .i64) 3 w10 w.heap.size (fun _ => True) v116 y115) := ⟨h0_⟩
             have n1_ : Aside0 (w10.heap[gb111]? = some (.cells #[.slice none 0 0, .slice none 0 0, .slice none 0 0, .slice none 0 0] 29 (0, 0))) := ⟨h1_⟩
             have n2_ : Aside0 (Below w.heap.size w w10) := ⟨h2_⟩
             clear BK111
             clear HB
             clear h0_ h1_ h2_
             have HO117 := n0_
             have BK111 := n1_
             have HB := n2_
             clear n0_ n1_ n2_
             have hHeld := trivial
             refine norm_ (a' := ?_) ?_ ?_
             rotate_left
             ·simp only [putAll, Act.put, Z0, Z1, Z2]
              rfl
             refine two_ (i := 1) (j := 10) (Ni := some 5) (Nj := some 3) #[true, true, true, true, true, true, true, true, false, false, false, false] #[true, false, true, true, true, true, true, true, false, false, true, false] rfl rfl rfl rfl (two_of HT_.out (by kernel_rfl)) (by decide) (by decide) (fun K hK => ?_) (fun K hK => ?_)
             ·skip
              refine goes_ Try.func95 (by kernel_rfl) rfl #[.slice A0 l0.length c0] (by rfl) rfl rfl (by (try simp only [Z34, Z35, Z36]); first | done | rfl | (simp only [Z32, Z33]; rfl)) ?_
              with_reducible refine (spec_l1Own.calls _ _ l0 t112 _ ?side1 ?side2 A2.out).mono ?_
              (case side1 => repeat (first | exact (Z23 HR0.out HB.out) | (with_reducible refine Z20 ?_ _) | (with_reducible refine Z21 ?_ _) | (with_reducible refine Z22 ?_)))
              (case side2 => exact HC0.out)
              rintro e w11 ⟨v113, rfl, ho0, hb⟩
              refine ⟨_, rfl, ?_⟩
              have n0_ := Aside0.mk (Kd.R_elder' (by (with_reducible repeat (first | apply Z9 | apply Z10 | apply Z11)); exact HO117.out) (Kd.R_base ho0) hb)
              have n1_ := Aside0.mk (Kd.R_lower (Kd.R_new' ho0 (Z18 (by (with_reducible repeat (first | apply Z9 | apply Z10 | apply Z11)); exact HO117.out))) (Z7 (by repeat (first | (with_reducible first | exact HB.out | apply Z5 | apply Z3 | apply Z4 | refine Z6 ?_ GE111.out) | exact HB.out))))
              have n2_ := Aside0.mk (Z29 (g := gb111) (o := .cells #[.slice none 0 0, .slice none 0 0, .slice none 0 0, .slice none 0 0] 29 (0, 0)) (by (with_reducible repeat (first | refine Z26 ?_ _ | refine Z27 ?_ | refine Z28 ?_ _)); exact BK111.out) hb)
              have n3_ := Aside0.mk (Z8 (by repeat (first | (with_reducible first | exact HB.out | apply Z5 | apply Z3 | apply Z4 | refine Z6 ?_ GE111.out) | exact HB.out)) hb)
              clear HO117
              clear BK111
              clear HB
              have HO117 := n0_
              have HO114 := n1_
              have BK111 := n2_
              have HB := n3_
              clear n0_ n1_ n2_ n3_
              (try clear hb)
              (try clear hb2)
              (try clear hk)
              (try clear hi)
              (try clear ho0)
              refine hK.out _ _ trivial (fun hHeld => ?_)
              clear hK K
              refine norm_ (a' := ?_) ?_ ?_
              rotate_left
              ·show Act.put _ (some 5) _ = _
               simp only [Act.put, Z0, Z1, Z2, i64_w, i32_w]
               rfl
              exact norm_ (by first | (simp only [putAll, Act.put, Z0, Z1, Z2]; done) | (simp only [putAll, Act.put, Z0, Z1, Z2]; rfl)) (hJ1_4 (v113, v116) _ ⟨(by (with_reducible repeat (first | apply Z9 | apply Z10 | apply Z11)); exact Z12 HO114.out (fun _ hk => hk.2)), (by (with_reducible repeat (first | apply Z9 | apply Z10 | apply Z11)); exact Z12 HO117.out (fun _ hk => hk.2)), (by (with_reducible repeat (first | refine Z26 ?_ _ | refine Z27 ?_ | refine Z28 ?_ _)); exact BK111.out), (by repeat (first | (with_reducible first | exact HB.out | apply Z5 | apply Z3 | apply Z4 | refine Z6 ?_ GE111.out) | exact HB.out))⟩)
             ·skip
              refine box_step ?hg (N := 3) ?hd (cs := #[.slice none 0 0, .slice none 0 0, .slice none 0 0, .slice none 0 0]) (t := 29) ?hr ?_; (case hd => rfl); (case hg => rfl); (case hr => first | (go_simp; done) | (go_simp; rfl))
              intro gb121 hg w11 hbox hb
              have n0_ := Aside0.mk (Z14 (by (with_reducible repeat (first | apply Z9 | apply Z10 | apply Z11)); exact HO117.out) hb)
              have n1_ := Aside0.mk (Z29 (g := gb111) (o := .cells #[.slice none 0 0, .slice none 0 0, .slice none 0 0, .slice none 0 0] 29 (0, 0)) (by (with_reducible repeat (first | refine Z26 ?_ _ | refine Z27 ?_ | refine Z28 ?_ _)); exact BK111.out) hb)
              have n2_ := Aside0.mk (Z8 (by repeat (first | (with_reducible first | exact HB.out | apply Z5 | apply Z3 | apply Z4 | refine Z6 ?_ GE111.out) | exact HB.out)) hb)
              have n3_ := Aside0.mk (hbox)
              have n4_ := Aside0.mk ((by rw [hg]; exact (Z7 (by repeat (first | (with_reducible first | exact HB.out | apply Z5 | apply Z3 | apply Z4 | refine Z6 ?_ GE111.out) | exact HB.out))) : w.heap.size ≤ gb121))
              have n5_ := Aside0.mk ((by rw [hg]; exact (Z7 (by repeat (first | (with_reducible first | exact HB.out | apply Z5 | apply Z3 | apply Z4 | refine Z6 ?_ GE111.out) | exact HB.out))) : w.heap.size ≤ gb121))
              have n6_ := Aside0.mk ((by rw [hg]; exact Nat.ne_of_lt (blk_lt (g := gb111) (o := .cells #[.slice none 0 0, .slice none 0 0, .slice none 0 0, .slice none 0 0] 29 (0, 0)) (by (with_reducible repeat (first | refine Z26 ?_ _ | refine Z27 ?_ | refine Z28 ?_ _)); exact BK111.out)) : gb111 ≠ gb121))
              have n7_ := Aside0.mk ((by rw [hg]; exact Nat.ne_of_gt (blk_lt (g := gb111) (o := .cells #[.slice none 0 0, .slice none 0 0, .slice none 0 0, .slice none 0 0] 29 (0, 0)) (by (with_reducible repeat (first | refine Z26 ?_ _ | refine Z27 ?_ | refine Z28 ?_ _)); exact BK111.out)) : gb121 ≠ gb111))
              clear HO117
              clear BK111
              clear HB
              have HO117 := n0_
              have BK111 := n1_
              have HB := n2_
              have BK121 := n3_
              have GW121 := n4_
              have GE121 := n5_
              have NB111_121 := n6_
              have NB121_111 := n7_
              clear n0_ n1_ n2_ n3_ n4_ n5_ n6_ n7_
              clear hb hbox hg
              refine hK.out _ _ trivial (fun hHeld => ?_)
              clear hK K
              refine norm_ (a' := ?_) ?_ ?_
              rotate_left
              ·show Act.put _ (some 3) _ = _
               simp only [Act.put, Z0, Z1, Z2, i64_w, i32_w]
               rfl
              exact norm_ (by first | (simp only [putAll, Act.put, Z0, Z1, Z2]; done) | (simp only [putAll, Act.put, Z0, Z1, Z2]; rfl)) (hJ4_10 (v116, gb121) _ ⟨(by (with_reducible repeat (first | apply Z9 | apply Z10 | apply Z11)); exact HO117.out), (by (with_reducible repeat (first | refine Z26 ?_ _ | refine Z27 ?_ | refine Z28 ?_ _)); exact BK111.out), (by (with_reducible repeat (first | refine Z26 ?_ _ | refine Z27 ?_ | refine Z28 ?_ _)); exact BK121.out), GW121.out, GE121.out, NB111_121.out, NB121_111.out, (by repeat (first | (with_reducible first | exact HB.out | apply Z5 | apply Z3 | apply Z4 | refine Z6 ?_ GE111.out | refine Z6 ?_ GE121.out) | exact HB.out))⟩)
           ·skip
            rintro v113 w9 ⟨h0_, h1_, h2_⟩
            have n0_ : Aside0 (Kd.R (Kd.int .i64) 3 w9 w.heap.size (fun _ => True) v113 t112) := ⟨h0_⟩
            have n1_ : Aside0 (w9.heap[gb111]? = some (.cells #[.slice none 0 0, .slice none 0 0, .slice none 0 0, .slice none 0 0] 29 (0, 0))) := ⟨h1_⟩
            have n2_ : Aside0 (Below w.heap.size w w9) := ⟨h2_⟩
            clear BK111
            clear HB
            clear h0_ h1_ h2_
            have HO114 := n0_
            have BK111 := n1_
            have HB := n2_
            clear n0_ n1_ n2_
            have hHeld := trivial
            refine norm_ (a' := ?_) ?_ ?_
            rotate_left
            ·simp only [putAll, Act.put, Z0, Z1, Z2]
             rfl
            refine three_ (i := 4) (j := 8) (k := 10) (Ni := some 8) (Nj := some 12) (Nk := some 3) #[true, true, true, true, true, true, true, true, false, false, false, false] #[true, true, true, true, false, true, true, true, true, false, false, false] #[true, true, true, true, false, true, true, true, false, false, true, false] rfl rfl rfl rfl rfl rfl (three_of HT_.out (by kernel_rfl)) (by decide) (by decide) (by decide) (fun K hK => ?_) (fun K hK => ?_) (fun K hK => ?_)
            ·skip
             refine Kd.R_make_step (Kd.int .i64) _ 3 (by rfl) (N := 8) rfl 22 _ _ rfl (l0.length : Int) rfl rfl Try.underlying22 (.int .i64 0) 8 info3 rfl (by decide) (by omega) 0 (ok := fun _ => True) (okp := fun _ => True) rfl (fun _ hk => hk) trivial (Z31 (by first | (with_reducible assumption) | assumption)) (Nat.le_trans (Nat.mul_le_mul_right _ (Z31 (by first | (with_reducible assumption) | assumption) : (l0.length : Int).toNat ≤ 35184372088832)) (by omega)) (Below.refl _ _) (Nat.le_refl _) ?_
             intro v116 w10 ho11 hb hg_ hnew_
             clear hg_ hnew_
             (first | rw [← Ny115.out] at ho11 | (simp only [Int.reduceToNat] at ho11; rw [← Ny115.out] at ho11))
             have n0_ := Aside0.mk (Kd.R_elder' (by (with_reducible repeat (first | apply Z9 | apply Z10 | apply Z11)); exact HO114.out) (Kd.R_base ho11) hb)
             have n1_ := Aside0.mk (Kd.R_lower (Kd.R_new' ho11 (Z18 (by (with_reducible repeat (first | apply Z9 | apply Z10 | apply Z11)); exact HO114.out))) (Z7 (by repeat (first | (with_reducible first | exact HB.out | apply Z5 | apply Z3 | apply Z4 | refine Z6 ?_ GE111.out) | exact HB.out))))
             have n2_ := Aside0.mk (Z29 (g := gb111) (o := .cells #[.slice none 0 0, .slice none 0 0, .slice none 0 0, .slice none 0 0] 29 (0, 0)) (by (with_reducible repeat (first | refine Z26 ?_ _ | refine Z27 ?_ | refine Z28 ?_ _)); exact BK111.out) hb)
             have n3_ := Aside0.mk (Z8 (by repeat (first | (with_reducible first | exact HB.out | apply Z5 | apply Z3 | apply Z4 | refine Z6 ?_ GE111.out) | exact HB.out)) hb)
             clear HO114
             clear BK111
             clear HB
             have HO114 := n0_
             have HO117 := n1_
             have BK111 := n2_
             have HB := n3_
             clear n0_ n1_ n2_ n3_
             clear hb ho11
             refine hK.out _ _ trivial (fun hHeld => ?_)
             clear hK K
             refine norm_ (a' := ?_) ?_ ?_
             rotate_left
             ·show Act.put _ (some 8) _ = _
              simp only [Act.put, Z0, Z1, Z2, i64_w, i32_w]
              rfl
             exact norm_ (by first | (simp only [putAll, Act.put, Z0, Z1, Z2]; done) | (simp only [putAll, Act.put, Z0, Z1, Z2]; rfl)) (hJ1_4 (v113, v116) _ ⟨(by (with_reducible repeat (first | apply Z9 | apply Z10 | apply Z11)); exact Z12 HO114.out (fun _ hk => hk.2)), (by (with_reducible repeat (first | apply Z9 | apply Z10 | apply Z11)); exact Z12 HO117.out (fun _ hk => hk.2)), (by (with_reducible repeat (first | refine Z26 ?_ _ | refine Z27 ?_ | refine Z28 ?_ _)); exact BK111.out), (by repeat (first | (with_reducible first | exact HB.out | apply Z5 | apply Z3 | apply Z4 | refine Z6 ?_ GE111.out) | exact HB.out))⟩)
            ·skip
             refine goes_ Try.func85 (by kernel_rfl) rfl #[.int .i64 (wrap64 ((l0.length : Int) + 1))] (by rfl) rfl rfl (by (try simp only [Z34, Z35, Z36]); first | done | rfl | (simp only [Z32, Z33]; rfl)) ?_
             with_reducible refine (spec_raUpTo.calls k (wrap64 ((l0.length : Int) + 1)) t118 _ A5.out).mono ?_
             rintro e w10 ⟨v119, rfl, ho0, hb⟩
             refine ⟨_, rfl, ?_⟩
             have n0_ := Aside0.mk (Kd.R_elder' (by (with_reducible repeat (first | apply Z9 | apply Z10 | apply Z11)); exact HO114.out) (Kd.R_base ho0) hb)
             have n1_ := Aside0.mk (Kd.R_lower (Kd.R_new' ho0 (Z18 (by (with_reducible repeat (first | apply Z9 | apply Z10 | apply Z11)); exact HO114.out))) (Z7 (by repeat (first | (with_reducible first | exact HB.out | apply Z5 | apply Z3 | apply Z4 | refine Z6 ?_ GE111.out) | exact HB.out))))
             have n2_ := Aside0.mk (Z29 (g := gb111) (o := .cells #[.slice none 0 0, .slice none 0 0, .slice none 0 0, .slice none 0 0] 29 (0, 0)) (by (with_reducible repeat (first | refine Z26 ?_ _ | refine Z27 ?_ | refine Z28 ?_ _)); exact BK111.out) hb)
             have n3_ := Aside0.mk (Z8 (by repeat (first | (with_reducible first | exact HB.out | apply Z5 | apply Z3 | apply Z4 | refine Z6 ?_ GE111.out) | exact HB.out)) hb)
             clear HO114
             clear BK111
             clear HB
             have HO114 := n0_
             have HO120 := n1_
             have BK111 := n2_
             have HB := n3_
             clear n0_ n1_ n2_ n3_
             (try clear hb)
             (try clear hb2)
             (try clear hk)
             (try clear hi)
             (try clear ho0)
             refine hK.out _ _ trivial (fun hHeld => ?_)
             clear hK K
             refine norm_ (a' := ?_) ?_ ?_
             rotate_left
             ·show Act.put _ (some 12) _ = _
              simp only [Act.put, Z0, Z1, Z2, i64_w, i32_w]
              rfl
             exact norm_ (by first | (simp only [putAll, Act.put, Z0, Z1, Z2]; done) | (simp only [putAll, Act.put, Z0, Z1, Z2]; rfl)) (hJ1_8 (v113, v119) _ ⟨(by (with_reducible repeat (first | apply Z9 | apply Z10 | apply Z11)); exact Z12 HO114.out (fun _ hk => hk.2)), (by (with_reducible repeat (first | apply Z9 | apply Z10 | apply Z11)); exact Z12 HO120.out (fun _ hk => hk.2)), (by (with_reducible repeat (first | refine Z26 ?_ _ | refine Z27 ?_ | refine Z28 ?_ _)); exact BK111.out), (by repeat (first | (with_reducible first | exact HB.out | apply Z5 | apply Z3 | apply Z4 | refine Z6 ?_ GE111.out) | exact HB.out))⟩)
            ·skip
             refine box_step ?hg (N := 3) ?hd (cs := #[.slice none 0 0, .slice none 0 0, .slice none 0 0, .slice none 0 0]) (t := 29) ?hr ?_; (case hd => rfl); (case hg => rfl); (case hr => first | (go_simp; done) | (go_simp; rfl))
             intro gb121 hg w10 hbox hb
             have n0_ := Aside0.mk (Z14 (by (with_reducible repeat (first | apply Z9 | apply Z10 | apply Z11)); exact HO114.out) hb)
             have n1_ := Aside0.mk (Z29 (g := gb111) (o := .cells #[.slice none 0 0, .slice none 0 0, .slice none 0 0, .slice none 0 0] 29 (0, 0)) (by (with_reducible repeat (first | refine Z26 ?_ _ | refine Z27 ?_ | refine Z28 ?_ _)); exact BK111.out) hb)
             have n2_ := Aside0.mk (Z8 (by repeat (first | (with_reducible first | exact HB.out | apply Z5 | apply Z3 | apply Z4 | refine Z6 ?_ GE111.out) | exact HB.out)) hb)
             have n3_ := Aside0.mk (hbox)
             have n4_ := Aside0.mk ((by rw [hg]; exact (Z7 (by repeat (first | (with_reducible first | exact HB.out | apply Z5 | apply Z3 | apply Z4 | refine Z6 ?_ GE111.out) | exact HB.out))) : w.heap.size ≤ gb121))
             have n5_ := Aside0.mk ((by rw [hg]; exact (Z7 (by repeat (first | (with_reducible first | exact HB.out | apply Z5 | apply Z3 | apply Z4 | refine Z6 ?_ GE111.out) | exact HB.out))) : w.heap.size ≤ gb121))
             have n6_ := Aside0.mk ((by rw [hg]; exact Nat.ne_of_lt (blk_lt (g := gb111) (o := .cells #[.slice none 0 0, .slice none 0 0, .slice none 0 0, .slice none 0 0] 29 (0, 0)) (by (with_reducible repeat (first | refine Z26 ?_ _ | refine Z27 ?_ | refine Z28 ?_ _)); exact BK111.out)) : gb111 ≠ gb121))
             have n7_ := Aside0.mk ((by rw [hg]; exact Nat.ne_of_gt (blk_lt (g := gb111) (o := .cells #[.slice none 0 0, .slice none 0 0, .slice none 0 0, .slice none 0 0] 29 (0, 0)) (by (with_reducible repeat (first | refine Z26 ?_ _ | refine Z27 ?_ | refine Z28 ?_ _)); exact BK111.out)) : gb121 ≠ gb111))
             clear HO114
             clear BK111
             clear HB
             have HO114 := n0_
             have BK111 := n1_
             have HB := n2_
             have BK121 := n3_
             have GW121 := n4_
             have GE121 := n5_
             have NB111_121 := n6_
             have NB121_111 := n7_
             clear n0_ n1_ n2_ n3_ n4_ n5_ n6_ n7_
             clear hb hbox hg
             refine hK.out _ _ trivial (fun hHeld => ?_)
             clear hK K
             refine norm_ (a' := ?_) ?_ ?_
             rotate_left
             ·show Act.put _ (some 3) _ = _
              simp only [Act.put, Z0, Z1, Z2, i64_w, i32_w]
              rfl
             exact norm_ (by first | (simp only [putAll, Act.put, Z0, Z1, Z2]; done) | (simp only [putAll, Act.put, Z0, Z1, Z2]; rfl)) (hJ1_10 (v113, gb121) _ ⟨(by (with_reducible repeat (first | apply Z9 | apply Z10 | apply Z11)); exact HO114.out), (by (with_reducible repeat (first | refine Z26 ?_ _ | refine Z27 ?_ | refine Z28 ?_ _)); exact BK111.out), (by (with_reducible repeat (first | refine Z26 ?_ _ | refine Z27 ?_ | refine Z28 ?_ _)); exact BK121.out), GW121.out, GE121.out, NB111_121.out, NB121_111.out, (by repeat (first | (with_reducible first | exact HB.out | apply Z5 | apply Z3 | apply Z4 | refine Z6 ?_ GE111.out | refine Z6 ?_ GE121.out) | exact HB.out))⟩)
          ·skip
           rintro ⟨v116, gb121⟩ w11 ⟨h0_, h1_, h2_, h3_, h4_, h5_, h6_, h7_⟩
           have n0_ : Aside0 (Kd.R (Kd.int .i64) 3 w11 w.heap.size (fun _ => True) v116 y115) := ⟨h0_⟩
           have n1_ : Aside0 (w11.heap[gb111]? = some (.cells #[.slice none 0 0, .slice none 0 0, .slice none 0 0, .slice none 0 0] 29 (0, 0))) := ⟨h1_⟩
           have n2_ : Aside0 (w11.heap[gb121]? = some (.cells #[.slice none 0 0, .slice none 0 0, .slice none 0 0, .slice none 0 0] 29 (0, 0))) := ⟨h2_⟩
           have n3_ : Aside0 (w.heap.size ≤ gb121) := ⟨h3_⟩
           have n4_ : Aside0 (w.heap.size ≤ gb121) := ⟨h4_⟩
           have n5_ : Aside0 (gb111 ≠ gb121) := ⟨h5_⟩
           have n6_ : Aside0 (gb121 ≠ gb111) := ⟨h6_⟩
           have n7_ : Aside0 (Below w.heap.size w w11) := ⟨h7_⟩
           clear BK111
           clear HB
           clear h0_ h1_ h2_ h3_ h4_ h5_ h6_ h7_
           have HO117 := n0_
           have BK111 := n1_
           have BK121 := n2_
           have GW121 := n3_
           have GE121 := n4_
           have NB111_121 := n5_
           have NB121_111 := n6_
           have HB := n7_
           clear n0_ n1_ n2_ n3_ n4_ n5_ n6_ n7_
           have hHeld := trivial
           refine norm_ (a' := ?_) ?_ ?_
           rotate_left
           ·simp only [putAll, Act.put, Z0, Z1, Z2]
            rfl
           refine one_ (i := 1) (N := some 5) #[true, true, true, true, true, true, true, true, false, false, true, false] rfl rfl (one_of HT_.out (by kernel_rfl)) (by decide) (fun K hK => ?_)
           refine goes_ Try.func95 (by kernel_rfl) rfl #[.slice A0 l0.length c0] (by rfl) rfl rfl (by (try simp only [Z34, Z35, Z36]); first | done | rfl | (simp only [Z32, Z33]; rfl)) ?_
           with_reducible refine (spec_l1Own.calls _ _ l0 t112 _ ?side1 ?side2 A2.out).mono ?_
           (case side1 => repeat (first | exact (Z23 HR0.out HB.out) | (with_reducible refine Z20 ?_ _) | (with_reducible refine Z21 ?_ _) | (with_reducible refine Z22 ?_)))
           (case side2 => exact HC0.out)
           rintro e w12 ⟨v113, rfl, ho0, hb⟩
           refine ⟨_, rfl, ?_⟩
           have n0_ := Aside0.mk (Kd.R_elder' (by (with_reducible repeat (first | apply Z9 | apply Z10 | apply Z11)); exact HO117.out) (Kd.R_base ho0) hb)
           have n1_ := Aside0.mk (Kd.R_lower (Kd.R_new' ho0 (Z18 (by (with_reducible repeat (first | apply Z9 | apply Z10 | apply Z11)); exact HO117.out))) (Z7 (by repeat (first | (with_reducible first | exact HB.out | apply Z5 | apply Z3 | apply Z4 | refine Z6 ?_ GE111.out | refine Z6 ?_ GE121.out) | exact HB.out))))
           have n2_ := Aside0.mk (Z29 (g := gb111) (o := .cells #[.slice none 0 0, .slice none 0 0, .slice none 0 0, .slice none 0 0] 29 (0, 0)) (by (with_reducible repeat (first | refine Z26 ?_ _ | refine Z27 ?_ | refine Z28 ?_ _)); exact BK111.out) hb)
           have n3_ := Aside0.mk (Z29 (g := gb121) (o := .cells #[.slice none 0 0, .slice none 0 0, .slice none 0 0, .slice none 0 0] 29 (0, 0)) (by (with_reducible repeat (first | refine Z26 ?_ _ | refine Z27 ?_ | refine Z28 ?_ _)); exact BK121.out) hb)
           have n4_ := Aside0.mk (Z8 (by repeat (first | (with_reducible first | exact HB.out | apply Z5 | apply Z3 | apply Z4 | refine Z6 ?_ GE111.out | refine Z6 ?_ GE121.out) | exact HB.out)) hb)
           clear HO117
           clear BK111
           clear BK121
           clear HB
           have HO117 := n0_
           have HO114 := n1_
           have BK111 := n2_
           have BK121 := n3_
           have HB := n4_
           clear n0_ n1_ n2_ n3_ n4_
           (try clear hb)
           (try clear hb2)
           (try clear hk)
           (try clear hi)
           (try clear ho0)
           refine hK.out _ _ trivial (fun hHeld => ?_)
           clear hK K
           refine norm_ (a' := ?_) ?_ ?_
           rotate_left
           ·show Act.put _ (some 5) _ = _
            simp only [Act.put, Z0, Z1, Z2, i64_w, i32_w]
            rfl
           exact norm_ (by first | (simp only [putAll, Act.put, Z0, Z1, Z2]; done) | (simp only [putAll, Act.put, Z0, Z1, Z2]; rfl)) (hJ1_4_10 (v113, v116, gb121) _ ⟨(by (with_reducible repeat (first | apply Z9 | apply Z10 | apply Z11)); exact Z12 HO114.out (fun _ hk => hk.2)), (by (with_reducible repeat (first | apply Z9 | apply Z10 | apply Z11)); exact Z12 HO117.out (fun _ hk => hk.2)), (by (with_reducible repeat (first | refine Z26 ?_ _ | refine Z27 ?_ | refine Z28 ?_ _)); exact BK111.out), (by (with_reducible repeat (first | refine Z26 ?_ _ | refine Z27 ?_ | refine Z28 ?_ _)); exact BK121.out), GW121.out, GE121.out, NB111_121.out, NB121_111.out, (by repeat (first | (with_reducible first | exact HB.out | apply Z5 | apply Z3 | apply Z4 | refine Z6 ?_ GE111.out | refine Z6 ?_ GE121.out) | exact HB.out))⟩)
         ·skip
          rintro ⟨v113, gb121⟩ w10 ⟨h0_, h1_, h2_, h3_, h4_, h5_, h6_, h7_⟩
          have n0_ : Aside0 (Kd.R (Kd.int .i64) 3 w10 w.heap.size (fun _ => True) v113 t112) := ⟨h0_⟩
          have n1_ : Aside0 (w10.heap[gb111]? = some (.cells #[.slice none 0 0, .slice none 0 0, .slice none 0 0, .slice none 0 0] 29 (0, 0))) := ⟨h1_⟩
          have n2_ : Aside0 (w10.heap[gb121]? = some (.cells #[.slice none 0 0, .slice none 0 0, .slice none 0 0, .slice none 0 0] 29 (0, 0))) := ⟨h2_⟩
          have n3_ : Aside0 (w.heap.size ≤ gb121) := ⟨h3_⟩
          have n4_ : Aside0 (w.heap.size ≤ gb121) := ⟨h4_⟩
          have n5_ : Aside0 (gb111 ≠ gb121) := ⟨h5_⟩
          have n6_ : Aside0 (gb121 ≠ gb111) := ⟨h6_⟩
          have n7_ : Aside0 (Below w.heap.size w w10) := ⟨h7_⟩
          clear BK111
          clear HB
          clear h0_ h1_ h2_ h3_ h4_ h5_ h6_ h7_
          have HO114 := n0_
          have BK111 := n1_
          have BK121 := n2_
          have GW121 := n3_
          have GE121 := n4_
          have NB111_121 := n5_
          have NB121_111 := n6_
          have HB := n7_
          clear n0_ n1_ n2_ n3_ n4_ n5_ n6_ n7_
          have hHeld := trivial
          refine norm_ (a' := ?_) ?_ ?_
          rotate_left
          ·simp only [putAll, Act.put, Z0, Z1, Z2]
           rfl
          refine two_ (i := 4) (j := 8) (Ni := some 8) (Nj := some 12) #[true, true, true, true, true, true, true, true, false, false, true, false] #[true, true, true, true, false, true, true, true, true, false, true, false] rfl rfl rfl rfl (two_of HT_.out (by kernel_rfl)) (by decide) (by decide) (fun K hK => ?_) (fun K hK => ?_)
          ·skip
           refine Kd.R_make_step (Kd.int .i64) _ 3 (by rfl) (N := 8) rfl 22 _ _ rfl (l0.length : Int) rfl rfl Try.underlying22 (.int .i64 0) 8 info3 rfl (by decide) (by omega) 0 (ok := fun _ => True) (okp := fun _ => True) rfl (fun _ hk => hk) trivial (Z31 (by first | (with_reducible assumption) | assumption)) (Nat.le_trans (Nat.mul_le_mul_right _ (Z31 (by first | (with_reducible assumption) | assumption) : (l0.length : Int).toNat ≤ 35184372088832)) (by omega)) (Below.refl _ _) (Nat.le_refl _) ?_
           intro v116 w11 ho12 hb hg_ hnew_
           clear hg_ hnew_
           (first | rw [← Ny115.out] at ho12 | (simp only [Int.reduceToNat] at ho12; rw [← Ny115.out] at ho12))
           have n0_ := Aside0.mk (Kd.R_elder' (by (with_reducible repeat (first | apply Z9 | apply Z10 | apply Z11)); exact HO114.out) (Kd.R_base ho12) hb)
           have n1_ := Aside0.mk (Kd.R_lower (Kd.R_new' ho12 (Z18 (by (with_reducible repeat (first | apply Z9 | apply Z10 | apply Z11)); exact HO114.out))) (Z7 (by repeat (first | (with_reducible first | exact HB.out | apply Z5 | apply Z3 | apply Z4 | refine Z6 ?_ GE111.out | refine Z6 ?_ GE121.out) | exact HB.out))))
           have n2_ := Aside0.mk (Z29 (g := gb111) (o := .cells #[.slice none 0 0, .slice none 0 0, .slice none 0 0, .slice none 0 0] 29 (0, 0)) (by (with_reducible repeat (first | refine Z26 ?_ _ | refine Z27 ?_ | refine Z28 ?_ _)); exact BK111.out) hb)
           have n3_ := Aside0.mk (Z29 (g := gb121) (o := .cells #[.slice none 0 0, .slice none 0 0, .slice none 0 0, .slice none 0 0] 29 (0, 0)) (by (with_reducible repeat (first | refine Z26 ?_ _ | refine Z27 ?_ | refine Z28 ?_ _)); exact BK121.out) hb)
           have n4_ := Aside0.mk (Z8 (by repeat (first | (with_reducible first | exact HB.out | apply Z5 | apply Z3 | apply Z4 | refine Z6 ?_ GE111.out | refine Z6 ?_ GE121.out) | exact HB.out)) hb)
           clear HO114
           clear BK111
           clear BK121
           clear HB
           have HO114 := n0_
           have HO117 := n1_
           have BK111 := n2_
           have BK121 := n3_
           have HB := n4_
           clear n0_ n1_ n2_ n3_ n4_
           clear hb ho12
           refine hK.out _ _ trivial (fun hHeld => ?_)
           clear hK K
           refine norm_ (a' := ?_) ?_ ?_
           rotate_left
           ·show Act.put _ (some 8) _ = _
            simp only [Act.put, Z0, Z1, Z2, i64_w, i32_w]
            rfl
           exact norm_ (by first | (simp only [putAll, Act.put, Z0, Z1, Z2]; done) | (simp only [putAll, Act.put, Z0, Z1, Z2]; rfl)) (hJ1_4_10 (v113, v116, gb121) _ ⟨(by (with_reducible repeat (first | apply Z9 | apply Z10 | apply Z11)); exact Z12 HO114.out (fun _ hk => hk.2)), (by (with_reducible repeat (first | apply Z9 | apply Z10 | apply Z11)); exact Z12 HO117.out (fun _ hk => hk.2)), (by (with_reducible repeat (first | refine Z26 ?_ _ | refine Z27 ?_ | refine Z28 ?_ _)); exact BK111.out), (by (with_reducible repeat (first | refine Z26 ?_ _ | refine Z27 ?_ | refine Z28 ?_ _)); exact BK121.out), GW121.out, GE121.out, NB111_121.out, NB121_111.out, (by repeat (first | (with_reducible first | exact HB.out | apply Z5 | apply Z3 | apply Z4 | refine Z6 ?_ GE111.out | refine Z6 ?_ GE121.out) | exact HB.out))⟩)
          ·skip
           refine goes_ Try.func85 (by kernel_rfl) rfl #[.int .i64 (wrap64 ((l0.length : Int) + 1))] (by rfl) rfl rfl (by (try simp only [Z34, Z35, Z36]); first | done | rfl | (simp only [Z32, Z33]; rfl)) ?_
           with_reducible refine (spec_raUpTo.calls k (wrap64 ((l0.length : Int) + 1)) t118 _ A5.out).mono ?_
           rintro e w11 ⟨v119, rfl, ho0, hb⟩
           refine ⟨_, rfl, ?_⟩
           have n0_ := Aside0.mk (Kd.R_elder' (by (with_reducible repeat (first | apply Z9 | apply Z10 | apply Z11)); exact HO114.out) (Kd.R_base ho0) hb)
           have n1_ := Aside0.mk (Kd.R_lower (Kd.R_new' ho0 (Z18 (by (with_reducible repeat (first | apply Z9 | apply Z10 | apply Z11)); exact HO114.out))) (Z7 (by repeat (first | (with_reducible first | exact HB.out | apply Z5 | apply Z3 | apply Z4 | refine Z6 ?_ GE111.out | refine Z6 ?_ GE121.out) | exact HB.out))))
           have n2_ := Aside0.mk (Z29 (g := gb111) (o := .cells #[.slice none 0 0, .slice none 0 0, .slice none 0 0, .slice none 0 0] 29 (0, 0)) (by (with_reducible repeat (first | refine Z26 ?_ _ | refine Z27 ?_ | refine Z28 ?_ _)); exact BK111.out) hb)
           have n3_ := Aside0.mk (Z29 (g := gb121) (o := .cells #[.slice none 0 0, .slice none 0 0, .slice none 0 0, .slice none 0 0] 29 (0, 0)) (by (with_reducible repeat (first | refine Z26 ?_ _ | refine Z27 ?_ | refine Z28 ?_ _)); exact BK121.out) hb)
           have n4_ := Aside0.mk (Z8 (by repeat (first | (with_reducible first | exact HB.out | apply Z5 | apply Z3 | apply Z4 | refine Z6 ?_ GE111.out | refine Z6 ?_ GE121.out) | exact HB.out)) hb)
           clear HO114
           clear BK111
           clear BK121
           clear HB
           have HO114 := n0_
           have HO120 := n1_
           have BK111 := n2_
           have BK121 := n3_
           have HB := n4_
           clear n0_ n1_ n2_ n3_ n4_
           (try clear hb)
           (try clear hb2)
           (try clear hk)
           (try clear hi)
           (try clear ho0)
           refine hK.out _ _ trivial (fun hHeld => ?_)
           clear hK K
           refine norm_ (a' := ?_) ?_ ?_
           rotate_left
           ·show Act.put _ (some 12) _ = _
            simp only [Act.put, Z0, Z1, Z2, i64_w, i32_w]
            rfl
           exact norm_ (by first | (simp only [putAll, Act.put, Z0, Z1, Z2]; done) | (simp only [putAll, Act.put, Z0, Z1, Z2]; rfl)) (hJ1_8_10 (v113, v119, gb121) _ ⟨(by (with_reducible repeat (first | apply Z9 | apply Z10 | apply Z11)); exact Z12 HO114.out (fun _ hk => hk.2)), (by (with_reducible repeat (first | apply Z9 | apply Z10 | apply Z11)); exact Z12 HO120.out (fun _ hk => hk.2)), (by (with_reducible repeat (first | refine Z26 ?_ _ | refine Z27 ?_ | refine Z28 ?_ _)); exact BK111.out), (by (with_reducible repeat (first | refine Z26 ?_ _ | refine Z27 ?_ | refine Z28 ?_ _)); exact BK121.out), GW121.out, GE121.out, NB111_121.out, NB121_111.out, (by repeat (first | (with_reducible first | exact HB.out | apply Z5 | apply Z3 | apply Z4 | refine Z6 ?_ GE111.out | refine Z6 ?_ GE121.out) | exact HB.out))⟩)
        ·skip
         rintro ⟨v113, v119⟩ w10 ⟨h0_, h1_, h2_, h3_⟩
         have n0_ : Aside0 (Kd.R (Kd.int .i64) 3 w10 w.heap.size (fun k_ => some k_ ≠ (v119 : Value).ownBlock) v113 t112) := ⟨h0_⟩
         have n1_ : Aside0 (Kd.R (Kd.int .i64) 3 w10 w.heap.size (fun k_ => some k_ ≠ (v113 : Value).ownBlock) v119 t118) := ⟨h1_⟩
         have n2_ : Aside0 (w10.heap[gb111]? = some (.cells #[.slice none 0 0, .slice none 0 0, .slice none 0 0, .slice none 0 0] 29 (0, 0))) := ⟨h2_⟩
         have n3_ : Aside0 (Below w.heap.size w w10) := ⟨h3_⟩
         clear BK111
         clear HB
         clear h0_ h1_ h2_ h3_
         have HO114 := n0_
         have HO120 := n1_
         have BK111 := n2_
         have HB := n3_
         clear n0_ n1_ n2_ n3_
         have hHeld := trivial
         refine norm_ (a' := ?_) ?_ ?_
         rotate_left
         ·simp only [putAll, Act.put, Z0, Z1, Z2]
          rfl
         refine two_ (i := 4) (j := 10) (Ni := some 8) (Nj := some 3) #[true, true, true, true, true, true, true, true, true, false, false, false] #[true, true, true, true, false, true, true, true, true, false, true, false] rfl rfl rfl rfl (two_of HT_.out (by kernel_rfl)) (by decide) (by decide) (fun K hK => ?_) (fun K hK => ?_)
         ·skip
          refine Kd.R_make_step (Kd.int .i64) _ 3 (by rfl) (N := 8) rfl 22 _ _ rfl (l0.length : Int) rfl rfl Try.underlying22 (.int .i64 0) 8 info3 rfl (by decide) (by omega) 0 (ok := fun _ => True) (okp := fun _ => True) rfl (fun _ hk => hk) trivial (Z31 (by first | (with_reducible assumption) | assumption)) (Nat.le_trans (Nat.mul_le_mul_right _ (Z31 (by first | (with_reducible assumption) | assumption) : (l0.length : Int).toNat ≤ 35184372088832)) (by omega)) (Below.refl _ _) (Nat.le_refl _) ?_
          intro v116 w11 ho12 hb hg_ hnew_
          clear hg_ hnew_
          (first | rw [← Ny115.out] at ho12 | (simp only [Int.reduceToNat] at ho12; rw [← Ny115.out] at ho12))
          have n0_ := Aside0.mk (Kd.R_elder' (by (with_reducible repeat (first | apply Z9 | apply Z10 | apply Z11)); exact HO114.out) (Kd.R_base ho12) hb)
          have n1_ := Aside0.mk (Kd.R_elder' (by (with_reducible repeat (first | apply Z9 | apply Z10 | apply Z11)); exact HO120.out) (Kd.R_base ho12) hb)
          have n2_ := Aside0.mk (Kd.R_lower (Kd.R_new' (Kd.R_new' ho12 (Z18 (by (with_reducible repeat (first | apply Z9 | apply Z10 | apply Z11)); exact HO114.out))) (Z18 (by (with_reducible repeat (first | apply Z9 | apply Z10 | apply Z11)); exact HO120.out))) (Z7 (by repeat (first | (with_reducible first | exact HB.out | apply Z5 | apply Z3 | apply Z4 | refine Z6 ?_ GE111.out) | exact HB.out))))
          have n3_ := Aside0.mk (Z29 (g := gb111) (o := .cells #[.slice none 0 0, .slice none 0 0, .slice none 0 0, .slice none 0 0] 29 (0, 0)) (by (with_reducible repeat (first | refine Z26 ?_ _ | refine Z27 ?_ | refine Z28 ?_ _)); exact BK111.out) hb)
          have n4_ := Aside0.mk (Z8 (by repeat (first | (with_reducible first | exact HB.out | apply Z5 | apply Z3 | apply Z4 | refine Z6 ?_ GE111.out) | exact HB.out)) hb)
          clear HO114
          clear HO120
          clear BK111
          clear HB
          have HO114 := n0_
          have HO120 := n1_
          have HO117 := n2_
          have BK111 := n3_
          have HB := n4_
          clear n0_ n1_ n2_ n3_ n4_
          clear hb ho12
          obtain ⟨Ao13, co13, eo13⟩ := Z19 HO120.out
          (first | subst eo13 | (injection eo13 with f1_ f2_ f3_; have f4_ := f1_.symm; have f5_ := f3_.symm; clear f1_ f2_ f3_; subst f4_; subst f5_))
          obtain ⟨Ao14, co14, eo14⟩ := Z19 HO117.out
          (first | subst eo14 | (injection eo14 with f1_ f2_ f3_; have f4_ := f1_.symm; have f5_ := f3_.symm; clear f1_ f2_ f3_; subst f4_; subst f5_))
          obtain ⟨Ao15, co15, eo15⟩ := Z19 HO114.out
          (first | subst eo15 | (injection eo15 with f1_ f2_ f3_; have f4_ := f1_.symm; have f5_ := f3_.symm; clear f1_ f2_ f3_; subst f4_; subst f5_))
          refine hK.out _ _ trivial (fun hHeld => ?_)
          clear hK K
          refine norm_ (a' := ?_) ?_ ?_
          rotate_left
          ·show Act.put _ (some 8) _ = _
           simp only [Act.put, Z0, Z1, Z2, i64_w, i32_w]
           rfl
          refine pure_ (i := 9) (N := some 13) (v := ?_) (a' := ?_) #[true, true, true, true, true, true, true, true, true, true, false, false] rfl rfl (any_of HT_.out (by kernel_rfl)) (fun _ _ _ h => h) (Or.inl ⟨by rfl, ?_⟩) ?_ ?_
          rotate_left
          ·intro w'
           go_simp
           with_reducible rfl
          rotate_left
          ·simp only [Act.put, Z0, Z1, Z2, i64_w, i32_w]
           rfl
          exact norm_ (by first | (simp only [putAll, Act.put, Z0, Z1, Z2]; done) | (simp only [putAll, Act.put, Z0, Z1, Z2]; rfl)) (hJ1_4_8 (.slice Ao15 t112.length co15, .slice Ao14 y115.length co14, .slice Ao13 t118.length co13) _ ⟨(by (with_reducible repeat (first | apply Z9 | apply Z10 | apply Z11)); exact Z12 HO114.out (fun _ hk => ⟨hk.2, hk.1⟩)), (by (with_reducible repeat (first | apply Z9 | apply Z10 | apply Z11)); exact Z12 HO117.out (fun _ hk => ⟨hk.1.2, hk.2⟩)), (by (with_reducible repeat (first | apply Z9 | apply Z10 | apply Z11)); exact HO120.out), (by (with_reducible repeat (first | refine Z26 ?_ _ | refine Z27 ?_ | refine Z28 ?_ _)); exact BK111.out), (by repeat (first | (with_reducible first | exact HB.out | apply Z5 | apply Z3 | apply Z4 | refine Z6 ?_ GE111.out) | exact HB.out))⟩)
         ·skip
          refine box_step ?hg (N := 3) ?hd (cs := #[.slice none 0 0, .slice none 0 0, .slice none 0 0, .slice none 0 0]) (t := 29) ?hr ?_; (case hd => rfl); (case hg => rfl); (case hr => first | (go_simp; done) | (go_simp; rfl))
          intro gb121 hg w11 hbox hb
          have n0_ := Aside0.mk (Z14 (by (with_reducible repeat (first | apply Z9 | apply Z10 | apply Z11)); exact HO114.out) hb)
          have n1_ := Aside0.mk (Z14 (by (with_reducible repeat (first | apply Z9 | apply Z10 | apply Z11)); exact HO120.out) hb)
          have n2_ := Aside0.mk (Z29 (g := gb111) (o := .cells #[.slice none 0 0, .slice none 0 0, .slice none 0 0, .slice none 0 0] 29 (0, 0)) (by (with_reducible repeat (first | refine Z26 ?_ _ | refine Z27 ?_ | refine Z28 ?_ _)); exact BK111.out) hb)
          have n3_ := Aside0.mk (Z8 (by repeat (first | (with_reducible first | exact HB.out | apply Z5 | apply Z3 | apply Z4 | refine Z6 ?_ GE111.out) | exact HB.out)) hb)
          have n4_ := Aside0.mk (hbox)
          have n5_ := Aside0.mk ((by rw [hg]; exact (Z7 (by repeat (first | (with_reducible first | exact HB.out | apply Z5 | apply Z3 | apply Z4 | refine Z6 ?_ GE111.out) | exact HB.out))) : w.heap.size ≤ gb121))
          have n6_ := Aside0.mk ((by rw [hg]; exact (Z7 (by repeat (first | (with_reducible first | exact HB.out | apply Z5 | apply Z3 | apply Z4 | refine Z6 ?_ GE111.out) | exact HB.out))) : w.heap.size ≤ gb121))
          have n7_ := Aside0.mk ((by rw [hg]; exact Nat.ne_of_lt (blk_lt (g := gb111) (o := .cells #[.slice none 0 0, .slice none 0 0, .slice none 0 0, .slice none 0 0] 29 (0, 0)) (by (with_reducible repeat (first | refine Z26 ?_ _ | refine Z27 ?_ | refine Z28 ?_ _)); exact BK111.out)) : gb111 ≠ gb121))
          have n8_ := Aside0.mk ((by rw [hg]; exact Nat.ne_of_gt (blk_lt (g := gb111) (o := .cells #[.slice none 0 0, .slice none 0 0, .slice none 0 0, .slice none 0 0] 29 (0, 0)) (by (with_reducible repeat (first | refine Z26 ?_ _ | refine Z27 ?_ | refine Z28 ?_ _)); exact BK111.out)) : gb121 ≠ gb111))
          clear HO114
          clear HO120
          clear BK111
          clear HB
          have HO114 := n0_
          have HO120 := n1_
          have BK111 := n2_
          have HB := n3_
          have BK121 := n4_
          have GW121 := n5_
          have GE121 := n6_
          have NB111_121 := n7_
          have NB121_111 := n8_
          clear n0_ n1_ n2_ n3_ n4_ n5_ n6_ n7_ n8_
          clear hb hbox hg
          refine hK.out _ _ trivial (fun hHeld => ?_)
          clear hK K
          refine norm_ (a' := ?_) ?_ ?_
          rotate_left
          ·show Act.put _ (some 3) _ = _
           simp only [Act.put, Z0, Z1, Z2, i64_w, i32_w]
           rfl
          exact norm_ (by first | (simp only [putAll, Act.put, Z0, Z1, Z2]; done) | (simp only [putAll, Act.put, Z0, Z1, Z2]; rfl)) (hJ1_8_10 (v113, v119, gb121) _ ⟨(by (with_reducible repeat (first | apply Z9 | apply Z10 | apply Z11)); exact HO114.out), (by (with_reducible repeat (first | apply Z9 | apply Z10 | apply Z11)); exact HO120.out), (by (with_reducible repeat (first | refine Z26 ?_ _ | refine Z27 ?_ | refine Z28 ?_ _)); exact BK111.out), (by (with_reducible repeat (first | refine Z26 ?_ _ | refine Z27 ?_ | refine Z28 ?_ _)); exact BK121.out), GW121.out, GE121.out, NB111_121.out, NB121_111.out, (by repeat (first | (with_reducible first | exact HB.out | apply Z5 | apply Z3 | apply Z4 | refine Z6 ?_ GE111.out | refine Z6 ?_ GE121.out) | exact HB.out))⟩)
       ·skip
        rintro ⟨v113, v116⟩ w11 ⟨h0_, h1_, h2_, h3_⟩
        have n0_ : Aside0 (Kd.R (Kd.int .i64) 3 w11 w.heap.size (fun k_ => some k_ ≠ (v116 : Value).ownBlock) v113 t112) := ⟨h0_⟩
        have n1_ : Aside0 (Kd.R (Kd.int .i64) 3 w11 w.heap.size (fun k_ => some k_ ≠ (v113 : Value).ownBlock) v116 y115) := ⟨h1_⟩
        have n2_ : Aside0 (w11.heap[gb111]? = some (.cells #[.slice none 0 0, .slice none 0 0, .slice none 0 0, .slice none 0 0] 29 (0, 0))) := ⟨h2_⟩
        have n3_ : Aside0 (Below w.heap.size w w11) := ⟨h3_⟩
        clear BK111
        clear HB
        clear h0_ h1_ h2_ h3_
        have HO114 := n0_
        have HO117 := n1_
        have BK111 := n2_
        have HB := n3_
        clear n0_ n1_ n2_ n3_
        have hHeld := trivial
        refine norm_ (a' := ?_) ?_ ?_
        rotate_left
        ·simp only [putAll, Act.put, Z0, Z1, Z2]
         rfl
        refine two_ (i := 8) (j := 10) (Ni := some 12) (Nj := some 3) #[true, true, true, true, true, true, true, true, true, false, false, false] #[true, true, true, true, true, true, true, true, false, false, true, false] rfl rfl rfl rfl (two_of HT_.out (by kernel_rfl)) (by decide) (by decide) (fun K hK => ?_) (fun K hK => ?_)
        ·skip
         refine goes_ Try.func85 (by kernel_rfl) rfl #[.int .i64 (wrap64 ((l0.length : Int) + 1))] (by rfl) rfl rfl (by (try simp only [Z34, Z35, Z36]); first | done | rfl | (simp only [Z32, Z33]; rfl)) ?_
         with_reducible refine (spec_raUpTo.calls k (wrap64 ((l0.length : Int) + 1)) t118 _ A5.out).mono ?_
         rintro e w12 ⟨v119, rfl, ho0, hb⟩
         refine ⟨_, rfl, ?_⟩
         have n0_ := Aside0.mk (Kd.R_elder' (by (with_reducible repeat (first | apply Z9 | apply Z10 | apply Z11)); exact HO114.out) (Kd.R_base ho0) hb)
         have n1_ := Aside0.mk (Kd.R_elder' (by (with_reducible repeat (first | apply Z9 | apply Z10 | apply Z11)); exact HO117.out) (Kd.R_base ho0) hb)
         have n2_ := Aside0.mk (Kd.R_lower (Kd.R_new' (Kd.R_new' ho0 (Z18 (by (with_reducible repeat (first | apply Z9 | apply Z10 | apply Z11)); exact HO114.out))) (Z18 (by (with_reducible repeat (first | apply Z9 | apply Z10 | apply Z11)); exact HO117.out))) (Z7 (by repeat (first | (with_reducible first | exact HB.out | apply Z5 | apply Z3 | apply Z4 | refine Z6 ?_ GE111.out) | exact HB.out))))
         have n3_ := Aside0.mk (Z29 (g := gb111) (o := .cells #[.slice none 0 0, .slice none 0 0, .slice none 0 0, .slice none 0 0] 29 (0, 0)) (by (with_reducible repeat (first | refine Z26 ?_ _ | refine Z27 ?_ | refine Z28 ?_ _)); exact BK111.out) hb)
         have n4_ := Aside0.mk (Z8 (by repeat (first | (with_reducible first | exact HB.out | apply Z5 | apply Z3 | apply Z4 | refine Z6 ?_ GE111.out) | exact HB.out)) hb)
         clear HO114
         clear HO117
         clear BK111
         clear HB
         have HO114 := n0_
         have HO117 := n1_
         have HO120 := n2_
         have BK111 := n3_
         have HB := n4_
         clear n0_ n1_ n2_ n3_ n4_
         (try clear hb)
         (try clear hb2)
         (try clear hk)
         (try clear hi)
         (try clear ho0)
         obtain ⟨Ao13, co13, eo13⟩ := Z19 HO120.out
         (first | subst eo13 | (injection eo13 with f1_ f2_ f3_; have f4_ := f1_.symm; have f5_ := f3_.symm; clear f1_ f2_ f3_; subst f4_; subst f5_))
         obtain ⟨Ao14, co14, eo14⟩ := Z19 HO117.out
         (first | subst eo14 | (injection eo14 with f1_ f2_ f3_; have f4_ := f1_.symm; have f5_ := f3_.symm; clear f1_ f2_ f3_; subst f4_; subst f5_))
         obtain ⟨Ao15, co15, eo15⟩ := Z19 HO114.out
         (first | subst eo15 | (injection eo15 with f1_ f2_ f3_; have f4_ := f1_.symm; have f5_ := f3_.symm; clear f1_ f2_ f3_; subst f4_; subst f5_))
         refine hK.out _ _ trivial (fun hHeld => ?_)
         clear hK K
         refine norm_ (a' := ?_) ?_ ?_
         rotate_left
         ·show Act.put _ (some 12) _ = _
          simp only [Act.put, Z0, Z1, Z2, i64_w, i32_w]
          rfl
         refine pure_ (i := 9) (N := some 13) (v := ?_) (a' := ?_) #[true, true, true, true, true, true, true, true, true, true, false, false] rfl rfl (any_of HT_.out (by kernel_rfl)) (fun _ _ _ h => h) (Or.inl ⟨by rfl, ?_⟩) ?_ ?_
         rotate_left
         ·intro w'
          go_simp
          with_reducible rfl
         rotate_left
         ·simp only [Act.put, Z0, Z1, Z2, i64_w, i32_w]
          rfl
         exact norm_ (by first | (simp only [putAll, Act.put, Z0, Z1, Z2]; done) | (simp only [putAll, Act.put, Z0, Z1, Z2]; rfl)) (hJ1_4_8 (.slice Ao15 t112.length co15, .slice Ao14 y115.length co14, .slice Ao13 t118.length co13) _ ⟨(by (with_reducible repeat (first | apply Z9 | apply Z10 | apply Z11)); exact HO114.out), (by (with_reducible repeat (first | apply Z9 | apply Z10 | apply Z11)); exact HO117.out), (by (with_reducible repeat (first | apply Z9 | apply Z10 | apply Z11)); exact Z12 HO120.out (fun _ hk => ⟨hk.1.2, hk.2⟩)), (by (with_reducible repeat (first | refine Z26 ?_ _ | refine Z27 ?_ | refine Z28 ?_ _)); exact BK111.out), (by repeat (first | (with_reducible first | exact HB.out | apply Z5 | apply Z3 | apply Z4 | refine Z6 ?_ GE111.out) | exact HB.out))⟩)
        ·skip
         refine box_step ?hg (N := 3) ?hd (cs := #[.slice none 0 0, .slice none 0 0, .slice none 0 0, .slice none 0 0]) (t := 29) ?hr ?_; (case hd => rfl); (case hg => rfl); (case hr => first | (go_simp; done) | (go_simp; rfl))
         intro gb121 hg w12 hbox hb
         have n0_ := Aside0.mk (Z14 (by (with_reducible repeat (first | apply Z9 | apply Z10 | apply Z11)); exact HO114.out) hb)
         have n1_ := Aside0.mk (Z14 (by (with_reducible repeat (first | apply Z9 | apply Z10 | apply Z11)); exact HO117.out) hb)
         have n2_ := Aside0.mk (Z29 (g := gb111) (o := .cells #[.slice none 0 0, .slice none 0 0, .slice none 0 0, .slice none 0 0] 29 (0, 0)) (by (with_reducible repeat (first | refine Z26 ?_ _ | refine Z27 ?_ | refine Z28 ?_ _)); exact BK111.out) hb)
         have n3_ := Aside0.mk (Z8 (by repeat (first | (with_reducible first | exact HB.out | apply Z5 | apply Z3 | apply Z4 | refine Z6 ?_ GE111.out) | exact HB.out)) hb)
         have n4_ := Aside0.mk (hbox)
         have n5_ := Aside0.mk ((by rw [hg]; exact (Z7 (by repeat (first | (with_reducible first | exact HB.out | apply Z5 | apply Z3 | apply Z4 | refine Z6 ?_ GE111.out) | exact HB.out))) : w.heap.size ≤ gb121))
         have n6_ := Aside0.mk ((by rw [hg]; exact (Z7 (by repeat (first | (with_reducible first | exact HB.out | apply Z5 | apply Z3 | apply Z4 | refine Z6 ?_ GE111.out) | exact HB.out))) : w.heap.size ≤ gb121))
         have n7_ := Aside0.mk ((by rw [hg]; exact Nat.ne_of_lt (blk_lt (g := gb111) (o := .cells #[.slice none 0 0, .slice none 0 0, .slice none 0 0, .slice none 0 0] 29 (0, 0)) (by (with_reducible repeat (first | refine Z26 ?_ _ | refine Z27 ?_ | refine Z28 ?_ _)); exact BK111.out)) : gb111 ≠ gb121))
         have n8_ := Aside0.mk ((by rw [hg]; exact Nat.ne_of_gt (blk_lt (g := gb111) (o := .cells #[.slice none 0 0, .slice none 0 0, .slice none 0 0, .slice none 0 0] 29 (0, 0)) (by (with_reducible repeat (first | refine Z26 ?_ _ | refine Z27 ?_ | refine Z28 ?_ _)); exact BK111.out)) : gb121 ≠ gb111))
         clear HO114
         clear HO117
         clear BK111
         clear HB
         have HO114 := n0_
         have HO117 := n1_
         have BK111 := n2_
         have HB := n3_
         have BK121 := n4_
         have GW121 := n5_
         have GE121 := n6_
         have NB111_121 := n7_
         have NB121_111 := n8_
         clear n0_ n1_ n2_ n3_ n4_ n5_ n6_ n7_ n8_
         clear hb hbox hg
         refine hK.out _ _ trivial (fun hHeld => ?_)
         clear hK K
         refine norm_ (a' := ?_) ?_ ?_
         rotate_left
         ·show Act.put _ (some 3) _ = _
          simp only [Act.put, Z0, Z1, Z2, i64_w, i32_w]
          rfl
         exact norm_ (by first | (simp only [putAll, Act.put, Z0, Z1, Z2]; done) | (simp only [putAll, Act.put, Z0, Z1, Z2]; rfl)) (hJ1_4_10 (v113, v116, gb121) _ ⟨(by (with_reducible repeat (first | apply Z9 | apply Z10 | apply Z11)); exact HO114.out), (by (with_reducible repeat (first | apply Z9 | apply Z10 | apply Z11)); exact HO117.out), (by (with_reducible repeat (first | refine Z26 ?_ _ | refine Z27 ?_ | refine Z28 ?_ _)); exact BK111.out), (by (with_reducible repeat (first | refine Z26 ?_ _ | refine Z27 ?_ | refine Z28 ?_ _)); exact BK121.out), GW121.out, GE121.out, NB111_121.out, NB121_111.out, (by repeat (first | (with_reducible first | exact HB.out | apply Z5 | apply Z3 | apply Z4 | refine Z6 ?_ GE111.out | refine Z6 ?_ GE121.out) | exact HB.out))⟩)
      ·skip
       rintro ⟨v113, v119, gb121⟩ w11 ⟨h0_, h1_, h2_, h3_, h4_, h5_, h6_, h7_, h8_⟩
       have n0_ : Aside0 (Kd.R (Kd.int .i64) 3 w11 w.heap.size (fun k_ => some k_ ≠ (v119 : Value).ownBlock) v113 t112) := ⟨h0_⟩
       have n1_ : Aside0 (Kd.R (Kd.int .i64) 3 w11 w.heap.size (fun k_ => some k_ ≠ (v113 : Value).ownBlock) v119 t118) := ⟨h1_⟩
       have n2_ : Aside0 (w11.heap[gb111]? = some (.cells #[.slice none 0 0, .slice none 0 0, .slice none 0 0, .slice none 0 0] 29 (0, 0))) := ⟨h2_⟩
       have n3_ : Aside0 (w11.heap[gb121]? = some (.cells #[.slice none 0 0, .slice none 0 0, .slice none 0 0, .slice none 0 0] 29 (0, 0))) := ⟨h3_⟩
       have n4_ : Aside0 (w.heap.size ≤ gb121) := ⟨h4_⟩
       have n5_ : Aside0 (w.heap.size ≤ gb121) := ⟨h5_⟩
       have n6_ : Aside0 (gb111 ≠ gb121) := ⟨h6_⟩
       have n7_ : Aside0 (gb121 ≠ gb111) := ⟨h7_⟩
       have n8_ : Aside0 (Below w.heap.size w w11) := ⟨h8_⟩
       clear BK111
       clear HB
       clear h0_ h1_ h2_ h3_ h4_ h5_ h6_ h7_ h8_
       have HO114 := n0_
       have HO120 := n1_
       have BK111 := n2_
       have BK121 := n3_
       have GW121 := n4_
       have GE121 := n5_
       have NB111_121 := n6_
       have NB121_111 := n7_
       have HB := n8_
       clear n0_ n1_ n2_ n3_ n4_ n5_ n6_ n7_ n8_
       have hHeld := trivial
       refine norm_ (a' := ?_) ?_ ?_
       rotate_left
       ·simp only [putAll, Act.put, Z0, Z1, Z2]
        rfl
       refine one_ (i := 4) (N := some 8) #[true, true, true, true, true, true, true, true, true, false, true, false] rfl rfl (one_of HT_.out (by kernel_rfl)) (by decide) (fun K hK => ?_)
       refine Kd.R_make_step (Kd.int .i64) _ 3 (by rfl) (N := 8) rfl 22 _ _ rfl (l0.length : Int) rfl rfl Try.underlying22 (.int .i64 0) 8 info3 rfl (by decide) (by omega) 0 (ok := fun _ => True) (okp := fun _ => True) rfl (fun _ hk => hk) trivial (Z31 (by first | (with_reducible assumption) | assumption)) (Nat.le_trans (Nat.mul_le_mul_right _ (Z31 (by first | (with_reducible assumption) | assumption) : (l0.length : Int).toNat ≤ 35184372088832)) (by omega)) (Below.refl _ _) (Nat.le_refl _) ?_
       intro v116 w12 ho13 hb hg_ hnew_
       clear hg_ hnew_
       (first | rw [← Ny115.out] at ho13 | (simp only [Int.reduceToNat] at ho13; rw [← Ny115.out] at ho13))
       have n0_ := Aside0.mk (Kd.R_elder' (by (with_reducible repeat (first | apply Z9 | apply Z10 | apply Z11)); exact HO114.out) (Kd.R_base ho13) hb)
       have n1_ := Aside0.mk (Kd.R_elder' (by (with_reducible repeat (first | apply Z9 | apply Z10 | apply Z11)); exact HO120.out) (Kd.R_base ho13) hb)
       have n2_ := Aside0.mk (Kd.R_lower (Kd.R_new' (Kd.R_new' ho13 (Z18 (by (with_reducible repeat (first | apply Z9 | apply Z10 | apply Z11)); exact HO114.out))) (Z18 (by (with_reducible repeat (first | apply Z9 | apply Z10 | apply Z11)); exact HO120.out))) (Z7 (by repeat (first | (with_reducible first | exact HB.out | apply Z5 | apply Z3 | apply Z4 | refine Z6 ?_ GE111.out | refine Z6 ?_ GE121.out) | exact HB.out))))
       have n3_ := Aside0.mk (Z29 (g := gb111) (o := .cells #[.slice none 0 0, .slice none 0 0, .slice none 0 0, .slice none 0 0] 29 (0, 0)) (by (with_reducible repeat (first | refine Z26 ?_ _ | refine Z27 ?_ | refine Z28 ?_ _)); exact BK111.out) hb)
       have n4_ := Aside0.mk (Z29 (g := gb121) (o := .cells #[.slice none 0 0, .slice none 0 0, .slice none 0 0, .slice none 0 0] 29 (0, 0)) (by (with_reducible repeat (first | refine Z26 ?_ _ | refine Z27 ?_ | refine Z28 ?_ _)); exact BK121.out) hb)
       have n5_ := Aside0.mk (Z8 (by repeat (first | (with_reducible first | exact HB.out | apply Z5 | apply Z3 | apply Z4 | refine Z6 ?_ GE111.out | refine Z6 ?_ GE121.out) | exact HB.out)) hb)
       clear HO114
       clear HO120
       clear BK111
       clear BK121
       clear HB
       have HO114 := n0_
       have HO120 := n1_
       have HO117 := n2_
       have BK111 := n3_
       have BK121 := n4_
       have HB := n5_
       clear n0_ n1_ n2_ n3_ n4_ n5_
       clear hb ho13
       obtain ⟨Ao14, co14, eo14⟩ := Z19 HO120.out
       (first | subst eo14 | (injection eo14 with f1_ f2_ f3_; have f4_ := f1_.symm; have f5_ := f3_.symm; clear f1_ f2_ f3_; subst f4_; subst f5_))
       obtain ⟨Ao15, co15, eo15⟩ := Z19 HO117.out
       (first | subst eo15 | (injection eo15 with f1_ f2_ f3_; have f4_ := f1_.symm; have f5_ := f3_.symm; clear f1_ f2_ f3_; subst f4_; subst f5_))
       obtain ⟨Ao16, co16, eo16⟩ := Z19 HO114.out
       (first | subst eo16 | (injection eo16 with f1_ f2_ f3_; have f4_ := f1_.symm; have f5_ := f3_.symm; clear f1_ f2_ f3_; subst f4_; subst f5_))
       refine hK.out _ _ trivial (fun hHeld => ?_)
       clear hK K
       refine norm_ (a' := ?_) ?_ ?_
       rotate_left
       ·show Act.put _ (some 8) _ = _
        simp only [Act.put, Z0, Z1, Z2, i64_w, i32_w]
        rfl
       refine pure_ (i := 9) (N := some 13) (v := ?_) (a' := ?_) #[true, true, true, true, true, true, true, true, true, true, true, false] rfl rfl (any_of HT_.out (by kernel_rfl)) (fun _ _ _ h => h) (Or.inl ⟨by rfl, ?_⟩) ?_ ?_
       rotate_left
       ·intro w'
        go_simp
        with_reducible rfl
       rotate_left
       ·simp only [Act.put, Z0, Z1, Z2, i64_w, i32_w]
        rfl
       exact norm_ (by first | (simp only [putAll, Act.put, Z0, Z1, Z2]; done) | (simp only [putAll, Act.put, Z0, Z1, Z2]; rfl)) (hJ1_4_8_10 (.slice Ao16 t112.length co16, .slice Ao15 y115.length co15, .slice Ao14 t118.length co14, gb121) _ ⟨(by (with_reducible repeat (first | apply Z9 | apply Z10 | apply Z11)); exact Z12 HO114.out (fun _ hk => ⟨hk.2, hk.1⟩)), (by (with_reducible repeat (first | apply Z9 | apply Z10 | apply Z11)); exact Z12 HO117.out (fun _ hk => ⟨hk.1.2, hk.2⟩)), (by (with_reducible repeat (first | apply Z9 | apply Z10 | apply Z11)); exact HO120.out), (by (with_reducible repeat (first | refine Z26 ?_ _ | refine Z27 ?_ | refine Z28 ?_ _)); exact BK111.out), (by (with_reducible repeat (first | refine Z26 ?_ _ | refine Z27 ?_ | refine Z28 ?_ _)); exact BK121.out), GW121.out, GE121.out, NB111_121.out, NB121_111.out, (by repeat (first | (with_reducible first | exact HB.out | apply Z5 | apply Z3 | apply Z4 | refine Z6 ?_ GE111.out | refine Z6 ?_ GE121.out) | exact HB.out))⟩)
     ·skip
      rintro ⟨v113, v116, gb121⟩ w12 ⟨h0_, h1_, h2_, h3_, h4_, h5_, h6_, h7_, h8_⟩
      have n0_ : Aside0 (Kd.R (Kd.int .i64) 3 w12 w.heap.size (fun k_ => some k_ ≠ (v116 : Value).ownBlock) v113 t112) := ⟨h0_⟩
      have n1_ : Aside0 (Kd.R (Kd.int .i64) 3 w12 w.heap.size (fun k_ => some k_ ≠ (v113 : Value).ownBlock) v116 y115) := ⟨h1_⟩
      have n2_ : Aside0 (w12.heap[gb111]? = some (.cells #[.slice none 0 0, .slice none 0 0, .slice none 0 0, .slice none 0 0] 29 (0, 0))) := ⟨h2_⟩
      have n3_ : Aside0 (w12.heap[gb121]? = some (.cells #[.slice none 0 0, .slice none 0 0, .slice none 0 0, .slice none 0 0] 29 (0, 0))) := ⟨h3_⟩
      have n4_ : Aside0 (w.heap.size ≤ gb121) := ⟨h4_⟩
      have n5_ : Aside0 (w.heap.size ≤ gb121) := ⟨h5_⟩
      have n6_ : Aside0 (gb111 ≠ gb121) := ⟨h6_⟩
      have n7_ : Aside0 (gb121 ≠ gb111) := ⟨h7_⟩
      have n8_ : Aside0 (Below w.heap.size w w12) := ⟨h8_⟩
      clear BK111
      clear HB
      clear h0_ h1_ h2_ h3_ h4_ h5_ h6_ h7_ h8_
      have HO114 := n0_
      have HO117 := n1_
      have BK111 := n2_
      have BK121 := n3_
      have GW121 := n4_
      have GE121 := n5_
      have NB111_121 := n6_
      have NB121_111 := n7_
      have HB := n8_
      clear n0_ n1_ n2_ n3_ n4_ n5_ n6_ n7_ n8_
      have hHeld := trivial
      refine norm_ (a' := ?_) ?_ ?_
      rotate_left
      ·simp only [putAll, Act.put, Z0, Z1, Z2]
       rfl
      refine one_ (i := 8) (N := some 12) #[true, true, true, true, true, true, true, true, true, false, true, false] rfl rfl (one_of HT_.out (by kernel_rfl)) (by decide) (fun K hK => ?_)
      refine goes_ Try.func85 (by kernel_rfl) rfl #[.int .i64 (wrap64 ((l0.length : Int) + 1))] (by rfl) rfl rfl (by (try simp only [Z34, Z35, Z36]); first | done | rfl | (simp only [Z32, Z33]; rfl)) ?_
      with_reducible refine (spec_raUpTo.calls k (wrap64 ((l0.length : Int) + 1)) t118 _ A5.out).mono ?_
      rintro e w13 ⟨v119, rfl, ho0, hb⟩
      refine ⟨_, rfl, ?_⟩
      have n0_ := Aside0.mk (Kd.R_elder' (by (with_reducible repeat (first | apply Z9 | apply Z10 | apply Z11)); exact HO114.out) (Kd.R_base ho0) hb)
      have n1_ := Aside0.mk (Kd.R_elder' (by (with_reducible repeat (first | apply Z9 | apply Z10 | apply Z11)); exact HO117.out) (Kd.R_base ho0) hb)
      have n2_ := Aside0.mk (Kd.R_lower (Kd.R_new' (Kd.R_new' ho0 (Z18 (by (with_reducible repeat (first | apply Z9 | apply Z10 | apply Z11)); exact HO114.out))) (Z18 (by (with_reducible repeat (first | apply Z9 | apply Z10 | apply Z11)); exact HO117.out))) (Z7 (by repeat (first | (with_reducible first | exact HB.out | apply Z5 | apply Z3 | apply Z4 | refine Z6 ?_ GE111.out | refine Z6 ?_ GE121.out) | exact HB.out))))
      have n3_ := Aside0.mk (Z29 (g := gb111) (o := .cells #[.slice none 0 0, .slice none 0 0, .slice none 0 0, .slice none 0 0] 29 (0, 0)) (by (with_reducible repeat (first | refine Z26 ?_ _ | refine Z27 ?_ | refine Z28 ?_ _)); exact BK111.out) hb)
      have n4_ := Aside0.mk (Z29 (g := gb121) (o := .cells #[.slice none 0 0, .slice none 0 0, .slice none 0 0, .slice none 0 0] 29 (0, 0)) (by (with_reducible repeat (first | refine Z26 ?_ _ | refine Z27 ?_ | refine Z28 ?_ _)); exact BK121.out) hb)
      have n5_ := Aside0.mk (Z8 (by repeat (first | (with_reducible first | exact HB.out | apply Z5 | apply Z3 | apply Z4 | refine Z6 ?_ GE111.out | refine Z6 ?_ GE121.out) | exact HB.out)) hb)
      clear HO114
      clear HO117
      clear BK111
      clear BK121
      clear HB
      have HO114 := n0_
      have HO117 := n1_
      have HO120 := n2_
      have BK111 := n3_
      have BK121 := n4_
      have HB := n5_
      clear n0_ n1_ n2_ n3_ n4_ n5_
      (try clear hb)
      (try clear hb2)
      (try clear hk)
      (try clear hi)
      (try clear ho0)
      obtain ⟨Ao14, co14, eo14⟩ := Z19 HO120.out
      (first | subst eo14 | (injection eo14 with f1_ f2_ f3_; have f4_ := f1_.symm; have f5_ := f3_.symm; clear f1_ f2_ f3_; subst f4_; subst f5_))
      obtain ⟨Ao15, co15, eo15⟩ := Z19 HO117.out
      (first | subst eo15 | (injection eo15 with f1_ f2_ f3_; have f4_ := f1_.symm; have f5_ := f3_.symm; clear f1_ f2_ f3_; subst f4_; subst f5_))
      obtain ⟨Ao16, co16, eo16⟩ := Z19 HO114.out
      (first | subst eo16 | (injection eo16 with f1_ f2_ f3_; have f4_ := f1_.symm; have f5_ := f3_.symm; clear f1_ f2_ f3_; subst f4_; subst f5_))
      refine hK.out _ _ trivial (fun hHeld => ?_)
      clear hK K
      refine norm_ (a' := ?_) ?_ ?_
      rotate_left
      ·show Act.put _ (some 12) _ = _
       simp only [Act.put, Z0, Z1, Z2, i64_w, i32_w]
       rfl
      refine pure_ (i := 9) (N := some 13) (v := ?_) (a' := ?_) #[true, true, true, true, true, true, true, true, true, true, true, false] rfl rfl (any_of HT_.out (by kernel_rfl)) (fun _ _ _ h => h) (Or.inl ⟨by rfl, ?_⟩) ?_ ?_
      rotate_left
      ·intro w'
       go_simp
       with_reducible rfl
      rotate_left
      ·simp only [Act.put, Z0, Z1, Z2, i64_w, i32_w]
       rfl
      exact norm_ (by first | (simp only [putAll, Act.put, Z0, Z1, Z2]; done) | (simp only [putAll, Act.put, Z0, Z1, Z2]; rfl)) (hJ1_4_8_10 (.slice Ao16 t112.length co16, .slice Ao15 y115.length co15, .slice Ao14 t118.length co14, gb121) _ ⟨(by (with_reducible repeat (first | apply Z9 | apply Z10 | apply Z11)); exact HO114.out), (by (with_reducible repeat (first | apply Z9 | apply Z10 | apply Z11)); exact HO117.out), (by (with_reducible repeat (first | apply Z9 | apply Z10 | apply Z11)); exact Z12 HO120.out (fun _ hk => ⟨hk.1.2, hk.2⟩)), (by (with_reducible repeat (first | refine Z26 ?_ _ | refine Z27 ?_ | refine Z28 ?_ _)); exact BK111.out), (by (with_reducible repeat (first | refine Z26 ?_ _ | refine Z27 ?_ | refine Z28 ?_ _)); exact BK121.out), GW121.out, GE121.out, NB111_121.out, NB121_111.out, (by repeat (first | (with_reducible first | exact HB.out | apply Z5 | apply Z3 | apply Z4 | refine Z6 ?_ GE111.out | refine Z6 ?_ GE121.out) | exact HB.out))⟩)
    ·skip
     rintro ⟨v113, v116, v119⟩ w15 ⟨h0_, h1_, h2_, h3_, h4_⟩
     have n0_ : Aside0 (Kd.R (Kd.int .i64) 3 w15 w.heap.size (fun k_ => some k_ ≠ (v116 : Value).ownBlock ∧ some k_ ≠ (v119 : Value).ownBlock) v113 t112) := ⟨h0_⟩
     have n1_ : Aside0 (Kd.R (Kd.int .i64) 3 w15 w.heap.size (fun k_ => some k_ ≠ (v113 : Value).ownBlock ∧ some k_ ≠ (v119 : Value).ownBlock) v116 y115) := ⟨h1_⟩
     have n2_ : Aside0 (Kd.R (Kd.int .i64) 3 w15 w.heap.size (fun k_ => some k_ ≠ (v113 : Value).ownBlock ∧ some k_ ≠ (v116 : Value).ownBlock) v119 t118) := ⟨h2_⟩
     have n3_ : Aside0 (w15.heap[gb111]? = some (.cells #[.slice none 0 0, .slice none 0 0, .slice none 0 0, .slice none 0 0] 29 (0, 0))) := ⟨h3_⟩
     have n4_ : Aside0 (Below w.heap.size w w15) := ⟨h4_⟩
     clear BK111
     clear HB
     clear h0_ h1_ h2_ h3_ h4_
     have HO114 := n0_
     have HO117 := n1_
     have HO120 := n2_
     have BK111 := n3_
     have HB := n4_
     clear n0_ n1_ n2_ n3_ n4_
     have hHeld := trivial
     obtain ⟨Ao16, co16, eo16⟩ := Z19 HO120.out
     (first | subst eo16 | (injection eo16 with f1_ f2_ f3_; have f4_ := f1_.symm; have f5_ := f3_.symm; clear f1_ f2_ f3_; subst f4_; subst f5_))
     obtain ⟨Ao17, co17, eo17⟩ := Z19 HO117.out
     (first | subst eo17 | (injection eo17 with f1_ f2_ f3_; have f4_ := f1_.symm; have f5_ := f3_.symm; clear f1_ f2_ f3_; subst f4_; subst f5_))
     obtain ⟨Ao18, co18, eo18⟩ := Z19 HO114.out
     (first | subst eo18 | (injection eo18 with f1_ f2_ f3_; have f4_ := f1_.symm; have f5_ := f3_.symm; clear f1_ f2_ f3_; subst f4_; subst f5_))
     refine norm_ (a' := ?_) ?_ ?_
     rotate_left
     ·simp only [putAll, Act.put, Z0, Z1, Z2]
      rfl
     refine one_ (i := 10) (N := some 3) #[true, true, true, true, true, true, true, true, true, true, true, false] rfl rfl (one_of HT_.out (by kernel_rfl)) (by decide) (fun K hK => ?_)
     refine box_step ?hg (N := 3) ?hd (cs := #[.slice none 0 0, .slice none 0 0, .slice none 0 0, .slice none 0 0]) (t := 29) ?hr ?_; (case hd => rfl); (case hg => rfl); (case hr => first | (go_simp; done) | (go_simp; rfl))
     intro gb121 hg w19 hbox hb
     have n0_ := Aside0.mk (Z14 (by (with_reducible repeat (first | apply Z9 | apply Z10 | apply Z11)); exact HO114.out) hb)
     have n1_ := Aside0.mk (Z14 (by (with_reducible repeat (first | apply Z9 | apply Z10 | apply Z11)); exact HO117.out) hb)
     have n2_ := Aside0.mk (Z14 (by (with_reducible repeat (first | apply Z9 | apply Z10 | apply Z11)); exact HO120.out) hb)
     have n3_ := Aside0.mk (Z29 (g := gb111) (o := .cells #[.slice none 0 0, .slice none 0 0, .slice none 0 0, .slice none 0 0] 29 (0, 0)) (by (with_reducible repeat (first | refine Z26 ?_ _ | refine Z27 ?_ | refine Z28 ?_ _)); exact BK111.out) hb)
     have n4_ := Aside0.mk (Z8 (by repeat (first | (with_reducible first | exact HB.out | apply Z5 | apply Z3 | apply Z4 | refine Z6 ?_ GE111.out) | exact HB.out)) hb)
     have n5_ := Aside0.mk (hbox)
     have n6_ := Aside0.mk ((by rw [hg]; exact (Z7 (by repeat (first | (with_reducible first | exact HB.out | apply Z5 | apply Z3 | apply Z4 | refine Z6 ?_ GE111.out) | exact HB.out))) : w.heap.size ≤ gb121))
     have n7_ := Aside0.mk ((by rw [hg]; exact (Z7 (by repeat (first | (with_reducible first | exact HB.out | apply Z5 | apply Z3 | apply Z4 | refine Z6 ?_ GE111.out) | exact HB.out))) : w.heap.size ≤ gb121))
     have n8_ := Aside0.mk ((by rw [hg]; exact Nat.ne_of_lt (blk_lt (g := gb111) (o := .cells #[.slice none 0 0, .slice none 0 0, .slice none 0 0, .slice none 0 0] 29 (0, 0)) (by (with_reducible repeat (first | refine Z26 ?_ _ | refine Z27 ?_ | refine Z28 ?_ _)); exact BK111.out)) : gb111 ≠ gb121))
     have n9_ := Aside0.mk ((by rw [hg]; exact Nat.ne_of_gt (blk_lt (g := gb111) (o := .cells #[.slice none 0 0, .slice none 0 0, .slice none 0 0, .slice none 0 0] 29 (0, 0)) (by (with_reducible repeat (first | refine Z26 ?_ _ | refine Z27 ?_ | refine Z28 ?_ _)); exact BK111.out)) : gb121 ≠ gb111))
     clear HO114
     clear HO117
     clear HO120
     clear BK111
     clear HB
     have HO114 := n0_
     have HO117 := n1_
     have HO120 := n2_
     have BK111 := n3_
     have HB := n4_
     have BK121 := n5_
     have GW121 := n6_
     have GE121 := n7_
     have NB111_121 := n8_
     have NB121_111 := n9_
     clear n0_ n1_ n2_ n3_ n4_ n5_ n6_ n7_ n8_ n9_
     clear hb hbox hg
     refine hK.out _ _ trivial (fun hHeld => ?_)
     clear hK K
     refine norm_ (a' := ?_) ?_ ?_
     rotate_left
     ·show Act.put _ (some 3) _ = _
      simp only [Act.put, Z0, Z1, Z2, i64_w, i32_w]
      rfl
     exact norm_ (by first | (simp only [putAll, Act.put, Z0, Z1, Z2]; done) | (simp only [putAll, Act.put, Z0, Z1, Z2]; rfl)) (hJ1_4_8_10 (.slice Ao18 t112.length co18, .slice Ao17 y115.length co17, .slice Ao16 t118.length co16, gb121) _ ⟨(by (with_reducible repeat (first | apply Z9 | apply Z10 | apply Z11)); exact HO114.out), (by (with_reducible repeat (first | apply Z9 | apply Z10 | apply Z11)); exact HO117.out), (by (with_reducible repeat (first | apply Z9 | apply Z10 | apply Z11)); exact HO120.out), (by (with_reducible repeat (first | refine Z26 ?_ _ | refine Z27 ?_ | refine Z28 ?_ _)); exact BK111.out), (by (with_reducible repeat (first | refine Z26 ?_ _ | refine Z27 ?_ | refine Z28 ?_ _)); exact BK121.out), GW121.out, GE121.out, NB111_121.out, NB121_111.out, (by repeat (first | (with_reducible first | exact HB.out | apply Z5 | apply Z3 | apply Z4 | refine Z6 ?_ GE111.out | refine Z6 ?_ GE121.out) | exact HB.out))⟩)
   rintro ⟨v113, v116, v119, gb121⟩ w16 ⟨h0_, h1_, h2_, h3_, h4_, h5_, h6_, h7_, h8_, h9_⟩
   have n0_ : Aside0 (Kd.R (Kd.int .i64) 3 w16 w.heap.size (fun k_ => some k_ ≠ (v116 : Value).ownBlock ∧ some k_ ≠ (v119 : Value).ownBlock) v113 t112) := ⟨h0_⟩
   have n1_ : Aside0 (Kd.R (Kd.int .i64) 3 w16 w.heap.size (fun k_ => some k_ ≠ (v113 : Value).ownBlock ∧ some k_ ≠ (v119 : Value).ownBlock) v116 y115) := ⟨h1_⟩
   have n2_ : Aside0 (Kd.R (Kd.int .i64) 3 w16 w.heap.size (fun k_ => some k_ ≠ (v113 : Value).ownBlock ∧ some k_ ≠ (v116 : Value).ownBlock) v119 t118) := ⟨h2_⟩
   have n3_ : Aside0 (w16.heap[gb111]? = some (.cells #[.slice none 0 0, .slice none 0 0, .slice none 0 0, .slice none 0 0] 29 (0, 0))) := ⟨h3_⟩
   have n4_ : Aside0 (w16.heap[gb121]? = some (.cells #[.slice none 0 0, .slice none 0 0, .slice none 0 0, .slice none 0 0] 29 (0, 0))) := ⟨h4_⟩
   have n5_ : Aside0 (w.heap.size ≤ gb121) := ⟨h5_⟩
   have n6_ : Aside0 (w.heap.size ≤ gb121) := ⟨h6_⟩
   have n7_ : Aside0 (gb111 ≠ gb121) := ⟨h7_⟩
   have n8_ : Aside0 (gb121 ≠ gb111) := ⟨h8_⟩
   have n9_ : Aside0 (Below w.heap.size w w16) := ⟨h9_⟩
   clear BK111
   clear HB
   clear h0_ h1_ h2_ h3_ h4_ h5_ h6_ h7_ h8_ h9_
   have HO114 := n0_
   have HO117 := n1_
   have HO120 := n2_
   have BK111 := n3_
   have BK121 := n4_
   have GW121 := n5_
   have GE121 := n6_
   have NB111_121 := n7_
   have NB121_111 := n8_
   have HB := n9_
   clear n0_ n1_ n2_ n3_ n4_ n5_ n6_ n7_ n8_ n9_
   have hHeld := trivial
   obtain ⟨Ao17, co17, eo17⟩ := Z19 HO120.out
   (first | subst eo17 | (injection eo17 with f1_ f2_ f3_; have f4_ := f1_.symm; have f5_ := f3_.symm; clear f1_ f2_ f3_; subst f4_; subst f5_))
   obtain ⟨Ao18, co18, eo18⟩ := Z19 HO117.out
   (first | subst eo18 | (injection eo18 with f1_ f2_ f3_; have f4_ := f1_.symm; have f5_ := f3_.symm; clear f1_ f2_ f3_; subst f4_; subst f5_))
   obtain ⟨Ao19, co19, eo19⟩ := Z19 HO114.out
   (first | subst eo19 | (injection eo19 with f1_ f2_ f3_; have f4_ := f1_.symm; have f5_ := f3_.symm; clear f1_ f2_ f3_; subst f4_; subst f5_))
   refine norm_ (a' := ?_) ?_ ?_
   rotate_left
   ·simp only [putAll, Act.put, Z0, Z1, Z2]
    rfl
   refine one_ (i := 11) (N := none) #[true, true, true, true, true, true, true, true, true, true, true, true] rfl rfl (one_of HT_.out (by kernel_rfl)) (by decide) (fun K hK => ?_)
   have hs20 : w16.cell? ⟨gb121, 0, none⟩ = some (.slice none 0 0) := (Z24 BK121.out 0).trans rfl
   have hfs20 := Z25 BK121.out 0
   have hns20_0 := NB111_121.out
   have hms20_0 := NB121_111.out
   have hs21 : w16.cell? ⟨gb121, 1, none⟩ = some (.slice none 0 0) := (Z24 BK121.out 1).trans rfl
   have hfs21 := Z25 BK121.out 1
   have hns21_0 := NB111_121.out
   have hms21_0 := NB121_111.out
   have hs22 : w16.cell? ⟨gb121, 2, none⟩ = some (.slice none 0 0) := (Z24 BK121.out 2).trans rfl
   have hfs22 := Z25 BK121.out 2
   have hns22_0 := NB111_121.out
   have hms22_0 := NB121_111.out
   have hs23 : w16.cell? ⟨gb121, 3, none⟩ = some (.slice none 0 0) := (Z24 BK121.out 3).trans rfl
   have hfs23 := Z25 BK121.out 3
   have hns23_0 := NB111_121.out
   have hms23_0 := NB121_111.out
   refine skip_ (w1 := ?_) (by rfl) rfl ?_ ?_
   rotate_left
   ·go_simp
    rfl
   refine hK.out _ _ trivial (fun hHeld => ?_)
   clear hK K
   refine done_ (done_of HT_.out (by kernel_rfl)) ?_
   try go_wp2
   go_loopg [16] k (fun kq v16 w' => ∃ (x16_1 : Int) (x122002_1 : List Bool) (u122002 : Value), v16 = .int .i64 x16_1 ∧ Aside0 (spec_foStart.l0 kq (l0.length : Int) x16_1 t112 y115 x122002_1 t118 = some (r1, r2, r3, r4)) ∧ Aside0 (kq ≤ k) ∧ Aside0 (Kd.R (Kd.int .i64) 3 w' w.heap.size (fun k_ => some k_ ≠ ((.slice Ao18 y115.length co18) : Value).ownBlock ∧ some k_ ≠ ((.slice Ao17 t118.length co17) : Value).ownBlock) (.slice Ao19 t112.length co19) t112) ∧ Aside0 (Kd.R (Kd.int .i64) 3 w' w.heap.size (fun k_ => some k_ ≠ ((.slice Ao19 t112.length co19) : Value).ownBlock ∧ some k_ ≠ ((.slice Ao17 t118.length co17) : Value).ownBlock) (.slice Ao18 y115.length co18) y115) ∧ Aside0 (Kd.R Kd.bool 4 w' w.heap.size (fun _ => True) u122002 x122002_1) ∧ Aside0 (Kd.R (Kd.int .i64) 3 w' w.heap.size (fun k_ => some k_ ≠ ((.slice Ao19 t112.length co19) : Value).ownBlock ∧ some k_ ≠ ((.slice Ao18 y115.length co18) : Value).ownBlock) (.slice Ao17 t118.length co17) t118) ∧ Aside0 (w'.heap[gb111]? = some (.cells #[(.slice none 0 0), (.slice none 0 0), (.slice none 0 0), (.slice none 0 0)] 29 (0, 0))) ∧ Aside0 (w'.heap[gb121]? = some (.cells #[(.slice Ao19 t112.length co19), (.slice Ao18 y115.length co18), u122002, (.slice Ao17 t118.length co17)] 29 (0, 0))) ∧ Aside0 (Below w.heap.size w w'))
   case atStart => exact ⟨(0), (([] : List Bool)), (.slice none 0 0), (by first | rfl | (simp; done) | (simp [*]; done)), H', ⟨Nat.le_refl _⟩, ⟨by (with_reducible repeat (first | apply Z9 | apply Z10 | apply Z11)); exact Z12 (Z13 (p := ⟨gb121, 3, none⟩) (Z13 (p := ⟨gb121, 2, none⟩) (Z13 (p := ⟨gb121, 1, none⟩) (Z13 (p := ⟨gb121, 0, none⟩) (Z15 HO114.out BK121.out (by decide)) (fun _ hk => hk.2) (.slice Ao19 t112.length co19)) (fun _ hk => hk.2) (.slice Ao18 y115.length co18)) (fun _ hk => hk.2) (.slice none 0 0)) (fun _ hk => hk.2) (.slice Ao17 t118.length co17)) (fun _ hk => ⟨hk.1.1, hk.1.2⟩)⟩, ⟨by (with_reducible repeat (first | apply Z9 | apply Z10 | apply Z11)); exact Z12 (Z13 (p := ⟨gb121, 3, none⟩) (Z13 (p := ⟨gb121, 2, none⟩) (Z13 (p := ⟨gb121, 1, none⟩) (Z13 (p := ⟨gb121, 0, none⟩) (Z15 HO117.out BK121.out (by decide)) (fun _ hk => hk.2) (.slice Ao19 t112.length co19)) (fun _ hk => hk.2) (.slice Ao18 y115.length co18)) (fun _ hk => hk.2) (.slice none 0 0)) (fun _ hk => hk.2) (.slice Ao17 t118.length co17)) (fun _ hk => ⟨hk.1.1, hk.1.2⟩)⟩, ⟨by first | exact Kd.R_nil _ _ _ _ _ | exact Kd.N_nil _ _ _ _ _ | exact Kd.V_nil _ _ _ _ _ | exact Kd.Q_nil _ _ _ _ _ | exact Kd.S_nil _ _ _ _ _⟩, ⟨by (with_reducible repeat (first | apply Z9 | apply Z10 | apply Z11)); exact Z12 (Z13 (p := ⟨gb121, 3, none⟩) (Z13 (p := ⟨gb121, 2, none⟩) (Z13 (p := ⟨gb121, 1, none⟩) (Z13 (p := ⟨gb121, 0, none⟩) (Z15 HO120.out BK121.out (by decide)) (fun _ hk => hk.2) (.slice Ao19 t112.length co19)) (fun _ hk => hk.2) (.slice Ao18 y115.length co18)) (fun _ hk => hk.2) (.slice none 0 0)) (fun _ hk => hk.2) (.slice Ao17 t118.length co17)) (fun _ hk => ⟨hk.1.1, hk.1.2⟩)⟩, ⟨by (with_reducible repeat (first | refine Z26 ?_ _ | refine Z27 ?_ | refine Z28 ?_ _)); refine blk_far ?_ NB111_121.out _; (with_reducible repeat (first | refine Z26 ?_ _ | refine Z27 ?_ | refine Z28 ?_ _)); refine blk_far ?_ NB111_121.out _; (with_reducible repeat (first | refine Z26 ?_ _ | refine Z27 ?_ | refine Z28 ?_ _)); refine blk_far ?_ NB111_121.out _; (with_reducible repeat (first | refine Z26 ?_ _ | refine Z27 ?_ | refine Z28 ?_ _)); refine blk_far ?_ NB111_121.out _; (with_reducible repeat (first | refine Z26 ?_ _ | refine Z27 ?_ | refine Z28 ?_ _)); exact BK111.out⟩, ⟨by (with_reducible repeat (first | refine Z26 ?_ _ | refine Z27 ?_ | refine Z28 ?_ _)); refine Z30 (cs := #[.slice Ao19 t112.length co19, .slice Ao18 y115.length co18, .slice none 0 0, .slice none 0 0]) ?_ 3 _ rfl; (with_reducible repeat (first | refine Z26 ?_ _ | refine Z27 ?_ | refine Z28 ?_ _)); refine Z30 (cs := #[.slice Ao19 t112.length co19, .slice Ao18 y115.length co18, .slice none 0 0, .slice none 0 0]) ?_ 2 _ rfl; (with_reducible repeat (first | refine Z26 ?_ _ | refine Z27 ?_ | refine Z28 ?_ _)); refine Z30 (cs := #[.slice Ao19 t112.length co19, .slice none 0 0, .slice none 0 0, .slice none 0 0]) ?_ 1 _ rfl; (with_reducible repeat (first | refine Z26 ?_ _ | refine Z27 ?_ | refine Z28 ?_ _)); refine Z30 (cs := #[.slice none 0 0, .slice none 0 0, .slice none 0 0, .slice none 0 0]) ?_ 0 _ rfl; (with_reducible repeat (first | refine Z26 ?_ _ | refine Z27 ?_ | refine Z28 ?_ _)); exact BK121.out⟩, ⟨by repeat (first | (with_reducible first | exact HB.out | apply Z5 | apply Z3 | apply Z4 | refine Z6 ?_ GE111.out | refine Z6 ?_ GE121.out) | exact HB.out)⟩⟩
   case round =>
    clear H'
    try clear p2
    try clear p6
    try clear c8
    obtain ⟨x16_1, x122002_1, u122002, rfl, HA, HK1, HO_122000, HO_122001, HO_122002, HO_122003, BK111, BK121, HB⟩ := hrel
    cases gk with
    | zero => exact absurd HA.out (by simp [spec_foStart.l0])
    | succ k1 =>
     have H := HA.out
     clear HA
     simp only [spec_foStart.l0] at H
     by_cases c24 : x16_1 < (l0.length : Int)
     ·rw [if_pos c24] at H
      have c24b0 : decide (x16_1 < (l0.length : Int)) = true := Z39 c24
      clear c24
      by_cases c25 : x122002_1.length < 140737488355328
      ·rw [if_pos c25] at H
       have LMc25 := Aside0.mk c25
       clear c25
       obtain ⟨y122, hy122⟩ : ∃ y_ : List Bool, y_ = (x122002_1 ++ [true]) := ⟨_, rfl⟩
       replace H : (spec_foStart.l0 k1 (l0.length : Int) (wrap64 (x16_1 + 1)) t112 y115 y122 t118) = some (r1, r2, r3, r4) := by first | (rw [hy122]; with_reducible exact H) | (have H2_ := (Option.bind_some _ _).symm.trans H; rw [hy122]; with_reducible exact H2_) | (have H2_ := (Option.bind_some _ _).symm.trans H; with_reducible exact H2_) | with_reducible exact H | (rw [hy122]; exact H) | exact H
       have Ny122 := Aside0.mk hy122
       clear hy122
       have H' := Aside0.mk H
       clear H
       have hnb26 := NB121_111.out
       have hnc26 := NB111_121.out
       have hcz27_0 : wr.cell? ⟨gb121, 0, none⟩ = some (.slice Ao19 t112.length co19) := (Z24 BK121.out 0).trans rfl
       have hcz27_1 : wr.cell? ⟨gb121, 1, none⟩ = some (.slice Ao18 y115.length co18) := (Z24 BK121.out 1).trans rfl
       have hcz27_2 : wr.cell? ⟨gb121, 2, none⟩ = some (u122002) := (Z24 BK121.out 2).trans rfl
       have hcz27_3 : wr.cell? ⟨gb121, 3, none⟩ = some (.slice Ao17 t118.length co17) := (Z24 BK121.out 3).trans rfl
       have hfz27_0 := Z25 BK121.out 0
       have hfz27_1 := Z25 BK121.out 1
       have hfz27_2 := Z25 BK121.out 2
       have hfz27_3 := Z25 BK121.out 3
       go_wp2_with (first | ((with_reducible refine gate_builtin (b := .append) (xs := #[.tmp 19, .tmp 20]) rfl ?_); at_builtin; refine Kd.R_append Kd.bool (w0 := w) w.heap.size rfl (.tmp 19) (.tmp 20) 23 4 (.bool false) 1 rfl Try.underlying23 info4 rfl (by decide) (by omega) u122002 x122002_1 true [.bool true] (fun _ => True) (fun _ => False) rfl rfl ?aP (fun _ hk => hk.elim) ?aF ?aO ?aB ?aS ?aL ?_; (case aP => exact rfl); (case aB => exact (by repeat (first | (with_reducible first | exact HB.out | apply Z5 | apply Z3 | apply Z4 | refine Z6 ?_ GE111.out | refine Z6 ?_ GE121.out) | exact HB.out))); (case aF => exact (fun _ _ => trivial)); (case aO => exact (by (with_reducible repeat (first | apply Z9 | apply Z10 | apply Z11)); exact HO_122002.out)); (case aS => exact (Z7 (by repeat (first | (with_reducible first | exact HB.out | apply Z5 | apply Z3 | apply Z4 | refine Z6 ?_ GE111.out | refine Z6 ?_ GE121.out) | exact HB.out)))); (case aL => have := LMc25.out; omega); intro v123 w28 ho hb hg hat; rw [← Ny122.out] at ho; have n0_ := Aside0.mk (Kd.R_over' (by (with_reducible repeat (first | apply Z9 | apply Z10 | apply Z11)); exact HO_122000.out) (Kd.R_typed (by (with_reducible repeat (first | apply Z9 | apply Z10 | apply Z11)); exact HO_122002.out)) (by decide) hg); have n1_ := Aside0.mk (Kd.R_over' (by (with_reducible repeat (first | apply Z9 | apply Z10 | apply Z11)); exact HO_122001.out) (Kd.R_typed (by (with_reducible repeat (first | apply Z9 | apply Z10 | apply Z11)); exact HO_122002.out)) (by decide) hg); have n2_ := Aside0.mk (Kd.R_over' (by (with_reducible repeat (first | apply Z9 | apply Z10 | apply Z11)); exact HO_122003.out) (Kd.R_typed (by (with_reducible repeat (first | apply Z9 | apply Z10 | apply Z11)); exact HO_122002.out)) (by decide) hg); have n3_ := Aside0.mk (blk_grown (g := gb111) (o := .cells #[.slice none 0 0, .slice none 0 0, .slice none 0 0, .slice none 0 0] 29 (0, 0)) (by (with_reducible repeat (first | refine Z26 ?_ _ | refine Z27 ?_ | refine Z28 ?_ _)); exact BK111.out) hg (Kd.R_ne HO_122002.out BK111.out (by decide))); have n4_ := Aside0.mk (blk_grown (g := gb121) (o := .cells #[.slice Ao19 t112.length co19, .slice Ao18 y115.length co18, u122002, .slice Ao17 t118.length co17] 29 (0, 0)) (by (with_reducible repeat (first | refine Z26 ?_ _ | refine Z27 ?_ | refine Z28 ?_ _)); exact BK121.out) hg (Kd.R_ne HO_122002.out BK121.out (by decide))); have n5_ := Aside0.mk (hb); have n6_ := Aside0.mk (ho); clear HO_122000; clear HO_122001; clear HO_122003; clear BK111; clear BK121; clear HB; clear HO_122002; have HO_122000 := n0_; have HO_122001 := n1_; have HO_122003 := n2_; have BK111 := n3_; have BK121 := n4_; have HB := n5_; have HO124 := n6_; clear n0_ n1_ n2_ n3_ n4_ n5_ n6_; clear ho hb hg hat; obtain ⟨Ao29, co29, eo29⟩ := Z19 HO124.out; subst eo29; have hcz30_0 : w28.cell? ⟨gb121, 0, none⟩ = some (.slice Ao19 t112.length co19) := (Z24 BK121.out 0).trans rfl; have hcz30_1 : w28.cell? ⟨gb121, 1, none⟩ = some (.slice Ao18 y115.length co18) := (Z24 BK121.out 1).trans rfl; have hcz30_2 : w28.cell? ⟨gb121, 2, none⟩ = some (u122002) := (Z24 BK121.out 2).trans rfl; have hcz30_3 : w28.cell? ⟨gb121, 3, none⟩ = some (.slice Ao17 t118.length co17) := (Z24 BK121.out 3).trans rfl; have hfz30_0 := Z25 BK121.out 0; have hfz30_1 := Z25 BK121.out 1; have hfz30_2 := Z25 BK121.out 2; have hfz30_3 := Z25 BK121.out 3))
       go_roundg k1
       case measure => have := HK1.out; omega
       case rel => exact ⟨(wrap64 (x16_1 + 1)), (y122), (.slice Ao29 y122.length co29), (by first | rfl | (simp; done) | (simp [*]; done)), H', ⟨by have := HK1.out; omega⟩, ⟨by (with_reducible repeat (first | apply Z9 | apply Z10 | apply Z11)); exact Z12 (Z13 (p := ⟨gb121, 2, none⟩) (Z15 HO_122000.out BK121.out (by decide)) (fun _ hk => hk.2) (.slice Ao29 y122.length co29)) (fun _ hk => ⟨hk.1.1, hk.1.2⟩)⟩, ⟨by (with_reducible repeat (first | apply Z9 | apply Z10 | apply Z11)); exact Z12 (Z13 (p := ⟨gb121, 2, none⟩) (Z15 HO_122001.out BK121.out (by decide)) (fun _ hk => hk.2) (.slice Ao29 y122.length co29)) (fun _ hk => ⟨hk.1.1, hk.1.2⟩)⟩, ⟨by (with_reducible repeat (first | apply Z9 | apply Z10 | apply Z11)); exact Z12 (Z13 (p := ⟨gb121, 2, none⟩) (Z15 HO124.out BK121.out (by decide)) (fun _ hk => hk.2) (.slice Ao29 y122.length co29)) (fun _ hk => trivial)⟩, ⟨by (with_reducible repeat (first | apply Z9 | apply Z10 | apply Z11)); exact Z12 (Z13 (p := ⟨gb121, 2, none⟩) (Z15 HO_122003.out BK121.out (by decide)) (fun _ hk => hk.2) (.slice Ao29 y122.length co29)) (fun _ hk => ⟨hk.1.1, hk.1.2⟩)⟩, ⟨by (with_reducible repeat (first | refine Z26 ?_ _ | refine Z27 ?_ | refine Z28 ?_ _)); refine blk_far ?_ NB111_121.out _; (with_reducible repeat (first | refine Z26 ?_ _ | refine Z27 ?_ | refine Z28 ?_ _)); exact BK111.out⟩, ⟨by (with_reducible repeat (first | refine Z26 ?_ _ | refine Z27 ?_ | refine Z28 ?_ _)); refine Z30 (cs := #[.slice Ao19 t112.length co19, .slice Ao18 y115.length co18, u122002, .slice Ao17 t118.length co17]) ?_ 2 _ rfl; (with_reducible repeat (first | refine Z26 ?_ _ | refine Z27 ?_ | refine Z28 ?_ _)); exact BK121.out⟩, ⟨by repeat (first | (with_reducible first | exact HB.out | apply Z5 | apply Z3 | apply Z4 | refine Z6 ?_ GE111.out | refine Z6 ?_ GE121.out) | exact HB.out)⟩⟩
      ·rw [if_neg c25] at H
       exact absurd H (by simp)
     ·rw [if_neg c24] at H
      have c24b0 : decide (x16_1 < (l0.length : Int)) = false := Z38 c24
      clear c24
      simp only [Option.some.injEq, Prod.mk.injEq] at H
      obtain ⟨rfl, rfl, rfl, rfl⟩ := H
      have hnb31 := NB121_111.out
      have hnc31 := NB111_121.out
      have hcz32_0 : wr.cell? ⟨gb121, 0, none⟩ = some (.slice Ao19 t112.length co19) := (Z24 BK121.out 0).trans rfl
      have hcz32_1 : wr.cell? ⟨gb121, 1, none⟩ = some (.slice Ao18 y115.length co18) := (Z24 BK121.out 1).trans rfl
      have hcz32_2 : wr.cell? ⟨gb121, 2, none⟩ = some (u122002) := (Z24 BK121.out 2).trans rfl
      have hcz32_3 : wr.cell? ⟨gb121, 3, none⟩ = some (.slice Ao17 t118.length co17) := (Z24 BK121.out 3).trans rfl
      have hfz32_0 := Z25 BK121.out 0
      have hfz32_1 := Z25 BK121.out 1
      have hfz32_2 := Z25 BK121.out 2
      have hfz32_3 := Z25 BK121.out 3
      have hcz33_0 : wr.cell? ⟨gb111, 0, none⟩ = some (.slice none 0 0) := (Z24 BK111.out 0).trans rfl
      have hcz33_1 : wr.cell? ⟨gb111, 1, none⟩ = some (.slice none 0 0) := (Z24 BK111.out 1).trans rfl
      have hcz33_2 : wr.cell? ⟨gb111, 2, none⟩ = some (.slice none 0 0) := (Z24 BK111.out 2).trans rfl
      have hcz33_3 : wr.cell? ⟨gb111, 3, none⟩ = some (.slice none 0 0) := (Z24 BK111.out 3).trans rfl
      have hfz33_0 := Z25 BK111.out 0
      have hfz33_1 := Z25 BK111.out 1
      have hfz33_2 := Z25 BK111.out 2
      have hfz33_3 := Z25 BK111.out 3
      obtain ⟨Ao34, co34, eo34⟩ := Z19 HO_122002.out
      subst eo34
      go_wp2
      refine bodyPost_ret (results_cell_row rfl _ _ gb111 29 #[.slice Ao19 t112.length co19, .slice Ao18 y115.length co18, .slice Ao34 x122002_1.length co34, .slice Ao17 t118.length co17] (0, 0) _ rfl (by (with_reducible repeat (first | refine Z26 ?_ _ | refine Z27 ?_ | refine Z28 ?_ _)); refine Z30 (cs := #[.slice Ao19 t112.length co19, .slice Ao18 y115.length co18, .slice Ao34 x122002_1.length co34, .slice none 0 0]) ?_ 3 _ rfl; (with_reducible repeat (first | refine Z26 ?_ _ | refine Z27 ?_ | refine Z28 ?_ _)); refine Z30 (cs := #[.slice Ao19 t112.length co19, .slice Ao18 y115.length co18, .slice none 0 0, .slice none 0 0]) ?_ 2 _ rfl; (with_reducible repeat (first | refine Z26 ?_ _ | refine Z27 ?_ | refine Z28 ?_ _)); refine Z30 (cs := #[.slice Ao19 t112.length co19, .slice none 0 0, .slice none 0 0, .slice none 0 0]) ?_ 1 _ rfl; (with_reducible repeat (first | refine Z26 ?_ _ | refine Z27 ?_ | refine Z28 ?_ _)); refine Z30 (cs := #[.slice none 0 0, .slice none 0 0, .slice none 0 0, .slice none 0 0]) ?_ 0 _ rfl; (with_reducible repeat (first | refine Z26 ?_ _ | refine Z27 ?_ | refine Z28 ?_ _)); exact BK111.out) Try.underlying29 rfl (by kernel_rfl)) rfl ?_
      exact ⟨_, _, _, _, by first | rfl | (simp [errW_none, errW_some] <;> rfl) | (simp [*, errW_none, errW_some] <;> rfl), by (with_reducible repeat (first | apply Z9 | apply Z10 | apply Z11)); exact Z12 (Z13 (p := ⟨gb111, 3, none⟩) (Z13 (p := ⟨gb111, 2, none⟩) (Z13 (p := ⟨gb111, 1, none⟩) (Z13 (p := ⟨gb111, 0, none⟩) (Z15 HO_122000.out BK111.out (by decide)) (fun _ hk => hk.2) (.slice Ao19 t112.length co19)) (fun _ hk => hk.2) (.slice Ao18 y115.length co18)) (fun _ hk => hk.2) (.slice Ao34 x122002_1.length co34)) (fun _ hk => hk.2) (.slice Ao17 t118.length co17)) (fun _ hk => ⟨hk.1.1, hk.1.2⟩), by (with_reducible repeat (first | apply Z9 | apply Z10 | apply Z11)); exact Z12 (Z13 (p := ⟨gb111, 3, none⟩) (Z13 (p := ⟨gb111, 2, none⟩) (Z13 (p := ⟨gb111, 1, none⟩) (Z13 (p := ⟨gb111, 0, none⟩) (Z15 HO_122001.out BK111.out (by decide)) (fun _ hk => hk.2) (.slice Ao19 t112.length co19)) (fun _ hk => hk.2) (.slice Ao18 y115.length co18)) (fun _ hk => hk.2) (.slice Ao34 x122002_1.length co34)) (fun _ hk => hk.2) (.slice Ao17 t118.length co17)) (fun _ hk => ⟨hk.1.1, hk.1.2⟩), by (with_reducible repeat (first | apply Z9 | apply Z10 | apply Z11)); exact Z12 (Z13 (p := ⟨gb111, 3, none⟩) (Z13 (p := ⟨gb111, 2, none⟩) (Z13 (p := ⟨gb111, 1, none⟩) (Z13 (p := ⟨gb111, 0, none⟩) (Z15 HO_122002.out BK111.out (by decide)) (fun _ hk => hk.2) (.slice Ao19 t112.length co19)) (fun _ hk => hk.2) (.slice Ao18 y115.length co18)) (fun _ hk => hk.2) (.slice Ao34 x122002_1.length co34)) (fun _ hk => hk.2) (.slice Ao17 t118.length co17)) (fun _ hk => trivial), by (with_reducible repeat (first | apply Z9 | apply Z10 | apply Z11)); exact Z12 (Z13 (p := ⟨gb111, 3, none⟩) (Z13 (p := ⟨gb111, 2, none⟩) (Z13 (p := ⟨gb111, 1, none⟩) (Z13 (p := ⟨gb111, 0, none⟩) (Z15 HO_122003.out BK111.out (by decide)) (fun _ hk => hk.2) (.slice Ao19 t112.length co19)) (fun _ hk => hk.2) (.slice Ao18 y115.length co18)) (fun _ hk => hk.2) (.slice Ao34 x122002_1.length co34)) (fun _ hk => hk.2) (.slice Ao17 t118.length co17)) (fun _ hk => ⟨hk.1.1, hk.1.2⟩), by repeat (first | (with_reducible first | exact HB.out | apply Z5 | apply Z3 | apply Z4 | refine Z6 ?_ GE111.out | refine Z6 ?_ GE121.out) | exact HB.out)⟩
  ·rw [if_neg c4] at H
   exact absurd H (by simp)
 ·rw [if_neg c3] at H
  exact absurd H (by simp)
end Go.Proofs.Ytedijkelbdpcdaa.MFnExactRunSwapper
