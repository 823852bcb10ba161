import Derived.Test.YtllhnnjkonghlaaMFnGreedyListsx0
import Derived.Test.YtllhnnjkonghlaaMFnGreedyListsx1
namespace Go.Proofs.Ytllhnnjkonghlaa.MFnGreedyLists
open Go.RowKit Go.Proofs.YtllhnnjkonghlaaW.PrintWords Go.Proofs.YtllhnnjkonghlaaW.PrintLast Go.Proofs.YtllhnnjkonghlaaW.PrintMore
attribute [local go_sem] max2_int min2_int max_two min_two max_three min_three max_four min_four   
set_option linter.unusedVariables false
set_option linter.unusedSimpArgs false
mutual
def impl_distances.l0 : Nat → Int → List (S45) → List Int → Int → Int → Option (List Int)
 | 0, _, _, _, _, _ => none
 | k + 1, x0, x1, x5, x17, x18 => if x18 < x17 then (if 0 ≤ x18 then (if x18 < (x5.length : Int) then (impl_distances.l0 k x0 x1 (x5.set (x18 : Int).toNat (-1)) x17 (wrap64 (x18 + 1))) else (none)) else (none)) else (if 0 < (x5.length : Int) then (impl_distances.l1 k x0 x1 (x5.set (0 : Int).toNat 0) (([0] : List Int)) 0) else (none))
def impl_distances.l1 : Nat → Int → List (S45) → List Int → List Int → Int → Option (List Int)
 | 0, _, _, _, _, _ => none
 | k + 1, x0, x1, x5, x7, x8 => if x8 < (x7.length : Int) then (if 0 ≤ x8 then ((impl_permutationAt.f k x0 (rd x7 x8)).bind fun t138 => (impl_distances.l2 k x0 x1 x5 x7 x8 t138 x1 (x1.length : Int) 0)) else (none)) else (some x5)
def impl_distances.l2 : Nat → Int → List (S45) → List Int → List Int → Int → List Int → List (S45) → Int → Int → Option (List Int)
 | 0, _, _, _, _, _, _, _, _, _ => none
 | k + 1, x0, x1, x5, x7, x8, x9, x40, x41, x42 => if x42 < x41 then (if 0 ≤ x42 then (if x42 < (x40.length : Int) then ((impl_moved.f k x9 ((rd_T45 x40 x42).f0) ((rd_T45 x40 x42).f1) ((rd_T45 x40 x42).f2)).bind fun t143 => ((impl_permutationRank.f k t143).bind fun t146 => (if 0 ≤ t146 then (if t146 < (x5.length : Int) then (if (rd x5 t146) < 0 then (if 0 ≤ x8 then (if x8 < (x7.length : Int) then (if 0 ≤ (rd x7 x8) then (if (rd x7 x8) < (x5.length : Int) then (if x7.length < 17592186044416 then (impl_distances.l2 k x0 x1 (x5.set (t146 : Int).toNat (wrap64 ((rd x5 (rd x7 x8)) + 1))) (x7 ++ [t146]) x8 x9 x40 x41 (wrap64 (x42 + 1))) else (none)) else (none)) else (none)) else (none)) else (none)) else (impl_distances.l2 k x0 x1 x5 x7 x8 x9 x40 x41 (wrap64 (x42 + 1)))) else (none)) else (none)))) else (none)) else (none)) else (impl_distances.l1 k x0 x1 x5 x7 (wrap64 (x8 + 1)))
end
def impl_distances.f (k : Nat) (a0 : Int) (l1 : List (S45)) : Option (List Int) := (impl_factorial.f k a0).bind fun t128 => (if 0 ≤ t128 then (if (t128 : Int).toNat ≤ 35184372088832 then ((some (List.replicate (t128 : Int).toNat 0 : List Int)).bind fun y129 => (impl_distances.l0 k a0 l1 y129 (y129.length : Int) 0)) else (none)) else (none))
theorem impl_distances.mono_l : ∀ k, (∀ y0 y1 y2 y3 y4, LeO (impl_distances.l0 k y0 y1 y2 y3 y4) (impl_distances.l0 (k + 1) y0 y1 y2 y3 y4)) ∧ (∀ y0 y1 y2 y3 y4, LeO (impl_distances.l1 k y0 y1 y2 y3 y4) (impl_distances.l1 (k + 1) y0 y1 y2 y3 y4)) ∧ (∀ y0 y1 y2 y3 y4 y5 y6 y7 y8, LeO (impl_distances.l2 k y0 y1 y2 y3 y4 y5 y6 y7 y8) (impl_distances.l2 (k + 1) y0 y1 y2 y3 y4 y5 y6 y7 y8))
 | 0 => ⟨fun _ _ _ _ _ r h => by simp [impl_distances.l0] at h, fun _ _ _ _ _ r h => by simp [impl_distances.l1] at h, fun _ _ _ _ _ _ _ _ _ r h => by simp [impl_distances.l2] at h⟩
 | k + 1 => by
  obtain ⟨ih0, ih1, ih2⟩ := impl_distances.mono_l k
  refine ⟨?_, ?_, ?_⟩
  ·intro y0 y1 y2 y3 y4
   unfold impl_distances.l0
   repeat' first
   | (with_reducible exact ih0 _ _ _ _ _)
   | (with_reducible exact ih1 _ _ _ _ _)
   | (with_reducible exact ih2 _ _ _ _ _ _ _ _ _)
   | (with_reducible exact impl_factorial.mono _ _)
   | (with_reducible exact impl_moved.mono _ _ _ _ _)
   | (with_reducible exact impl_permutationAt.mono _ _ _)
   | (with_reducible exact impl_permutationRank.mono _ _)
   | (with_reducible exact LeO.refl _)
   | (with_reducible exact LeO.none _)
   | (with_reducible refine LeO.ite ?_ ?_)
   | (with_reducible refine LeO.bind ?_ (fun _ => ?_))
   | exact ih0 _ _ _ _ _
   | exact ih1 _ _ _ _ _
   | exact ih2 _ _ _ _ _ _ _ _ _
   | exact impl_factorial.mono _ _
   | exact impl_moved.mono _ _ _ _ _
   | exact impl_permutationAt.mono _ _ _
   | exact impl_permutationRank.mono _ _
   | exact LeO.none _
   | refine LeO.ite ?_ ?_
   | refine LeO.bind ?_ (fun _ => ?_)
  ·intro y0 y1 y2 y3 y4
   unfold impl_distances.l1
   repeat' first
   | (with_reducible exact ih0 _ _ _ _ _)
   | (with_reducible exact ih1 _ _ _ _ _)
   | (with_reducible exact ih2 _ _ _ _ _ _ _ _ _)
   | (with_reducible exact impl_factorial.mono _ _)
   | (with_reducible exact impl_moved.mono _ _ _ _ _)
   | (with_reducible exact impl_permutationAt.mono _ _ _)
   | (with_reducible exact impl_permutationRank.mono _ _)
   | (with_reducible exact LeO.refl _)
   | (with_reducible exact LeO.none _)
   | (with_reducible refine LeO.ite ?_ ?_)
   | (with_reducible refine LeO.bind ?_ (fun _ => ?_))
   | exact ih0 _ _ _ _ _
   | exact ih1 _ _ _ _ _
   | exact ih2 _ _ _ _ _ _ _ _ _
   | exact impl_factorial.mono _ _
   | exact impl_moved.mono _ _ _ _ _
   | exact impl_permutationAt.mono _ _ _
   | exact impl_permutationRank.mono _ _
   | exact LeO.none _
   | refine LeO.ite ?_ ?_
   | refine LeO.bind ?_ (fun _ => ?_)
  ·intro y0 y1 y2 y3 y4 y5 y6 y7 y8
   unfold impl_distances.l2
   repeat' first
   | (with_reducible exact ih0 _ _ _ _ _)
   | (with_reducible exact ih1 _ _ _ _ _)
   | (with_reducible exact ih2 _ _ _ _ _ _ _ _ _)
   | (with_reducible exact impl_factorial.mono _ _)
   | (with_reducible exact impl_moved.mono _ _ _ _ _)
   | (with_reducible exact impl_permutationAt.mono _ _ _)
   | (with_reducible exact impl_permutationRank.mono _ _)
   | (with_reducible exact LeO.refl _)
   | (with_reducible exact LeO.none _)
   | (with_reducible refine LeO.ite ?_ ?_)
   | (with_reducible refine LeO.bind ?_ (fun _ => ?_))
   | exact ih0 _ _ _ _ _
   | exact ih1 _ _ _ _ _
   | exact ih2 _ _ _ _ _ _ _ _ _
   | exact impl_factorial.mono _ _
   | exact impl_moved.mono _ _ _ _ _
   | exact impl_permutationAt.mono _ _ _
   | exact impl_permutationRank.mono _ _
   | exact LeO.none _
   | refine LeO.ite ?_ ?_
   | refine LeO.bind ?_ (fun _ => ?_)
theorem impl_distances.mono : ∀ a0 a1 k, LeO (impl_distances.f k a0 a1) (impl_distances.f (k + 1) a0 a1) := by
 intro a0 a1 k
 obtain ⟨ih0, ih1, ih2⟩ := impl_distances.mono_l k
 unfold impl_distances.f
 repeat' first
   | (with_reducible exact ih0 _ _ _ _ _)
   | (with_reducible exact ih1 _ _ _ _ _)
   | (with_reducible exact ih2 _ _ _ _ _ _ _ _ _)
   | (with_reducible exact impl_factorial.mono _ _)
   | (with_reducible exact impl_moved.mono _ _ _ _ _)
   | (with_reducible exact impl_permutationAt.mono _ _ _)
   | (with_reducible exact impl_permutationRank.mono _ _)
   | (with_reducible exact LeO.refl _)
   | (with_reducible exact LeO.none _)
   | (with_reducible refine LeO.ite ?_ ?_)
   | (with_reducible refine LeO.bind ?_ (fun _ => ?_))
   | exact ih0 _ _ _ _ _
   | exact ih1 _ _ _ _ _
   | exact ih2 _ _ _ _ _ _ _ _ _
   | exact impl_factorial.mono _ _
   | exact impl_moved.mono _ _ _ _ _
   | exact impl_permutationAt.mono _ _ _
   | exact impl_permutationRank.mono _ _
   | exact LeO.none _
   | refine LeO.ite ?_ ?_
   | refine LeO.bind ?_ (fun _ => ?_)
set_option maxHeartbeats 8000000 in
set_option maxRecDepth 100000 in
theorem impl_distances.calls (k : Nat) (a0 : Int) (A1 : Option Addr) (c1 : Nat) (l1 : List (S45)) (r : List Int) (w : World) (hr1 : Kd.C k45 w A1 l1.length l1) (hc1 : l1.length ≤ c1) (h : impl_distances.f k a0 l1 = some r) :
  Calls Try.prog 55 #[.int .i64 a0, .slice A1 l1.length c1] w fun e w' => ∃ v0_ : Value, e = .returned (v0_) ∧ Kd.R (Kd.int .i64) 3 w' w.heap.size (fun _ => True) v0_ r ∧ Below w.heap.size w w' := by
 have hu45 := Try.underlying45
 have HR1 := Ya hr1
 have HC1 := Ya hc1
 clear hr1 hc1
 have HB := Ya (Below.refl w.heap.size w)
 have H : ((impl_factorial.f k a0).bind fun t128 => (if 0 ≤ t128 then (if (t128 : Int).toNat ≤ 35184372088832 then ((some (List.replicate (t128 : Int).toNat 0 : List Int)).bind fun y129 => (impl_distances.l0 k a0 l1 y129 (y129.length : Int) 0)) else (none)) else (none))) = some r := h
 clear h
 replace H := Z35.mp H
 obtain ⟨t128, A30, H⟩ := H
 replace H : (if 0 ≤ t128 then (if (t128 : Int).toNat ≤ 35184372088832 then ((some (List.replicate (t128 : Int).toNat 0 : List Int)).bind fun y129 => (impl_distances.l0 k a0 l1 y129 (y129.length : Int) 0)) else (none)) else (none)) = some r := H
 have A3 := Ya A30
 clear A30
 by_cases c4 : 0 ≤ t128
 ·rw [if_pos c4] at H
  have c4b0 := eq_true c4
  have c4b1 := Z37 c4
  clear c4
  by_cases c5 : (t128 : Int).toNat ≤ 35184372088832
  ·rw [if_pos c5] at H
   have c5b0 := eq_true c5
   have c5b1 := Z37 c5
   clear c5
   obtain ⟨y129, hy129⟩ : ∃ y_ : List Int, y_ = (List.replicate (t128 : Int).toNat 0) := ⟨_, rfl⟩
   replace H : (impl_distances.l0 k a0 l1 y129 (y129.length : Int) 0) = some r := by first | (rw [hy129]; with_reducible exact H) | (have H2_ := (Option.bind_some _ _).symm.trans H; rw [hy129]; with_reducible exact H2_) | (have H2_ := (Option.bind_some _ _).symm.trans H; with_reducible exact H2_) | with_reducible exact H | (rw [hy129]; exact H) | exact H
   have Ny129 := Ya hy129
   clear hy129
   have H' := Ya H
   clear H
   go_enter Try.func55, Try.ntmps55
   go_wp2_with (first | ((with_reducible refine gate_callee (f := 50) rfl ?_); refine Yz 14 Try.func50 #[.int .i64 a0] ?_; (with_reducible refine (impl_factorial.calls k a0 t128 _ A3.out).mono ?_); rintro e w' ⟨rfl, ⟨nd, rfl⟩⟩; refine ⟨_, rfl, ?_⟩) | ((with_reducible refine gate_dst (N := 15) rfl ?_); refine Kd.R_make (Kd.int .i64) _ 3 rfl (N := 15) rfl 24 _ _ rfl t128 rfl rfl Try.underlying24 (.int .i64 0) 8 info3 rfl (by decide) (by omega) 0 (ok := fun _ => True) (okp := fun _ => True) rfl (fun _ hk => hk) trivial (Z29 Q1) (Nat.le_trans (Nat.mul_le_mul_right _ (Z29 Q1 : t128.toNat ≤ 35184372088832)) (by omega)) (Below.refl _ _) (Nat.le_refl _) ?_; intro v130 w6 ho7 hb hg_ hnew_; clear hg_ hnew_; (first | rw [← Ny129.out] at ho7 | (simp only [Int.reduceToNat] at ho7; rw [← Ny129.out] at ho7)); have HO131 := Yl ho7; replace HB := Yh hb; clear hb ho7; obtain ⟨Ao8, co8, rfl⟩ := Z17 HO131.out))
   go_loopg [18] k (fun kq v18 w' => ∃ (x5_1 : List Int) (x18_1 : Int), v18 = .int .i64 x18_1 ∧ Aside0 (impl_distances.l0 kq a0 l1 x5_1 (y129.length : Int) x18_1 = some r) ∧ Aside0 (kq ≤ k) ∧ Aside0 (Kd.R (Kd.int .i64) 3 w' w.heap.size (fun _ => True) (.slice Ao8 y129.length co8) x5_1) ∧ Aside0 (Below w.heap.size w w'))
   case atStart => exact ⟨(y129), (0), Q5, H', ⟨Nat.le_refl _⟩, ⟨by (with_reducible repeat (first | apply Z9 | apply Z10 | apply Z11)); exact HO131.out⟩, ⟨Q0⟩⟩
   case round =>
    clear H'
    try clear c1
    try clear p2
    try clear c4
    try clear c4b0
    try clear c4b1
    try clear c5
    try clear c5b0
    try clear c5b1
    obtain ⟨x5_1, x18_1, rfl, HA, HK1, HO_5, HB⟩ := hrel
    have hl5_1 := (Kd.R_reads' HO_5.out).1
    rw [hl5_1] at HO_5
    (try simp only [hl5_1])
    cases gk with
    | zero => exact absurd HA.out (by simp [impl_distances.l0])
    | succ k1 =>
     have H := HA.out
     clear HA
     simp only [impl_distances.l0] at H
     by_cases c9 : x18_1 < (y129.length : Int)
     ·rw [if_pos c9] at H
      have c9b0 := Z37 c9
      clear c9
      by_cases c10 : 0 ≤ x18_1
      ·rw [if_pos c10] at H
       have c10b0 := Z37 c10
       clear c10
       by_cases c11 : x18_1 < (x5_1.length : Int)
       ·rw [if_pos c11] at H
        have c11b0 := Z37 c11
        clear c11
        obtain ⟨y132, hy132⟩ : ∃ y_ : List Int, y_ = (x5_1.set (x18_1 : Int).toNat (-1)) := ⟨_, rfl⟩
        replace H : (impl_distances.l0 k1 a0 l1 y132 (y129.length : Int) (wrap64 (x18_1 + 1))) = some r := by first | (rw [hy132]; with_reducible exact H) | (have H2_ := (Option.bind_some _ _).symm.trans H; rw [hy132]; with_reducible exact H2_) | (have H2_ := (Option.bind_some _ _).symm.trans H; with_reducible exact H2_) | with_reducible exact H | (rw [hy132]; exact H) | exact H
        have Ny132 := Ya hy132
        clear hy132
        have H' := Ya H
        clear H
        have p12 : 0 ≤ (x18_1 : Int) := Z29 Q1
        have q12 : (x18_1 : Int) < ((x5_1.length : Int) : Int) := Z29 Q1
        obtain ⟨go12, co12, eo12, gb12, gl12, cl12, HG12⟩ := Kd.R_form HO_5.out (by omega)
        (first | cases eo12 | (injection eo12 with ea_ en_ ec_; (first | subst ea_ | (injection ea_ with ea_; subst ea_)); subst ec_; clear en_))
        have GB12 := Ya gb12
        have GG12 := Ya HG12
        clear gb12 gl12 HG12
        obtain ⟨hx12_0, hf12_0⟩ := Kd.R_celln 0 HO_5.out (x18_1 : Int) p12 q12
        replace p12 := eq_true p12
        replace q12 := eq_true q12
        have HP13 := Kd.R_putg HO_5.out (x18_1 : Int) (-1)
        go_wp2_with (first | ((with_reducible refine gate_store (t := 3) (p := 23) rfl ?_); refine store_event (t := 3) (p := 23) (v := ?vo_w14) (w1 := (wr.setCell ⟨go12, (x18_1 : Int).toNat, none⟩ (.int .i64 (-1)))) ?hg ?ho ?hn ?hr ?_; (case ho => rfl); (case hg => rfl); (case hn => rfl); (case hr => first | (go_simp; done) | (go_simp; rfl)); intro w14 hw; have hg : wr.grownBy w14 (some go12) := (by rw [hw]; exact HP13.2); have hp_ : Kd.R (Kd.int .i64) 3 w14 w.heap.size (fun _ => True) (.slice (some ⟨go12, 0, none⟩) x5_1.length co8) y132 := (by rw [hw, Ny132.out]; exact HP13.1); clear HP13; replace HO_5 := Ya hp_; replace HB := Ya ((by rw [hw]; exact Z6 (HB.out) GB12.out : Below w.heap.size w w14)); clear hg hw hp_))
        (try simp only [← hl5_1])
        go_roundg k1
        case measure => have := HK1.out; omega
        case rel => exact ⟨(y132), (wrap64 (x18_1 + 1)), Q5, H', ⟨Q28⟩, ⟨by (try simp only [hl5_1]); (with_reducible repeat (first | apply Z9 | apply Z10 | apply Z11)); exact HO_5.out⟩, ⟨Q0⟩⟩
       ·rw [if_neg c11] at H
        exact absurd H (by simp)
      ·rw [if_neg c10] at H
       exact absurd H (by simp)
     ·rw [if_neg c9] at H
      have c9b0 := Z36 c9
      have c9b0h := c9b0
      (try rw [hl5_1] at c9b0h)
      clear c9
      by_cases c15 : 0 < (x5_1.length : Int)
      ·rw [if_pos c15] at H
       have c15b0 := Z37 c15
       have c15b1 : decide (0 < x5_1.length) = true := Z37 (by omega)
       clear c15
       obtain ⟨y133, hy133⟩ : ∃ y_ : List Int, y_ = (x5_1.set (0 : Int).toNat 0) := ⟨_, rfl⟩
       replace H : (impl_distances.l1 k1 a0 l1 y133 (([0] : List Int)) 0) = some r := by first | (rw [hy133]; with_reducible exact H) | (have H2_ := (Option.bind_some _ _).symm.trans H; rw [hy133]; with_reducible exact H2_) | (have H2_ := (Option.bind_some _ _).symm.trans H; with_reducible exact H2_) | with_reducible exact H | (rw [hy133]; exact H) | exact H
       have Ny133 := Ya hy133
       clear hy133
       obtain ⟨y134, hy134⟩ : ∃ y_ : List Int, y_ = (([0] : List Int)) := ⟨_, rfl⟩
       replace H : (impl_distances.l1 k1 a0 l1 y133 y134 0) = some r := by first | (rw [hy134]; with_reducible exact H) | (have H2_ := (Option.bind_some _ _).symm.trans H; rw [hy134]; with_reducible exact H2_) | (have H2_ := (Option.bind_some _ _).symm.trans H; with_reducible exact H2_) | with_reducible exact H | (rw [hy134]; exact H) | exact H
       have Ny134 := Ya hy134
       clear hy134
       have H' := Ya H
       clear H
       have p16 : 0 ≤ (0 : Int) := (by omega)
       have q16 : (0 : Int) < ((x5_1.length : Int) : Int) := Z29 Q1
       have qi16 : (0 < x5_1.length) = True := eq_true (by omega)
       obtain ⟨go16, co16, eo16, gb16, gl16, cl16, HG16⟩ := Kd.R_form HO_5.out (by omega)
       (first | cases eo16 | (injection eo16 with ea_ en_ ec_; (first | subst ea_ | (injection ea_ with ea_; subst ea_)); subst ec_; clear en_))
       have GB16 := Ya gb16
       have GG16 := Ya HG16
       clear gb16 gl16 HG16
       obtain ⟨hx16_0, hf16_0⟩ := Kd.R_celln 0 HO_5.out (0 : Int) p16 q16
       (try rw [show ((0 : Int)).toNat = 0 from rfl] at hx16_0)
       (try simp only [Nat.reduceMul, Nat.zero_mul, Nat.zero_add, Nat.reduceAdd] at hx16_0)
       (try rw [show ((0 : Int)).toNat = 0 from rfl] at hf16_0)
       (try simp only [Nat.reduceMul, Nat.zero_mul, Nat.zero_add, Nat.reduceAdd] at hf16_0)
       replace p16 := eq_true p16
       replace q16 := eq_true q16
       have HP17 := Kd.R_putg HO_5.out (0 : Int) 0
       go_wp2_with (first | ((with_reducible refine gate_store (t := 3) (p := 26) rfl ?_); refine store_event (t := 3) (p := 26) (v := ?vo_w18) (w1 := (wr.setCell ⟨go16, (0 : Int).toNat, none⟩ (.int .i64 0))) ?hg ?ho ?hn ?hr ?_; (case ho => rfl); (case hg => rfl); (case hn => rfl); (case hr => first | (go_simp; done) | (go_simp; rfl)); intro w18 hw; have hg : wr.grownBy w18 (some go16) := (by rw [hw]; exact HP17.2); have hp_ : Kd.R (Kd.int .i64) 3 w18 w.heap.size (fun _ => True) (.slice (some ⟨go16, 0, none⟩) x5_1.length co8) y133 := (by rw [hw, Ny133.out]; exact HP17.1); clear HP17; replace HO_5 := Ya hp_; replace HB := Ya ((by rw [hw]; exact Z6 (HB.out) GB16.out : Below w.heap.size w w18)); clear hg hw hp_) | ((with_reducible refine gate_dst (N := 27) rfl ?_); refine Kd.R_lit (Kd.int .i64) _ 3 ?hg (N := 27) ?hd (xs := ([0] : List Int)) (inner := [.int .i64 0]) (ok := fun _ => True) (okp := fun _ => True) ?hr ?hp (fun _ hk => hk) trivial (Below.refl _ _) (Nat.le_refl _) (by simp) ?_; (case hd => rfl); (case hg => rfl); (case hr => first | (go_simp; done) | (go_simp; rfl)); (case hp => exact (Reps.one (show Kd.M (Kd.int .i64) _ _ _ 0 [.int .i64 0] from rfl) (Reps.none _ _))); intro v135 w19 ho20 hb hg_ hnew_; clear hg_ hnew_; (first | rw [← Ny134.out] at ho20 | (simp only [Int.reduceToNat] at ho20; rw [← Ny134.out] at ho20)); have HO136 := Yl (Kd.R_new' ho20 (Z16 (Yr HO_5.out))); replace HO_5 := Ya (Kd.R_elder' (Yr HO_5.out) (Kd.R_base ho20) hb); replace HB := Yh hb; clear hb ho20))
       go_loopg [7, 8] k1 (fun kq v7 v8 w' => ∃ (x5_2 : List Int) (x7_2 : List Int) (x8_2 : Int), v8 = .int .i64 x8_2 ∧ Aside0 (impl_distances.l1 kq a0 l1 x5_2 x7_2 x8_2 = some r) ∧ Aside0 (kq ≤ k1) ∧ Aside0 (Kd.R (Kd.int .i64) 3 w' w.heap.size (fun k_ => some k_ ≠ (v7 : Value).ownBlock) (.slice (some ⟨go16, 0, none⟩) x5_1.length co8) x5_2) ∧ Aside0 (Kd.R (Kd.int .i64) 3 w' w.heap.size (fun k_ => some k_ ≠ ((.slice (some ⟨go16, 0, none⟩) x5_1.length co8) : Value).ownBlock) v7 x7_2) ∧ Aside0 (Below w.heap.size w w'))
       case atStart => exact ⟨(y133), (y134), (0), Q5, H', ⟨Nat.le_refl _⟩, ⟨by (try simp only [hl5_1]); (with_reducible repeat (first | apply Z9 | apply Z10 | apply Z11)); exact Z12 HO_5.out (fun k_ hk => by first | exact hk.2 | (and_intros <;> first | exact hk.1 | exact hk.2 | exact hk.1.1 | exact hk.1.2 | exact hk.2.1 | exact hk.2.2 | exact hk.1.1.1 | exact hk.1.1.2 | exact hk.1.2.1 | exact hk.1.2.2 | exact hk.2.1.1 | exact hk.2.1.2 | exact hk.2.2.1 | exact hk.2.2.2 | trivial))⟩, ⟨by (try simp only [hl5_1]); (with_reducible repeat (first | apply Z9 | apply Z10 | apply Z11)); exact Z12 HO136.out (fun k_ hk => by first | exact hk.2 | (and_intros <;> first | exact hk.1 | exact hk.2 | exact hk.1.1 | exact hk.1.2 | exact hk.2.1 | exact hk.2.2 | exact hk.1.1.1 | exact hk.1.1.2 | exact hk.1.2.1 | exact hk.1.2.2 | exact hk.2.1.1 | exact hk.2.1.2 | exact hk.2.2.1 | exact hk.2.2.2 | trivial))⟩, ⟨Q0⟩⟩
       case round =>
        clear H'
        try clear c1
        try clear p1
        try clear q1
        try clear hx1
        try clear qi1
        try clear p2
        try clear c4
        try clear c4b0
        try clear c4b1
        try clear c5
        try clear c5b0
        try clear c5b1
        try clear p6
        try clear c9
        try clear c9b0
        try clear c10
        try clear c10b0
        try clear c11
        try clear c11b0
        try clear p12
        try clear q12
        try clear hx12
        try clear hf12
        try clear c15
        try clear c15b0
        try clear c15b1
        try clear p16
        try clear q16
        try clear hx16
        try clear qi16
        try clear hf16
        try clear hx12_0
        try clear hx16_0
        try clear p12
        try clear p16
        try clear p2
        try clear q12
        try clear q16
        obtain ⟨x5_2, x7_2, x8_2, rfl, HA, HK2, HO_5, HO_7, HB⟩ := hrel
        have hl5_2 := (Kd.R_reads' HO_5.out).1
        rw [hl5_2] at HO_5
        (try simp only [hl5_2])
        (try simp only [hl5_2] at HO_7)
        cases gk with
        | zero => exact absurd HA.out (by simp [impl_distances.l1])
        | succ k2 =>
         have H := HA.out
         clear HA
         simp only [impl_distances.l1] at H
         by_cases c21 : x8_2 < (x7_2.length : Int)
         ·rw [if_pos c21] at H
          have c21b0 := Z37 c21
          clear c21
          by_cases c22 : 0 ≤ x8_2
          ·rw [if_pos c22] at H
           have c22b0 := Z37 c22
           clear c22
           replace H := Z35.mp H
           obtain ⟨t138, A230, H⟩ := H
           replace H : (impl_distances.l2 k2 a0 l1 x5_2 x7_2 x8_2 t138 l1 (l1.length : Int) 0) = some r := H
           have A23 := Ya A230
           clear A230
           have H' := Ya H
           clear H
           obtain ⟨Ao24, co24, rfl⟩ := Z17 HO_7.out
           have p137 : 0 ≤ (x8_2 : Int) := Z29 Q1
           have q137 : x8_2 < (x7_2.length : Int) := Z29 Q1
           obtain ⟨ad137, e137, hx137_0⟩ := Kd.at_int (Kd.R_reads' HO_7.out).2.2 x8_2 p137 q137
           cases e137
           replace p137 := eq_true p137
           replace q137 := eq_true q137
           go_wp2_with (first | ((with_reducible refine gate_callee (f := 61) rfl ?_); refine Yz 39 Try.func61 #[.int .i64 a0, .int .i64 (rd x7_2 x8_2)] ?_; (with_reducible refine (impl_permutationAt.calls k2 a0 (rd x7_2 x8_2) t138 _ A23.out).mono ?_); rintro e w25 ⟨v139, rfl, ho0, hb⟩; refine ⟨_, rfl, ?_⟩; have HO140 := Yl (Kd.R_new' (Kd.R_new' ho0 (Z16 (Yr HO_5.out))) (Z16 (Yr HO_7.out))); replace HO_5 := Ya (Kd.R_elder' (Yr HO_5.out) (Kd.R_base ho0) hb); replace HO_7 := Ya (Kd.R_elder' (Yr HO_7.out) (Kd.R_base ho0) hb); replace HB := Yh hb; (try clear hb ho0)))
           go_loopg [7, 42] k2 (fun kq v7 v42 w' => ∃ (x5_3 : List Int) (x7_3 : List Int) (x42_3 : Int), v42 = .int .i64 x42_3 ∧ Aside0 (impl_distances.l2 kq a0 l1 x5_3 x7_3 x8_2 t138 l1 (l1.length : Int) x42_3 = some r) ∧ Aside0 (kq ≤ k2) ∧ Aside0 (Kd.R (Kd.int .i64) 3 w' w.heap.size (fun k_ => some k_ ≠ (v7 : Value).ownBlock ∧ some k_ ≠ (v139 : Value).ownBlock) (.slice (some ⟨go16, 0, none⟩) x5_2.length co8) x5_3) ∧ Aside0 (Kd.R (Kd.int .i64) 3 w' w.heap.size (fun k_ => some k_ ≠ ((.slice (some ⟨go16, 0, none⟩) x5_2.length co8) : Value).ownBlock ∧ some k_ ≠ (v139 : Value).ownBlock) v7 x7_3) ∧ Aside0 (Kd.R (Kd.int .i64) 3 w' w.heap.size (fun k_ => some k_ ≠ ((.slice (some ⟨go16, 0, none⟩) x5_2.length co8) : Value).ownBlock ∧ some k_ ≠ (v7 : Value).ownBlock) v139 t138) ∧ Aside0 (Below w.heap.size w w'))
           case atStart => exact ⟨(x5_2), (x7_2), (0), Q5, H', ⟨Nat.le_refl _⟩, ⟨by (try simp only [hl5_1]); (try simp only [hl5_2]); (with_reducible repeat (first | apply Z9 | apply Z10 | apply Z11)); exact HO_5.out⟩, ⟨by (try simp only [hl5_1]); (try simp only [hl5_2]); (with_reducible repeat (first | apply Z9 | apply Z10 | apply Z11)); exact HO_7.out⟩, ⟨by (try simp only [hl5_1]); (try simp only [hl5_2]); (with_reducible repeat (first | apply Z9 | apply Z10 | apply Z11)); exact Z12 HO140.out (fun k_ hk => by first | exact ⟨hk.1.2, hk.2⟩ | (and_intros <;> first | exact hk.1 | exact hk.2 | exact hk.1.1 | exact hk.1.2 | exact hk.2.1 | exact hk.2.2 | exact hk.1.1.1 | exact hk.1.1.2 | exact hk.1.2.1 | exact hk.1.2.2 | exact hk.2.1.1 | exact hk.2.1.2 | exact hk.2.2.1 | exact hk.2.2.2 | trivial))⟩, ⟨Q0⟩⟩
           case round =>
            clear H'
            try clear c1
            try clear p1
            try clear q1
            try clear hx1
            try clear qi1
            try clear c2
            try clear p2
            try clear c4
            try clear c4b0
            try clear c4b1
            try clear c5
            try clear c5b0
            try clear c5b1
            try clear c6
            try clear p6
            try clear c9
            try clear c9b0
            try clear c10
            try clear c10b0
            try clear c11
            try clear c11b0
            try clear p12
            try clear q12
            try clear hx12
            try clear hf12
            try clear p13
            try clear q13
            try clear hx13
            try clear c15
            try clear c15b0
            try clear c15b1
            try clear p16
            try clear q16
            try clear hx16
            try clear qi16
            try clear hf16
            try clear c21
            try clear c21b0
            try clear c22
            try clear c22b0
            try clear hx12_0
            try clear hx137_0
            try clear hx16_0
            try clear p1
            try clear p12
            try clear p137
            try clear p16
            try clear p2
            try clear p6
            try clear q1
            try clear q12
            try clear q137
            try clear q16
            obtain ⟨x5_3, x7_3, x42_3, rfl, HA, HK3, HO_5, HO_7, HO_9, HB⟩ := hrel
            have hl5_3 := (Kd.R_reads' HO_5.out).1
            rw [hl5_3] at HO_5
            (try simp only [hl5_3])
            (try simp only [hl5_3] at HO_7)
            (try simp only [hl5_3] at HO_9)
            cases gk with
            | zero => exact absurd HA.out (by simp [impl_distances.l2])
            | succ k3 =>
             have H := HA.out
             clear HA
             simp only [impl_distances.l2] at H
             by_cases c26 : x42_3 < (l1.length : Int)
             ·rw [if_pos c26] at H
              have c26b0 := Z37 c26
              clear c26
              by_cases c27 : 0 ≤ x42_3
              ·rw [if_pos c27] at H
               have c27b0 := Z37 c27
               clear c27
               by_cases c28 : x42_3 < (l1.length : Int)
               ·rw [if_pos c28] at H
                have c28b0 := Z37 c28
                clear c28
                replace H := Z35.mp H
                obtain ⟨t143, A290, H⟩ := H
                replace H : ((impl_permutationRank.f k3 t143).bind fun t146 => (if 0 ≤ t146 then (if t146 < (x5_3.length : Int) then (if (rd x5_3 t146) < 0 then (if 0 ≤ x8_2 then (if x8_2 < (x7_3.length : Int) then (if 0 ≤ (rd x7_3 x8_2) then (if (rd x7_3 x8_2) < (x5_3.length : Int) then (if x7_3.length < 17592186044416 then (impl_distances.l2 k3 a0 l1 (x5_3.set (t146 : Int).toNat (wrap64 ((rd x5_3 (rd x7_3 x8_2)) + 1))) (x7_3 ++ [t146]) x8_2 t138 l1 (l1.length : Int) (wrap64 (x42_3 + 1))) else (none)) else (none)) else (none)) else (none)) else (none)) else (impl_distances.l2 k3 a0 l1 x5_3 x7_3 x8_2 t138 l1 (l1.length : Int) (wrap64 (x42_3 + 1)))) else (none)) else (none))) = some r := H
                have A29 := Ya A290
                clear A290
                replace H := Z35.mp H
                obtain ⟨t146, A300, H⟩ := H
                replace H : (if 0 ≤ t146 then (if t146 < (x5_3.length : Int) then (if (rd x5_3 t146) < 0 then (if 0 ≤ x8_2 then (if x8_2 < (x7_3.length : Int) then (if 0 ≤ (rd x7_3 x8_2) then (if (rd x7_3 x8_2) < (x5_3.length : Int) then (if x7_3.length < 17592186044416 then (impl_distances.l2 k3 a0 l1 (x5_3.set (t146 : Int).toNat (wrap64 ((rd x5_3 (rd x7_3 x8_2)) + 1))) (x7_3 ++ [t146]) x8_2 t138 l1 (l1.length : Int) (wrap64 (x42_3 + 1))) else (none)) else (none)) else (none)) else (none)) else (none)) else (impl_distances.l2 k3 a0 l1 x5_3 x7_3 x8_2 t138 l1 (l1.length : Int) (wrap64 (x42_3 + 1)))) else (none)) else (none)) = some r := H
                have A30 := Ya A300
                clear A300
                by_cases c31 : 0 ≤ t146
                ·rw [if_pos c31] at H
                 have c31b0 := Z37 c31
                 clear c31
                 by_cases c32 : t146 < (x5_3.length : Int)
                 ·rw [if_pos c32] at H
                  have c32b0 := Z37 c32
                  clear c32
                  by_cases c33 : (rd x5_3 t146) < 0
                  ·rw [if_pos c33] at H
                   have c33b0 := Z37 c33
                   clear c33
                   by_cases c34 : 0 ≤ x8_2
                   ·rw [if_pos c34] at H
                    have c34b0 := Z37 c34
                    clear c34
                    by_cases c35 : x8_2 < (x7_3.length : Int)
                    ·rw [if_pos c35] at H
                     have c35b0 := Z37 c35
                     clear c35
                     by_cases c36 : 0 ≤ (rd x7_3 x8_2)
                     ·rw [if_pos c36] at H
                      have c36b0 := Z37 c36
                      clear c36
                      by_cases c37 : (rd x7_3 x8_2) < (x5_3.length : Int)
                      ·rw [if_pos c37] at H
                       have c37b0 := Z37 c37
                       clear c37
                       obtain ⟨y150, hy150⟩ : ∃ y_ : List Int, y_ = (x5_3.set (t146 : Int).toNat (wrap64 ((rd x5_3 (rd x7_3 x8_2)) + 1))) := ⟨_, rfl⟩
                       replace H : (if x7_3.length < 17592186044416 then (impl_distances.l2 k3 a0 l1 y150 (x7_3 ++ [t146]) x8_2 t138 l1 (l1.length : Int) (wrap64 (x42_3 + 1))) else (none)) = some r := by first | (rw [hy150]; with_reducible exact H) | (have H2_ := (Option.bind_some _ _).symm.trans H; rw [hy150]; with_reducible exact H2_) | (have H2_ := (Option.bind_some _ _).symm.trans H; with_reducible exact H2_) | with_reducible exact H | (rw [hy150]; exact H) | exact H
                       have Ny150 := Ya hy150
                       clear hy150
                       by_cases c39 : x7_3.length < 17592186044416
                       ·rw [if_pos c39] at H
                        have LMc39 := Ya c39
                        clear c39
                        obtain ⟨y151, hy151⟩ : ∃ y_ : List Int, y_ = (x7_3 ++ [t146]) := ⟨_, rfl⟩
                        replace H : (impl_distances.l2 k3 a0 l1 y150 y151 x8_2 t138 l1 (l1.length : Int) (wrap64 (x42_3 + 1))) = some r := by first | (rw [hy151]; with_reducible exact H) | (have H2_ := (Option.bind_some _ _).symm.trans H; rw [hy151]; with_reducible exact H2_) | (have H2_ := (Option.bind_some _ _).symm.trans H; with_reducible exact H2_) | with_reducible exact H | (rw [hy151]; exact H) | exact H
                        have Ny151 := Ya hy151
                        clear hy151
                        have H' := Ya H
                        clear H
                        have p141 : 0 ≤ (x42_3 : Int) := Z29 Q1
                        have q141 : x42_3 < (l1.length : Int) := Z29 Q1
                        obtain ⟨ad141, e141, hx141_0, hx141_1, hx141_2⟩ := at_T45 HR1.out x42_3 p141 q141
                        cases e141
                        try replace hx141_0 := (HB.out.cell (World.block_lt_of_cell? w _ hx141_0)).trans hx141_0
                        try replace hx141_1 := (HB.out.cell (World.block_lt_of_cell? w _ hx141_1)).trans hx141_1
                        try replace hx141_2 := (HB.out.cell (World.block_lt_of_cell? w _ hx141_2)).trans hx141_2
                        replace p141 := eq_true p141
                        replace q141 := eq_true q141
                        go_wp2_with (first | ((with_reducible refine gate_dst (N := 11) rfl ?_); refine Yx 11 #[.int .i64 0, .int .i64 0, .int .i64 0] 45 ?_; intro gb142 hg w40 hbox hb; replace HO_5 := Yw HO_5 hb; replace HO_7 := Yw HO_7 hb; replace HO_9 := Yw HO_9 hb; have BK142 := Ya hbox; have GE142 := Yg hg; replace HB := Yh hb; clear hb hbox hg; have hcz41_0 : w40.cell? ⟨gb142, 0, none⟩ = some (.int .i64 0) := (Z22 BK142.out 0).trans rfl; have hcz41_1 : w40.cell? ⟨gb142, 1, none⟩ = some (.int .i64 0) := (Z22 BK142.out 1).trans rfl; have hcz41_2 : w40.cell? ⟨gb142, 2, none⟩ = some (.int .i64 0) := (Z22 BK142.out 2).trans rfl; have hfz41_0 := Z23 BK142.out 0; have hfz41_1 := Z23 BK142.out 1; have hfz41_2 := Z23 BK142.out 2; obtain ⟨Ao42, co42, rfl⟩ := Z17 HO_9.out) | ((with_reducible refine gate_callee (f := 51) rfl ?_); refine Yz 48 Try.func51 #[.slice Ao42 t138.length co42, .agg #[.int .i64 ((rd_T45 l1 x42_3).f0), .int .i64 ((rd_T45 l1 x42_3).f1), .int .i64 ((rd_T45 l1 x42_3).f2)]] ?_; (with_reducible refine (impl_moved.calls k3 _ _ t138 ((rd_T45 l1 x42_3).f0) ((rd_T45 l1 x42_3).f1) ((rd_T45 l1 x42_3).f2) t143 _ ?side1 ((Kd.R_reads' HO_9.out).2.1) A29.out).mono ?_); (case side1 => refine (Kd.R_reads' (e := 3) (base := w.heap.size) (ok := fun k_ => (some k_ ≠ (.slice (some ⟨go16, 0, none⟩) x5_3.length co8 : Value).ownBlock ∧ some k_ ≠ (u7 : Value).ownBlock)) (n := t138.length) (c := co42) ?_).2.2; exact (Yj (Z13 (p := ⟨gb142, 2, none⟩) (Z13 (p := ⟨gb142, 1, none⟩) (Z13 (p := ⟨gb142, 0, none⟩) (Z15 HO_9.out BK142.out (by decide)) (fun k_ hk => by first | exact hk.2 | (and_intros <;> first | exact hk.1 | exact hk.2 | exact hk.1.1 | exact hk.1.2 | exact hk.2.1 | exact hk.2.2 | exact hk.1.1.1 | exact hk.1.1.2 | exact hk.1.2.1 | exact hk.1.2.2 | exact hk.2.1.1 | exact hk.2.1.2 | exact hk.2.2.1 | exact hk.2.2.2 | trivial)) (.int .i64 ((rd_T45 l1 x42_3).f0))) (fun k_ hk => by first | exact hk.2 | (and_intros <;> first | exact hk.1 | exact hk.2 | exact hk.1.1 | exact hk.1.2 | exact hk.2.1 | exact hk.2.2 | exact hk.1.1.1 | exact hk.1.1.2 | exact hk.1.2.1 | exact hk.1.2.2 | exact hk.2.1.1 | exact hk.2.1.2 | exact hk.2.2.1 | exact hk.2.2.2 | trivial)) (.int .i64 ((rd_T45 l1 x42_3).f1))) (fun k_ hk => by first | exact hk.2 | (and_intros <;> first | exact hk.1 | exact hk.2 | exact hk.1.1 | exact hk.1.2 | exact hk.2.1 | exact hk.2.2 | exact hk.1.1.1 | exact hk.1.1.2 | exact hk.1.2.1 | exact hk.1.2.2 | exact hk.2.1.1 | exact hk.2.1.2 | exact hk.2.2.1 | exact hk.2.2.2 | trivial)) (.int .i64 ((rd_T45 l1 x42_3).f2))) (fun _ h_ => h_.1))); rintro e w43 ⟨v144, rfl, ho0, hb⟩; refine ⟨_, rfl, ?_⟩; have HO145 := Yl (Kd.R_new' (Kd.R_new' (Kd.R_new' ho0 (Z16 (Yj (Z13 (p := ⟨gb142, 2, none⟩) (Z13 (p := ⟨gb142, 1, none⟩) (Z13 (p := ⟨gb142, 0, none⟩) (Z15 HO_5.out BK142.out (by decide)) (fun k_ hk => by first | exact hk.2 | (and_intros <;> first | exact hk.1 | exact hk.2 | exact hk.1.1 | exact hk.1.2 | exact hk.2.1 | exact hk.2.2 | exact hk.1.1.1 | exact hk.1.1.2 | exact hk.1.2.1 | exact hk.1.2.2 | exact hk.2.1.1 | exact hk.2.1.2 | exact hk.2.2.1 | exact hk.2.2.2 | trivial)) (.int .i64 ((rd_T45 l1 x42_3).f0))) (fun k_ hk => by first | exact hk.2 | (and_intros <;> first | exact hk.1 | exact hk.2 | exact hk.1.1 | exact hk.1.2 | exact hk.2.1 | exact hk.2.2 | exact hk.1.1.1 | exact hk.1.1.2 | exact hk.1.2.1 | exact hk.1.2.2 | exact hk.2.1.1 | exact hk.2.1.2 | exact hk.2.2.1 | exact hk.2.2.2 | trivial)) (.int .i64 ((rd_T45 l1 x42_3).f1))) (fun k_ hk => by first | exact hk.2 | (and_intros <;> first | exact hk.1 | exact hk.2 | exact hk.1.1 | exact hk.1.2 | exact hk.2.1 | exact hk.2.2 | exact hk.1.1.1 | exact hk.1.1.2 | exact hk.1.2.1 | exact hk.1.2.2 | exact hk.2.1.1 | exact hk.2.1.2 | exact hk.2.2.1 | exact hk.2.2.2 | trivial)) (.int .i64 ((rd_T45 l1 x42_3).f2))) (fun _ h_ => h_.1)))) (Z16 (Yj (Z13 (p := ⟨gb142, 2, none⟩) (Z13 (p := ⟨gb142, 1, none⟩) (Z13 (p := ⟨gb142, 0, none⟩) (Z15 HO_7.out BK142.out (by decide)) (fun k_ hk => by first | exact hk.2 | (and_intros <;> first | exact hk.1 | exact hk.2 | exact hk.1.1 | exact hk.1.2 | exact hk.2.1 | exact hk.2.2 | exact hk.1.1.1 | exact hk.1.1.2 | exact hk.1.2.1 | exact hk.1.2.2 | exact hk.2.1.1 | exact hk.2.1.2 | exact hk.2.2.1 | exact hk.2.2.2 | trivial)) (.int .i64 ((rd_T45 l1 x42_3).f0))) (fun k_ hk => by first | exact hk.2 | (and_intros <;> first | exact hk.1 | exact hk.2 | exact hk.1.1 | exact hk.1.2 | exact hk.2.1 | exact hk.2.2 | exact hk.1.1.1 | exact hk.1.1.2 | exact hk.1.2.1 | exact hk.1.2.2 | exact hk.2.1.1 | exact hk.2.1.2 | exact hk.2.2.1 | exact hk.2.2.2 | trivial)) (.int .i64 ((rd_T45 l1 x42_3).f1))) (fun k_ hk => by first | exact hk.2 | (and_intros <;> first | exact hk.1 | exact hk.2 | exact hk.1.1 | exact hk.1.2 | exact hk.2.1 | exact hk.2.2 | exact hk.1.1.1 | exact hk.1.1.2 | exact hk.1.2.1 | exact hk.1.2.2 | exact hk.2.1.1 | exact hk.2.1.2 | exact hk.2.2.1 | exact hk.2.2.2 | trivial)) (.int .i64 ((rd_T45 l1 x42_3).f2))) (fun _ h_ => h_.1)))) (Z16 (Yj (Z13 (p := ⟨gb142, 2, none⟩) (Z13 (p := ⟨gb142, 1, none⟩) (Z13 (p := ⟨gb142, 0, none⟩) (Z15 HO_9.out BK142.out (by decide)) (fun k_ hk => by first | exact hk.2 | (and_intros <;> first | exact hk.1 | exact hk.2 | exact hk.1.1 | exact hk.1.2 | exact hk.2.1 | exact hk.2.2 | exact hk.1.1.1 | exact hk.1.1.2 | exact hk.1.2.1 | exact hk.1.2.2 | exact hk.2.1.1 | exact hk.2.1.2 | exact hk.2.2.1 | exact hk.2.2.2 | trivial)) (.int .i64 ((rd_T45 l1 x42_3).f0))) (fun k_ hk => by first | exact hk.2 | (and_intros <;> first | exact hk.1 | exact hk.2 | exact hk.1.1 | exact hk.1.2 | exact hk.2.1 | exact hk.2.2 | exact hk.1.1.1 | exact hk.1.1.2 | exact hk.1.2.1 | exact hk.1.2.2 | exact hk.2.1.1 | exact hk.2.1.2 | exact hk.2.2.1 | exact hk.2.2.2 | trivial)) (.int .i64 ((rd_T45 l1 x42_3).f1))) (fun k_ hk => by first | exact hk.2 | (and_intros <;> first | exact hk.1 | exact hk.2 | exact hk.1.1 | exact hk.1.2 | exact hk.2.1 | exact hk.2.2 | exact hk.1.1.1 | exact hk.1.1.2 | exact hk.1.2.1 | exact hk.1.2.2 | exact hk.2.1.1 | exact hk.2.1.2 | exact hk.2.2.1 | exact hk.2.2.2 | trivial)) (.int .i64 ((rd_T45 l1 x42_3).f2))) (fun _ h_ => h_.1)))); replace HO_5 := Ya (Kd.R_elder' (Yj (Z13 (p := ⟨gb142, 2, none⟩) (Z13 (p := ⟨gb142, 1, none⟩) (Z13 (p := ⟨gb142, 0, none⟩) (Z15 HO_5.out BK142.out (by decide)) (fun k_ hk => by first | exact hk.2 | (and_intros <;> first | exact hk.1 | exact hk.2 | exact hk.1.1 | exact hk.1.2 | exact hk.2.1 | exact hk.2.2 | exact hk.1.1.1 | exact hk.1.1.2 | exact hk.1.2.1 | exact hk.1.2.2 | exact hk.2.1.1 | exact hk.2.1.2 | exact hk.2.2.1 | exact hk.2.2.2 | trivial)) (.int .i64 ((rd_T45 l1 x42_3).f0))) (fun k_ hk => by first | exact hk.2 | (and_intros <;> first | exact hk.1 | exact hk.2 | exact hk.1.1 | exact hk.1.2 | exact hk.2.1 | exact hk.2.2 | exact hk.1.1.1 | exact hk.1.1.2 | exact hk.1.2.1 | exact hk.1.2.2 | exact hk.2.1.1 | exact hk.2.1.2 | exact hk.2.2.1 | exact hk.2.2.2 | trivial)) (.int .i64 ((rd_T45 l1 x42_3).f1))) (fun k_ hk => by first | exact hk.2 | (and_intros <;> first | exact hk.1 | exact hk.2 | exact hk.1.1 | exact hk.1.2 | exact hk.2.1 | exact hk.2.2 | exact hk.1.1.1 | exact hk.1.1.2 | exact hk.1.2.1 | exact hk.1.2.2 | exact hk.2.1.1 | exact hk.2.1.2 | exact hk.2.2.1 | exact hk.2.2.2 | trivial)) (.int .i64 ((rd_T45 l1 x42_3).f2))) (fun _ h_ => h_.1)) (Kd.R_base ho0) hb); replace HO_7 := Ya (Kd.R_elder' (Yj (Z13 (p := ⟨gb142, 2, none⟩) (Z13 (p := ⟨gb142, 1, none⟩) (Z13 (p := ⟨gb142, 0, none⟩) (Z15 HO_7.out BK142.out (by decide)) (fun k_ hk => by first | exact hk.2 | (and_intros <;> first | exact hk.1 | exact hk.2 | exact hk.1.1 | exact hk.1.2 | exact hk.2.1 | exact hk.2.2 | exact hk.1.1.1 | exact hk.1.1.2 | exact hk.1.2.1 | exact hk.1.2.2 | exact hk.2.1.1 | exact hk.2.1.2 | exact hk.2.2.1 | exact hk.2.2.2 | trivial)) (.int .i64 ((rd_T45 l1 x42_3).f0))) (fun k_ hk => by first | exact hk.2 | (and_intros <;> first | exact hk.1 | exact hk.2 | exact hk.1.1 | exact hk.1.2 | exact hk.2.1 | exact hk.2.2 | exact hk.1.1.1 | exact hk.1.1.2 | exact hk.1.2.1 | exact hk.1.2.2 | exact hk.2.1.1 | exact hk.2.1.2 | exact hk.2.2.1 | exact hk.2.2.2 | trivial)) (.int .i64 ((rd_T45 l1 x42_3).f1))) (fun k_ hk => by first | exact hk.2 | (and_intros <;> first | exact hk.1 | exact hk.2 | exact hk.1.1 | exact hk.1.2 | exact hk.2.1 | exact hk.2.2 | exact hk.1.1.1 | exact hk.1.1.2 | exact hk.1.2.1 | exact hk.1.2.2 | exact hk.2.1.1 | exact hk.2.1.2 | exact hk.2.2.1 | exact hk.2.2.2 | trivial)) (.int .i64 ((rd_T45 l1 x42_3).f2))) (fun _ h_ => h_.1)) (Kd.R_base ho0) hb); replace HO_9 := Ya (Kd.R_elder' (Yj (Z13 (p := ⟨gb142, 2, none⟩) (Z13 (p := ⟨gb142, 1, none⟩) (Z13 (p := ⟨gb142, 0, none⟩) (Z15 HO_9.out BK142.out (by decide)) (fun k_ hk => by first | exact hk.2 | (and_intros <;> first | exact hk.1 | exact hk.2 | exact hk.1.1 | exact hk.1.2 | exact hk.2.1 | exact hk.2.2 | exact hk.1.1.1 | exact hk.1.1.2 | exact hk.1.2.1 | exact hk.1.2.2 | exact hk.2.1.1 | exact hk.2.1.2 | exact hk.2.2.1 | exact hk.2.2.2 | trivial)) (.int .i64 ((rd_T45 l1 x42_3).f0))) (fun k_ hk => by first | exact hk.2 | (and_intros <;> first | exact hk.1 | exact hk.2 | exact hk.1.1 | exact hk.1.2 | exact hk.2.1 | exact hk.2.2 | exact hk.1.1.1 | exact hk.1.1.2 | exact hk.1.2.1 | exact hk.1.2.2 | exact hk.2.1.1 | exact hk.2.1.2 | exact hk.2.2.1 | exact hk.2.2.2 | trivial)) (.int .i64 ((rd_T45 l1 x42_3).f1))) (fun k_ hk => by first | exact hk.2 | (and_intros <;> first | exact hk.1 | exact hk.2 | exact hk.1.1 | exact hk.1.2 | exact hk.2.1 | exact hk.2.2 | exact hk.1.1.1 | exact hk.1.1.2 | exact hk.1.2.1 | exact hk.1.2.2 | exact hk.2.1.1 | exact hk.2.1.2 | exact hk.2.2.1 | exact hk.2.2.2 | trivial)) (.int .i64 ((rd_T45 l1 x42_3).f2))) (fun _ h_ => h_.1)) (Kd.R_base ho0) hb); replace BK142 := Yb ⟨Yv3 BK142.out⟩ hb; replace HB := Yh hb; obtain ⟨Ao44, co44, rfl⟩ := Z17 HO145.out) | ((with_reducible refine gate_callee (f := 52) rfl ?_); refine Yz 49 Try.func52 #[.slice Ao44 t143.length co44] ?_; (with_reducible refine (impl_permutationRank.calls k3 _ _ t143 t146 _ (Yc (Kd.R_reads' HO145.out).2.2) ((Kd.R_reads' HO145.out).2.1) A30.out).mono ?_); rintro e w' ⟨rfl, ⟨nd, rfl⟩⟩; refine ⟨_, rfl, ?_⟩; (try (rw [drewN_self w43]; generalize hq_ : World.drewN w43 _ = w43; replace HO145 : Aside0 (Kd.R (Kd.int .i64) 3 w43 w.heap.size (fun k_ => some k_ ≠ (.slice (some ⟨go16, 0, none⟩) x5_3.length co8 : Value).ownBlock ∧ some k_ ≠ (u7 : Value).ownBlock ∧ some k_ ≠ (.slice Ao42 t138.length co42 : Value).ownBlock) (.slice Ao44 t143.length co44) t143) := ⟨by rw [← hq_]; exact (Yj HO145.out (fun k_ hk => by first | exact ⟨hk.1.1.2, ⟨hk.1.2, hk.2⟩⟩ | (and_intros <;> first | exact hk.1 | exact hk.2 | exact hk.1.1 | exact hk.1.2 | exact hk.2.1 | exact hk.2.2 | exact hk.1.1.1 | exact hk.1.1.2 | exact hk.1.2.1 | exact hk.1.2.2 | exact hk.2.1.1 | exact hk.2.1.2 | exact hk.2.2.1 | exact hk.2.2.2 | trivial)))⟩; replace HO_5 : Aside0 (Kd.R (Kd.int .i64) 3 w43 w.heap.size (fun k_ => some k_ ≠ (.slice Ao44 t143.length co44 : Value).ownBlock ∧ some k_ ≠ (u7 : Value).ownBlock ∧ some k_ ≠ (.slice Ao42 t138.length co42 : Value).ownBlock) (.slice (some ⟨go16, 0, none⟩) x5_3.length co8) x5_3) := ⟨by rw [← hq_]; exact (Yj HO_5.out (fun k_ hk => by first | exact ⟨hk.2, ⟨hk.1.1, hk.1.2⟩⟩ | (and_intros <;> first | exact hk.1 | exact hk.2 | exact hk.1.1 | exact hk.1.2 | exact hk.2.1 | exact hk.2.2 | exact hk.1.1.1 | exact hk.1.1.2 | exact hk.1.2.1 | exact hk.1.2.2 | exact hk.2.1.1 | exact hk.2.1.2 | exact hk.2.2.1 | exact hk.2.2.2 | trivial)))⟩; replace HO_7 : Aside0 (Kd.R (Kd.int .i64) 3 w43 w.heap.size (fun k_ => some k_ ≠ (.slice Ao44 t143.length co44 : Value).ownBlock ∧ some k_ ≠ (.slice (some ⟨go16, 0, none⟩) x5_3.length co8 : Value).ownBlock ∧ some k_ ≠ (.slice Ao42 t138.length co42 : Value).ownBlock) u7 x7_3) := ⟨by rw [← hq_]; exact (Yj HO_7.out (fun k_ hk => by first | exact ⟨hk.2, ⟨hk.1.1, hk.1.2⟩⟩ | (and_intros <;> first | exact hk.1 | exact hk.2 | exact hk.1.1 | exact hk.1.2 | exact hk.2.1 | exact hk.2.2 | exact hk.1.1.1 | exact hk.1.1.2 | exact hk.1.2.1 | exact hk.1.2.2 | exact hk.2.1.1 | exact hk.2.1.2 | exact hk.2.2.1 | exact hk.2.2.2 | trivial)))⟩; replace HO_9 : Aside0 (Kd.R (Kd.int .i64) 3 w43 w.heap.size (fun k_ => some k_ ≠ (.slice Ao44 t143.length co44 : Value).ownBlock ∧ some k_ ≠ (.slice (some ⟨go16, 0, none⟩) x5_3.length co8 : Value).ownBlock ∧ some k_ ≠ (u7 : Value).ownBlock) (.slice Ao42 t138.length co42) t138) := ⟨by rw [← hq_]; exact (Yj HO_9.out (fun k_ hk => by first | exact ⟨hk.2, ⟨hk.1.1, hk.1.2⟩⟩ | (and_intros <;> first | exact hk.1 | exact hk.2 | exact hk.1.1 | exact hk.1.2 | exact hk.2.1 | exact hk.2.2 | exact hk.1.1.1 | exact hk.1.1.2 | exact hk.1.2.1 | exact hk.1.2.2 | exact hk.2.1.1 | exact hk.2.1.2 | exact hk.2.2.1 | exact hk.2.2.2 | trivial)))⟩; replace BK142 : Aside0 (w43.heap[gb142]? = some (.cells #[.int .i64 ((rd_T45 l1 x42_3).f0), .int .i64 ((rd_T45 l1 x42_3).f1), .int .i64 ((rd_T45 l1 x42_3).f2)] 45 (0, 0))) := ⟨by rw [← hq_]; exact (Yk BK142.out)⟩; replace HB : Aside0 (Below w.heap.size w w43) := ⟨by rw [← hq_]; exact Q12⟩; clear hq_)); have p147 : 0 ≤ (t146 : Int) := Z29 Q1; have q147 : t146 < (x5_3.length : Int) := Z29 Q1; obtain ⟨ad147, e147, hx147_0⟩ := Kd.at_int (Kd.R_reads' HO_5.out).2.2 t146 p147 q147; obtain rfl : (⟨go16, 0, none⟩ : Addr) = ad147 := (by injection e147); (first | simp only [add_plain] at hx147_0 | simp only [add_at] at hx147_0 | simp only [Addr.add, Nat.zero_add] at hx147_0 | skip); replace p147 := eq_true p147; replace q147 := eq_true q147; obtain ⟨Ao45, co45, rfl⟩ := Z17 HO_7.out; have p148 : 0 ≤ (x8_2 : Int) := Z29 Q1; have q148 : x8_2 < (x7_3.length : Int) := Z29 Q1; obtain ⟨ad148, e148, hx148_0⟩ := Kd.at_int (Kd.R_reads' HO_7.out).2.2 x8_2 p148 q148; cases e148; replace p148 := eq_true p148; replace q148 := eq_true q148; have p149 : 0 ≤ ((rd x7_3 x8_2) : Int) := Z29 Q1; have q149 : (rd x7_3 x8_2) < (x5_3.length : Int) := Z29 Q1; obtain ⟨ad149, e149, hx149_0⟩ := Kd.at_int (Kd.R_reads' HO_5.out).2.2 (rd x7_3 x8_2) p149 q149; obtain rfl : (⟨go16, 0, none⟩ : Addr) = ad149 := (by injection e149); (first | simp only [add_plain] at hx149_0 | simp only [add_at] at hx149_0 | simp only [Addr.add, Nat.zero_add] at hx149_0 | skip); replace p149 := eq_true p149; replace q149 := eq_true q149; have p38 : 0 ≤ (t146 : Int) := Z29 Q1; have q38 : (t146 : Int) < ((x5_3.length : Int) : Int) := Z29 Q1; obtain ⟨hx38_0, hf38_0⟩ := Kd.R_celln 0 HO_5.out (t146 : Int) p38 q38; replace p38 := eq_true p38; replace q38 := eq_true q38; have n_ := Ya (Z12 (ok' := (fun k_ => some k_ ≠ (.slice (some ad148) x7_3.length co45 : Value).ownBlock ∧ some k_ ≠ (.slice Ao42 t138.length co42 : Value).ownBlock ∧ some k_ ≠ (.slice Ao44 t143.length co44 : Value).ownBlock)) HO_5.out (fun k_ hk => by first | exact ⟨hk.1.1, ⟨hk.1.2, hk.2⟩⟩ | (and_intros <;> first | exact hk.1 | exact hk.2 | exact hk.1.1 | exact hk.1.2 | exact hk.2.1 | exact hk.2.2 | exact hk.1.1.1 | exact hk.1.1.2 | exact hk.1.2.1 | exact hk.1.2.2 | exact hk.2.1.1 | exact hk.2.1.2 | exact hk.2.2.1 | exact hk.2.2.2 | trivial))); clear HO_5; have HO_5 := n_; clear n_; obtain ⟨hy46_, hz46_⟩ := Kd.R_celln 0 HO_5.out (t146 : Int) (Z29 Q1) (Z29 Q1); have HP46 := Kd.R_putg HO_5.out (t146 : Int) (wrap64 ((rd x5_3 (rd x7_3 x8_2)) + 1))) | ((with_reducible refine gate_store (t := 3) (p := 65) rfl ?_); refine store_event (t := 3) (p := 65) (v := ?vo_w47) (w1 := (w43.setCell ⟨go16, (t146 : Int).toNat, none⟩ (.int .i64 (wrap64 ((rd x5_3 (rd x7_3 x8_2)) + 1))))) ?hg ?ho ?hn ?hr ?_; (case ho => rfl); (case hg => rfl); (case hn => rfl); (case hr => first | (go_simp; done) | (go_simp; rfl)); intro w47 hw; have hg : w43.grownBy w47 (some go16) := (by rw [hw]; exact HP46.2); have hp_ : Kd.R (Kd.int .i64) 3 w47 w.heap.size (fun k_ => some k_ ≠ (.slice (some ad148) x7_3.length co45 : Value).ownBlock ∧ some k_ ≠ (.slice Ao42 t138.length co42 : Value).ownBlock ∧ some k_ ≠ (.slice Ao44 t143.length co44 : Value).ownBlock) (.slice (some ⟨go16, 0, none⟩) x5_3.length co8) y150 := (by rw [hw, Ny150.out]; exact HP46.1); clear HP46; replace HO_7 := Ya (Kd.R_after (v := (.slice (some ⟨go16, 0, none⟩) x5_3.length co8)) (v1 := (.slice (some ⟨go16, 0, none⟩) x5_3.length co8)) (ok := (fun k_ => some k_ ≠ (.slice Ao42 t138.length co42 : Value).ownBlock ∧ some k_ ≠ (.slice Ao44 t143.length co44 : Value).ownBlock)) (Yj HO_7.out (fun k_ hk => by first | exact ⟨⟨hk.1.2, hk.2⟩, hk.1.1⟩ | (and_intros <;> first | exact hk.1 | exact hk.2 | exact hk.1.1 | exact hk.1.2 | exact hk.2.1 | exact hk.2.2 | exact hk.1.1.1 | exact hk.1.1.2 | exact hk.1.2.1 | exact hk.1.2.2 | exact hk.2.1.1 | exact hk.2.1.2 | exact hk.2.2.1 | exact hk.2.2.2 | trivial))) hg (.inl rfl)); replace HO_9 := Ya (Kd.R_after (v := (.slice (some ⟨go16, 0, none⟩) x5_3.length co8)) (v1 := (.slice (some ⟨go16, 0, none⟩) x5_3.length co8)) (ok := (fun k_ => some k_ ≠ (.slice (some ad148) x7_3.length co45 : Value).ownBlock ∧ some k_ ≠ (.slice Ao44 t143.length co44 : Value).ownBlock)) (Yj HO_9.out (fun k_ hk => by first | exact ⟨⟨hk.1.2, hk.2⟩, hk.1.1⟩ | (and_intros <;> first | exact hk.1 | exact hk.2 | exact hk.1.1 | exact hk.1.2 | exact hk.2.1 | exact hk.2.2 | exact hk.1.1.1 | exact hk.1.1.2 | exact hk.1.2.1 | exact hk.1.2.2 | exact hk.2.1.1 | exact hk.2.1.2 | exact hk.2.2.1 | exact hk.2.2.2 | trivial))) hg (.inl rfl)); replace BK142 := Ya (blk_grown (g := gb142) (o := .cells #[.int .i64 ((rd_T45 l1 x42_3).f0), .int .i64 ((rd_T45 l1 x42_3).f1), .int .i64 ((rd_T45 l1 x42_3).f2)] 45 (0, 0)) (Yk BK142.out) hg (Kd.R_ne HO_5.out BK142.out (by decide))); replace HO_5 := Ya hp_; replace HO145 := Ya (Kd.R_after (v := (.slice (some ⟨go16, 0, none⟩) x5_3.length co8)) (v1 := (.slice (some ⟨go16, 0, none⟩) x5_3.length co8)) (ok := (fun k_ => some k_ ≠ (.slice (some ad148) x7_3.length co45 : Value).ownBlock ∧ some k_ ≠ (.slice Ao42 t138.length co42 : Value).ownBlock)) (Yj HO145.out (fun k_ hk => by first | exact ⟨⟨hk.1.2, hk.2⟩, hk.1.1.2⟩ | (and_intros <;> first | exact hk.1 | exact hk.2 | exact hk.1.1 | exact hk.1.2 | exact hk.2.1 | exact hk.2.2 | exact hk.1.1.1 | exact hk.1.1.2 | exact hk.1.2.1 | exact hk.1.2.2 | exact hk.2.1.1 | exact hk.2.1.2 | exact hk.2.2.1 | exact hk.2.2.2 | trivial))) hg (.inl rfl)); replace HB := Ya ((by rw [hw]; exact Z6 (HB.out) GB16.out : Below w.heap.size w w47)); clear hg hw hp_) | ((with_reducible refine gate_builtin (b := .append) (xs := #[.tmp 66, .tmp 68]) rfl ?_); at_builtin; refine Kd.R_append (Kd.int .i64) (w0 := w) w.heap.size rfl (.tmp 66) (.tmp 68) 24 3 (.int .i64 0) 8 rfl Try.underlying24 info3 rfl (by decide) (by omega) (.slice (some ad148) x7_3.length co45) x7_3 t146 [.int .i64 t146] (fun k_ => some k_ ≠ (.slice (some ⟨go16, 0, none⟩) x5_3.length co8 : Value).ownBlock ∧ some k_ ≠ (.slice Ao42 t138.length co42 : Value).ownBlock ∧ some k_ ≠ (.slice Ao44 t143.length co44 : Value).ownBlock) (fun _ => False) rfl rfl ?aP (fun _ hk => hk.elim) ?aF ?aO ?aB ?aS ?aL ?_; (case aP => exact rfl); (case aB => exact Q12); (case aF => exact (fun k_ hk => ⟨Kd.fresh' (Z16 (Yr HO_5.out)) k_ hk, Kd.fresh' (Z16 (Yr HO_9.out)) k_ hk, Kd.fresh' (Z16 (Yr HO145.out)) k_ hk⟩)); (case aO => exact (Yj HO_7.out (fun k_ hk => by first | exact ⟨hk.2, ⟨hk.1.1, hk.1.2⟩⟩ | (and_intros <;> first | exact hk.1 | exact hk.2 | exact hk.1.1 | exact hk.1.2 | exact hk.2.1 | exact hk.2.2 | exact hk.1.1.1 | exact hk.1.1.2 | exact hk.1.2.1 | exact hk.1.2.2 | exact hk.2.1.1 | exact hk.2.1.2 | exact hk.2.2.1 | exact hk.2.2.2 | trivial)))); (case aS => exact (Z7 Q12)); (case aL => have := LMc39.out; omega); intro v152 w48 ho hb hg hat; rw [← Ny151.out] at ho; replace HO_5 := Ya (Kd.R_after (ok := (fun k_ => some k_ ≠ (.slice Ao42 t138.length co42 : Value).ownBlock ∧ some k_ ≠ (.slice Ao44 t143.length co44 : Value).ownBlock)) (Yj HO_5.out (fun k_ hk => by first | exact ⟨⟨hk.2.1, hk.2.2⟩, hk.1⟩ | (and_intros <;> first | exact hk.1 | exact hk.2 | exact hk.1.1 | exact hk.1.2 | exact hk.2.1 | exact hk.2.2 | exact hk.1.1.1 | exact hk.1.1.2 | exact hk.1.2.1 | exact hk.1.2.2 | exact hk.2.1.1 | exact hk.2.1.2 | exact hk.2.2.1 | exact hk.2.2.2 | trivial))) hg hat); replace HO_9 := Ya (Kd.R_after (ok := (fun k_ => some k_ ≠ (.slice (some ⟨go16, 0, none⟩) x5_3.length co8 : Value).ownBlock ∧ some k_ ≠ (.slice Ao44 t143.length co44 : Value).ownBlock)) (Yj HO_9.out (fun k_ hk => by first | exact ⟨⟨hk.2, hk.1.2⟩, hk.1.1⟩ | (and_intros <;> first | exact hk.1 | exact hk.2 | exact hk.1.1 | exact hk.1.2 | exact hk.2.1 | exact hk.2.2 | exact hk.1.1.1 | exact hk.1.1.2 | exact hk.1.2.1 | exact hk.1.2.2 | exact hk.2.1.1 | exact hk.2.1.2 | exact hk.2.2.1 | exact hk.2.2.2 | trivial))) hg hat); replace BK142 := Ya (blk_grown (g := gb142) (o := .cells #[.int .i64 ((rd_T45 l1 x42_3).f0), .int .i64 ((rd_T45 l1 x42_3).f1), .int .i64 ((rd_T45 l1 x42_3).f2)] 45 (0, 0)) (Yk BK142.out) hg (Kd.R_ne HO_7.out BK142.out (by decide))); replace HO145 := Ya (Kd.R_after (ok := (fun k_ => some k_ ≠ (.slice (some ⟨go16, 0, none⟩) x5_3.length co8 : Value).ownBlock ∧ some k_ ≠ (.slice Ao42 t138.length co42 : Value).ownBlock)) (Yj HO145.out (fun k_ hk => by first | exact ⟨⟨hk.2, hk.1.2⟩, hk.1.1⟩ | (and_intros <;> first | exact hk.1 | exact hk.2 | exact hk.1.1 | exact hk.1.2 | exact hk.2.1 | exact hk.2.2 | exact hk.1.1.1 | exact hk.1.1.2 | exact hk.1.2.1 | exact hk.1.2.2 | exact hk.2.1.1 | exact hk.2.1.2 | exact hk.2.2.1 | exact hk.2.2.2 | trivial))) hg hat); replace HB := Ya hb; have HO153 := Ya ho; clear HO_7; clear ho hb hg hat))
                        (try simp only [← hl5_3])
                        go_roundg k3
                        case measure => have := HK1.out; have := HK2.out; have := HK3.out; omega
                        case rel => exact ⟨(y150), (y151), (wrap64 (x42_3 + 1)), Q5, H', ⟨by have := HK1.out; have := HK2.out; have := HK3.out; omega⟩, ⟨by (try simp only [hl5_1]); (try simp only [hl5_2]); (try simp only [hl5_3]); (with_reducible repeat (first | apply Z9 | apply Z10 | apply Z11)); exact Z12 HO_5.out (fun k_ hk => by first | exact ⟨hk.2, hk.1.1⟩ | (and_intros <;> first | exact hk.1 | exact hk.2 | exact hk.1.1 | exact hk.1.2 | exact hk.2.1 | exact hk.2.2 | exact hk.1.1.1 | exact hk.1.1.2 | exact hk.1.2.1 | exact hk.1.2.2 | exact hk.2.1.1 | exact hk.2.1.2 | exact hk.2.2.1 | exact hk.2.2.2 | trivial))⟩, ⟨by (try simp only [hl5_1]); (try simp only [hl5_2]); (try simp only [hl5_3]); (with_reducible repeat (first | apply Z9 | apply Z10 | apply Z11)); exact Z12 HO153.out (fun k_ hk => by first | exact ⟨hk.1, hk.2.1⟩ | (and_intros <;> first | exact hk.1 | exact hk.2 | exact hk.1.1 | exact hk.1.2 | exact hk.2.1 | exact hk.2.2 | exact hk.1.1.1 | exact hk.1.1.2 | exact hk.1.2.1 | exact hk.1.2.2 | exact hk.2.1.1 | exact hk.2.1.2 | exact hk.2.2.1 | exact hk.2.2.2 | trivial))⟩, ⟨by (try simp only [hl5_1]); (try simp only [hl5_2]); (try simp only [hl5_3]); (with_reducible repeat (first | apply Z9 | apply Z10 | apply Z11)); exact Z12 HO_9.out (fun k_ hk => by first | exact ⟨hk.1.1, hk.2⟩ | (and_intros <;> first | exact hk.1 | exact hk.2 | exact hk.1.1 | exact hk.1.2 | exact hk.2.1 | exact hk.2.2 | exact hk.1.1.1 | exact hk.1.1.2 | exact hk.1.2.1 | exact hk.1.2.2 | exact hk.2.1.1 | exact hk.2.1.2 | exact hk.2.2.1 | exact hk.2.2.2 | trivial))⟩, ⟨Q0⟩⟩
                       ·rw [if_neg c39] at H
                        exact absurd H (by simp)
                      ·rw [if_neg c37] at H
                       exact absurd H (by simp)
                     ·rw [if_neg c36] at H
                      exact absurd H (by simp)
                    ·rw [if_neg c35] at H
                     exact absurd H (by simp)
                   ·rw [if_neg c34] at H
                    exact absurd H (by simp)
                  ·rw [if_neg c33] at H
                   have c33b0 := Z36 c33
                   clear c33
                   have H' := Ya H
                   clear H
                   have p141 : 0 ≤ (x42_3 : Int) := Z29 Q1
                   have q141 : x42_3 < (l1.length : Int) := Z29 Q1
                   obtain ⟨ad141, e141, hx141_0, hx141_1, hx141_2⟩ := at_T45 HR1.out x42_3 p141 q141
                   cases e141
                   try replace hx141_0 := (HB.out.cell (World.block_lt_of_cell? w _ hx141_0)).trans hx141_0
                   try replace hx141_1 := (HB.out.cell (World.block_lt_of_cell? w _ hx141_1)).trans hx141_1
                   try replace hx141_2 := (HB.out.cell (World.block_lt_of_cell? w _ hx141_2)).trans hx141_2
                   replace p141 := eq_true p141
                   replace q141 := eq_true q141
                   go_wp2_with (first | ((with_reducible refine gate_dst (N := 11) rfl ?_); refine Yx 11 #[.int .i64 0, .int .i64 0, .int .i64 0] 45 ?_; intro gb142 hg w49 hbox hb; replace HO_5 := Yw HO_5 hb; replace HO_7 := Yw HO_7 hb; replace HO_9 := Yw HO_9 hb; have BK142 := Ya hbox; have GE142 := Yg hg; replace HB := Yh hb; clear hb hbox hg; have hcz50_0 : w49.cell? ⟨gb142, 0, none⟩ = some (.int .i64 0) := (Z22 BK142.out 0).trans rfl; have hcz50_1 : w49.cell? ⟨gb142, 1, none⟩ = some (.int .i64 0) := (Z22 BK142.out 1).trans rfl; have hcz50_2 : w49.cell? ⟨gb142, 2, none⟩ = some (.int .i64 0) := (Z22 BK142.out 2).trans rfl; have hfz50_0 := Z23 BK142.out 0; have hfz50_1 := Z23 BK142.out 1; have hfz50_2 := Z23 BK142.out 2; obtain ⟨Ao51, co51, rfl⟩ := Z17 HO_9.out) | ((with_reducible refine gate_callee (f := 51) rfl ?_); refine Yz 48 Try.func51 #[.slice Ao51 t138.length co51, .agg #[.int .i64 ((rd_T45 l1 x42_3).f0), .int .i64 ((rd_T45 l1 x42_3).f1), .int .i64 ((rd_T45 l1 x42_3).f2)]] ?_; (with_reducible refine (impl_moved.calls k3 _ _ t138 ((rd_T45 l1 x42_3).f0) ((rd_T45 l1 x42_3).f1) ((rd_T45 l1 x42_3).f2) t143 _ ?side1 ((Kd.R_reads' HO_9.out).2.1) A29.out).mono ?_); (case side1 => refine (Kd.R_reads' (e := 3) (base := w.heap.size) (ok := fun k_ => (some k_ ≠ (.slice (some ⟨go16, 0, none⟩) x5_3.length co8 : Value).ownBlock ∧ some k_ ≠ (u7 : Value).ownBlock)) (n := t138.length) (c := co51) ?_).2.2; exact (Yj (Z13 (p := ⟨gb142, 2, none⟩) (Z13 (p := ⟨gb142, 1, none⟩) (Z13 (p := ⟨gb142, 0, none⟩) (Z15 HO_9.out BK142.out (by decide)) (fun k_ hk => by first | exact hk.2 | (and_intros <;> first | exact hk.1 | exact hk.2 | exact hk.1.1 | exact hk.1.2 | exact hk.2.1 | exact hk.2.2 | exact hk.1.1.1 | exact hk.1.1.2 | exact hk.1.2.1 | exact hk.1.2.2 | exact hk.2.1.1 | exact hk.2.1.2 | exact hk.2.2.1 | exact hk.2.2.2 | trivial)) (.int .i64 ((rd_T45 l1 x42_3).f0))) (fun k_ hk => by first | exact hk.2 | (and_intros <;> first | exact hk.1 | exact hk.2 | exact hk.1.1 | exact hk.1.2 | exact hk.2.1 | exact hk.2.2 | exact hk.1.1.1 | exact hk.1.1.2 | exact hk.1.2.1 | exact hk.1.2.2 | exact hk.2.1.1 | exact hk.2.1.2 | exact hk.2.2.1 | exact hk.2.2.2 | trivial)) (.int .i64 ((rd_T45 l1 x42_3).f1))) (fun k_ hk => by first | exact hk.2 | (and_intros <;> first | exact hk.1 | exact hk.2 | exact hk.1.1 | exact hk.1.2 | exact hk.2.1 | exact hk.2.2 | exact hk.1.1.1 | exact hk.1.1.2 | exact hk.1.2.1 | exact hk.1.2.2 | exact hk.2.1.1 | exact hk.2.1.2 | exact hk.2.2.1 | exact hk.2.2.2 | trivial)) (.int .i64 ((rd_T45 l1 x42_3).f2))) (fun _ h_ => h_.1))); rintro e w52 ⟨v144, rfl, ho0, hb⟩; refine ⟨_, rfl, ?_⟩; have HO145 := Yl (Kd.R_new' (Kd.R_new' (Kd.R_new' ho0 (Z16 (Yj (Z13 (p := ⟨gb142, 2, none⟩) (Z13 (p := ⟨gb142, 1, none⟩) (Z13 (p := ⟨gb142, 0, none⟩) (Z15 HO_5.out BK142.out (by decide)) (fun k_ hk => by first | exact hk.2 | (and_intros <;> first | exact hk.1 | exact hk.2 | exact hk.1.1 | exact hk.1.2 | exact hk.2.1 | exact hk.2.2 | exact hk.1.1.1 | exact hk.1.1.2 | exact hk.1.2.1 | exact hk.1.2.2 | exact hk.2.1.1 | exact hk.2.1.2 | exact hk.2.2.1 | exact hk.2.2.2 | trivial)) (.int .i64 ((rd_T45 l1 x42_3).f0))) (fun k_ hk => by first | exact hk.2 | (and_intros <;> first | exact hk.1 | exact hk.2 | exact hk.1.1 | exact hk.1.2 | exact hk.2.1 | exact hk.2.2 | exact hk.1.1.1 | exact hk.1.1.2 | exact hk.1.2.1 | exact hk.1.2.2 | exact hk.2.1.1 | exact hk.2.1.2 | exact hk.2.2.1 | exact hk.2.2.2 | trivial)) (.int .i64 ((rd_T45 l1 x42_3).f1))) (fun k_ hk => by first | exact hk.2 | (and_intros <;> first | exact hk.1 | exact hk.2 | exact hk.1.1 | exact hk.1.2 | exact hk.2.1 | exact hk.2.2 | exact hk.1.1.1 | exact hk.1.1.2 | exact hk.1.2.1 | exact hk.1.2.2 | exact hk.2.1.1 | exact hk.2.1.2 | exact hk.2.2.1 | exact hk.2.2.2 | trivial)) (.int .i64 ((rd_T45 l1 x42_3).f2))) (fun _ h_ => h_.1)))) (Z16 (Yj (Z13 (p := ⟨gb142, 2, none⟩) (Z13 (p := ⟨gb142, 1, none⟩) (Z13 (p := ⟨gb142, 0, none⟩) (Z15 HO_7.out BK142.out (by decide)) (fun k_ hk => by first | exact hk.2 | (and_intros <;> first | exact hk.1 | exact hk.2 | exact hk.1.1 | exact hk.1.2 | exact hk.2.1 | exact hk.2.2 | exact hk.1.1.1 | exact hk.1.1.2 | exact hk.1.2.1 | exact hk.1.2.2 | exact hk.2.1.1 | exact hk.2.1.2 | exact hk.2.2.1 | exact hk.2.2.2 | trivial)) (.int .i64 ((rd_T45 l1 x42_3).f0))) (fun k_ hk => by first | exact hk.2 | (and_intros <;> first | exact hk.1 | exact hk.2 | exact hk.1.1 | exact hk.1.2 | exact hk.2.1 | exact hk.2.2 | exact hk.1.1.1 | exact hk.1.1.2 | exact hk.1.2.1 | exact hk.1.2.2 | exact hk.2.1.1 | exact hk.2.1.2 | exact hk.2.2.1 | exact hk.2.2.2 | trivial)) (.int .i64 ((rd_T45 l1 x42_3).f1))) (fun k_ hk => by first | exact hk.2 | (and_intros <;> first | exact hk.1 | exact hk.2 | exact hk.1.1 | exact hk.1.2 | exact hk.2.1 | exact hk.2.2 | exact hk.1.1.1 | exact hk.1.1.2 | exact hk.1.2.1 | exact hk.1.2.2 | exact hk.2.1.1 | exact hk.2.1.2 | exact hk.2.2.1 | exact hk.2.2.2 | trivial)) (.int .i64 ((rd_T45 l1 x42_3).f2))) (fun _ h_ => h_.1)))) (Z16 (Yj (Z13 (p := ⟨gb142, 2, none⟩) (Z13 (p := ⟨gb142, 1, none⟩) (Z13 (p := ⟨gb142, 0, none⟩) (Z15 HO_9.out BK142.out (by decide)) (fun k_ hk => by first | exact hk.2 | (and_intros <;> first | exact hk.1 | exact hk.2 | exact hk.1.1 | exact hk.1.2 | exact hk.2.1 | exact hk.2.2 | exact hk.1.1.1 | exact hk.1.1.2 | exact hk.1.2.1 | exact hk.1.2.2 | exact hk.2.1.1 | exact hk.2.1.2 | exact hk.2.2.1 | exact hk.2.2.2 | trivial)) (.int .i64 ((rd_T45 l1 x42_3).f0))) (fun k_ hk => by first | exact hk.2 | (and_intros <;> first | exact hk.1 | exact hk.2 | exact hk.1.1 | exact hk.1.2 | exact hk.2.1 | exact hk.2.2 | exact hk.1.1.1 | exact hk.1.1.2 | exact hk.1.2.1 | exact hk.1.2.2 | exact hk.2.1.1 | exact hk.2.1.2 | exact hk.2.2.1 | exact hk.2.2.2 | trivial)) (.int .i64 ((rd_T45 l1 x42_3).f1))) (fun k_ hk => by first | exact hk.2 | (and_intros <;> first | exact hk.1 | exact hk.2 | exact hk.1.1 | exact hk.1.2 | exact hk.2.1 | exact hk.2.2 | exact hk.1.1.1 | exact hk.1.1.2 | exact hk.1.2.1 | exact hk.1.2.2 | exact hk.2.1.1 | exact hk.2.1.2 | exact hk.2.2.1 | exact hk.2.2.2 | trivial)) (.int .i64 ((rd_T45 l1 x42_3).f2))) (fun _ h_ => h_.1)))); replace HO_5 := Ya (Kd.R_elder' (Yj (Z13 (p := ⟨gb142, 2, none⟩) (Z13 (p := ⟨gb142, 1, none⟩) (Z13 (p := ⟨gb142, 0, none⟩) (Z15 HO_5.out BK142.out (by decide)) (fun k_ hk => by first | exact hk.2 | (and_intros <;> first | exact hk.1 | exact hk.2 | exact hk.1.1 | exact hk.1.2 | exact hk.2.1 | exact hk.2.2 | exact hk.1.1.1 | exact hk.1.1.2 | exact hk.1.2.1 | exact hk.1.2.2 | exact hk.2.1.1 | exact hk.2.1.2 | exact hk.2.2.1 | exact hk.2.2.2 | trivial)) (.int .i64 ((rd_T45 l1 x42_3).f0))) (fun k_ hk => by first | exact hk.2 | (and_intros <;> first | exact hk.1 | exact hk.2 | exact hk.1.1 | exact hk.1.2 | exact hk.2.1 | exact hk.2.2 | exact hk.1.1.1 | exact hk.1.1.2 | exact hk.1.2.1 | exact hk.1.2.2 | exact hk.2.1.1 | exact hk.2.1.2 | exact hk.2.2.1 | exact hk.2.2.2 | trivial)) (.int .i64 ((rd_T45 l1 x42_3).f1))) (fun k_ hk => by first | exact hk.2 | (and_intros <;> first | exact hk.1 | exact hk.2 | exact hk.1.1 | exact hk.1.2 | exact hk.2.1 | exact hk.2.2 | exact hk.1.1.1 | exact hk.1.1.2 | exact hk.1.2.1 | exact hk.1.2.2 | exact hk.2.1.1 | exact hk.2.1.2 | exact hk.2.2.1 | exact hk.2.2.2 | trivial)) (.int .i64 ((rd_T45 l1 x42_3).f2))) (fun _ h_ => h_.1)) (Kd.R_base ho0) hb); replace HO_7 := Ya (Kd.R_elder' (Yj (Z13 (p := ⟨gb142, 2, none⟩) (Z13 (p := ⟨gb142, 1, none⟩) (Z13 (p := ⟨gb142, 0, none⟩) (Z15 HO_7.out BK142.out (by decide)) (fun k_ hk => by first | exact hk.2 | (and_intros <;> first | exact hk.1 | exact hk.2 | exact hk.1.1 | exact hk.1.2 | exact hk.2.1 | exact hk.2.2 | exact hk.1.1.1 | exact hk.1.1.2 | exact hk.1.2.1 | exact hk.1.2.2 | exact hk.2.1.1 | exact hk.2.1.2 | exact hk.2.2.1 | exact hk.2.2.2 | trivial)) (.int .i64 ((rd_T45 l1 x42_3).f0))) (fun k_ hk => by first | exact hk.2 | (and_intros <;> first | exact hk.1 | exact hk.2 | exact hk.1.1 | exact hk.1.2 | exact hk.2.1 | exact hk.2.2 | exact hk.1.1.1 | exact hk.1.1.2 | exact hk.1.2.1 | exact hk.1.2.2 | exact hk.2.1.1 | exact hk.2.1.2 | exact hk.2.2.1 | exact hk.2.2.2 | trivial)) (.int .i64 ((rd_T45 l1 x42_3).f1))) (fun k_ hk => by first | exact hk.2 | (and_intros <;> first | exact hk.1 | exact hk.2 | exact hk.1.1 | exact hk.1.2 | exact hk.2.1 | exact hk.2.2 | exact hk.1.1.1 | exact hk.1.1.2 | exact hk.1.2.1 | exact hk.1.2.2 | exact hk.2.1.1 | exact hk.2.1.2 | exact hk.2.2.1 | exact hk.2.2.2 | trivial)) (.int .i64 ((rd_T45 l1 x42_3).f2))) (fun _ h_ => h_.1)) (Kd.R_base ho0) hb); replace HO_9 := Ya (Kd.R_elder' (Yj (Z13 (p := ⟨gb142, 2, none⟩) (Z13 (p := ⟨gb142, 1, none⟩) (Z13 (p := ⟨gb142, 0, none⟩) (Z15 HO_9.out BK142.out (by decide)) (fun k_ hk => by first | exact hk.2 | (and_intros <;> first | exact hk.1 | exact hk.2 | exact hk.1.1 | exact hk.1.2 | exact hk.2.1 | exact hk.2.2 | exact hk.1.1.1 | exact hk.1.1.2 | exact hk.1.2.1 | exact hk.1.2.2 | exact hk.2.1.1 | exact hk.2.1.2 | exact hk.2.2.1 | exact hk.2.2.2 | trivial)) (.int .i64 ((rd_T45 l1 x42_3).f0))) (fun k_ hk => by first | exact hk.2 | (and_intros <;> first | exact hk.1 | exact hk.2 | exact hk.1.1 | exact hk.1.2 | exact hk.2.1 | exact hk.2.2 | exact hk.1.1.1 | exact hk.1.1.2 | exact hk.1.2.1 | exact hk.1.2.2 | exact hk.2.1.1 | exact hk.2.1.2 | exact hk.2.2.1 | exact hk.2.2.2 | trivial)) (.int .i64 ((rd_T45 l1 x42_3).f1))) (fun k_ hk => by first | exact hk.2 | (and_intros <;> first | exact hk.1 | exact hk.2 | exact hk.1.1 | exact hk.1.2 | exact hk.2.1 | exact hk.2.2 | exact hk.1.1.1 | exact hk.1.1.2 | exact hk.1.2.1 | exact hk.1.2.2 | exact hk.2.1.1 | exact hk.2.1.2 | exact hk.2.2.1 | exact hk.2.2.2 | trivial)) (.int .i64 ((rd_T45 l1 x42_3).f2))) (fun _ h_ => h_.1)) (Kd.R_base ho0) hb); replace BK142 := Yb ⟨Yv3 BK142.out⟩ hb; replace HB := Yh hb; obtain ⟨Ao53, co53, rfl⟩ := Z17 HO145.out) | ((with_reducible refine gate_callee (f := 52) rfl ?_); refine Yz 49 Try.func52 #[.slice Ao53 t143.length co53] ?_; (with_reducible refine (impl_permutationRank.calls k3 _ _ t143 t146 _ (Yc (Kd.R_reads' HO145.out).2.2) ((Kd.R_reads' HO145.out).2.1) A30.out).mono ?_); rintro e w' ⟨rfl, ⟨nd, rfl⟩⟩; refine ⟨_, rfl, ?_⟩; have p147 : 0 ≤ (t146 : Int) := Z29 Q1; have q147 : t146 < (x5_3.length : Int) := Z29 Q1; obtain ⟨ad147, e147, hx147_0⟩ := Kd.at_int (Kd.R_reads' HO_5.out).2.2 t146 p147 q147; obtain rfl : (⟨go16, 0, none⟩ : Addr) = ad147 := (by injection e147); (first | simp only [add_plain] at hx147_0 | simp only [add_at] at hx147_0 | simp only [Addr.add, Nat.zero_add] at hx147_0 | skip); replace p147 := eq_true p147; replace q147 := eq_true q147))
                   (try simp only [← hl5_3])
                   go_roundg k3
                   case measure => have := HK1.out; have := HK2.out; have := HK3.out; omega
                   case rel => exact ⟨(x5_3), (x7_3), (wrap64 (x42_3 + 1)), Q5, H', ⟨by have := HK1.out; have := HK2.out; have := HK3.out; omega⟩, ⟨by (try simp only [hl5_1]); (try simp only [hl5_2]); (try simp only [hl5_3]); (with_reducible repeat (first | apply Z9 | apply Z10 | apply Z11)); exact Z12 HO_5.out (fun k_ hk => by first | exact ⟨hk.1.1, hk.1.2⟩ | (and_intros <;> first | exact hk.1 | exact hk.2 | exact hk.1.1 | exact hk.1.2 | exact hk.2.1 | exact hk.2.2 | exact hk.1.1.1 | exact hk.1.1.2 | exact hk.1.2.1 | exact hk.1.2.2 | exact hk.2.1.1 | exact hk.2.1.2 | exact hk.2.2.1 | exact hk.2.2.2 | trivial))⟩, ⟨by (try simp only [hl5_1]); (try simp only [hl5_2]); (try simp only [hl5_3]); (with_reducible repeat (first | apply Z9 | apply Z10 | apply Z11)); exact Z12 HO_7.out (fun k_ hk => by first | exact ⟨hk.1.1, hk.1.2⟩ | (and_intros <;> first | exact hk.1 | exact hk.2 | exact hk.1.1 | exact hk.1.2 | exact hk.2.1 | exact hk.2.2 | exact hk.1.1.1 | exact hk.1.1.2 | exact hk.1.2.1 | exact hk.1.2.2 | exact hk.2.1.1 | exact hk.2.1.2 | exact hk.2.2.1 | exact hk.2.2.2 | trivial))⟩, ⟨by (try simp only [hl5_1]); (try simp only [hl5_2]); (try simp only [hl5_3]); (with_reducible repeat (first | apply Z9 | apply Z10 | apply Z11)); exact Z12 HO_9.out (fun k_ hk => by first | exact ⟨hk.1.1, hk.1.2⟩ | (and_intros <;> first | exact hk.1 | exact hk.2 | exact hk.1.1 | exact hk.1.2 | exact hk.2.1 | exact hk.2.2 | exact hk.1.1.1 | exact hk.1.1.2 | exact hk.1.2.1 | exact hk.1.2.2 | exact hk.2.1.1 | exact hk.2.1.2 | exact hk.2.2.1 | exact hk.2.2.2 | trivial))⟩, ⟨Q0⟩⟩
                 ·rw [if_neg c32] at H
                  exact absurd H (by simp)
                ·rw [if_neg c31] at H
                 exact absurd H (by simp)
               ·rw [if_neg c28] at H
                exact absurd H (by simp)
              ·rw [if_neg c27] at H
               exact absurd H (by simp)
             ·rw [if_neg c26] at H
              have c26b0 := Z36 c26
              clear c26
              have H' := Ya H
              clear H
              go_wp2
              (try simp only [← hl5_2, ← hl5_3])
              go_roundg k3
              case measure => have := HK1.out; have := HK2.out; have := HK3.out; omega
              case rel => exact ⟨(x5_3), (x7_3), (wrap64 (x8_2 + 1)), Q5, H', ⟨by have := HK1.out; have := HK2.out; have := HK3.out; omega⟩, ⟨by (try simp only [hl5_1]); (try simp only [hl5_2]); (try simp only [hl5_3]); (with_reducible repeat (first | apply Z9 | apply Z10 | apply Z11)); exact Z12 HO_5.out (fun k_ hk => by first | exact hk.1 | (and_intros <;> first | exact hk.1 | exact hk.2 | exact hk.1.1 | exact hk.1.2 | exact hk.2.1 | exact hk.2.2 | exact hk.1.1.1 | exact hk.1.1.2 | exact hk.1.2.1 | exact hk.1.2.2 | exact hk.2.1.1 | exact hk.2.1.2 | exact hk.2.2.1 | exact hk.2.2.2 | trivial))⟩, ⟨by (try simp only [hl5_1]); (try simp only [hl5_2]); (try simp only [hl5_3]); (with_reducible repeat (first | apply Z9 | apply Z10 | apply Z11)); exact Z12 HO_7.out (fun k_ hk => by first | exact hk.1 | (and_intros <;> first | exact hk.1 | exact hk.2 | exact hk.1.1 | exact hk.1.2 | exact hk.2.1 | exact hk.2.2 | exact hk.1.1.1 | exact hk.1.1.2 | exact hk.1.2.1 | exact hk.1.2.2 | exact hk.2.1.1 | exact hk.2.1.2 | exact hk.2.2.1 | exact hk.2.2.2 | trivial))⟩, ⟨Q0⟩⟩
          ·rw [if_neg c22] at H
           exact absurd H (by simp)
         ·rw [if_neg c21] at H
          have c21b0 := Z36 c21
          clear c21
          obtain rfl := Option.some.inj H
          obtain ⟨Ao54, co54, rfl⟩ := Z17 HO_7.out
          go_wp2
          go_ret
          exact ⟨_, Q2, Yj HO_5.out (fun _ hk => trivial), Q0⟩
      ·rw [if_neg c15] at H
       exact absurd H (by simp)
  ·rw [if_neg c5] at H
   exact absurd H (by simp)
 ·rw [if_neg c4] at H
  exact absurd H (by simp)
def impl_ReachCount.l0 : Nat → Int → List Int → Int → Int → Option (Int × Bool)
 | 0, _, _, _, _ => none
 | k + 1, x6, x15, x16, x17 => if x17 < x16 then (if 0 ≤ x17 then (if x17 < (x15.length : Int) then (if (rd x15 x17) ≥ 0 then (impl_ReachCount.l0 k (wrap64 (x6 + 1)) x15 x16 (wrap64 (x17 + 1))) else (impl_ReachCount.l0 k x6 x15 x16 (wrap64 (x17 + 1)))) else (none)) else (none)) else (some (x6, true))
def impl_ReachCount.f (k : Nat) (a0 : Int) (l1 : List (S45)) : Option (Int × Bool) := (impl_areMoves.f k a0 l1).bind fun t154 => (if t154 = true then ((impl_distances.f k a0 l1).bind fun t155 => (impl_ReachCount.l0 k 0 t155 (t155.length : Int) 0)) else (some (0, false)))
theorem impl_ReachCount.mono_l : ∀ k, (∀ y0 y1 y2 y3, LeO (impl_ReachCount.l0 k y0 y1 y2 y3) (impl_ReachCount.l0 (k + 1) y0 y1 y2 y3))
 | 0 => fun _ _ _ _ r h => by simp [impl_ReachCount.l0] at h
 | k + 1 => by
  have ih0 := impl_ReachCount.mono_l k
  ·intro y0 y1 y2 y3
   unfold impl_ReachCount.l0
   repeat' first
   | (with_reducible exact ih0 _ _ _ _)
   | (with_reducible exact impl_areMoves.mono _ _ _)
   | (with_reducible exact impl_distances.mono _ _ _)
   | (with_reducible exact LeO.refl _)
   | (with_reducible exact LeO.none _)
   | (with_reducible refine LeO.ite ?_ ?_)
   | (with_reducible refine LeO.bind ?_ (fun _ => ?_))
   | exact ih0 _ _ _ _
   | exact impl_areMoves.mono _ _ _
   | exact impl_distances.mono _ _ _
   | exact LeO.none _
   | refine LeO.ite ?_ ?_
   | refine LeO.bind ?_ (fun _ => ?_)
theorem impl_ReachCount.mono : ∀ a0 a1 k, LeO (impl_ReachCount.f k a0 a1) (impl_ReachCount.f (k + 1) a0 a1) := by
 intro a0 a1 k
 have ih0 := impl_ReachCount.mono_l k
 unfold impl_ReachCount.f
 repeat' first
   | (with_reducible exact ih0 _ _ _ _)
   | (with_reducible exact impl_areMoves.mono _ _ _)
   | (with_reducible exact impl_distances.mono _ _ _)
   | (with_reducible exact LeO.refl _)
   | (with_reducible exact LeO.none _)
   | (with_reducible refine LeO.ite ?_ ?_)
   | (with_reducible refine LeO.bind ?_ (fun _ => ?_))
   | exact ih0 _ _ _ _
   | exact impl_areMoves.mono _ _ _
   | exact impl_distances.mono _ _ _
   | exact LeO.none _
   | refine LeO.ite ?_ ?_
   | refine LeO.bind ?_ (fun _ => ?_)
set_option maxHeartbeats 8000000 in
set_option maxRecDepth 100000 in
theorem impl_ReachCount.calls (k : Nat) (a0 : Int) (A1 : Option Addr) (c1 : Nat) (l1 : List (S45)) (r1 : Int) (r2 : Bool) (w : World) (hr1 : Kd.C k45 w A1 l1.length l1) (hc1 : l1.length ≤ c1) (h : impl_ReachCount.f k a0 l1 = some (r1, r2)) :
  Calls Try.prog 19 #[.int .i64 a0, .slice A1 l1.length c1] w fun e w' => e = .returned (.tuple #[.int .i64 r1, .bool r2]) ∧ Below w.heap.size w w' := by
 have HR1 := Ya hr1
 have HC1 := Ya hc1
 clear hr1 hc1
 have HB := Ya (Below.refl w.heap.size w)
 have H : ((impl_areMoves.f k a0 l1).bind fun t154 => (if t154 = true then ((impl_distances.f k a0 l1).bind fun t155 => (impl_ReachCount.l0 k 0 t155 (t155.length : Int) 0)) else (some (0, false)))) = some (r1, r2) := h
 clear h
 replace H := Z35.mp H
 obtain ⟨t154, A30, H⟩ := H
 replace H : (if t154 = true then ((impl_distances.f k a0 l1).bind fun t155 => (impl_ReachCount.l0 k 0 t155 (t155.length : Int) 0)) else (some (0, false))) = some (r1, r2) := H
 have A3 := Ya A30
 clear A30
 by_cases c4 : t154 = true
 ·subst c4
  have H1 : ((impl_distances.f k a0 l1).bind fun t155 => (impl_ReachCount.l0 k 0 t155 (t155.length : Int) 0)) = some (r1, r2) := by rw [if_pos rfl] at H; exact H
  clear H
  have H := H1
  clear H1
  replace H := Z35.mp H
  obtain ⟨t155, A50, H⟩ := H
  replace H : (impl_ReachCount.l0 k 0 t155 (t155.length : Int) 0) = some (r1, r2) := H
  have A5 := Ya A50
  clear A50
  have H' := Ya H
  clear H
  go_enter Try.func19, Try.ntmps19
  go_wp2_with (first | ((with_reducible refine gate_callee (f := 47) rfl ?_); refine Yz 11 Try.func47 #[.int .i64 a0, .slice A1 l1.length c1] ?_; (with_reducible refine (impl_areMoves.calls k a0 _ _ l1 true _ (Yc HR1.out) HC1.out A3.out).mono ?_); rintro e w6 ⟨rfl, hb⟩; refine ⟨_, rfl, ?_⟩; replace HB := Yh hb; (try clear hb)) | ((with_reducible refine gate_callee (f := 55) rfl ?_); refine Yz 15 Try.func55 #[.int .i64 a0, .slice A1 l1.length c1] ?_; (with_reducible refine (impl_distances.calls k a0 _ _ l1 t155 _ (Yc (Z21 HR1.out HB.out)) HC1.out A5.out).mono ?_); rintro e w7 ⟨v156, rfl, ho0, hb⟩; refine ⟨_, rfl, ?_⟩; have HO157 := Yl ho0; replace HB := Yh hb; (try clear hb ho0); obtain ⟨Ao8, co8, rfl⟩ := Z17 HO157.out))
  go_loopg [6, 17] k (fun kq v6 v17 w' => ∃ (x6_1 : Int) (x17_1 : Int), v6 = .int .i64 x6_1 ∧ v17 = .int .i64 x17_1 ∧ Aside0 (impl_ReachCount.l0 kq x6_1 t155 (t155.length : Int) x17_1 = some (r1, r2)) ∧ Aside0 (kq ≤ k) ∧ Aside0 (Kd.R (Kd.int .i64) 3 w' w.heap.size (fun _ => True) (.slice Ao8 t155.length co8) t155) ∧ Aside0 (Below w.heap.size w w'))
  case atStart => exact ⟨(0), (0), Q5, Q5, H', ⟨Nat.le_refl _⟩, ⟨by (with_reducible repeat (first | apply Z9 | apply Z10 | apply Z11)); exact HO157.out⟩, ⟨Q0⟩⟩
  case round =>
   clear H'
   try clear c1
   try clear p2
   try clear c4
   try clear c5
   obtain ⟨x6_1, x17_1, rfl, rfl, HA, HK1, HO_15, HB⟩ := hrel
   cases gk with
   | zero => exact absurd HA.out (by simp [impl_ReachCount.l0])
   | succ k1 =>
    have H := HA.out
    clear HA
    simp only [impl_ReachCount.l0] at H
    by_cases c9 : x17_1 < (t155.length : Int)
    ·rw [if_pos c9] at H
     have c9b0 := Z37 c9
     clear c9
     by_cases c10 : 0 ≤ x17_1
     ·rw [if_pos c10] at H
      have c10b0 := Z37 c10
      clear c10
      by_cases c11 : x17_1 < (t155.length : Int)
      ·rw [if_pos c11] at H
       have c11b0 := Z37 c11
       clear c11
       by_cases c12 : (rd t155 x17_1) ≥ 0
       ·rw [if_pos c12] at H
        have c12b0 : decide (0 ≤ (rd t155 x17_1)) = true := Z37 c12
        clear c12
        have H' := Ya H
        clear H
        have p158 : 0 ≤ (x17_1 : Int) := Z29 Q1
        have q158 : x17_1 < (t155.length : Int) := Z29 Q1
        obtain ⟨ad158, e158, hx158_0⟩ := Kd.at_int (Kd.R_reads' HO_15.out).2.2 x17_1 p158 q158
        cases e158
        replace p158 := eq_true p158
        replace q158 := eq_true q158
        go_wp2
        go_roundg k1
        case measure => have := HK1.out; omega
        case rel => exact ⟨(wrap64 (x6_1 + 1)), (wrap64 (x17_1 + 1)), Q5, Q5, H', ⟨Q28⟩, ⟨by (with_reducible repeat (first | apply Z9 | apply Z10 | apply Z11)); exact HO_15.out⟩, ⟨Q0⟩⟩
       ·rw [if_neg c12] at H
        have c12b0 : decide (0 ≤ (rd t155 x17_1)) = false := Z36 c12
        clear c12
        have H' := Ya H
        clear H
        have p158 : 0 ≤ (x17_1 : Int) := Z29 Q1
        have q158 : x17_1 < (t155.length : Int) := Z29 Q1
        obtain ⟨ad158, e158, hx158_0⟩ := Kd.at_int (Kd.R_reads' HO_15.out).2.2 x17_1 p158 q158
        cases e158
        replace p158 := eq_true p158
        replace q158 := eq_true q158
        go_wp2
        go_roundg k1
        case measure => have := HK1.out; omega
        case rel => exact ⟨(x6_1), (wrap64 (x17_1 + 1)), Q5, Q5, H', ⟨Q28⟩, ⟨by (with_reducible repeat (first | apply Z9 | apply Z10 | apply Z11)); exact HO_15.out⟩, ⟨Q0⟩⟩
      ·rw [if_neg c11] at H
       exact absurd H (by simp)
     ·rw [if_neg c10] at H
      exact absurd H (by simp)
    ·rw [if_neg c9] at H
     have c9b0 := Z36 c9
     clear c9
     simp only [Option.some.injEq, Prod.mk.injEq] at H
     obtain ⟨rfl, rfl⟩ := H
     go_wp2
     go_ret2
     exact ⟨Q2, Q0⟩
 ·replace c4 := Bool.eq_false_iff.mpr c4
  subst c4
  have H1 : (some (0, false)) = some (r1, r2) := by rw [if_neg (show ¬ (false = true) by decide)] at H; exact H
  clear H
  have H := H1
  clear H1
  simp only [Option.some.injEq, Prod.mk.injEq] at H
  obtain ⟨rfl, rfl⟩ := H
  go_enter Try.func19, Try.ntmps19
  go_wp2_with (first | ((with_reducible refine gate_callee (f := 47) rfl ?_); refine Yz 11 Try.func47 #[.int .i64 a0, .slice A1 l1.length c1] ?_; (with_reducible refine (impl_areMoves.calls k a0 _ _ l1 false _ (Yc HR1.out) HC1.out A3.out).mono ?_); rintro e w13 ⟨rfl, hb⟩; refine ⟨_, rfl, ?_⟩; replace HB := Yh hb; (try clear hb)))
  go_ret2
  exact ⟨Q2, Q0⟩
def laws_uSame.l0 : Nat → List Int → List Int → Int → Int → Option (Bool)
 | 0, _, _, _, _ => none
 | k + 1, x0, x1, x12, x13 => if x13 < x12 then (if 0 ≤ x13 then (if x13 < (x0.length : Int) then (if x13 < (x1.length : Int) then (if (rd x0 x13) = (rd x1 x13) then (laws_uSame.l0 k x0 x1 x12 (wrap64 (x13 + 1))) else (some false)) else (none)) else (none)) else (none)) else (some true)
def laws_uSame.f (k : Nat) (l0 : List Int) (l1 : List Int) : Option (Bool) := if (l0.length : Int) = (l1.length : Int) then (laws_uSame.l0 k l0 l1 (l0.length : Int) 0) else (some false)
theorem laws_uSame.mono_l : ∀ k, (∀ y0 y1 y2 y3, LeO (laws_uSame.l0 k y0 y1 y2 y3) (laws_uSame.l0 (k + 1) y0 y1 y2 y3))
 | 0 => fun _ _ _ _ r h => by simp [laws_uSame.l0] at h
 | k + 1 => by
  have ih0 := laws_uSame.mono_l k
  ·intro y0 y1 y2 y3
   unfold laws_uSame.l0
   repeat' first
   | (with_reducible exact ih0 _ _ _ _)
   | (with_reducible exact LeO.refl _)
   | (with_reducible exact LeO.none _)
   | (with_reducible refine LeO.ite ?_ ?_)
   | (with_reducible refine LeO.bind ?_ (fun _ => ?_))
   | exact ih0 _ _ _ _
   | exact LeO.none _
   | refine LeO.ite ?_ ?_
   | refine LeO.bind ?_ (fun _ => ?_)
theorem laws_uSame.mono : ∀ a0 a1 k, LeO (laws_uSame.f k a0 a1) (laws_uSame.f (k + 1) a0 a1) := by
 intro a0 a1 k
 have ih0 := laws_uSame.mono_l k
 unfold laws_uSame.f
 repeat' first
   | (with_reducible exact ih0 _ _ _ _)
   | (with_reducible exact LeO.refl _)
   | (with_reducible exact LeO.none _)
   | (with_reducible refine LeO.ite ?_ ?_)
   | (with_reducible refine LeO.bind ?_ (fun _ => ?_))
   | exact ih0 _ _ _ _
   | exact LeO.none _
   | refine LeO.ite ?_ ?_
   | refine LeO.bind ?_ (fun _ => ?_)
set_option maxHeartbeats 8000000 in
set_option maxRecDepth 100000 in
theorem laws_uSame.calls (k : Nat) (A0 : Option Addr) (c0 : Nat) (l0 : List Int) (A1 : Option Addr) (c1 : Nat) (l1 : List Int) (r : Bool) (w : World) (hr0 : Kd.C (Kd.int .i64) w A0 l0.length l0) (hc0 : l0.length ≤ c0) (hr1 : Kd.C (Kd.int .i64) w A1 l1.length l1) (hc1 : l1.length ≤ c1) (h : laws_uSame.f k l0 l1 = some r) :
  Calls Try.prog 22 #[.slice A0 l0.length c0, .slice A1 l1.length c1] w fun e w' => e = .returned (.bool r) ∧ Drawn0 w w' := by
 have HR0 := Ya hr0
 have HC0 := Ya hc0
 clear hr0 hc0
 have HR1 := Ya hr1
 have HC1 := Ya hc1
 clear hr1 hc1
 have H : (if (l0.length : Int) = (l1.length : Int) then (laws_uSame.l0 k l0 l1 (l0.length : Int) 0) else (some false)) = some r := h
 clear h
 by_cases c3 : (l0.length : Int) = (l1.length : Int)
 ·rw [if_pos c3] at H
  have c3b0 : ((l0.length : Int) == (l1.length : Int)) = true := beq_iff_eq.mpr c3
  have c3b1 : ((l0.length : Int) != (l1.length : Int)) = false := bne_eq_false_iff_eq.mpr c3
  have c3b2 : (l0.length == l1.length) = true := by first | simpa using c3 | (simp at c3 ⊢; omega)
  clear c3
  have H' := Ya H
  clear H
  go_enter Try.func22, Try.ntmps22
  go_wp2
  repeat (go_quiet (fail); try go_wp2)
  go_loopg [13] k (fun kq v13 w' => ∃ (x13_1 : Int), v13 = .int .i64 x13_1 ∧ Aside0 (laws_uSame.l0 kq l0 l1 (l0.length : Int) x13_1 = some r) ∧ Aside0 (kq ≤ k) ∧ Drawn0 w w')
  case atStart => exact ⟨(0), Q5, H', ⟨Nat.le_refl _⟩, Q7⟩
  case round =>
   clear H'
   try clear c1
   try clear c2
   try clear p2
   try clear c3
   try clear c3b0
   try clear c3b1
   try clear c3b2
   obtain ⟨x13_1, rfl, HA, HK1, ⟨m1, rfl⟩⟩ := hrel
   cases gk with
   | zero => exact absurd HA.out (by simp [laws_uSame.l0])
   | succ k1 =>
    have H := HA.out
    clear HA
    simp only [laws_uSame.l0] at H
    by_cases c4 : x13_1 < (l0.length : Int)
    ·rw [if_pos c4] at H
     have c4b0 := Z37 c4
     clear c4
     by_cases c5 : 0 ≤ x13_1
     ·rw [if_pos c5] at H
      have c5b0 := Z37 c5
      clear c5
      by_cases c6 : x13_1 < (l0.length : Int)
      ·rw [if_pos c6] at H
       have c6b0 := Z37 c6
       clear c6
       by_cases c7 : x13_1 < (l1.length : Int)
       ·rw [if_pos c7] at H
        have c7b0 := Z37 c7
        clear c7
        by_cases c8 : (rd l0 x13_1) = (rd l1 x13_1)
        ·rw [if_pos c8] at H
         have c8b0 : ((rd l0 x13_1) == (rd l1 x13_1)) = true := beq_iff_eq.mpr c8
         have c8b1 : ((rd l0 x13_1) != (rd l1 x13_1)) = false := bne_eq_false_iff_eq.mpr c8
         clear c8
         have H' := Ya H
         clear H
         have p159 : 0 ≤ (x13_1 : Int) := Z29 Q1
         have q159 : x13_1 < (l0.length : Int) := Z29 Q1
         obtain ⟨ad159, e159, hx159_0⟩ := Kd.at_int HR0.out x13_1 p159 q159
         cases e159
         replace p159 := eq_true p159
         replace q159 := eq_true q159
         have p160 : 0 ≤ (x13_1 : Int) := Z29 Q1
         have q160 : x13_1 < (l1.length : Int) := Z29 Q1
         obtain ⟨ad160, e160, hx160_0⟩ := Kd.at_int HR1.out x13_1 p160 q160
         cases e160
         replace p160 := eq_true p160
         replace q160 := eq_true q160
         go_wp2
         repeat (go_quiet (fail); try go_wp2)
         go_roundg k1
         case measure => have := HK1.out; omega
         case rel => exact ⟨(wrap64 (x13_1 + 1)), Q5, H', ⟨Q28⟩, Q7⟩
        ·rw [if_neg c8] at H
         have c8b0 : ((rd l0 x13_1) == (rd l1 x13_1)) = false := beq_eq_false_iff_ne.mpr c8
         have c8b1 : ((rd l0 x13_1) != (rd l1 x13_1)) = true := bne_iff_ne.mpr c8
         obtain rfl := Option.some.inj H
         have p159 : 0 ≤ (x13_1 : Int) := Z29 Q1
         have q159 : x13_1 < (l0.length : Int) := Z29 Q1
         obtain ⟨ad159, e159, hx159_0⟩ := Kd.at_int HR0.out x13_1 p159 q159
         cases e159
         replace p159 := eq_true p159
         replace q159 := eq_true q159
         have p160 : 0 ≤ (x13_1 : Int) := Z29 Q1
         have q160 : x13_1 < (l1.length : Int) := Z29 Q1
         obtain ⟨ad160, e160, hx160_0⟩ := Kd.at_int HR1.out x13_1 p160 q160
         cases e160
         replace p160 := eq_true p160
         replace q160 := eq_true q160
         go_wp2
         repeat (go_quiet (fail); try go_wp2)
         go_ret
         exact ⟨Q18, Q7⟩
       ·rw [if_neg c7] at H
        exact absurd H (by simp)
      ·rw [if_neg c6] at H
       exact absurd H (by simp)
     ·rw [if_neg c5] at H
      exact absurd H (by simp)
    ·rw [if_neg c4] at H
     have c4b0 := Z36 c4
     clear c4
     obtain rfl := Option.some.inj H
     go_wp2
     repeat (go_quiet (fail); try go_wp2)
     go_ret
     exact ⟨Q18, Q7⟩
 ·rw [if_neg c3] at H
  have c3b0 : ((l0.length : Int) == (l1.length : Int)) = false := beq_eq_false_iff_ne.mpr c3
  have c3b1 : ((l0.length : Int) != (l1.length : Int)) = true := bne_iff_ne.mpr c3
  have c3b2 : (l0.length == l1.length) = false := by first | simpa using c3 | (simp at c3 ⊢; omega)
  obtain rfl := Option.some.inj H
  go_enter Try.func22, Try.ntmps22
  go_wp2
  repeat (go_quiet (fail); try go_wp2)
  go_ret
  exact ⟨Q18, Q7⟩
end Go.Proofs.Ytllhnnjkonghlaa.MFnGreedyLists
