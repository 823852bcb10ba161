import Derived.Test.YtllhnnjkonghlaaMFnReachedx0
import Derived.Test.YtllhnnjkonghlaaMFnReachedx1
import Derived.Test.YtllhnnjkonghlaaMFnReachedx2
import Derived.Test.YtllhnnjkonghlaaMFnReachedx3
import Derived.Test.YtllhnnjkonghlaaMFnReachedx5
namespace Go.Proofs.Ytllhnnjkonghlaa.MFnReached
open Go.RowKit Go.Proofs.YtllhnnjkonghlaaW.PrintWords Go.Proofs.YtllhnnjkonghlaaW.PrintLast Go.Proofs.YtllhnnjkonghlaaW.PrintMore
attribute [local go_sem] max2_int min2_int max_two min_two max_three min_three max_four min_four   
set_option linter.unusedVariables false
set_option linter.unusedSimpArgs false
def spec_DrawDistancesFrom.f (k : Nat) (l0 : List Int) : Option (Int × (List (S45))) := (spec_DrawGreedyList.f k l0).bind fun bt270 => (some (bt270.1, bt270.2))
theorem spec_DrawDistancesFrom.mono : ∀ a0 k, LeO (spec_DrawDistancesFrom.f k a0) (spec_DrawDistancesFrom.f (k + 1) a0) := by
 intro a0 k
 unfold spec_DrawDistancesFrom.f
 repeat' first
   | (with_reducible exact spec_DrawGreedyList.mono _ _)
   | (with_reducible exact LeO.refl _)
   | (with_reducible exact LeO.none _)
   | (with_reducible refine LeO.ite ?_ ?_)
   | (with_reducible refine LeO.bind ?_ (fun _ => ?_))
   | exact spec_DrawGreedyList.mono _ _
   | exact LeO.none _
   | refine LeO.ite ?_ ?_
   | refine LeO.bind ?_ (fun _ => ?_)
set_option maxHeartbeats 8000000 in
set_option maxRecDepth 100000 in
theorem spec_DrawDistancesFrom.calls (k : Nat) (A0 : Option Addr) (c0 : Nat) (l0 : List Int) (r1 : Int) (r2 : List (S45)) (w : World) (hr0 : Kd.C (Kd.int .u8) w A0 l0.length l0) (hc0 : l0.length ≤ c0) (h : spec_DrawDistancesFrom.f k l0 = some (r1, r2)) :
  Calls Try.prog 16 #[.slice A0 l0.length c0] w fun e w' => ∃ v1_ : Value, e = .returned (.tuple #[.int .i64 r1, v1_]) ∧ Kd.R k45 45 w' w.heap.size (fun _ => True) v1_ r2 ∧ Below w.heap.size w w' := by
 have HR0 := Ya hr0
 have HC0 := Ya hc0
 clear hr0 hc0
 have HB := Ya (Below.refl w.heap.size w)
 have H : ((spec_DrawGreedyList.f k l0).bind fun bt270 => (some (bt270.1, bt270.2))) = some (r1, r2) := h
 clear h
 replace H := Z35.mp H
 obtain ⟨⟨t270, t271⟩, A20, H⟩ := H
 replace H : (some (t270, t271)) = some (r1, r2) := H
 have A2 := Ya A20
 clear A20
 simp only [Option.some.injEq, Prod.mk.injEq] at H
 obtain ⟨rfl, rfl⟩ := H
 go_enter Try.func16, Try.ntmps16
 go_wp2_with (first | ((with_reducible refine gate_callee (f := 32) rfl ?_); refine Yz 5 Try.func32 #[.slice A0 l0.length c0] ?_; (with_reducible refine (spec_DrawGreedyList.calls k _ _ l0 t270 t271 _ (Yc HR0.out) HC0.out A2.out).mono ?_); rintro e w3 ⟨v272, rfl, ho0, hb⟩; refine ⟨_, rfl, ?_⟩; have HO273 := Yl ho0; replace HB := Yh hb; (try clear hb ho0)))
 go_ret2
 exact ⟨_, Q2, by (with_reducible repeat (first | apply Z9 | apply Z10 | apply Z11)); exact HO273.out, Q0⟩
def slices_Delete_int_int.f (l : List Int) (i j : Int) : Option (List Int) := if 0 ≤ i then (if i ≤ j then (if j ≤ (l.length : Int) then some (l.take i.toNat ++ l.drop j.toNat) else none) else none) else none
open Go.Shelf in
shelf_lay Lays2.n23 Nm2 23 at Try as Try.laysDel
set_option maxHeartbeats 8000000 in
set_option maxRecDepth 100000 in
theorem slices_Delete_int_int.calls (l l2 : List Int) (i j : Int) (g c base : Nat) (ok : Nat → Prop) (w : World) (hR : Kd.R (Kd.int .i64) 3 w base ok (.slice (some ⟨g, 0, none⟩) l.length c) l) (h : slices_Delete_int_int.f l i j = some l2) :
  Calls Try.prog 89 #[.slice (some ⟨g, 0, none⟩) l.length c, .int .i64 i, .int .i64 j] w fun e w' => e = .returned (.slice (some ⟨g, 0, none⟩) l2.length c) ∧ Kd.R (Kd.int .i64) 3 w' base ok (.slice (some ⟨g, 0, none⟩) l2.length c) l2 ∧ Below base w w' ∧ w.grownBy w' (some g) := by
 unfold slices_Delete_int_int.f at h
 by_cases h0 : 0 ≤ i
 ·rw [if_pos h0] at h
  by_cases h1 : i ≤ j
  ·rw [if_pos h1] at h
   by_cases h2 : j ≤ (l.length : Int)
   ·rw [if_pos h2] at h
    obtain rfl := Option.some.inj h
    clear h
    have ho := Kd.own_of_R hR
    obtain ⟨k, rfl⟩ : ∃ k : Nat, i = (k : Int) := ⟨i.toNat, by omega⟩
    obtain ⟨m, rfl⟩ : ∃ m : Nat, j = (m : Int) := ⟨j.toNat, by omega⟩
    simp only [Int.toNat_natCast] at *
    have hl2 : (l.take k ++ l.drop m).length = l.length - (m - k) := by
     rw [List.length_append, Z31, Z30]; omega
    obtain ⟨g', c', e0, hb, hlt, hn, hm, hl, hH⟩ := Go.Lib.holds_of_ownsRow (zs := l) (enc := Value.int .i64) ho (by intro e; cases e)
    injection e0 with e1 e2 e3
    injection e1 with e1
    injection e1 with e1
    subst e1; subst e3
    refine (Any.slices_Delete_int Try.laysDel g 0 c k m l w hH hn hm (by omega) (by omega)).mono ?_
    rintro e w' ⟨rfl, q, rfl⟩
    have hrow := Go.Lib.ownsRow_putRow (q := q) (zs := l) (ys := l.take k ++ l.drop m ++ List.replicate (m - k) 0) (k := (l.take k ++ l.drop m).length) ho (by rw [List.length_append, hl2, List.length_replicate]; omega) (by omega)
    rw [List.take_left] at hrow
    refine ⟨by rw [hl2], Kd.R_of_own hrow (fun k hk => ?_), Go.Lib.below_putRow (Below.refl _ _) hb, ?_⟩
    ·exact hR.1 k (by simpa [Value.ownBlock] using hk)
    ·refine ⟨rfl, rfl, rfl, by simp [Go.Sort.putRow, Go.Sort.mapBlock, Go.Sort.ahead], fun q hq hne => ?_⟩
     have : g ≠ q := fun e => hne (by rw [e])
     simp [Go.Sort.putRow, Go.Sort.mapBlock, Go.Sort.ahead, Array.getElem?_modify, this]
   ·rw [if_neg h2] at h; cases h
  ·rw [if_neg h1] at h; cases h
 ·rw [if_neg h0] at h; cases h
def impl_permutationAt.l0 : Nat → Int → List Int → List Int → Int → Option (List Int)
 | 0, _, _, _, _ => none
 | k + 1, x1, x5, x6, x7 => if x7 ≥ 0 then ((impl_factorial.f k x7).bind fun t => if t = 0 then none else (if 0 ≤ wrap64 (Int.tdiv x1 t) then (if wrap64 (Int.tdiv x1 t) < (x5.length : Int) then (if x6.length < 17592186044416 then ((slices_Delete_int_int.f x5 (wrap64 (Int.tdiv x1 t)) (wrap64 (wrap64 (Int.tdiv x1 t) + 1))).bind fun d => impl_permutationAt.l0 k (Int.tmod x1 t) d (x6 ++ [rd x5 (wrap64 (Int.tdiv x1 t))]) (wrap64 (x7 - 1))) else none) else none) else none)) else some x6
def impl_permutationAt.f (k : Nat) (a0 : Int) (a1 : Int) : Option (List Int) := (impl_identity.f k a0).bind fun l => impl_permutationAt.l0 k a1 l [] (wrap64 (a0 - 1))
theorem impl_permutationAt.mono_l : ∀ k, (∀ y0 y1 y2 y3, LeO (impl_permutationAt.l0 k y0 y1 y2 y3) (impl_permutationAt.l0 (k + 1) y0 y1 y2 y3))
 | 0 => fun _ _ _ _ r h => by simp [impl_permutationAt.l0] at h
 | k + 1 => by
  have ih0 := impl_permutationAt.mono_l k
  ·intro y0 y1 y2 y3
   unfold impl_permutationAt.l0
   repeat' first
   | (with_reducible exact ih0 _ _ _ _)
   | (with_reducible exact impl_factorial.mono _ _)
   | (with_reducible exact impl_identity.mono _ _)
   | (with_reducible exact LeO.refl _)
   | (with_reducible exact LeO.none _)
   | (with_reducible refine LeO.ite ?_ ?_)
   | (with_reducible refine LeO.bind ?_ (fun _ => ?_))
   | exact ih0 _ _ _ _
   | exact impl_factorial.mono _ _
   | exact impl_identity.mono _ _
   | exact LeO.none _
   | refine LeO.ite ?_ ?_
   | refine LeO.bind ?_ (fun _ => ?_)
theorem impl_permutationAt.mono : ∀ a0 a1 k, LeO (impl_permutationAt.f k a0 a1) (impl_permutationAt.f (k + 1) a0 a1) := by
 intro a0 a1 k
 have ih0 := impl_permutationAt.mono_l k
 unfold impl_permutationAt.f
 repeat' first
   | (with_reducible exact ih0 _ _ _ _)
   | (with_reducible exact impl_factorial.mono _ _)
   | (with_reducible exact impl_identity.mono _ _)
   | (with_reducible exact LeO.refl _)
   | (with_reducible exact LeO.none _)
   | (with_reducible refine LeO.ite ?_ ?_)
   | (with_reducible refine LeO.bind ?_ (fun _ => ?_))
   | exact ih0 _ _ _ _
   | exact impl_factorial.mono _ _
   | exact impl_identity.mono _ _
   | exact LeO.none _
   | refine LeO.ite ?_ ?_
   | refine LeO.bind ?_ (fun _ => ?_)
set_option maxHeartbeats 8000000 in
set_option maxRecDepth 100000 in
theorem impl_permutationAt.calls (k : Nat) (a0 : Int) (a1 : Int) (r : List Int) (w : World) (h : impl_permutationAt.f k a0 a1 = some r) :
  Calls Try.prog 61 #[.int .i64 a0, .int .i64 a1] w fun e w' => ∃ v0_ : Value, e = .returned (v0_) ∧ Kd.R (Kd.int .i64) 3 w' w.heap.size (fun _ => True) v0_ r ∧ Below w.heap.size w w' := by
 unfold impl_permutationAt.f at h
 obtain ⟨l, hl, h⟩ := Z35.mp h
 have HL := Ya hl
 have H' := Ya h
 clear hl h
 go_enter Try.func61, Try.ntmps61
 go_wp2_with fail
 refine (impl_identity.calls k a0 l _ HL.out).mono ?_
 rintro e w1 ⟨v1, rfl, ho1, hb1⟩
 have HF1 := Ya (Kd.R_lower ho1 (Nat.le_refl w.heap.size))
 have HB1 := Ya hb1
 clear ho1 hb1
 go_wp2_with (first | ((with_reducible refine gate_dst (N := 11) rfl ?_); refine Kd.R_lit (Kd.int .i64) (w0 := w) w.heap.size 3 ?hg (N := 11) ?hd (xs := ([] : List Int)) (inner := []) (ok := fun _ => True) (okp := fun _ => True) ?hr ?hp (fun _ hk => hk) trivial HB1.out HB1.out.size (by simp) ?_; (case hd => rfl); (case hg => rfl); (case hr => first | (go_simp; done) | (go_simp; rfl)); (case hp => exact (Reps.none _ _)); intro v2 w2 ho2 hb2 hg2 hnew2; have HO2 := Ya ho2; have HF2 := Ya (show Kd.R (Kd.int .i64) 3 w2 w.heap.size (fun k_ => True ∧ some k_ ≠ v2.ownBlock) v1 l from Z12 (Kd.R_grown (Kd.R_bound HF1.out) hg2 (fun _ _ e => by cases e)) (fun k_ hk => ⟨trivial, fun e => by obtain ⟨b, hb, hle⟩ := hnew2; rw [hb] at e; injection e with e; have := hk.2.2.1; omega⟩)); have HB2 := Ya hb2; clear HF1 HB1 ho2 hb2 hg2 hnew2))
 go_loopg [1, 5, 6, 7] k (fun kq v1 v5 v6 v7 w' => ∃ (x1 : Int) (x5 x6 : List Int) (x7 : Int), v1 = .int .i64 x1 ∧ v7 = .int .i64 x7 ∧ Aside0 (impl_permutationAt.l0 kq x1 x5 x6 x7 = some r) ∧ Aside0 (kq ≤ k) ∧ Aside0 (Kd.R (Kd.int .i64) 3 w' w.heap.size (fun k_ => True ∧ some k_ ≠ v6.ownBlock) v5 x5) ∧ Aside0 (Kd.R (Kd.int .i64) 3 w' w.heap.size (fun _ => True) v6 x6) ∧ Aside0 (Below w.heap.size w w'))
 case atStart => exact ⟨a1, l, [], _, rfl, rfl, H', ⟨Nat.le_refl _⟩, HF2, HO2, HB2⟩
 case round =>
  clear H' HF2 HO2 HB2
  obtain ⟨x1, x5, x6, x7, rfl, rfl, HA, HK1, HF, HO, HB⟩ := hrel
  cases gk with
  | zero => exact absurd HA.out (by simp [impl_permutationAt.l0])
  | succ k1 =>
   have H := HA.out
   clear HA
   simp only [impl_permutationAt.l0] at H
   by_cases c : x7 ≥ 0
   ·rw [if_pos c] at H
    have cb : decide (0 ≤ x7) = true := Z37 c
    clear c
    obtain ⟨t, ht, H⟩ := Z35.mp H
    have HT := Ya ht
    clear ht
    by_cases c0 : t = 0
    ·rw [if_pos c0] at H; exact absurd H (by simp)
    ·rw [if_neg c0] at H
     obtain ⟨q, hq⟩ : ∃ q : Int, wrap64 (Int.tdiv x1 t) = q := ⟨_, rfl⟩
     have hqw : IntKind.i64.wrap (Int.tdiv x1 t) = q := (i64_w _).trans hq
     simp only [hq] at H
     by_cases p : 0 ≤ q
     ·rw [if_pos p] at H
      by_cases p2 : q < (x5.length : Int)
      ·rw [if_pos p2] at H
       by_cases cl : x6.length < 17592186044416
       ·rw [if_pos cl] at H
        obtain ⟨d, hd, H⟩ := Z35.mp H
        have HD := Ya hd
        have LM := Ya cl
        have H' := Ya H
        clear hd cl H
        obtain ⟨g5, c5, e5, hg5, hlt5, _⟩ := Kd.R_form HF.out (by omega)
        subst e5
        obtain ⟨ad, ead, hx⟩ := Kd.at_int (Kd.R_reads' HF.out).2.2 q p p2
        cases ead
        rw [Addr.add_lit, Nat.zero_add] at hx
        have pq := eq_true p
        have pq2 := eq_true p2
        clear p p2 hg5 hlt5
        go_wp2_with fail
        refine (impl_factorial.calls k1 x7 t _ HT.out).mono ?_
        rintro e w3 ⟨rfl, ⟨n3, rfl⟩⟩
        go_wp2_with fail
        refine (impl_factorial.calls k1 x7 t _ HT.out).mono ?_
        rintro e w4 ⟨rfl, ⟨n4, rfl⟩⟩
        go_wp2_with (first | ((with_reducible refine gate_builtin (b := .append) (xs := #[.tmp 26, .tmp 31]) rfl ?_); at_builtin; refine Kd.R_append (Kd.int .i64) (w0 := w) w.heap.size rfl (.tmp 26) (.tmp 31) 24 3 (.int .i64 0) 8 rfl Try.underlying24 info3 rfl (by decide) (by omega) u6 x6 (rd x5 q) [.int .i64 (rd x5 q)] (fun _ => True) (fun _ => False) rfl rfl ?aP (fun _ hk => hk.elim) ?aF ?aO ?aB ?aS ?aL ?_; (case aP => exact rfl); (case aB => exact Z3 HB.out _); (case aF => exact (fun _ _ => trivial)); (case aO => exact Z10 HO.out _); (case aS => exact HB.out.size); (case aL => have := LM.out; omega); intro v8 w8 ho8 hb8 hg8 hat8; have HO8 := Ya ho8; have HF8 := Ya (Kd.R_after (Z10 HF.out _) hg8 hat8); have HB8 := Ya hb8; clear HF HO HB ho8 hb8 hg8 hat8))
        refine (slices_Delete_int_int.calls x5 d q (wrap64 (q + 1)) g5 c5 w.heap.size _ _ HF8.out HD.out).mono ?_
        rintro e w9 ⟨rfl, ho9, hb9, hg9⟩
        have HO9 := Ya (Kd.R_grown1 HO8.out rfl hg9 (fun e => (HF8.out.1 g5 rfl).2 e))
        have HF9 := Ya ho9
        have HB9 := Ya (HB8.out.trans hb9)
        clear HO8 HF8 HB8 ho9 hb9 hg9
        go_wp2
        go_roundg k1
        case measure => have := HK1.out; omega
        case rel => exact ⟨_, d, _, _, rfl, rfl, H', ⟨Q22⟩, HF9, HO9, HB9⟩
       ·rw [if_neg cl] at H; exact absurd H (by simp)
      ·rw [if_neg p2] at H; exact absurd H (by simp)
     ·rw [if_neg p] at H; exact absurd H (by simp)
   ·rw [if_neg c] at H
    have cb : decide (0 ≤ x7) = false := Z36 c
    clear c
    obtain rfl := Option.some.inj H
    go_wp2
    go_ret
    exact ⟨_, rfl, HO.out, HB.out⟩
mutual
def impl_distances.l0 : Nat → Int → List (S45) → List Int → Int → Int → Option (List Int)
 | 0, _, _, _, _, _ => none
 | k + 1, x0, x1, x5, x17, x18 => if x18 < x17 then (if 0 ≤ x18 then (if x18 < (x5.length : Int) then (impl_distances.l0 k x0 x1 (x5.set (x18 : Int).toNat (-1)) x17 (wrap64 (x18 + 1))) else (none)) else (none)) else (if 0 < (x5.length : Int) then (impl_distances.l1 k x0 x1 (x5.set (0 : Int).toNat 0) (([0] : List Int)) 0) else (none))
def impl_distances.l1 : Nat → Int → List (S45) → List Int → List Int → Int → Option (List Int)
 | 0, _, _, _, _, _ => none
 | k + 1, x0, x1, x5, x7, x8 => if x8 < (x7.length : Int) then (if 0 ≤ x8 then ((impl_permutationAt.f k x0 (rd x7 x8)).bind fun t284 => (impl_distances.l2 k x0 x1 x5 x7 x8 t284 x1 (x1.length : Int) 0)) else (none)) else (some x5)
def impl_distances.l2 : Nat → Int → List (S45) → List Int → List Int → Int → List Int → List (S45) → Int → Int → Option (List Int)
 | 0, _, _, _, _, _, _, _, _, _ => none
 | k + 1, x0, x1, x5, x7, x8, x9, x40, x41, x42 => if x42 < x41 then (if 0 ≤ x42 then (if x42 < (x40.length : Int) then ((impl_moved.f k x9 ((rd_T45 x40 x42).f0) ((rd_T45 x40 x42).f1) ((rd_T45 x40 x42).f2)).bind fun t289 => ((impl_permutationRank.f k t289).bind fun t292 => (if 0 ≤ t292 then (if t292 < (x5.length : Int) then (if (rd x5 t292) < 0 then (if 0 ≤ x8 then (if x8 < (x7.length : Int) then (if 0 ≤ (rd x7 x8) then (if (rd x7 x8) < (x5.length : Int) then (if x7.length < 17592186044416 then (impl_distances.l2 k x0 x1 (x5.set (t292 : Int).toNat (wrap64 ((rd x5 (rd x7 x8)) + 1))) (x7 ++ [t292]) x8 x9 x40 x41 (wrap64 (x42 + 1))) else (none)) else (none)) else (none)) else (none)) else (none)) else (impl_distances.l2 k x0 x1 x5 x7 x8 x9 x40 x41 (wrap64 (x42 + 1)))) else (none)) else (none)))) else (none)) else (none)) else (impl_distances.l1 k x0 x1 x5 x7 (wrap64 (x8 + 1)))
end
def impl_distances.f (k : Nat) (a0 : Int) (l1 : List (S45)) : Option (List Int) := (impl_factorial.f k a0).bind fun t274 => (if 0 ≤ t274 then (if (t274 : Int).toNat ≤ 35184372088832 then ((some (List.replicate (t274 : Int).toNat 0 : List Int)).bind fun y275 => (impl_distances.l0 k a0 l1 y275 (y275.length : Int) 0)) else (none)) else (none))
theorem impl_distances.mono_l : ∀ k, (∀ y0 y1 y2 y3 y4, LeO (impl_distances.l0 k y0 y1 y2 y3 y4) (impl_distances.l0 (k + 1) y0 y1 y2 y3 y4)) ∧ (∀ y0 y1 y2 y3 y4, LeO (impl_distances.l1 k y0 y1 y2 y3 y4) (impl_distances.l1 (k + 1) y0 y1 y2 y3 y4)) ∧ (∀ y0 y1 y2 y3 y4 y5 y6 y7 y8, LeO (impl_distances.l2 k y0 y1 y2 y3 y4 y5 y6 y7 y8) (impl_distances.l2 (k + 1) y0 y1 y2 y3 y4 y5 y6 y7 y8))
 | 0 => ⟨fun _ _ _ _ _ r h => by simp [impl_distances.l0] at h, fun _ _ _ _ _ r h => by simp [impl_distances.l1] at h, fun _ _ _ _ _ _ _ _ _ r h => by simp [impl_distances.l2] at h⟩
 | k + 1 => by
  obtain ⟨ih0, ih1, ih2⟩ := impl_distances.mono_l k
  refine ⟨?_, ?_, ?_⟩
  ·intro y0 y1 y2 y3 y4
   unfold impl_distances.l0
   repeat' first
   | (with_reducible exact ih0 _ _ _ _ _)
   | (with_reducible exact ih1 _ _ _ _ _)
   | (with_reducible exact ih2 _ _ _ _ _ _ _ _ _)
   | (with_reducible exact impl_factorial.mono _ _)
   | (with_reducible exact impl_moved.mono _ _ _ _ _)
   | (with_reducible exact impl_permutationAt.mono _ _ _)
   | (with_reducible exact impl_permutationRank.mono _ _)
   | (with_reducible exact LeO.refl _)
   | (with_reducible exact LeO.none _)
   | (with_reducible refine LeO.ite ?_ ?_)
   | (with_reducible refine LeO.bind ?_ (fun _ => ?_))
   | exact ih0 _ _ _ _ _
   | exact ih1 _ _ _ _ _
   | exact ih2 _ _ _ _ _ _ _ _ _
   | exact impl_factorial.mono _ _
   | exact impl_moved.mono _ _ _ _ _
   | exact impl_permutationAt.mono _ _ _
   | exact impl_permutationRank.mono _ _
   | exact LeO.none _
   | refine LeO.ite ?_ ?_
   | refine LeO.bind ?_ (fun _ => ?_)
  ·intro y0 y1 y2 y3 y4
   unfold impl_distances.l1
   repeat' first
   | (with_reducible exact ih0 _ _ _ _ _)
   | (with_reducible exact ih1 _ _ _ _ _)
   | (with_reducible exact ih2 _ _ _ _ _ _ _ _ _)
   | (with_reducible exact impl_factorial.mono _ _)
   | (with_reducible exact impl_moved.mono _ _ _ _ _)
   | (with_reducible exact impl_permutationAt.mono _ _ _)
   | (with_reducible exact impl_permutationRank.mono _ _)
   | (with_reducible exact LeO.refl _)
   | (with_reducible exact LeO.none _)
   | (with_reducible refine LeO.ite ?_ ?_)
   | (with_reducible refine LeO.bind ?_ (fun _ => ?_))
   | exact ih0 _ _ _ _ _
   | exact ih1 _ _ _ _ _
   | exact ih2 _ _ _ _ _ _ _ _ _
   | exact impl_factorial.mono _ _
   | exact impl_moved.mono _ _ _ _ _
   | exact impl_permutationAt.mono _ _ _
   | exact impl_permutationRank.mono _ _
   | exact LeO.none _
   | refine LeO.ite ?_ ?_
   | refine LeO.bind ?_ (fun _ => ?_)
  ·intro y0 y1 y2 y3 y4 y5 y6 y7 y8
   unfold impl_distances.l2
   repeat' first
   | (with_reducible exact ih0 _ _ _ _ _)
   | (with_reducible exact ih1 _ _ _ _ _)
   | (with_reducible exact ih2 _ _ _ _ _ _ _ _ _)
   | (with_reducible exact impl_factorial.mono _ _)
   | (with_reducible exact impl_moved.mono _ _ _ _ _)
   | (with_reducible exact impl_permutationAt.mono _ _ _)
   | (with_reducible exact impl_permutationRank.mono _ _)
   | (with_reducible exact LeO.refl _)
   | (with_reducible exact LeO.none _)
   | (with_reducible refine LeO.ite ?_ ?_)
   | (with_reducible refine LeO.bind ?_ (fun _ => ?_))
   | exact ih0 _ _ _ _ _
   | exact ih1 _ _ _ _ _
   | exact ih2 _ _ _ _ _ _ _ _ _
   | exact impl_factorial.mono _ _
   | exact impl_moved.mono _ _ _ _ _
   | exact impl_permutationAt.mono _ _ _
   | exact impl_permutationRank.mono _ _
   | exact LeO.none _
   | refine LeO.ite ?_ ?_
   | refine LeO.bind ?_ (fun _ => ?_)
theorem impl_distances.mono : ∀ a0 a1 k, LeO (impl_distances.f k a0 a1) (impl_distances.f (k + 1) a0 a1) := by
 intro a0 a1 k
 obtain ⟨ih0, ih1, ih2⟩ := impl_distances.mono_l k
 unfold impl_distances.f
 repeat' first
   | (with_reducible exact ih0 _ _ _ _ _)
   | (with_reducible exact ih1 _ _ _ _ _)
   | (with_reducible exact ih2 _ _ _ _ _ _ _ _ _)
   | (with_reducible exact impl_factorial.mono _ _)
   | (with_reducible exact impl_moved.mono _ _ _ _ _)
   | (with_reducible exact impl_permutationAt.mono _ _ _)
   | (with_reducible exact impl_permutationRank.mono _ _)
   | (with_reducible exact LeO.refl _)
   | (with_reducible exact LeO.none _)
   | (with_reducible refine LeO.ite ?_ ?_)
   | (with_reducible refine LeO.bind ?_ (fun _ => ?_))
   | exact ih0 _ _ _ _ _
   | exact ih1 _ _ _ _ _
   | exact ih2 _ _ _ _ _ _ _ _ _
   | exact impl_factorial.mono _ _
   | exact impl_moved.mono _ _ _ _ _
   | exact impl_permutationAt.mono _ _ _
   | exact impl_permutationRank.mono _ _
   | exact LeO.none _
   | refine LeO.ite ?_ ?_
   | refine LeO.bind ?_ (fun _ => ?_)
set_option maxHeartbeats 8000000 in
set_option maxRecDepth 100000 in
theorem impl_distances.calls (k : Nat) (a0 : Int) (A1 : Option Addr) (c1 : Nat) (l1 : List (S45)) (r : List Int) (w : World) (hr1 : Kd.C k45 w A1 l1.length l1) (hc1 : l1.length ≤ c1) (h : impl_distances.f k a0 l1 = some r) :
  Calls Try.prog 55 #[.int .i64 a0, .slice A1 l1.length c1] w fun e w' => ∃ v0_ : Value, e = .returned (v0_) ∧ Kd.R (Kd.int .i64) 3 w' w.heap.size (fun _ => True) v0_ r ∧ Below w.heap.size w w' := by
 have hu45 := Try.underlying45
 have HR1 := Ya hr1
 have HC1 := Ya hc1
 clear hr1 hc1
 have HB := Ya (Below.refl w.heap.size w)
 have H : ((impl_factorial.f k a0).bind fun t274 => (if 0 ≤ t274 then (if (t274 : Int).toNat ≤ 35184372088832 then ((some (List.replicate (t274 : Int).toNat 0 : List Int)).bind fun y275 => (impl_distances.l0 k a0 l1 y275 (y275.length : Int) 0)) else (none)) else (none))) = some r := h
 clear h
 replace H := Z35.mp H
 obtain ⟨t274, A30, H⟩ := H
 replace H : (if 0 ≤ t274 then (if (t274 : Int).toNat ≤ 35184372088832 then ((some (List.replicate (t274 : Int).toNat 0 : List Int)).bind fun y275 => (impl_distances.l0 k a0 l1 y275 (y275.length : Int) 0)) else (none)) else (none)) = some r := H
 have A3 := Ya A30
 clear A30
 by_cases c4 : 0 ≤ t274
 ·rw [if_pos c4] at H
  have c4b0 := eq_true c4
  have c4b1 := Z37 c4
  clear c4
  by_cases c5 : (t274 : Int).toNat ≤ 35184372088832
  ·rw [if_pos c5] at H
   have c5b0 := eq_true c5
   have c5b1 := Z37 c5
   clear c5
   obtain ⟨y275, hy275⟩ : ∃ y_ : List Int, y_ = (List.replicate (t274 : Int).toNat 0) := ⟨_, rfl⟩
   replace H : (impl_distances.l0 k a0 l1 y275 (y275.length : Int) 0) = some r := by first | (rw [hy275]; with_reducible exact H) | (have H2_ := (Option.bind_some _ _).symm.trans H; rw [hy275]; with_reducible exact H2_) | (have H2_ := (Option.bind_some _ _).symm.trans H; with_reducible exact H2_) | with_reducible exact H | (rw [hy275]; exact H) | exact H
   have Ny275 := Ya hy275
   clear hy275
   have H' := Ya H
   clear H
   go_enter Try.func55, Try.ntmps55
   go_wp2_with (first | ((with_reducible refine gate_callee (f := 50) rfl ?_); refine Yz 14 Try.func50 #[.int .i64 a0] ?_; (with_reducible refine (impl_factorial.calls k a0 t274 _ A3.out).mono ?_); rintro e w' ⟨rfl, ⟨nd, rfl⟩⟩; refine ⟨_, rfl, ?_⟩) | ((with_reducible refine gate_dst (N := 15) rfl ?_); refine Kd.R_make (Kd.int .i64) _ 3 rfl (N := 15) rfl 24 _ _ rfl t274 rfl rfl Try.underlying24 (.int .i64 0) 8 info3 rfl (by decide) (by omega) 0 (ok := fun _ => True) (okp := fun _ => True) rfl (fun _ hk => hk) trivial (Z29 Q1) (Nat.le_trans (Nat.mul_le_mul_right _ (Z29 Q1 : t274.toNat ≤ 35184372088832)) (by omega)) (Below.refl _ _) (Nat.le_refl _) ?_; intro v276 w6 ho7 hb hg_ hnew_; clear hg_ hnew_; (first | rw [← Ny275.out] at ho7 | (simp only [Int.reduceToNat] at ho7; rw [← Ny275.out] at ho7)); have HO277 := Yl ho7; replace HB := Yh hb; clear hb ho7; obtain ⟨Ao8, co8, rfl⟩ := Z17 HO277.out))
   go_loopg [18] k (fun kq v18 w' => ∃ (x5_1 : List Int) (x18_1 : Int), v18 = .int .i64 x18_1 ∧ Aside0 (impl_distances.l0 kq a0 l1 x5_1 (y275.length : Int) x18_1 = some r) ∧ Aside0 (kq ≤ k) ∧ Aside0 (Kd.R (Kd.int .i64) 3 w' w.heap.size (fun _ => True) (.slice Ao8 y275.length co8) x5_1) ∧ Aside0 (Below w.heap.size w w'))
   case atStart => exact ⟨(y275), (0), Q3, H', ⟨Nat.le_refl _⟩, ⟨by (with_reducible repeat (first | apply Z9 | apply Z10 | apply Z11)); exact HO277.out⟩, ⟨Q0⟩⟩
   case round =>
    clear H'
    try clear c1
    try clear p2
    try clear c4
    try clear c4b0
    try clear c4b1
    try clear c5
    try clear c5b0
    try clear c5b1
    obtain ⟨x5_1, x18_1, rfl, HA, HK1, HO_5, HB⟩ := hrel
    have hl5_1 := (Kd.R_reads' HO_5.out).1
    rw [hl5_1] at HO_5
    (try simp only [hl5_1])
    cases gk with
    | zero => exact absurd HA.out (by simp [impl_distances.l0])
    | succ k1 =>
     have H := HA.out
     clear HA
     simp only [impl_distances.l0] at H
     by_cases c9 : x18_1 < (y275.length : Int)
     ·rw [if_pos c9] at H
      have c9b0 := Z37 c9
      clear c9
      by_cases c10 : 0 ≤ x18_1
      ·rw [if_pos c10] at H
       have c10b0 := Z37 c10
       clear c10
       by_cases c11 : x18_1 < (x5_1.length : Int)
       ·rw [if_pos c11] at H
        have c11b0 := Z37 c11
        clear c11
        obtain ⟨y278, hy278⟩ : ∃ y_ : List Int, y_ = (x5_1.set (x18_1 : Int).toNat (-1)) := ⟨_, rfl⟩
        replace H : (impl_distances.l0 k1 a0 l1 y278 (y275.length : Int) (wrap64 (x18_1 + 1))) = some r := by first | (rw [hy278]; with_reducible exact H) | (have H2_ := (Option.bind_some _ _).symm.trans H; rw [hy278]; with_reducible exact H2_) | (have H2_ := (Option.bind_some _ _).symm.trans H; with_reducible exact H2_) | with_reducible exact H | (rw [hy278]; exact H) | exact H
        have Ny278 := Ya hy278
        clear hy278
        have H' := Ya H
        clear H
        have p12 : 0 ≤ (x18_1 : Int) := Z29 Q1
        have q12 : (x18_1 : Int) < ((x5_1.length : Int) : Int) := Z29 Q1
        obtain ⟨go12, co12, eo12, gb12, gl12, cl12, HG12⟩ := Kd.R_form HO_5.out (by omega)
        (first | cases eo12 | (injection eo12 with ea_ en_ ec_; (first | subst ea_ | (injection ea_ with ea_; subst ea_)); subst ec_; clear en_))
        have GB12 := Ya gb12
        have GG12 := Ya HG12
        clear gb12 gl12 HG12
        obtain ⟨hx12_0, hf12_0⟩ := Kd.R_celln 0 HO_5.out (x18_1 : Int) p12 q12
        replace p12 := eq_true p12
        replace q12 := eq_true q12
        have HP13 := Kd.R_putg HO_5.out (x18_1 : Int) (-1)
        go_wp2_with (first | ((with_reducible refine gate_store (t := 3) (p := 23) rfl ?_); refine store_event (t := 3) (p := 23) (v := ?vo_w14) (w1 := (wr.setCell ⟨go12, (x18_1 : Int).toNat, none⟩ (.int .i64 (-1)))) ?hg ?ho ?hn ?hr ?_; (case ho => rfl); (case hg => rfl); (case hn => rfl); (case hr => first | (go_simp; done) | (go_simp; rfl)); intro w14 hw; have hg : wr.grownBy w14 (some go12) := (by rw [hw]; exact HP13.2); have hp_ : Kd.R (Kd.int .i64) 3 w14 w.heap.size (fun _ => True) (.slice (some ⟨go12, 0, none⟩) x5_1.length co8) y278 := (by rw [hw, Ny278.out]; exact HP13.1); clear HP13; replace HO_5 := Ya hp_; replace HB := Ya ((by rw [hw]; exact Z6 (HB.out) GB12.out : Below w.heap.size w w14)); clear hg hw hp_))
        (try simp only [← hl5_1])
        go_roundg k1
        case measure => have := HK1.out; omega
        case rel => exact ⟨(y278), (wrap64 (x18_1 + 1)), Q3, H', ⟨Q22⟩, ⟨by (try simp only [hl5_1]); (with_reducible repeat (first | apply Z9 | apply Z10 | apply Z11)); exact HO_5.out⟩, ⟨Q0⟩⟩
       ·rw [if_neg c11] at H
        exact absurd H (by simp)
      ·rw [if_neg c10] at H
       exact absurd H (by simp)
     ·rw [if_neg c9] at H
      have c9b0 := Z36 c9
      have c9b0h := c9b0
      (try rw [hl5_1] at c9b0h)
      clear c9
      by_cases c15 : 0 < (x5_1.length : Int)
      ·rw [if_pos c15] at H
       have c15b0 := Z37 c15
       have c15b1 : decide (0 < x5_1.length) = true := Z37 (by omega)
       clear c15
       obtain ⟨y279, hy279⟩ : ∃ y_ : List Int, y_ = (x5_1.set (0 : Int).toNat 0) := ⟨_, rfl⟩
       replace H : (impl_distances.l1 k1 a0 l1 y279 (([0] : List Int)) 0) = some r := by first | (rw [hy279]; with_reducible exact H) | (have H2_ := (Option.bind_some _ _).symm.trans H; rw [hy279]; with_reducible exact H2_) | (have H2_ := (Option.bind_some _ _).symm.trans H; with_reducible exact H2_) | with_reducible exact H | (rw [hy279]; exact H) | exact H
       have Ny279 := Ya hy279
       clear hy279
       obtain ⟨y280, hy280⟩ : ∃ y_ : List Int, y_ = (([0] : List Int)) := ⟨_, rfl⟩
       replace H : (impl_distances.l1 k1 a0 l1 y279 y280 0) = some r := by first | (rw [hy280]; with_reducible exact H) | (have H2_ := (Option.bind_some _ _).symm.trans H; rw [hy280]; with_reducible exact H2_) | (have H2_ := (Option.bind_some _ _).symm.trans H; with_reducible exact H2_) | with_reducible exact H | (rw [hy280]; exact H) | exact H
       have Ny280 := Ya hy280
       clear hy280
       have H' := Ya H
       clear H
       have p16 : 0 ≤ (0 : Int) := (by omega)
       have q16 : (0 : Int) < ((x5_1.length : Int) : Int) := Z29 Q1
       have qi16 : (0 < x5_1.length) = True := eq_true (by omega)
       obtain ⟨go16, co16, eo16, gb16, gl16, cl16, HG16⟩ := Kd.R_form HO_5.out (by omega)
       (first | cases eo16 | (injection eo16 with ea_ en_ ec_; (first | subst ea_ | (injection ea_ with ea_; subst ea_)); subst ec_; clear en_))
       have GB16 := Ya gb16
       have GG16 := Ya HG16
       clear gb16 gl16 HG16
       obtain ⟨hx16_0, hf16_0⟩ := Kd.R_celln 0 HO_5.out (0 : Int) p16 q16
       (try rw [show ((0 : Int)).toNat = 0 from rfl] at hx16_0)
       (try simp only [Nat.reduceMul, Nat.zero_mul, Nat.zero_add, Nat.reduceAdd] at hx16_0)
       (try rw [show ((0 : Int)).toNat = 0 from rfl] at hf16_0)
       (try simp only [Nat.reduceMul, Nat.zero_mul, Nat.zero_add, Nat.reduceAdd] at hf16_0)
       replace p16 := eq_true p16
       replace q16 := eq_true q16
       have HP17 := Kd.R_putg HO_5.out (0 : Int) 0
       go_wp2_with (first | ((with_reducible refine gate_store (t := 3) (p := 26) rfl ?_); refine store_event (t := 3) (p := 26) (v := ?vo_w18) (w1 := (wr.setCell ⟨go16, (0 : Int).toNat, none⟩ (.int .i64 0))) ?hg ?ho ?hn ?hr ?_; (case ho => rfl); (case hg => rfl); (case hn => rfl); (case hr => first | (go_simp; done) | (go_simp; rfl)); intro w18 hw; have hg : wr.grownBy w18 (some go16) := (by rw [hw]; exact HP17.2); have hp_ : Kd.R (Kd.int .i64) 3 w18 w.heap.size (fun _ => True) (.slice (some ⟨go16, 0, none⟩) x5_1.length co8) y279 := (by rw [hw, Ny279.out]; exact HP17.1); clear HP17; replace HO_5 := Ya hp_; replace HB := Ya ((by rw [hw]; exact Z6 (HB.out) GB16.out : Below w.heap.size w w18)); clear hg hw hp_) | ((with_reducible refine gate_dst (N := 27) rfl ?_); refine Kd.R_lit (Kd.int .i64) _ 3 ?hg (N := 27) ?hd (xs := ([0] : List Int)) (inner := [.int .i64 0]) (ok := fun _ => True) (okp := fun _ => True) ?hr ?hp (fun _ hk => hk) trivial (Below.refl _ _) (Nat.le_refl _) (by simp) ?_; (case hd => rfl); (case hg => rfl); (case hr => first | (go_simp; done) | (go_simp; rfl)); (case hp => exact (Reps.one (show Kd.M (Kd.int .i64) _ _ _ 0 [.int .i64 0] from rfl) (Reps.none _ _))); intro v281 w19 ho20 hb hg_ hnew_; clear hg_ hnew_; (first | rw [← Ny280.out] at ho20 | (simp only [Int.reduceToNat] at ho20; rw [← Ny280.out] at ho20)); have HO282 := Yl (Kd.R_new' ho20 (Z16 (Yr HO_5.out))); replace HO_5 := Ya (Kd.R_elder' (Yr HO_5.out) (Kd.R_base ho20) hb); replace HB := Yh hb; clear hb ho20))
       go_loopg [7, 8] k1 (fun kq v7 v8 w' => ∃ (x5_2 : List Int) (x7_2 : List Int) (x8_2 : Int), v8 = .int .i64 x8_2 ∧ Aside0 (impl_distances.l1 kq a0 l1 x5_2 x7_2 x8_2 = some r) ∧ Aside0 (kq ≤ k1) ∧ Aside0 (Kd.R (Kd.int .i64) 3 w' w.heap.size (fun k_ => some k_ ≠ (v7 : Value).ownBlock) (.slice (some ⟨go16, 0, none⟩) x5_1.length co8) x5_2) ∧ Aside0 (Kd.R (Kd.int .i64) 3 w' w.heap.size (fun k_ => some k_ ≠ ((.slice (some ⟨go16, 0, none⟩) x5_1.length co8) : Value).ownBlock) v7 x7_2) ∧ Aside0 (Below w.heap.size w w'))
       case atStart => exact ⟨(y279), (y280), (0), Q3, H', ⟨Nat.le_refl _⟩, ⟨by (try simp only [hl5_1]); (with_reducible repeat (first | apply Z9 | apply Z10 | apply Z11)); exact Z12 HO_5.out (fun k_ hk => by first | exact hk.2 | (and_intros <;> first | exact hk.1 | exact hk.2 | exact hk.1.1 | exact hk.1.2 | exact hk.2.1 | exact hk.2.2 | exact hk.1.1.1 | exact hk.1.1.2 | exact hk.1.2.1 | exact hk.1.2.2 | exact hk.2.1.1 | exact hk.2.1.2 | exact hk.2.2.1 | exact hk.2.2.2 | trivial))⟩, ⟨by (try simp only [hl5_1]); (with_reducible repeat (first | apply Z9 | apply Z10 | apply Z11)); exact Z12 HO282.out (fun k_ hk => by first | exact hk.2 | (and_intros <;> first | exact hk.1 | exact hk.2 | exact hk.1.1 | exact hk.1.2 | exact hk.2.1 | exact hk.2.2 | exact hk.1.1.1 | exact hk.1.1.2 | exact hk.1.2.1 | exact hk.1.2.2 | exact hk.2.1.1 | exact hk.2.1.2 | exact hk.2.2.1 | exact hk.2.2.2 | trivial))⟩, ⟨Q0⟩⟩
       case round =>
        clear H'
        try clear c1
        try clear p1
        try clear q1
        try clear hx1
        try clear qi1
        try clear p2
        try clear c4
        try clear c4b0
        try clear c4b1
        try clear c5
        try clear c5b0
        try clear c5b1
        try clear p6
        try clear c9
        try clear c9b0
        try clear c10
        try clear c10b0
        try clear c11
        try clear c11b0
        try clear p12
        try clear q12
        try clear hx12
        try clear hf12
        try clear c15
        try clear c15b0
        try clear c15b1
        try clear p16
        try clear q16
        try clear hx16
        try clear qi16
        try clear hf16
        try clear hx12_0
        try clear hx16_0
        try clear p12
        try clear p16
        try clear p2
        try clear q12
        try clear q16
        obtain ⟨x5_2, x7_2, x8_2, rfl, HA, HK2, HO_5, HO_7, HB⟩ := hrel
        have hl5_2 := (Kd.R_reads' HO_5.out).1
        rw [hl5_2] at HO_5
        (try simp only [hl5_2])
        (try simp only [hl5_2] at HO_7)
        cases gk with
        | zero => exact absurd HA.out (by simp [impl_distances.l1])
        | succ k2 =>
         have H := HA.out
         clear HA
         simp only [impl_distances.l1] at H
         by_cases c21 : x8_2 < (x7_2.length : Int)
         ·rw [if_pos c21] at H
          have c21b0 := Z37 c21
          clear c21
          by_cases c22 : 0 ≤ x8_2
          ·rw [if_pos c22] at H
           have c22b0 := Z37 c22
           clear c22
           replace H := Z35.mp H
           obtain ⟨t284, A230, H⟩ := H
           replace H : (impl_distances.l2 k2 a0 l1 x5_2 x7_2 x8_2 t284 l1 (l1.length : Int) 0) = some r := H
           have A23 := Ya A230
           clear A230
           have H' := Ya H
           clear H
           obtain ⟨Ao24, co24, rfl⟩ := Z17 HO_7.out
           have p283 : 0 ≤ (x8_2 : Int) := Z29 Q1
           have q283 : x8_2 < (x7_2.length : Int) := Z29 Q1
           obtain ⟨ad283, e283, hx283_0⟩ := Kd.at_int (Kd.R_reads' HO_7.out).2.2 x8_2 p283 q283
           cases e283
           replace p283 := eq_true p283
           replace q283 := eq_true q283
           go_wp2_with (first | ((with_reducible refine gate_callee (f := 61) rfl ?_); refine Yz 39 Try.func61 #[.int .i64 a0, .int .i64 (rd x7_2 x8_2)] ?_; (with_reducible refine (impl_permutationAt.calls k2 a0 (rd x7_2 x8_2) t284 _ A23.out).mono ?_); rintro e w25 ⟨v285, rfl, ho0, hb⟩; refine ⟨_, rfl, ?_⟩; have HO286 := Yl (Kd.R_new' (Kd.R_new' ho0 (Z16 (Yr HO_5.out))) (Z16 (Yr HO_7.out))); replace HO_5 := Ya (Kd.R_elder' (Yr HO_5.out) (Kd.R_base ho0) hb); replace HO_7 := Ya (Kd.R_elder' (Yr HO_7.out) (Kd.R_base ho0) hb); replace HB := Yh hb; (try clear hb ho0)))
           go_loopg [7, 42] k2 (fun kq v7 v42 w' => ∃ (x5_3 : List Int) (x7_3 : List Int) (x42_3 : Int), v42 = .int .i64 x42_3 ∧ Aside0 (impl_distances.l2 kq a0 l1 x5_3 x7_3 x8_2 t284 l1 (l1.length : Int) x42_3 = some r) ∧ Aside0 (kq ≤ k2) ∧ Aside0 (Kd.R (Kd.int .i64) 3 w' w.heap.size (fun k_ => some k_ ≠ (v7 : Value).ownBlock ∧ some k_ ≠ (v285 : Value).ownBlock) (.slice (some ⟨go16, 0, none⟩) x5_2.length co8) x5_3) ∧ Aside0 (Kd.R (Kd.int .i64) 3 w' w.heap.size (fun k_ => some k_ ≠ ((.slice (some ⟨go16, 0, none⟩) x5_2.length co8) : Value).ownBlock ∧ some k_ ≠ (v285 : Value).ownBlock) v7 x7_3) ∧ Aside0 (Kd.R (Kd.int .i64) 3 w' w.heap.size (fun k_ => some k_ ≠ ((.slice (some ⟨go16, 0, none⟩) x5_2.length co8) : Value).ownBlock ∧ some k_ ≠ (v7 : Value).ownBlock) v285 t284) ∧ Aside0 (Below w.heap.size w w'))
           case atStart => exact ⟨(x5_2), (x7_2), (0), Q3, H', ⟨Nat.le_refl _⟩, ⟨by (try simp only [hl5_1]); (try simp only [hl5_2]); (with_reducible repeat (first | apply Z9 | apply Z10 | apply Z11)); exact HO_5.out⟩, ⟨by (try simp only [hl5_1]); (try simp only [hl5_2]); (with_reducible repeat (first | apply Z9 | apply Z10 | apply Z11)); exact HO_7.out⟩, ⟨by (try simp only [hl5_1]); (try simp only [hl5_2]); (with_reducible repeat (first | apply Z9 | apply Z10 | apply Z11)); exact Z12 HO286.out (fun k_ hk => by first | exact ⟨hk.1.2, hk.2⟩ | (and_intros <;> first | exact hk.1 | exact hk.2 | exact hk.1.1 | exact hk.1.2 | exact hk.2.1 | exact hk.2.2 | exact hk.1.1.1 | exact hk.1.1.2 | exact hk.1.2.1 | exact hk.1.2.2 | exact hk.2.1.1 | exact hk.2.1.2 | exact hk.2.2.1 | exact hk.2.2.2 | trivial))⟩, ⟨Q0⟩⟩
           case round =>
            clear H'
            try clear c1
            try clear p1
            try clear q1
            try clear hx1
            try clear qi1
            try clear c2
            try clear p2
            try clear q2
            try clear hx2
            try clear c4
            try clear c4b0
            try clear c4b1
            try clear c5
            try clear c5b0
            try clear c5b1
            try clear c6
            try clear p6
            try clear c9
            try clear c9b0
            try clear c10
            try clear c10b0
            try clear c11
            try clear c11b0
            try clear p12
            try clear q12
            try clear hx12
            try clear hf12
            try clear c15
            try clear c15b0
            try clear c15b1
            try clear p16
            try clear q16
            try clear hx16
            try clear qi16
            try clear hf16
            try clear c21
            try clear c21b0
            try clear c22
            try clear c22b0
            try clear hx12_0
            try clear hx16_0
            try clear hx283_0
            try clear p1
            try clear p12
            try clear p16
            try clear p2
            try clear p283
            try clear p6
            try clear q1
            try clear q12
            try clear q16
            try clear q283
            obtain ⟨x5_3, x7_3, x42_3, rfl, HA, HK3, HO_5, HO_7, HO_9, HB⟩ := hrel
            have hl5_3 := (Kd.R_reads' HO_5.out).1
            rw [hl5_3] at HO_5
            (try simp only [hl5_3])
            (try simp only [hl5_3] at HO_7)
            (try simp only [hl5_3] at HO_9)
            cases gk with
            | zero => exact absurd HA.out (by simp [impl_distances.l2])
            | succ k3 =>
             have H := HA.out
             clear HA
             simp only [impl_distances.l2] at H
             by_cases c26 : x42_3 < (l1.length : Int)
             ·rw [if_pos c26] at H
              have c26b0 := Z37 c26
              clear c26
              by_cases c27 : 0 ≤ x42_3
              ·rw [if_pos c27] at H
               have c27b0 := Z37 c27
               clear c27
               by_cases c28 : x42_3 < (l1.length : Int)
               ·rw [if_pos c28] at H
                have c28b0 := Z37 c28
                clear c28
                replace H := Z35.mp H
                obtain ⟨t289, A290, H⟩ := H
                replace H : ((impl_permutationRank.f k3 t289).bind fun t292 => (if 0 ≤ t292 then (if t292 < (x5_3.length : Int) then (if (rd x5_3 t292) < 0 then (if 0 ≤ x8_2 then (if x8_2 < (x7_3.length : Int) then (if 0 ≤ (rd x7_3 x8_2) then (if (rd x7_3 x8_2) < (x5_3.length : Int) then (if x7_3.length < 17592186044416 then (impl_distances.l2 k3 a0 l1 (x5_3.set (t292 : Int).toNat (wrap64 ((rd x5_3 (rd x7_3 x8_2)) + 1))) (x7_3 ++ [t292]) x8_2 t284 l1 (l1.length : Int) (wrap64 (x42_3 + 1))) else (none)) else (none)) else (none)) else (none)) else (none)) else (impl_distances.l2 k3 a0 l1 x5_3 x7_3 x8_2 t284 l1 (l1.length : Int) (wrap64 (x42_3 + 1)))) else (none)) else (none))) = some r := H
                have A29 := Ya A290
                clear A290
                replace H := Z35.mp H
                obtain ⟨t292, A300, H⟩ := H
                replace H : (if 0 ≤ t292 then (if t292 < (x5_3.length : Int) then (if (rd x5_3 t292) < 0 then (if 0 ≤ x8_2 then (if x8_2 < (x7_3.length : Int) then (if 0 ≤ (rd x7_3 x8_2) then (if (rd x7_3 x8_2) < (x5_3.length : Int) then (if x7_3.length < 17592186044416 then (impl_distances.l2 k3 a0 l1 (x5_3.set (t292 : Int).toNat (wrap64 ((rd x5_3 (rd x7_3 x8_2)) + 1))) (x7_3 ++ [t292]) x8_2 t284 l1 (l1.length : Int) (wrap64 (x42_3 + 1))) else (none)) else (none)) else (none)) else (none)) else (none)) else (impl_distances.l2 k3 a0 l1 x5_3 x7_3 x8_2 t284 l1 (l1.length : Int) (wrap64 (x42_3 + 1)))) else (none)) else (none)) = some r := H
                have A30 := Ya A300
                clear A300
                by_cases c31 : 0 ≤ t292
                ·rw [if_pos c31] at H
                 have c31b0 := Z37 c31
                 clear c31
                 by_cases c32 : t292 < (x5_3.length : Int)
                 ·rw [if_pos c32] at H
                  have c32b0 := Z37 c32
                  clear c32
                  by_cases c33 : (rd x5_3 t292) < 0
                  ·rw [if_pos c33] at H
                   have c33b0 := Z37 c33
                   clear c33
                   by_cases c34 : 0 ≤ x8_2
                   ·rw [if_pos c34] at H
                    have c34b0 := Z37 c34
                    clear c34
                    by_cases c35 : x8_2 < (x7_3.length : Int)
                    ·rw [if_pos c35] at H
                     have c35b0 := Z37 c35
                     clear c35
                     by_cases c36 : 0 ≤ (rd x7_3 x8_2)
                     ·rw [if_pos c36] at H
                      have c36b0 := Z37 c36
                      clear c36
                      by_cases c37 : (rd x7_3 x8_2) < (x5_3.length : Int)
                      ·rw [if_pos c37] at H
                       have c37b0 := Z37 c37
                       clear c37
                       obtain ⟨y296, hy296⟩ : ∃ y_ : List Int, y_ = (x5_3.set (t292 : Int).toNat (wrap64 ((rd x5_3 (rd x7_3 x8_2)) + 1))) := ⟨_, rfl⟩
                       replace H : (if x7_3.length < 17592186044416 then (impl_distances.l2 k3 a0 l1 y296 (x7_3 ++ [t292]) x8_2 t284 l1 (l1.length : Int) (wrap64 (x42_3 + 1))) else (none)) = some r := by first | (rw [hy296]; with_reducible exact H) | (have H2_ := (Option.bind_some _ _).symm.trans H; rw [hy296]; with_reducible exact H2_) | (have H2_ := (Option.bind_some _ _).symm.trans H; with_reducible exact H2_) | with_reducible exact H | (rw [hy296]; exact H) | exact H
                       have Ny296 := Ya hy296
                       clear hy296
                       by_cases c39 : x7_3.length < 17592186044416
                       ·rw [if_pos c39] at H
                        have LMc39 := Ya c39
                        clear c39
                        obtain ⟨y297, hy297⟩ : ∃ y_ : List Int, y_ = (x7_3 ++ [t292]) := ⟨_, rfl⟩
                        replace H : (impl_distances.l2 k3 a0 l1 y296 y297 x8_2 t284 l1 (l1.length : Int) (wrap64 (x42_3 + 1))) = some r := by first | (rw [hy297]; with_reducible exact H) | (have H2_ := (Option.bind_some _ _).symm.trans H; rw [hy297]; with_reducible exact H2_) | (have H2_ := (Option.bind_some _ _).symm.trans H; with_reducible exact H2_) | with_reducible exact H | (rw [hy297]; exact H) | exact H
                        have Ny297 := Ya hy297
                        clear hy297
                        have H' := Ya H
                        clear H
                        have p287 : 0 ≤ (x42_3 : Int) := Z29 Q1
                        have q287 : x42_3 < (l1.length : Int) := Z29 Q1
                        obtain ⟨ad287, e287, hx287_0, hx287_1, hx287_2⟩ := at_T45 HR1.out x42_3 p287 q287
                        cases e287
                        try replace hx287_0 := (HB.out.cell (World.block_lt_of_cell? w _ hx287_0)).trans hx287_0
                        try replace hx287_1 := (HB.out.cell (World.block_lt_of_cell? w _ hx287_1)).trans hx287_1
                        try replace hx287_2 := (HB.out.cell (World.block_lt_of_cell? w _ hx287_2)).trans hx287_2
                        replace p287 := eq_true p287
                        replace q287 := eq_true q287
                        go_wp2_with (first | ((with_reducible refine gate_dst (N := 11) rfl ?_); refine Yx 11 #[.int .i64 0, .int .i64 0, .int .i64 0] 45 ?_; intro gb288 hg w40 hbox hb; replace HO_5 := Yw HO_5 hb; replace HO_7 := Yw HO_7 hb; replace HO_9 := Yw HO_9 hb; have BK288 := Ya hbox; have GE288 := Yg hg; replace HB := Yh hb; clear hb hbox hg; have hcz41_0 : w40.cell? ⟨gb288, 0, none⟩ = some (.int .i64 0) := (Z22 BK288.out 0).trans rfl; have hcz41_1 : w40.cell? ⟨gb288, 1, none⟩ = some (.int .i64 0) := (Z22 BK288.out 1).trans rfl; have hcz41_2 : w40.cell? ⟨gb288, 2, none⟩ = some (.int .i64 0) := (Z22 BK288.out 2).trans rfl; have hfz41_0 := Z23 BK288.out 0; have hfz41_1 := Z23 BK288.out 1; have hfz41_2 := Z23 BK288.out 2; obtain ⟨Ao42, co42, rfl⟩ := Z17 HO_9.out) | ((with_reducible refine gate_callee (f := 51) rfl ?_); refine Yz 48 Try.func51 #[.slice Ao42 t284.length co42, .agg #[.int .i64 ((rd_T45 l1 x42_3).f0), .int .i64 ((rd_T45 l1 x42_3).f1), .int .i64 ((rd_T45 l1 x42_3).f2)]] ?_; (with_reducible refine (impl_moved.calls k3 _ _ t284 ((rd_T45 l1 x42_3).f0) ((rd_T45 l1 x42_3).f1) ((rd_T45 l1 x42_3).f2) t289 _ ?side1 ((Kd.R_reads' HO_9.out).2.1) A29.out).mono ?_); (case side1 => refine (Kd.R_reads' (e := 3) (base := w.heap.size) (ok := fun k_ => (some k_ ≠ (.slice (some ⟨go16, 0, none⟩) x5_3.length co8 : Value).ownBlock ∧ some k_ ≠ (u7 : Value).ownBlock)) (n := t284.length) (c := co42) ?_).2.2; exact (Yj (Z13 (p := ⟨gb288, 2, none⟩) (Z13 (p := ⟨gb288, 1, none⟩) (Z13 (p := ⟨gb288, 0, none⟩) (Z15 HO_9.out BK288.out (by decide)) (fun k_ hk => by first | exact hk.2 | (and_intros <;> first | exact hk.1 | exact hk.2 | exact hk.1.1 | exact hk.1.2 | exact hk.2.1 | exact hk.2.2 | exact hk.1.1.1 | exact hk.1.1.2 | exact hk.1.2.1 | exact hk.1.2.2 | exact hk.2.1.1 | exact hk.2.1.2 | exact hk.2.2.1 | exact hk.2.2.2 | trivial)) (.int .i64 ((rd_T45 l1 x42_3).f0))) (fun k_ hk => by first | exact hk.2 | (and_intros <;> first | exact hk.1 | exact hk.2 | exact hk.1.1 | exact hk.1.2 | exact hk.2.1 | exact hk.2.2 | exact hk.1.1.1 | exact hk.1.1.2 | exact hk.1.2.1 | exact hk.1.2.2 | exact hk.2.1.1 | exact hk.2.1.2 | exact hk.2.2.1 | exact hk.2.2.2 | trivial)) (.int .i64 ((rd_T45 l1 x42_3).f1))) (fun k_ hk => by first | exact hk.2 | (and_intros <;> first | exact hk.1 | exact hk.2 | exact hk.1.1 | exact hk.1.2 | exact hk.2.1 | exact hk.2.2 | exact hk.1.1.1 | exact hk.1.1.2 | exact hk.1.2.1 | exact hk.1.2.2 | exact hk.2.1.1 | exact hk.2.1.2 | exact hk.2.2.1 | exact hk.2.2.2 | trivial)) (.int .i64 ((rd_T45 l1 x42_3).f2))) (fun _ h_ => h_.1))); rintro e w43 ⟨v290, rfl, ho0, hb⟩; refine ⟨_, rfl, ?_⟩; have HO291 := Yl (Kd.R_new' (Kd.R_new' (Kd.R_new' ho0 (Z16 (Yj (Z13 (p := ⟨gb288, 2, none⟩) (Z13 (p := ⟨gb288, 1, none⟩) (Z13 (p := ⟨gb288, 0, none⟩) (Z15 HO_5.out BK288.out (by decide)) (fun k_ hk => by first | exact hk.2 | (and_intros <;> first | exact hk.1 | exact hk.2 | exact hk.1.1 | exact hk.1.2 | exact hk.2.1 | exact hk.2.2 | exact hk.1.1.1 | exact hk.1.1.2 | exact hk.1.2.1 | exact hk.1.2.2 | exact hk.2.1.1 | exact hk.2.1.2 | exact hk.2.2.1 | exact hk.2.2.2 | trivial)) (.int .i64 ((rd_T45 l1 x42_3).f0))) (fun k_ hk => by first | exact hk.2 | (and_intros <;> first | exact hk.1 | exact hk.2 | exact hk.1.1 | exact hk.1.2 | exact hk.2.1 | exact hk.2.2 | exact hk.1.1.1 | exact hk.1.1.2 | exact hk.1.2.1 | exact hk.1.2.2 | exact hk.2.1.1 | exact hk.2.1.2 | exact hk.2.2.1 | exact hk.2.2.2 | trivial)) (.int .i64 ((rd_T45 l1 x42_3).f1))) (fun k_ hk => by first | exact hk.2 | (and_intros <;> first | exact hk.1 | exact hk.2 | exact hk.1.1 | exact hk.1.2 | exact hk.2.1 | exact hk.2.2 | exact hk.1.1.1 | exact hk.1.1.2 | exact hk.1.2.1 | exact hk.1.2.2 | exact hk.2.1.1 | exact hk.2.1.2 | exact hk.2.2.1 | exact hk.2.2.2 | trivial)) (.int .i64 ((rd_T45 l1 x42_3).f2))) (fun _ h_ => h_.1)))) (Z16 (Yj (Z13 (p := ⟨gb288, 2, none⟩) (Z13 (p := ⟨gb288, 1, none⟩) (Z13 (p := ⟨gb288, 0, none⟩) (Z15 HO_7.out BK288.out (by decide)) (fun k_ hk => by first | exact hk.2 | (and_intros <;> first | exact hk.1 | exact hk.2 | exact hk.1.1 | exact hk.1.2 | exact hk.2.1 | exact hk.2.2 | exact hk.1.1.1 | exact hk.1.1.2 | exact hk.1.2.1 | exact hk.1.2.2 | exact hk.2.1.1 | exact hk.2.1.2 | exact hk.2.2.1 | exact hk.2.2.2 | trivial)) (.int .i64 ((rd_T45 l1 x42_3).f0))) (fun k_ hk => by first | exact hk.2 | (and_intros <;> first | exact hk.1 | exact hk.2 | exact hk.1.1 | exact hk.1.2 | exact hk.2.1 | exact hk.2.2 | exact hk.1.1.1 | exact hk.1.1.2 | exact hk.1.2.1 | exact hk.1.2.2 | exact hk.2.1.1 | exact hk.2.1.2 | exact hk.2.2.1 | exact hk.2.2.2 | trivial)) (.int .i64 ((rd_T45 l1 x42_3).f1))) (fun k_ hk => by first | exact hk.2 | (and_intros <;> first | exact hk.1 | exact hk.2 | exact hk.1.1 | exact hk.1.2 | exact hk.2.1 | exact hk.2.2 | exact hk.1.1.1 | exact hk.1.1.2 | exact hk.1.2.1 | exact hk.1.2.2 | exact hk.2.1.1 | exact hk.2.1.2 | exact hk.2.2.1 | exact hk.2.2.2 | trivial)) (.int .i64 ((rd_T45 l1 x42_3).f2))) (fun _ h_ => h_.1)))) (Z16 (Yj (Z13 (p := ⟨gb288, 2, none⟩) (Z13 (p := ⟨gb288, 1, none⟩) (Z13 (p := ⟨gb288, 0, none⟩) (Z15 HO_9.out BK288.out (by decide)) (fun k_ hk => by first | exact hk.2 | (and_intros <;> first | exact hk.1 | exact hk.2 | exact hk.1.1 | exact hk.1.2 | exact hk.2.1 | exact hk.2.2 | exact hk.1.1.1 | exact hk.1.1.2 | exact hk.1.2.1 | exact hk.1.2.2 | exact hk.2.1.1 | exact hk.2.1.2 | exact hk.2.2.1 | exact hk.2.2.2 | trivial)) (.int .i64 ((rd_T45 l1 x42_3).f0))) (fun k_ hk => by first | exact hk.2 | (and_intros <;> first | exact hk.1 | exact hk.2 | exact hk.1.1 | exact hk.1.2 | exact hk.2.1 | exact hk.2.2 | exact hk.1.1.1 | exact hk.1.1.2 | exact hk.1.2.1 | exact hk.1.2.2 | exact hk.2.1.1 | exact hk.2.1.2 | exact hk.2.2.1 | exact hk.2.2.2 | trivial)) (.int .i64 ((rd_T45 l1 x42_3).f1))) (fun k_ hk => by first | exact hk.2 | (and_intros <;> first | exact hk.1 | exact hk.2 | exact hk.1.1 | exact hk.1.2 | exact hk.2.1 | exact hk.2.2 | exact hk.1.1.1 | exact hk.1.1.2 | exact hk.1.2.1 | exact hk.1.2.2 | exact hk.2.1.1 | exact hk.2.1.2 | exact hk.2.2.1 | exact hk.2.2.2 | trivial)) (.int .i64 ((rd_T45 l1 x42_3).f2))) (fun _ h_ => h_.1)))); replace HO_5 := Ya (Kd.R_elder' (Yj (Z13 (p := ⟨gb288, 2, none⟩) (Z13 (p := ⟨gb288, 1, none⟩) (Z13 (p := ⟨gb288, 0, none⟩) (Z15 HO_5.out BK288.out (by decide)) (fun k_ hk => by first | exact hk.2 | (and_intros <;> first | exact hk.1 | exact hk.2 | exact hk.1.1 | exact hk.1.2 | exact hk.2.1 | exact hk.2.2 | exact hk.1.1.1 | exact hk.1.1.2 | exact hk.1.2.1 | exact hk.1.2.2 | exact hk.2.1.1 | exact hk.2.1.2 | exact hk.2.2.1 | exact hk.2.2.2 | trivial)) (.int .i64 ((rd_T45 l1 x42_3).f0))) (fun k_ hk => by first | exact hk.2 | (and_intros <;> first | exact hk.1 | exact hk.2 | exact hk.1.1 | exact hk.1.2 | exact hk.2.1 | exact hk.2.2 | exact hk.1.1.1 | exact hk.1.1.2 | exact hk.1.2.1 | exact hk.1.2.2 | exact hk.2.1.1 | exact hk.2.1.2 | exact hk.2.2.1 | exact hk.2.2.2 | trivial)) (.int .i64 ((rd_T45 l1 x42_3).f1))) (fun k_ hk => by first | exact hk.2 | (and_intros <;> first | exact hk.1 | exact hk.2 | exact hk.1.1 | exact hk.1.2 | exact hk.2.1 | exact hk.2.2 | exact hk.1.1.1 | exact hk.1.1.2 | exact hk.1.2.1 | exact hk.1.2.2 | exact hk.2.1.1 | exact hk.2.1.2 | exact hk.2.2.1 | exact hk.2.2.2 | trivial)) (.int .i64 ((rd_T45 l1 x42_3).f2))) (fun _ h_ => h_.1)) (Kd.R_base ho0) hb); replace HO_7 := Ya (Kd.R_elder' (Yj (Z13 (p := ⟨gb288, 2, none⟩) (Z13 (p := ⟨gb288, 1, none⟩) (Z13 (p := ⟨gb288, 0, none⟩) (Z15 HO_7.out BK288.out (by decide)) (fun k_ hk => by first | exact hk.2 | (and_intros <;> first | exact hk.1 | exact hk.2 | exact hk.1.1 | exact hk.1.2 | exact hk.2.1 | exact hk.2.2 | exact hk.1.1.1 | exact hk.1.1.2 | exact hk.1.2.1 | exact hk.1.2.2 | exact hk.2.1.1 | exact hk.2.1.2 | exact hk.2.2.1 | exact hk.2.2.2 | trivial)) (.int .i64 ((rd_T45 l1 x42_3).f0))) (fun k_ hk => by first | exact hk.2 | (and_intros <;> first | exact hk.1 | exact hk.2 | exact hk.1.1 | exact hk.1.2 | exact hk.2.1 | exact hk.2.2 | exact hk.1.1.1 | exact hk.1.1.2 | exact hk.1.2.1 | exact hk.1.2.2 | exact hk.2.1.1 | exact hk.2.1.2 | exact hk.2.2.1 | exact hk.2.2.2 | trivial)) (.int .i64 ((rd_T45 l1 x42_3).f1))) (fun k_ hk => by first | exact hk.2 | (and_intros <;> first | exact hk.1 | exact hk.2 | exact hk.1.1 | exact hk.1.2 | exact hk.2.1 | exact hk.2.2 | exact hk.1.1.1 | exact hk.1.1.2 | exact hk.1.2.1 | exact hk.1.2.2 | exact hk.2.1.1 | exact hk.2.1.2 | exact hk.2.2.1 | exact hk.2.2.2 | trivial)) (.int .i64 ((rd_T45 l1 x42_3).f2))) (fun _ h_ => h_.1)) (Kd.R_base ho0) hb); replace HO_9 := Ya (Kd.R_elder' (Yj (Z13 (p := ⟨gb288, 2, none⟩) (Z13 (p := ⟨gb288, 1, none⟩) (Z13 (p := ⟨gb288, 0, none⟩) (Z15 HO_9.out BK288.out (by decide)) (fun k_ hk => by first | exact hk.2 | (and_intros <;> first | exact hk.1 | exact hk.2 | exact hk.1.1 | exact hk.1.2 | exact hk.2.1 | exact hk.2.2 | exact hk.1.1.1 | exact hk.1.1.2 | exact hk.1.2.1 | exact hk.1.2.2 | exact hk.2.1.1 | exact hk.2.1.2 | exact hk.2.2.1 | exact hk.2.2.2 | trivial)) (.int .i64 ((rd_T45 l1 x42_3).f0))) (fun k_ hk => by first | exact hk.2 | (and_intros <;> first | exact hk.1 | exact hk.2 | exact hk.1.1 | exact hk.1.2 | exact hk.2.1 | exact hk.2.2 | exact hk.1.1.1 | exact hk.1.1.2 | exact hk.1.2.1 | exact hk.1.2.2 | exact hk.2.1.1 | exact hk.2.1.2 | exact hk.2.2.1 | exact hk.2.2.2 | trivial)) (.int .i64 ((rd_T45 l1 x42_3).f1))) (fun k_ hk => by first | exact hk.2 | (and_intros <;> first | exact hk.1 | exact hk.2 | exact hk.1.1 | exact hk.1.2 | exact hk.2.1 | exact hk.2.2 | exact hk.1.1.1 | exact hk.1.1.2 | exact hk.1.2.1 | exact hk.1.2.2 | exact hk.2.1.1 | exact hk.2.1.2 | exact hk.2.2.1 | exact hk.2.2.2 | trivial)) (.int .i64 ((rd_T45 l1 x42_3).f2))) (fun _ h_ => h_.1)) (Kd.R_base ho0) hb); replace BK288 := Yb ⟨Yv3 BK288.out⟩ hb; replace HB := Yh hb; obtain ⟨Ao44, co44, rfl⟩ := Z17 HO291.out) | ((with_reducible refine gate_callee (f := 52) rfl ?_); refine Yz 49 Try.func52 #[.slice Ao44 t289.length co44] ?_; (with_reducible refine (impl_permutationRank.calls k3 _ _ t289 t292 _ (Yc (Kd.R_reads' HO291.out).2.2) ((Kd.R_reads' HO291.out).2.1) A30.out).mono ?_); rintro e w' ⟨rfl, ⟨nd, rfl⟩⟩; refine ⟨_, rfl, ?_⟩; (try (rw [drewN_self w43]; generalize hq_ : World.drewN w43 _ = w43; replace HO291 : Aside0 (Kd.R (Kd.int .i64) 3 w43 w.heap.size (fun k_ => some k_ ≠ (.slice (some ⟨go16, 0, none⟩) x5_3.length co8 : Value).ownBlock ∧ some k_ ≠ (u7 : Value).ownBlock ∧ some k_ ≠ (.slice Ao42 t284.length co42 : Value).ownBlock) (.slice Ao44 t289.length co44) t289) := ⟨by rw [← hq_]; exact (Yj HO291.out (fun k_ hk => by first | exact ⟨hk.1.1.2, ⟨hk.1.2, hk.2⟩⟩ | (and_intros <;> first | exact hk.1 | exact hk.2 | exact hk.1.1 | exact hk.1.2 | exact hk.2.1 | exact hk.2.2 | exact hk.1.1.1 | exact hk.1.1.2 | exact hk.1.2.1 | exact hk.1.2.2 | exact hk.2.1.1 | exact hk.2.1.2 | exact hk.2.2.1 | exact hk.2.2.2 | trivial)))⟩; replace HO_5 : Aside0 (Kd.R (Kd.int .i64) 3 w43 w.heap.size (fun k_ => some k_ ≠ (.slice Ao44 t289.length co44 : Value).ownBlock ∧ some k_ ≠ (u7 : Value).ownBlock ∧ some k_ ≠ (.slice Ao42 t284.length co42 : Value).ownBlock) (.slice (some ⟨go16, 0, none⟩) x5_3.length co8) x5_3) := ⟨by rw [← hq_]; exact (Yj HO_5.out (fun k_ hk => by first | exact ⟨hk.2, ⟨hk.1.1, hk.1.2⟩⟩ | (and_intros <;> first | exact hk.1 | exact hk.2 | exact hk.1.1 | exact hk.1.2 | exact hk.2.1 | exact hk.2.2 | exact hk.1.1.1 | exact hk.1.1.2 | exact hk.1.2.1 | exact hk.1.2.2 | exact hk.2.1.1 | exact hk.2.1.2 | exact hk.2.2.1 | exact hk.2.2.2 | trivial)))⟩; replace HO_7 : Aside0 (Kd.R (Kd.int .i64) 3 w43 w.heap.size (fun k_ => some k_ ≠ (.slice Ao44 t289.length co44 : Value).ownBlock ∧ some k_ ≠ (.slice (some ⟨go16, 0, none⟩) x5_3.length co8 : Value).ownBlock ∧ some k_ ≠ (.slice Ao42 t284.length co42 : Value).ownBlock) u7 x7_3) := ⟨by rw [← hq_]; exact (Yj HO_7.out (fun k_ hk => by first | exact ⟨hk.2, ⟨hk.1.1, hk.1.2⟩⟩ | (and_intros <;> first | exact hk.1 | exact hk.2 | exact hk.1.1 | exact hk.1.2 | exact hk.2.1 | exact hk.2.2 | exact hk.1.1.1 | exact hk.1.1.2 | exact hk.1.2.1 | exact hk.1.2.2 | exact hk.2.1.1 | exact hk.2.1.2 | exact hk.2.2.1 | exact hk.2.2.2 | trivial)))⟩; replace HO_9 : Aside0 (Kd.R (Kd.int .i64) 3 w43 w.heap.size (fun k_ => some k_ ≠ (.slice Ao44 t289.length co44 : Value).ownBlock ∧ some k_ ≠ (.slice (some ⟨go16, 0, none⟩) x5_3.length co8 : Value).ownBlock ∧ some k_ ≠ (u7 : Value).ownBlock) (.slice Ao42 t284.length co42) t284) := ⟨by rw [← hq_]; exact (Yj HO_9.out (fun k_ hk => by first | exact ⟨hk.2, ⟨hk.1.1, hk.1.2⟩⟩ | (and_intros <;> first | exact hk.1 | exact hk.2 | exact hk.1.1 | exact hk.1.2 | exact hk.2.1 | exact hk.2.2 | exact hk.1.1.1 | exact hk.1.1.2 | exact hk.1.2.1 | exact hk.1.2.2 | exact hk.2.1.1 | exact hk.2.1.2 | exact hk.2.2.1 | exact hk.2.2.2 | trivial)))⟩; replace BK288 : Aside0 (w43.heap[gb288]? = some (.cells #[.int .i64 ((rd_T45 l1 x42_3).f0), .int .i64 ((rd_T45 l1 x42_3).f1), .int .i64 ((rd_T45 l1 x42_3).f2)] 45 (0, 0))) := ⟨by rw [← hq_]; exact (Yk BK288.out)⟩; replace HB : Aside0 (Below w.heap.size w w43) := ⟨by rw [← hq_]; exact Q12⟩; clear hq_)); have p293 : 0 ≤ (t292 : Int) := Z29 Q1; have q293 : t292 < (x5_3.length : Int) := Z29 Q1; obtain ⟨ad293, e293, hx293_0⟩ := Kd.at_int (Kd.R_reads' HO_5.out).2.2 t292 p293 q293; obtain rfl : (⟨go16, 0, none⟩ : Addr) = ad293 := (by injection e293); (first | simp only [add_plain] at hx293_0 | simp only [add_at] at hx293_0 | simp only [Addr.add, Nat.zero_add] at hx293_0 | skip); replace p293 := eq_true p293; replace q293 := eq_true q293; obtain ⟨Ao45, co45, rfl⟩ := Z17 HO_7.out; have p294 : 0 ≤ (x8_2 : Int) := Z29 Q1; have q294 : x8_2 < (x7_3.length : Int) := Z29 Q1; obtain ⟨ad294, e294, hx294_0⟩ := Kd.at_int (Kd.R_reads' HO_7.out).2.2 x8_2 p294 q294; cases e294; replace p294 := eq_true p294; replace q294 := eq_true q294; have p295 : 0 ≤ ((rd x7_3 x8_2) : Int) := Z29 Q1; have q295 : (rd x7_3 x8_2) < (x5_3.length : Int) := Z29 Q1; obtain ⟨ad295, e295, hx295_0⟩ := Kd.at_int (Kd.R_reads' HO_5.out).2.2 (rd x7_3 x8_2) p295 q295; obtain rfl : (⟨go16, 0, none⟩ : Addr) = ad295 := (by injection e295); (first | simp only [add_plain] at hx295_0 | simp only [add_at] at hx295_0 | simp only [Addr.add, Nat.zero_add] at hx295_0 | skip); replace p295 := eq_true p295; replace q295 := eq_true q295; have p38 : 0 ≤ (t292 : Int) := Z29 Q1; have q38 : (t292 : Int) < ((x5_3.length : Int) : Int) := Z29 Q1; obtain ⟨hx38_0, hf38_0⟩ := Kd.R_celln 0 HO_5.out (t292 : Int) p38 q38; replace p38 := eq_true p38; replace q38 := eq_true q38; have n_ := Ya (Z12 (ok' := (fun k_ => some k_ ≠ (.slice (some ad294) x7_3.length co45 : Value).ownBlock ∧ some k_ ≠ (.slice Ao42 t284.length co42 : Value).ownBlock ∧ some k_ ≠ (.slice Ao44 t289.length co44 : Value).ownBlock)) HO_5.out (fun k_ hk => by first | exact ⟨hk.1.1, ⟨hk.1.2, hk.2⟩⟩ | (and_intros <;> first | exact hk.1 | exact hk.2 | exact hk.1.1 | exact hk.1.2 | exact hk.2.1 | exact hk.2.2 | exact hk.1.1.1 | exact hk.1.1.2 | exact hk.1.2.1 | exact hk.1.2.2 | exact hk.2.1.1 | exact hk.2.1.2 | exact hk.2.2.1 | exact hk.2.2.2 | trivial))); clear HO_5; have HO_5 := n_; clear n_; obtain ⟨hy46_, hz46_⟩ := Kd.R_celln 0 HO_5.out (t292 : Int) (Z29 Q1) (Z29 Q1); have HP46 := Kd.R_putg HO_5.out (t292 : Int) (wrap64 ((rd x5_3 (rd x7_3 x8_2)) + 1))) | ((with_reducible refine gate_store (t := 3) (p := 65) rfl ?_); refine store_event (t := 3) (p := 65) (v := ?vo_w47) (w1 := (w43.setCell ⟨go16, (t292 : Int).toNat, none⟩ (.int .i64 (wrap64 ((rd x5_3 (rd x7_3 x8_2)) + 1))))) ?hg ?ho ?hn ?hr ?_; (case ho => rfl); (case hg => rfl); (case hn => rfl); (case hr => first | (go_simp; done) | (go_simp; rfl)); intro w47 hw; have hg : w43.grownBy w47 (some go16) := (by rw [hw]; exact HP46.2); have hp_ : Kd.R (Kd.int .i64) 3 w47 w.heap.size (fun k_ => some k_ ≠ (.slice (some ad294) x7_3.length co45 : Value).ownBlock ∧ some k_ ≠ (.slice Ao42 t284.length co42 : Value).ownBlock ∧ some k_ ≠ (.slice Ao44 t289.length co44 : Value).ownBlock) (.slice (some ⟨go16, 0, none⟩) x5_3.length co8) y296 := (by rw [hw, Ny296.out]; exact HP46.1); clear HP46; replace HO_7 := Ya (Kd.R_after (v := (.slice (some ⟨go16, 0, none⟩) x5_3.length co8)) (v1 := (.slice (some ⟨go16, 0, none⟩) x5_3.length co8)) (ok := (fun k_ => some k_ ≠ (.slice Ao42 t284.length co42 : Value).ownBlock ∧ some k_ ≠ (.slice Ao44 t289.length co44 : Value).ownBlock)) (Yj HO_7.out (fun k_ hk => by first | exact ⟨⟨hk.1.2, hk.2⟩, hk.1.1⟩ | (and_intros <;> first | exact hk.1 | exact hk.2 | exact hk.1.1 | exact hk.1.2 | exact hk.2.1 | exact hk.2.2 | exact hk.1.1.1 | exact hk.1.1.2 | exact hk.1.2.1 | exact hk.1.2.2 | exact hk.2.1.1 | exact hk.2.1.2 | exact hk.2.2.1 | exact hk.2.2.2 | trivial))) hg (.inl rfl)); replace HO_9 := Ya (Kd.R_after (v := (.slice (some ⟨go16, 0, none⟩) x5_3.length co8)) (v1 := (.slice (some ⟨go16, 0, none⟩) x5_3.length co8)) (ok := (fun k_ => some k_ ≠ (.slice (some ad294) x7_3.length co45 : Value).ownBlock ∧ some k_ ≠ (.slice Ao44 t289.length co44 : Value).ownBlock)) (Yj HO_9.out (fun k_ hk => by first | exact ⟨⟨hk.1.2, hk.2⟩, hk.1.1⟩ | (and_intros <;> first | exact hk.1 | exact hk.2 | exact hk.1.1 | exact hk.1.2 | exact hk.2.1 | exact hk.2.2 | exact hk.1.1.1 | exact hk.1.1.2 | exact hk.1.2.1 | exact hk.1.2.2 | exact hk.2.1.1 | exact hk.2.1.2 | exact hk.2.2.1 | exact hk.2.2.2 | trivial))) hg (.inl rfl)); replace BK288 := Ya (blk_grown (g := gb288) (o := .cells #[.int .i64 ((rd_T45 l1 x42_3).f0), .int .i64 ((rd_T45 l1 x42_3).f1), .int .i64 ((rd_T45 l1 x42_3).f2)] 45 (0, 0)) (Yk BK288.out) hg (Kd.R_ne HO_5.out BK288.out (by decide))); replace HO_5 := Ya hp_; replace HO291 := Ya (Kd.R_after (v := (.slice (some ⟨go16, 0, none⟩) x5_3.length co8)) (v1 := (.slice (some ⟨go16, 0, none⟩) x5_3.length co8)) (ok := (fun k_ => some k_ ≠ (.slice (some ad294) x7_3.length co45 : Value).ownBlock ∧ some k_ ≠ (.slice Ao42 t284.length co42 : Value).ownBlock)) (Yj HO291.out (fun k_ hk => by first | exact ⟨⟨hk.1.2, hk.2⟩, hk.1.1.2⟩ | (and_intros <;> first | exact hk.1 | exact hk.2 | exact hk.1.1 | exact hk.1.2 | exact hk.2.1 | exact hk.2.2 | exact hk.1.1.1 | exact hk.1.1.2 | exact hk.1.2.1 | exact hk.1.2.2 | exact hk.2.1.1 | exact hk.2.1.2 | exact hk.2.2.1 | exact hk.2.2.2 | trivial))) hg (.inl rfl)); replace HB := Ya ((by rw [hw]; exact Z6 (HB.out) GB16.out : Below w.heap.size w w47)); clear hg hw hp_) | ((with_reducible refine gate_builtin (b := .append) (xs := #[.tmp 66, .tmp 68]) rfl ?_); at_builtin; refine Kd.R_append (Kd.int .i64) (w0 := w) w.heap.size rfl (.tmp 66) (.tmp 68) 24 3 (.int .i64 0) 8 rfl Try.underlying24 info3 rfl (by decide) (by omega) (.slice (some ad294) x7_3.length co45) x7_3 t292 [.int .i64 t292] (fun k_ => some k_ ≠ (.slice (some ⟨go16, 0, none⟩) x5_3.length co8 : Value).ownBlock ∧ some k_ ≠ (.slice Ao42 t284.length co42 : Value).ownBlock ∧ some k_ ≠ (.slice Ao44 t289.length co44 : Value).ownBlock) (fun _ => False) rfl rfl ?aP (fun _ hk => hk.elim) ?aF ?aO ?aB ?aS ?aL ?_; (case aP => exact rfl); (case aB => exact Q12); (case aF => exact (fun k_ hk => ⟨Kd.fresh' (Z16 (Yr HO_5.out)) k_ hk, Kd.fresh' (Z16 (Yr HO_9.out)) k_ hk, Kd.fresh' (Z16 (Yr HO291.out)) k_ hk⟩)); (case aO => exact (Yj HO_7.out (fun k_ hk => by first | exact ⟨hk.2, ⟨hk.1.1, hk.1.2⟩⟩ | (and_intros <;> first | exact hk.1 | exact hk.2 | exact hk.1.1 | exact hk.1.2 | exact hk.2.1 | exact hk.2.2 | exact hk.1.1.1 | exact hk.1.1.2 | exact hk.1.2.1 | exact hk.1.2.2 | exact hk.2.1.1 | exact hk.2.1.2 | exact hk.2.2.1 | exact hk.2.2.2 | trivial)))); (case aS => exact (Z7 Q12)); (case aL => have := LMc39.out; omega); intro v298 w48 ho hb hg hat; rw [← Ny297.out] at ho; replace HO_5 := Ya (Kd.R_after (ok := (fun k_ => some k_ ≠ (.slice Ao42 t284.length co42 : Value).ownBlock ∧ some k_ ≠ (.slice Ao44 t289.length co44 : Value).ownBlock)) (Yj HO_5.out (fun k_ hk => by first | exact ⟨⟨hk.2.1, hk.2.2⟩, hk.1⟩ | (and_intros <;> first | exact hk.1 | exact hk.2 | exact hk.1.1 | exact hk.1.2 | exact hk.2.1 | exact hk.2.2 | exact hk.1.1.1 | exact hk.1.1.2 | exact hk.1.2.1 | exact hk.1.2.2 | exact hk.2.1.1 | exact hk.2.1.2 | exact hk.2.2.1 | exact hk.2.2.2 | trivial))) hg hat); replace HO_9 := Ya (Kd.R_after (ok := (fun k_ => some k_ ≠ (.slice (some ⟨go16, 0, none⟩) x5_3.length co8 : Value).ownBlock ∧ some k_ ≠ (.slice Ao44 t289.length co44 : Value).ownBlock)) (Yj HO_9.out (fun k_ hk => by first | exact ⟨⟨hk.2, hk.1.2⟩, hk.1.1⟩ | (and_intros <;> first | exact hk.1 | exact hk.2 | exact hk.1.1 | exact hk.1.2 | exact hk.2.1 | exact hk.2.2 | exact hk.1.1.1 | exact hk.1.1.2 | exact hk.1.2.1 | exact hk.1.2.2 | exact hk.2.1.1 | exact hk.2.1.2 | exact hk.2.2.1 | exact hk.2.2.2 | trivial))) hg hat); replace BK288 := Ya (blk_grown (g := gb288) (o := .cells #[.int .i64 ((rd_T45 l1 x42_3).f0), .int .i64 ((rd_T45 l1 x42_3).f1), .int .i64 ((rd_T45 l1 x42_3).f2)] 45 (0, 0)) (Yk BK288.out) hg (Kd.R_ne HO_7.out BK288.out (by decide))); replace HO291 := Ya (Kd.R_after (ok := (fun k_ => some k_ ≠ (.slice (some ⟨go16, 0, none⟩) x5_3.length co8 : Value).ownBlock ∧ some k_ ≠ (.slice Ao42 t284.length co42 : Value).ownBlock)) (Yj HO291.out (fun k_ hk => by first | exact ⟨⟨hk.2, hk.1.2⟩, hk.1.1⟩ | (and_intros <;> first | exact hk.1 | exact hk.2 | exact hk.1.1 | exact hk.1.2 | exact hk.2.1 | exact hk.2.2 | exact hk.1.1.1 | exact hk.1.1.2 | exact hk.1.2.1 | exact hk.1.2.2 | exact hk.2.1.1 | exact hk.2.1.2 | exact hk.2.2.1 | exact hk.2.2.2 | trivial))) hg hat); replace HB := Ya hb; have HO299 := Ya ho; clear HO_7; clear ho hb hg hat))
                        (try simp only [← hl5_3])
                        go_roundg k3
                        case measure => have := HK1.out; have := HK2.out; have := HK3.out; omega
                        case rel => exact ⟨(y296), (y297), (wrap64 (x42_3 + 1)), Q3, H', ⟨Q43⟩, ⟨by (try simp only [hl5_1]); (try simp only [hl5_2]); (try simp only [hl5_3]); (with_reducible repeat (first | apply Z9 | apply Z10 | apply Z11)); exact Z12 HO_5.out (fun k_ hk => by first | exact ⟨hk.2, hk.1.1⟩ | (and_intros <;> first | exact hk.1 | exact hk.2 | exact hk.1.1 | exact hk.1.2 | exact hk.2.1 | exact hk.2.2 | exact hk.1.1.1 | exact hk.1.1.2 | exact hk.1.2.1 | exact hk.1.2.2 | exact hk.2.1.1 | exact hk.2.1.2 | exact hk.2.2.1 | exact hk.2.2.2 | trivial))⟩, ⟨by (try simp only [hl5_1]); (try simp only [hl5_2]); (try simp only [hl5_3]); (with_reducible repeat (first | apply Z9 | apply Z10 | apply Z11)); exact Z12 HO299.out (fun k_ hk => by first | exact ⟨hk.1, hk.2.1⟩ | (and_intros <;> first | exact hk.1 | exact hk.2 | exact hk.1.1 | exact hk.1.2 | exact hk.2.1 | exact hk.2.2 | exact hk.1.1.1 | exact hk.1.1.2 | exact hk.1.2.1 | exact hk.1.2.2 | exact hk.2.1.1 | exact hk.2.1.2 | exact hk.2.2.1 | exact hk.2.2.2 | trivial))⟩, ⟨by (try simp only [hl5_1]); (try simp only [hl5_2]); (try simp only [hl5_3]); (with_reducible repeat (first | apply Z9 | apply Z10 | apply Z11)); exact Z12 HO_9.out (fun k_ hk => by first | exact ⟨hk.1.1, hk.2⟩ | (and_intros <;> first | exact hk.1 | exact hk.2 | exact hk.1.1 | exact hk.1.2 | exact hk.2.1 | exact hk.2.2 | exact hk.1.1.1 | exact hk.1.1.2 | exact hk.1.2.1 | exact hk.1.2.2 | exact hk.2.1.1 | exact hk.2.1.2 | exact hk.2.2.1 | exact hk.2.2.2 | trivial))⟩, ⟨Q0⟩⟩
                       ·rw [if_neg c39] at H
                        exact absurd H (by simp)
                      ·rw [if_neg c37] at H
                       exact absurd H (by simp)
                     ·rw [if_neg c36] at H
                      exact absurd H (by simp)
                    ·rw [if_neg c35] at H
                     exact absurd H (by simp)
                   ·rw [if_neg c34] at H
                    exact absurd H (by simp)
                  ·rw [if_neg c33] at H
                   have c33b0 := Z36 c33
                   clear c33
                   have H' := Ya H
                   clear H
                   have p287 : 0 ≤ (x42_3 : Int) := Z29 Q1
                   have q287 : x42_3 < (l1.length : Int) := Z29 Q1
                   obtain ⟨ad287, e287, hx287_0, hx287_1, hx287_2⟩ := at_T45 HR1.out x42_3 p287 q287
                   cases e287
                   try replace hx287_0 := (HB.out.cell (World.block_lt_of_cell? w _ hx287_0)).trans hx287_0
                   try replace hx287_1 := (HB.out.cell (World.block_lt_of_cell? w _ hx287_1)).trans hx287_1
                   try replace hx287_2 := (HB.out.cell (World.block_lt_of_cell? w _ hx287_2)).trans hx287_2
                   replace p287 := eq_true p287
                   replace q287 := eq_true q287
                   go_wp2_with (first | ((with_reducible refine gate_dst (N := 11) rfl ?_); refine Yx 11 #[.int .i64 0, .int .i64 0, .int .i64 0] 45 ?_; intro gb288 hg w49 hbox hb; replace HO_5 := Yw HO_5 hb; replace HO_7 := Yw HO_7 hb; replace HO_9 := Yw HO_9 hb; have BK288 := Ya hbox; have GE288 := Yg hg; replace HB := Yh hb; clear hb hbox hg; have hcz50_0 : w49.cell? ⟨gb288, 0, none⟩ = some (.int .i64 0) := (Z22 BK288.out 0).trans rfl; have hcz50_1 : w49.cell? ⟨gb288, 1, none⟩ = some (.int .i64 0) := (Z22 BK288.out 1).trans rfl; have hcz50_2 : w49.cell? ⟨gb288, 2, none⟩ = some (.int .i64 0) := (Z22 BK288.out 2).trans rfl; have hfz50_0 := Z23 BK288.out 0; have hfz50_1 := Z23 BK288.out 1; have hfz50_2 := Z23 BK288.out 2; obtain ⟨Ao51, co51, rfl⟩ := Z17 HO_9.out) | ((with_reducible refine gate_callee (f := 51) rfl ?_); refine Yz 48 Try.func51 #[.slice Ao51 t284.length co51, .agg #[.int .i64 ((rd_T45 l1 x42_3).f0), .int .i64 ((rd_T45 l1 x42_3).f1), .int .i64 ((rd_T45 l1 x42_3).f2)]] ?_; (with_reducible refine (impl_moved.calls k3 _ _ t284 ((rd_T45 l1 x42_3).f0) ((rd_T45 l1 x42_3).f1) ((rd_T45 l1 x42_3).f2) t289 _ ?side1 ((Kd.R_reads' HO_9.out).2.1) A29.out).mono ?_); (case side1 => refine (Kd.R_reads' (e := 3) (base := w.heap.size) (ok := fun k_ => (some k_ ≠ (.slice (some ⟨go16, 0, none⟩) x5_3.length co8 : Value).ownBlock ∧ some k_ ≠ (u7 : Value).ownBlock)) (n := t284.length) (c := co51) ?_).2.2; exact (Yj (Z13 (p := ⟨gb288, 2, none⟩) (Z13 (p := ⟨gb288, 1, none⟩) (Z13 (p := ⟨gb288, 0, none⟩) (Z15 HO_9.out BK288.out (by decide)) (fun k_ hk => by first | exact hk.2 | (and_intros <;> first | exact hk.1 | exact hk.2 | exact hk.1.1 | exact hk.1.2 | exact hk.2.1 | exact hk.2.2 | exact hk.1.1.1 | exact hk.1.1.2 | exact hk.1.2.1 | exact hk.1.2.2 | exact hk.2.1.1 | exact hk.2.1.2 | exact hk.2.2.1 | exact hk.2.2.2 | trivial)) (.int .i64 ((rd_T45 l1 x42_3).f0))) (fun k_ hk => by first | exact hk.2 | (and_intros <;> first | exact hk.1 | exact hk.2 | exact hk.1.1 | exact hk.1.2 | exact hk.2.1 | exact hk.2.2 | exact hk.1.1.1 | exact hk.1.1.2 | exact hk.1.2.1 | exact hk.1.2.2 | exact hk.2.1.1 | exact hk.2.1.2 | exact hk.2.2.1 | exact hk.2.2.2 | trivial)) (.int .i64 ((rd_T45 l1 x42_3).f1))) (fun k_ hk => by first | exact hk.2 | (and_intros <;> first | exact hk.1 | exact hk.2 | exact hk.1.1 | exact hk.1.2 | exact hk.2.1 | exact hk.2.2 | exact hk.1.1.1 | exact hk.1.1.2 | exact hk.1.2.1 | exact hk.1.2.2 | exact hk.2.1.1 | exact hk.2.1.2 | exact hk.2.2.1 | exact hk.2.2.2 | trivial)) (.int .i64 ((rd_T45 l1 x42_3).f2))) (fun _ h_ => h_.1))); rintro e w52 ⟨v290, rfl, ho0, hb⟩; refine ⟨_, rfl, ?_⟩; have HO291 := Yl (Kd.R_new' (Kd.R_new' (Kd.R_new' ho0 (Z16 (Yj (Z13 (p := ⟨gb288, 2, none⟩) (Z13 (p := ⟨gb288, 1, none⟩) (Z13 (p := ⟨gb288, 0, none⟩) (Z15 HO_5.out BK288.out (by decide)) (fun k_ hk => by first | exact hk.2 | (and_intros <;> first | exact hk.1 | exact hk.2 | exact hk.1.1 | exact hk.1.2 | exact hk.2.1 | exact hk.2.2 | exact hk.1.1.1 | exact hk.1.1.2 | exact hk.1.2.1 | exact hk.1.2.2 | exact hk.2.1.1 | exact hk.2.1.2 | exact hk.2.2.1 | exact hk.2.2.2 | trivial)) (.int .i64 ((rd_T45 l1 x42_3).f0))) (fun k_ hk => by first | exact hk.2 | (and_intros <;> first | exact hk.1 | exact hk.2 | exact hk.1.1 | exact hk.1.2 | exact hk.2.1 | exact hk.2.2 | exact hk.1.1.1 | exact hk.1.1.2 | exact hk.1.2.1 | exact hk.1.2.2 | exact hk.2.1.1 | exact hk.2.1.2 | exact hk.2.2.1 | exact hk.2.2.2 | trivial)) (.int .i64 ((rd_T45 l1 x42_3).f1))) (fun k_ hk => by first | exact hk.2 | (and_intros <;> first | exact hk.1 | exact hk.2 | exact hk.1.1 | exact hk.1.2 | exact hk.2.1 | exact hk.2.2 | exact hk.1.1.1 | exact hk.1.1.2 | exact hk.1.2.1 | exact hk.1.2.2 | exact hk.2.1.1 | exact hk.2.1.2 | exact hk.2.2.1 | exact hk.2.2.2 | trivial)) (.int .i64 ((rd_T45 l1 x42_3).f2))) (fun _ h_ => h_.1)))) (Z16 (Yj (Z13 (p := ⟨gb288, 2, none⟩) (Z13 (p := ⟨gb288, 1, none⟩) (Z13 (p := ⟨gb288, 0, none⟩) (Z15 HO_7.out BK288.out (by decide)) (fun k_ hk => by first | exact hk.2 | (and_intros <;> first | exact hk.1 | exact hk.2 | exact hk.1.1 | exact hk.1.2 | exact hk.2.1 | exact hk.2.2 | exact hk.1.1.1 | exact hk.1.1.2 | exact hk.1.2.1 | exact hk.1.2.2 | exact hk.2.1.1 | exact hk.2.1.2 | exact hk.2.2.1 | exact hk.2.2.2 | trivial)) (.int .i64 ((rd_T45 l1 x42_3).f0))) (fun k_ hk => by first | exact hk.2 | (and_intros <;> first | exact hk.1 | exact hk.2 | exact hk.1.1 | exact hk.1.2 | exact hk.2.1 | exact hk.2.2 | exact hk.1.1.1 | exact hk.1.1.2 | exact hk.1.2.1 | exact hk.1.2.2 | exact hk.2.1.1 | exact hk.2.1.2 | exact hk.2.2.1 | exact hk.2.2.2 | trivial)) (.int .i64 ((rd_T45 l1 x42_3).f1))) (fun k_ hk => by first | exact hk.2 | (and_intros <;> first | exact hk.1 | exact hk.2 | exact hk.1.1 | exact hk.1.2 | exact hk.2.1 | exact hk.2.2 | exact hk.1.1.1 | exact hk.1.1.2 | exact hk.1.2.1 | exact hk.1.2.2 | exact hk.2.1.1 | exact hk.2.1.2 | exact hk.2.2.1 | exact hk.2.2.2 | trivial)) (.int .i64 ((rd_T45 l1 x42_3).f2))) (fun _ h_ => h_.1)))) (Z16 (Yj (Z13 (p := ⟨gb288, 2, none⟩) (Z13 (p := ⟨gb288, 1, none⟩) (Z13 (p := ⟨gb288, 0, none⟩) (Z15 HO_9.out BK288.out (by decide)) (fun k_ hk => by first | exact hk.2 | (and_intros <;> first | exact hk.1 | exact hk.2 | exact hk.1.1 | exact hk.1.2 | exact hk.2.1 | exact hk.2.2 | exact hk.1.1.1 | exact hk.1.1.2 | exact hk.1.2.1 | exact hk.1.2.2 | exact hk.2.1.1 | exact hk.2.1.2 | exact hk.2.2.1 | exact hk.2.2.2 | trivial)) (.int .i64 ((rd_T45 l1 x42_3).f0))) (fun k_ hk => by first | exact hk.2 | (and_intros <;> first | exact hk.1 | exact hk.2 | exact hk.1.1 | exact hk.1.2 | exact hk.2.1 | exact hk.2.2 | exact hk.1.1.1 | exact hk.1.1.2 | exact hk.1.2.1 | exact hk.1.2.2 | exact hk.2.1.1 | exact hk.2.1.2 | exact hk.2.2.1 | exact hk.2.2.2 | trivial)) (.int .i64 ((rd_T45 l1 x42_3).f1))) (fun k_ hk => by first | exact hk.2 | (and_intros <;> first | exact hk.1 | exact hk.2 | exact hk.1.1 | exact hk.1.2 | exact hk.2.1 | exact hk.2.2 | exact hk.1.1.1 | exact hk.1.1.2 | exact hk.1.2.1 | exact hk.1.2.2 | exact hk.2.1.1 | exact hk.2.1.2 | exact hk.2.2.1 | exact hk.2.2.2 | trivial)) (.int .i64 ((rd_T45 l1 x42_3).f2))) (fun _ h_ => h_.1)))); replace HO_5 := Ya (Kd.R_elder' (Yj (Z13 (p := ⟨gb288, 2, none⟩) (Z13 (p := ⟨gb288, 1, none⟩) (Z13 (p := ⟨gb288, 0, none⟩) (Z15 HO_5.out BK288.out (by decide)) (fun k_ hk => by first | exact hk.2 | (and_intros <;> first | exact hk.1 | exact hk.2 | exact hk.1.1 | exact hk.1.2 | exact hk.2.1 | exact hk.2.2 | exact hk.1.1.1 | exact hk.1.1.2 | exact hk.1.2.1 | exact hk.1.2.2 | exact hk.2.1.1 | exact hk.2.1.2 | exact hk.2.2.1 | exact hk.2.2.2 | trivial)) (.int .i64 ((rd_T45 l1 x42_3).f0))) (fun k_ hk => by first | exact hk.2 | (and_intros <;> first | exact hk.1 | exact hk.2 | exact hk.1.1 | exact hk.1.2 | exact hk.2.1 | exact hk.2.2 | exact hk.1.1.1 | exact hk.1.1.2 | exact hk.1.2.1 | exact hk.1.2.2 | exact hk.2.1.1 | exact hk.2.1.2 | exact hk.2.2.1 | exact hk.2.2.2 | trivial)) (.int .i64 ((rd_T45 l1 x42_3).f1))) (fun k_ hk => by first | exact hk.2 | (and_intros <;> first | exact hk.1 | exact hk.2 | exact hk.1.1 | exact hk.1.2 | exact hk.2.1 | exact hk.2.2 | exact hk.1.1.1 | exact hk.1.1.2 | exact hk.1.2.1 | exact hk.1.2.2 | exact hk.2.1.1 | exact hk.2.1.2 | exact hk.2.2.1 | exact hk.2.2.2 | trivial)) (.int .i64 ((rd_T45 l1 x42_3).f2))) (fun _ h_ => h_.1)) (Kd.R_base ho0) hb); replace HO_7 := Ya (Kd.R_elder' (Yj (Z13 (p := ⟨gb288, 2, none⟩) (Z13 (p := ⟨gb288, 1, none⟩) (Z13 (p := ⟨gb288, 0, none⟩) (Z15 HO_7.out BK288.out (by decide)) (fun k_ hk => by first | exact hk.2 | (and_intros <;> first | exact hk.1 | exact hk.2 | exact hk.1.1 | exact hk.1.2 | exact hk.2.1 | exact hk.2.2 | exact hk.1.1.1 | exact hk.1.1.2 | exact hk.1.2.1 | exact hk.1.2.2 | exact hk.2.1.1 | exact hk.2.1.2 | exact hk.2.2.1 | exact hk.2.2.2 | trivial)) (.int .i64 ((rd_T45 l1 x42_3).f0))) (fun k_ hk => by first | exact hk.2 | (and_intros <;> first | exact hk.1 | exact hk.2 | exact hk.1.1 | exact hk.1.2 | exact hk.2.1 | exact hk.2.2 | exact hk.1.1.1 | exact hk.1.1.2 | exact hk.1.2.1 | exact hk.1.2.2 | exact hk.2.1.1 | exact hk.2.1.2 | exact hk.2.2.1 | exact hk.2.2.2 | trivial)) (.int .i64 ((rd_T45 l1 x42_3).f1))) (fun k_ hk => by first | exact hk.2 | (and_intros <;> first | exact hk.1 | exact hk.2 | exact hk.1.1 | exact hk.1.2 | exact hk.2.1 | exact hk.2.2 | exact hk.1.1.1 | exact hk.1.1.2 | exact hk.1.2.1 | exact hk.1.2.2 | exact hk.2.1.1 | exact hk.2.1.2 | exact hk.2.2.1 | exact hk.2.2.2 | trivial)) (.int .i64 ((rd_T45 l1 x42_3).f2))) (fun _ h_ => h_.1)) (Kd.R_base ho0) hb); replace HO_9 := Ya (Kd.R_elder' (Yj (Z13 (p := ⟨gb288, 2, none⟩) (Z13 (p := ⟨gb288, 1, none⟩) (Z13 (p := ⟨gb288, 0, none⟩) (Z15 HO_9.out BK288.out (by decide)) (fun k_ hk => by first | exact hk.2 | (and_intros <;> first | exact hk.1 | exact hk.2 | exact hk.1.1 | exact hk.1.2 | exact hk.2.1 | exact hk.2.2 | exact hk.1.1.1 | exact hk.1.1.2 | exact hk.1.2.1 | exact hk.1.2.2 | exact hk.2.1.1 | exact hk.2.1.2 | exact hk.2.2.1 | exact hk.2.2.2 | trivial)) (.int .i64 ((rd_T45 l1 x42_3).f0))) (fun k_ hk => by first | exact hk.2 | (and_intros <;> first | exact hk.1 | exact hk.2 | exact hk.1.1 | exact hk.1.2 | exact hk.2.1 | exact hk.2.2 | exact hk.1.1.1 | exact hk.1.1.2 | exact hk.1.2.1 | exact hk.1.2.2 | exact hk.2.1.1 | exact hk.2.1.2 | exact hk.2.2.1 | exact hk.2.2.2 | trivial)) (.int .i64 ((rd_T45 l1 x42_3).f1))) (fun k_ hk => by first | exact hk.2 | (and_intros <;> first | exact hk.1 | exact hk.2 | exact hk.1.1 | exact hk.1.2 | exact hk.2.1 | exact hk.2.2 | exact hk.1.1.1 | exact hk.1.1.2 | exact hk.1.2.1 | exact hk.1.2.2 | exact hk.2.1.1 | exact hk.2.1.2 | exact hk.2.2.1 | exact hk.2.2.2 | trivial)) (.int .i64 ((rd_T45 l1 x42_3).f2))) (fun _ h_ => h_.1)) (Kd.R_base ho0) hb); replace BK288 := Yb ⟨Yv3 BK288.out⟩ hb; replace HB := Yh hb; obtain ⟨Ao53, co53, rfl⟩ := Z17 HO291.out) | ((with_reducible refine gate_callee (f := 52) rfl ?_); refine Yz 49 Try.func52 #[.slice Ao53 t289.length co53] ?_; (with_reducible refine (impl_permutationRank.calls k3 _ _ t289 t292 _ (Yc (Kd.R_reads' HO291.out).2.2) ((Kd.R_reads' HO291.out).2.1) A30.out).mono ?_); rintro e w' ⟨rfl, ⟨nd, rfl⟩⟩; refine ⟨_, rfl, ?_⟩; have p293 : 0 ≤ (t292 : Int) := Z29 Q1; have q293 : t292 < (x5_3.length : Int) := Z29 Q1; obtain ⟨ad293, e293, hx293_0⟩ := Kd.at_int (Kd.R_reads' HO_5.out).2.2 t292 p293 q293; obtain rfl : (⟨go16, 0, none⟩ : Addr) = ad293 := (by injection e293); (first | simp only [add_plain] at hx293_0 | simp only [add_at] at hx293_0 | simp only [Addr.add, Nat.zero_add] at hx293_0 | skip); replace p293 := eq_true p293; replace q293 := eq_true q293))
                   (try simp only [← hl5_3])
                   go_roundg k3
                   case measure => have := HK1.out; have := HK2.out; have := HK3.out; omega
                   case rel => exact ⟨(x5_3), (x7_3), (wrap64 (x42_3 + 1)), Q3, H', ⟨Q43⟩, ⟨by (try simp only [hl5_1]); (try simp only [hl5_2]); (try simp only [hl5_3]); (with_reducible repeat (first | apply Z9 | apply Z10 | apply Z11)); exact Z12 HO_5.out (fun k_ hk => by first | exact ⟨hk.1.1, hk.1.2⟩ | (and_intros <;> first | exact hk.1 | exact hk.2 | exact hk.1.1 | exact hk.1.2 | exact hk.2.1 | exact hk.2.2 | exact hk.1.1.1 | exact hk.1.1.2 | exact hk.1.2.1 | exact hk.1.2.2 | exact hk.2.1.1 | exact hk.2.1.2 | exact hk.2.2.1 | exact hk.2.2.2 | trivial))⟩, ⟨by (try simp only [hl5_1]); (try simp only [hl5_2]); (try simp only [hl5_3]); (with_reducible repeat (first | apply Z9 | apply Z10 | apply Z11)); exact Z12 HO_7.out (fun k_ hk => by first | exact ⟨hk.1.1, hk.1.2⟩ | (and_intros <;> first | exact hk.1 | exact hk.2 | exact hk.1.1 | exact hk.1.2 | exact hk.2.1 | exact hk.2.2 | exact hk.1.1.1 | exact hk.1.1.2 | exact hk.1.2.1 | exact hk.1.2.2 | exact hk.2.1.1 | exact hk.2.1.2 | exact hk.2.2.1 | exact hk.2.2.2 | trivial))⟩, ⟨by (try simp only [hl5_1]); (try simp only [hl5_2]); (try simp only [hl5_3]); (with_reducible repeat (first | apply Z9 | apply Z10 | apply Z11)); exact Z12 HO_9.out (fun k_ hk => by first | exact ⟨hk.1.1, hk.1.2⟩ | (and_intros <;> first | exact hk.1 | exact hk.2 | exact hk.1.1 | exact hk.1.2 | exact hk.2.1 | exact hk.2.2 | exact hk.1.1.1 | exact hk.1.1.2 | exact hk.1.2.1 | exact hk.1.2.2 | exact hk.2.1.1 | exact hk.2.1.2 | exact hk.2.2.1 | exact hk.2.2.2 | trivial))⟩, ⟨Q0⟩⟩
                 ·rw [if_neg c32] at H
                  exact absurd H (by simp)
                ·rw [if_neg c31] at H
                 exact absurd H (by simp)
               ·rw [if_neg c28] at H
                exact absurd H (by simp)
              ·rw [if_neg c27] at H
               exact absurd H (by simp)
             ·rw [if_neg c26] at H
              have c26b0 := Z36 c26
              clear c26
              have H' := Ya H
              clear H
              go_wp2
              (try simp only [← hl5_2, ← hl5_3])
              go_roundg k3
              case measure => have := HK1.out; have := HK2.out; have := HK3.out; omega
              case rel => exact ⟨(x5_3), (x7_3), (wrap64 (x8_2 + 1)), Q3, H', ⟨Q43⟩, ⟨by (try simp only [hl5_1]); (try simp only [hl5_2]); (try simp only [hl5_3]); (with_reducible repeat (first | apply Z9 | apply Z10 | apply Z11)); exact Z12 HO_5.out (fun k_ hk => by first | exact hk.1 | (and_intros <;> first | exact hk.1 | exact hk.2 | exact hk.1.1 | exact hk.1.2 | exact hk.2.1 | exact hk.2.2 | exact hk.1.1.1 | exact hk.1.1.2 | exact hk.1.2.1 | exact hk.1.2.2 | exact hk.2.1.1 | exact hk.2.1.2 | exact hk.2.2.1 | exact hk.2.2.2 | trivial))⟩, ⟨by (try simp only [hl5_1]); (try simp only [hl5_2]); (try simp only [hl5_3]); (with_reducible repeat (first | apply Z9 | apply Z10 | apply Z11)); exact Z12 HO_7.out (fun k_ hk => by first | exact hk.1 | (and_intros <;> first | exact hk.1 | exact hk.2 | exact hk.1.1 | exact hk.1.2 | exact hk.2.1 | exact hk.2.2 | exact hk.1.1.1 | exact hk.1.1.2 | exact hk.1.2.1 | exact hk.1.2.2 | exact hk.2.1.1 | exact hk.2.1.2 | exact hk.2.2.1 | exact hk.2.2.2 | trivial))⟩, ⟨Q0⟩⟩
          ·rw [if_neg c22] at H
           exact absurd H (by simp)
         ·rw [if_neg c21] at H
          have c21b0 := Z36 c21
          clear c21
          obtain rfl := Option.some.inj H
          obtain ⟨Ao54, co54, rfl⟩ := Z17 HO_7.out
          go_wp2
          go_ret
          exact ⟨_, Q2, Yj HO_5.out (fun _ hk => trivial), Q0⟩
      ·rw [if_neg c15] at H
       exact absurd H (by simp)
  ·rw [if_neg c5] at H
   exact absurd H (by simp)
 ·rw [if_neg c4] at H
  exact absurd H (by simp)
def impl_DistancesFrom.f (k : Nat) (a0 : Int) (l1 : List (S45)) : Option (List Int × Bool) := (impl_areMoves.f k a0 l1).bind fun t300 => (if t300 = true then ((impl_distances.f k a0 l1).bind fun t301 => (some (t301, true))) else (some (([] : List Int), false)))
theorem impl_DistancesFrom.mono : ∀ a0 a1 k, LeO (impl_DistancesFrom.f k a0 a1) (impl_DistancesFrom.f (k + 1) a0 a1) := by
 intro a0 a1 k
 unfold impl_DistancesFrom.f
 repeat' first
   | (with_reducible exact impl_areMoves.mono _ _ _)
   | (with_reducible exact impl_distances.mono _ _ _)
   | (with_reducible exact LeO.refl _)
   | (with_reducible exact LeO.none _)
   | (with_reducible refine LeO.ite ?_ ?_)
   | (with_reducible refine LeO.bind ?_ (fun _ => ?_))
   | exact impl_areMoves.mono _ _ _
   | exact impl_distances.mono _ _ _
   | exact LeO.none _
   | refine LeO.ite ?_ ?_
   | refine LeO.bind ?_ (fun _ => ?_)
set_option maxHeartbeats 8000000 in
set_option maxRecDepth 100000 in
theorem impl_DistancesFrom.calls (k : Nat) (a0 : Int) (A1 : Option Addr) (c1 : Nat) (l1 : List (S45)) (r1 : List Int) (r2 : Bool) (w : World) (hr1 : Kd.C k45 w A1 l1.length l1) (hc1 : l1.length ≤ c1) (h : impl_DistancesFrom.f k a0 l1 = some (r1, r2)) :
  Calls Try.prog 17 #[.int .i64 a0, .slice A1 l1.length c1] w fun e w' => ∃ v0_ : Value, e = .returned (.tuple #[v0_, .bool r2]) ∧ Kd.R (Kd.int .i64) 3 w' w.heap.size (fun _ => True) v0_ r1 ∧ Below w.heap.size w w' := by
 have HR1 := Ya hr1
 have HC1 := Ya hc1
 clear hr1 hc1
 have HB := Ya (Below.refl w.heap.size w)
 have H : ((impl_areMoves.f k a0 l1).bind fun t300 => (if t300 = true then ((impl_distances.f k a0 l1).bind fun t301 => (some (t301, true))) else (some (([] : List Int), false)))) = some (r1, r2) := h
 clear h
 replace H := Z35.mp H
 obtain ⟨t300, A30, H⟩ := H
 replace H : (if t300 = true then ((impl_distances.f k a0 l1).bind fun t301 => (some (t301, true))) else (some (([] : List Int), false))) = some (r1, r2) := H
 have A3 := Ya A30
 clear A30
 by_cases c4 : t300 = true
 ·subst c4
  have H1 : ((impl_distances.f k a0 l1).bind fun t301 => (some (t301, true))) = some (r1, r2) := by rw [if_pos rfl] at H; exact H
  clear H
  have H := H1
  clear H1
  replace H := Z35.mp H
  obtain ⟨t301, A50, H⟩ := H
  replace H : (some (t301, true)) = some (r1, r2) := H
  have A5 := Ya A50
  clear A50
  simp only [Option.some.injEq, Prod.mk.injEq] at H
  obtain ⟨rfl, rfl⟩ := H
  go_enter Try.func17, Try.ntmps17
  go_wp2_with (first | ((with_reducible refine gate_callee (f := 47) rfl ?_); refine Yz 8 Try.func47 #[.int .i64 a0, .slice A1 l1.length c1] ?_; (with_reducible refine (impl_areMoves.calls k a0 _ _ l1 true _ (Yc HR1.out) HC1.out A3.out).mono ?_); rintro e w6 ⟨rfl, hb⟩; refine ⟨_, rfl, ?_⟩; replace HB := Yh hb; (try clear hb)) | ((with_reducible refine gate_callee (f := 55) rfl ?_); refine Yz 12 Try.func55 #[.int .i64 a0, .slice A1 l1.length c1] ?_; (with_reducible refine (impl_distances.calls k a0 _ _ l1 t301 _ (Yc (Z21 HR1.out HB.out)) HC1.out A5.out).mono ?_); rintro e w7 ⟨v302, rfl, ho0, hb⟩; refine ⟨_, rfl, ?_⟩; have HO303 := Yl ho0; replace HB := Yh hb; (try clear hb ho0)))
  go_ret2
  exact ⟨_, Q2, by (with_reducible repeat (first | apply Z9 | apply Z10 | apply Z11)); exact HO303.out, Q0⟩
 ·replace c4 := Bool.eq_false_iff.mpr c4
  subst c4
  have H1 : (some (([] : List Int), false)) = some (r1, r2) := by rw [if_neg (show ¬ (false = true) by decide)] at H; exact H
  clear H
  have H := H1
  clear H1
  simp only [Option.some.injEq, Prod.mk.injEq] at H
  obtain ⟨rfl, rfl⟩ := H
  go_enter Try.func17, Try.ntmps17
  go_wp2_with (first | ((with_reducible refine gate_callee (f := 47) rfl ?_); refine Yz 8 Try.func47 #[.int .i64 a0, .slice A1 l1.length c1] ?_; (with_reducible refine (impl_areMoves.calls k a0 _ _ l1 false _ (Yc HR1.out) HC1.out A3.out).mono ?_); rintro e w8 ⟨rfl, hb⟩; refine ⟨_, rfl, ?_⟩; replace HB := Yh hb; (try clear hb)))
  go_ret2
  exact ⟨_, Q2, Q11, Q0⟩
mutual
def spec_raRank.l0 : Nat → List Int → Int → List Int → Int → Int → Option (Int)
 | 0, _, _, _, _, _ => none
 | k + 1, x0, x3, x9, x10, x11 => if x11 < x10 then (if 0 ≤ x11 then (if x11 < (x9.length : Int) then (if 0 < (x0.length : Int) then (if (rd x9 x11) < (rd x0 0) then (spec_raRank.l0 k x0 (wrap64 (x3 + 1)) x9 x10 (wrap64 (x11 + 1))) else (spec_raRank.l0 k x0 x3 x9 x10 (wrap64 (x11 + 1)))) else (none)) else (none)) else (none)) else ((spec_raFactorial.f k (wrap64 ((x0.length : Int) - 1))).bind fun t306 => (if 1 ≤ (x0.length : Int) then ((spec_raRank.f k (x0.drop 1)).bind fun t308 => (some (wrap64 ((wrap64 (x3 * t306)) + t308)))) else (none)))
def spec_raRank.f : Nat → List Int → Option (Int)
 | 0, _ => none
 | k + 1, l0 => if (l0.length : Int) = 0 then (some 0) else (spec_raRank.l0 k l0 0 l0 (l0.length : Int) 0)
end
theorem spec_raRank.mono_l : ∀ k, (∀ y0, LeO (spec_raRank.f k y0) (spec_raRank.f (k + 1) y0)) ∧ (∀ y0 y1 y2 y3 y4, LeO (spec_raRank.l0 k y0 y1 y2 y3 y4) (spec_raRank.l0 (k + 1) y0 y1 y2 y3 y4))
 | 0 => ⟨fun _ r h => by simp [spec_raRank.f] at h, fun _ _ _ _ _ r h => by simp [spec_raRank.l0] at h⟩
 | k + 1 => by
  obtain ⟨ih0, ih1⟩ := spec_raRank.mono_l k
  refine ⟨?_, ?_⟩
  ·intro y0
   unfold spec_raRank.f
   repeat' first
   | (with_reducible exact ih0 _)
   | (with_reducible exact ih1 _ _ _ _ _)
   | (with_reducible exact spec_raFactorial.mono _ _)
   | (with_reducible exact LeO.refl _)
   | (with_reducible exact LeO.none _)
   | (with_reducible refine LeO.ite ?_ ?_)
   | (with_reducible refine LeO.bind ?_ (fun _ => ?_))
   | exact ih0 _
   | exact ih1 _ _ _ _ _
   | exact spec_raFactorial.mono _ _
   | exact LeO.none _
   | refine LeO.ite ?_ ?_
   | refine LeO.bind ?_ (fun _ => ?_)
  ·intro y0 y1 y2 y3 y4
   unfold spec_raRank.l0
   repeat' first
   | (with_reducible exact ih0 _)
   | (with_reducible exact ih1 _ _ _ _ _)
   | (with_reducible exact spec_raFactorial.mono _ _)
   | (with_reducible exact LeO.refl _)
   | (with_reducible exact LeO.none _)
   | (with_reducible refine LeO.ite ?_ ?_)
   | (with_reducible refine LeO.bind ?_ (fun _ => ?_))
   | exact ih0 _
   | exact ih1 _ _ _ _ _
   | exact spec_raFactorial.mono _ _
   | exact LeO.none _
   | refine LeO.ite ?_ ?_
   | refine LeO.bind ?_ (fun _ => ?_)
theorem spec_raRank.mono : ∀ a0 k, LeO (spec_raRank.f k a0) (spec_raRank.f (k + 1) a0) := by
 intro a0 k
 obtain ⟨ih0, ih1⟩ := spec_raRank.mono_l k
 exact ih0 a0
def spec_raRank.T10 : Bool × List (List Nat × List Nat) := (true, [([], []), ([], []), ([1], [1]), ([2], [2]), ([3], [3]), ([0, 4], [0, 4]), ([], []), ([6], [6]), ([7, 4], [7]), ([5, 8], [5, 8]), ([9, 8, 0, 1, 2, 3, 4, 5, 6, 7, 8, 9], [9])])
def spec_raRank.B10 : List Nat := [0, 0, 2, 6, 14, 31, 0, 64, 222, 511, 1023]
theorem spec_raRank.tab10 : rtab .any (opsOf Try.f86 10) = spec_raRank.T10 := by kernel_rfl
theorem spec_raRank.bits10 : waitsOk spec_raRank.T10.2 spec_raRank.B10 = true := by kernel_rfl
set_option maxHeartbeats 8000000 in
set_option maxRecDepth 100000 in
theorem spec_raRank.calls (k : Nat) : ∀ (A0 : Option Addr) (c0 : Nat) (l0 : List Int) (r : Int) (w : World) (hr0 : Kd.C (Kd.int .i64) w A0 l0.length l0) (hc0 : l0.length ≤ c0) (h : spec_raRank.f k l0 = some r),
  Calls Try.prog 86 #[.slice A0 l0.length c0] w fun e w' => e = .returned (.int .i64 r) ∧ Below w.heap.size w w' := by
 induction k using Nat.strongRecOn with
 | _ k ih =>
 intro A0 c0 l0 r w hr0 hc0 h
 cases k with
 | zero => exact absurd h (by simp [spec_raRank.f])
 | succ k =>
 simp only [spec_raRank.f] at h
 have HR0 := Ya hr0
 have HC0 := Ya hc0
 clear hr0 hc0
 have HB := Ya (Below.refl w.heap.size w)
 have H : (if (l0.length : Int) = 0 then (some 0) else (spec_raRank.l0 k l0 0 l0 (l0.length : Int) 0)) = some r := h
 clear h
 by_cases c2 : (l0.length : Int) = 0
 ·rw [if_pos c2] at H
  have c2b0 : ((l0.length : Int) == 0) = true := beq_iff_eq.mpr c2
  have c2b1 : ((l0.length : Int) != 0) = false := bne_eq_false_iff_eq.mpr c2
  clear c2
  obtain rfl := Option.some.inj H
  go_enter Try.func86, Try.ntmps86
  go_wp2
  go_ret
  exact ⟨Q2, Q0⟩
 ·rw [if_neg c2] at H
  have c2b0 : ((l0.length : Int) == 0) = false := beq_eq_false_iff_ne.mpr c2
  have c2b1 : ((l0.length : Int) != 0) = true := bne_iff_ne.mpr c2
  have c2b2 : ¬ (l0 = []) := fun h_ => c2 (by rw [h_]; rfl)
  have H' := Ya H
  clear H
  go_enter Try.func86, Try.ntmps86
  go_wp2
  go_loopg [3, 11] k (fun kq v3 v11 w' => ∃ (x3_1 : Int) (x11_1 : Int), v3 = .int .i64 x3_1 ∧ v11 = .int .i64 x11_1 ∧ Aside0 (spec_raRank.l0 kq l0 x3_1 l0 (l0.length : Int) x11_1 = some r) ∧ Aside0 (kq ≤ k) ∧ Aside0 (Below w.heap.size w w'))
  case atStart => exact ⟨(0), (0), Q3, Q3, H', ⟨Nat.le_refl _⟩, ⟨Q0⟩⟩
  case round =>
   clear H'
   try clear c2
   try clear c2b0
   try clear c2b1
   try clear c2b2
   try clear p2
   obtain ⟨x3_1, x11_1, rfl, rfl, HA, HK1, HB⟩ := hrel
   cases gk with
   | zero => exact absurd HA.out (by simp [spec_raRank.l0])
   | succ k1 =>
    have H := HA.out
    clear HA
    simp only [spec_raRank.l0] at H
    by_cases c3 : x11_1 < (l0.length : Int)
    ·rw [if_pos c3] at H
     have c3b0 := Z37 c3
     clear c3
     by_cases c4 : 0 ≤ x11_1
     ·rw [if_pos c4] at H
      have c4b0 := Z37 c4
      clear c4
      by_cases c5 : x11_1 < (l0.length : Int)
      ·rw [if_pos c5] at H
       have c5b0 := Z37 c5
       clear c5
       by_cases c6 : 0 < (l0.length : Int)
       ·rw [if_pos c6] at H
        have c6b0 := Z37 c6
        have c6b1 : decide (0 < l0.length) = true := Z37 (by omega)
        clear c6
        by_cases c7 : (rd l0 x11_1) < (rd l0 0)
        ·rw [if_pos c7] at H
         have c7b0 := Z37 c7
         clear c7
         have H' := Ya H
         clear H
         have p304 : 0 ≤ (x11_1 : Int) := Z29 Q1
         have q304 : x11_1 < (l0.length : Int) := Z29 Q1
         obtain ⟨ad304, e304, hx304_0⟩ := Kd.at_int HR0.out x11_1 p304 q304
         cases e304
         try replace hx304_0 := (HB.out.cell (World.block_lt_of_cell? w _ hx304_0)).trans hx304_0
         replace p304 := eq_true p304
         replace q304 := eq_true q304
         have p305 : 0 ≤ (0 : Int) := (by omega)
         have q305 : 0 < (l0.length : Int) := Z29 Q1
         obtain ⟨ad305, e305, hx305_0⟩ := Kd.at_int HR0.out 0 p305 q305
         obtain rfl : ad304 = ad305 := (by injection e305)
         have qi305 : (0 < l0.length) = True := eq_true (by omega)
         (try rw [show ((0 : Int)).toNat = 0 from rfl] at hx305_0)
         (try rw [Addr.add_zero'] at hx305_0)
         try replace hx305_0 := (HB.out.cell (World.block_lt_of_cell? w _ hx305_0)).trans hx305_0
         replace p305 := eq_true p305
         replace q305 := eq_true q305
         go_wp2
         go_roundg k1
         case measure => have := HK1.out; omega
         case rel => exact ⟨(wrap64 (x3_1 + 1)), (wrap64 (x11_1 + 1)), Q3, Q3, H', ⟨Q22⟩, ⟨Q0⟩⟩
        ·rw [if_neg c7] at H
         have c7b0 := Z36 c7
         clear c7
         have H' := Ya H
         clear H
         have p304 : 0 ≤ (x11_1 : Int) := Z29 Q1
         have q304 : x11_1 < (l0.length : Int) := Z29 Q1
         obtain ⟨ad304, e304, hx304_0⟩ := Kd.at_int HR0.out x11_1 p304 q304
         cases e304
         try replace hx304_0 := (HB.out.cell (World.block_lt_of_cell? w _ hx304_0)).trans hx304_0
         replace p304 := eq_true p304
         replace q304 := eq_true q304
         have p305 : 0 ≤ (0 : Int) := (by omega)
         have q305 : 0 < (l0.length : Int) := Z29 Q1
         obtain ⟨ad305, e305, hx305_0⟩ := Kd.at_int HR0.out 0 p305 q305
         obtain rfl : ad304 = ad305 := (by injection e305)
         have qi305 : (0 < l0.length) = True := eq_true (by omega)
         (try rw [show ((0 : Int)).toNat = 0 from rfl] at hx305_0)
         (try rw [Addr.add_zero'] at hx305_0)
         try replace hx305_0 := (HB.out.cell (World.block_lt_of_cell? w _ hx305_0)).trans hx305_0
         replace p305 := eq_true p305
         replace q305 := eq_true q305
         go_wp2
         go_roundg k1
         case measure => have := HK1.out; omega
         case rel => exact ⟨(x3_1), (wrap64 (x11_1 + 1)), Q3, Q3, H', ⟨Q22⟩, ⟨Q0⟩⟩
       ·rw [if_neg c6] at H
        exact absurd H (by simp)
      ·rw [if_neg c5] at H
       exact absurd H (by simp)
     ·rw [if_neg c4] at H
      exact absurd H (by simp)
    ·rw [if_neg c3] at H
     have c3b0 := Z36 c3
     clear c3
     replace H := Z35.mp H
     obtain ⟨t306, A80, H⟩ := H
     replace H : (if 1 ≤ (l0.length : Int) then ((spec_raRank.f k1 (l0.drop 1)).bind fun t308 => (some (wrap64 ((wrap64 (x3_1 * t306)) + t308)))) else (none)) = some r := H
     have A8 := Ya A80
     clear A80
     by_cases c9 : 1 ≤ (l0.length : Int)
     ·rw [if_pos c9] at H
      have c9b0 := eq_true c9
      have c9b1 := Z37 c9
      have HLEc9 := Ya c9
      clear c9
      replace H := Z35.mp H
      obtain ⟨t308, A100, H⟩ := H
      replace H : (some (wrap64 ((wrap64 (x3_1 * t306)) + t308))) = some r := H
      have A10 := Ya A100
      clear A100
      obtain rfl := Option.some.inj H
      try go_wp2
      replace HB := Ya (Z4 HB.out)
      obtain ⟨i012, hi012, _, hsz12, _⟩ := info_parts info3
      obtain ⟨A12, hcut12, hA12, hC12⟩ := print_drop_of (P := Try.prog) (Value.int .i64) 0 24 3 .i64 Try.underlying24 hi012 hsz12 A0 c0 l0 1 (by omega) (Z29 Q1) HC0.out
      have HR307 := Ya (Kd.C_of_reads (h1 := fun _ => rfl) (hA12 _ (Kd.reads_of_C HR0.out)))
      have HC307 := Ya hC12
      clear hA12 hC12 hi012 hsz12
      refine start_ (n := 11) (S := fun w' => True) (ds := []) (YA 11 0) (by kernel_rfl) rfl rfl trivial (fun hHeld => ?_); refine with_tabW spec_raRank.tab10 spec_raRank.bits10 (fun HT_ HW_ => ?_)
      generalize wr.drew = w11 at HB HR307 hHeld ⊢
      refine Yp 0 (some 23) (YA 11 1) rfl HT_.out ?_
      refine Yp 1 (some 24) (YA 11 3) rfl HT_.out ?_
      refine Yp 2 (some 25) (YA 11 7) rfl HT_.out ?_
      refine Yp 3 (some 26) (YA 11 15) rfl HT_.out ?_
      refine Yp 6 (some 29) (YA 11 79) rfl HT_.out ?_
      refine Yp 7 (some 30) (YA 11 207) rfl HT_.out ?_
      refine one_ (i := 4) (N := some 27) (YA 11 223) rfl rfl (one_of HT_.out (by kernel_rfl)) (by decide) (fun K hK => ?_)
      refine goes_ Try.func43 (by kernel_rfl) rfl #[.int .i64 (wrap64 ((l0.length : Int) - 1))] (by rfl) rfl rfl Q29 ?_
      with_reducible refine (spec_raFactorial.calls k1 (wrap64 ((l0.length : Int) - 1)) t306 _ A8.out).mono ?_
      rintro e w' ⟨rfl, ⟨nd, rfl⟩⟩
      refine ⟨_, rfl, ?_⟩
      refine hK.out _ _ trivial (fun hHeld => ?_)
      clear hK K
      refine norm_ (a' := ?_) ?_ ?_
      rotate_left
      ·show Act.put _ (some 27) _ = _
       simp only [Act.put, Z0, Z1, Z2, i64_w, i32_w]
       rfl
      refine Yp 5 (some 28) (YA 11 255) rfl HT_.out ?_
      refine one_ (i := 8) (N := some 31) (YA 11 511) rfl rfl (one_of HT_.out (by kernel_rfl)) (by decide) (fun K hK => ?_)
      refine goes_ Try.func86 (by kernel_rfl) rfl #[.slice A12 (l0.drop 1).length (c0 - 1)] (by rfl) rfl rfl (by (try simp only [Z32, Z33, Z34]); first | done | (rw [show (l0.drop 1).length = (l0.length - 1) from Z30] <;> rfl) | rfl | (simp only [Z30, Z31]; rfl)) ?_
      with_reducible refine (ih k1 Q49 _ _ (l0.drop 1) t308 _ ?side1 ?side2 A10.out).mono ?_
      (case side1 => exact Yc (Z21 HR307.out Q12))
      (case side2 => exact HC307.out)
      rintro e w13 ⟨rfl, hb⟩
      refine ⟨_, rfl, ?_⟩
      replace HB := Yh hb
      (try clear hb)
      refine hK.out _ _ trivial (fun hHeld => ?_)
      clear hK K
      refine norm_ (a' := ?_) ?_ ?_
      rotate_left
      ·show Act.put _ (some 31) _ = _
       simp only [Act.put, Z0, Z1, Z2, i64_w, i32_w]
       rfl
      refine Yp 9 (some 32) (YA 11 1023) rfl HT_.out ?_
      refine Yp 10 (some 2) (YA 11 2047) rfl HT_.out ?_
      refine done_ (done_of HT_.out (by kernel_rfl)) ?_
      try go_wp2
      go_ret
      exact ⟨Q2, Q0⟩
     ·rw [if_neg c9] at H
      exact absurd H (by simp)
end Go.Proofs.Ytllhnnjkonghlaa.MFnReached
