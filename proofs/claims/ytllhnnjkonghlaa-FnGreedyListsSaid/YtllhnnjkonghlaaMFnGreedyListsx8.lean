import Derived.Test.YtllhnnjkonghlaaMFnGreedyListsx0
import Derived.Test.YtllhnnjkonghlaaMFnGreedyListsx4
import Derived.Test.YtllhnnjkonghlaaMFnGreedyListsx6
import Derived.Test.YtllhnnjkonghlaaMFnGreedyListsx7
namespace Go.Proofs.Ytllhnnjkonghlaa.MFnGreedyLists
open Go.RowKit Go.Proofs.YtllhnnjkonghlaaW.PrintWords Go.Proofs.YtllhnnjkonghlaaW.PrintLast Go.Proofs.YtllhnnjkonghlaaW.PrintMore
attribute [local go_sem] max2_int min2_int max_two min_two max_three min_three max_four min_four   
set_option linter.unusedVariables false
set_option linter.unusedSimpArgs false
mutual
def spec_l1Cur_order.l0 : Nat → Int → List Int → Int → List Int → Int → Int → Option (List Int × Int × Int)
 | 0, _, _, _, _, _, _ => none
 | k + 1, x1, x5, x6, x1000, x1001, x1002 => (spec_l1Least.f x1 20).bind fun t353 => (if x6 < t353 then ((spec_l1Cur_pick.f x1000 x1001 x1002 (wrap64 (x6 + 1))).bind fun bt354 => ((some (([] : List Int) : List Int)).bind fun y357 => (if 0 ≤ bt354.1 then (if bt354.1 ≤ (x5.length : Int) then ((some (x5.take (bt354.1 : Int).toNat : List Int)).bind fun y360 => (if y357.length + y360.length < 17592186044416 then ((some (y357 ++ y360 : List Int)).bind fun y364 => (if y364.length < 17592186044416 then ((some (y364 ++ [x6] : List Int)).bind fun y367 => ((some (x5.drop (bt354.1 : Int).toNat : List Int)).bind fun y370 => (if y367.length + y370.length < 17592186044416 then (spec_l1Cur_order.l0 k x1 (y367 ++ y370) (wrap64 (x6 + 1)) x1000 bt354.2.1 bt354.2.2) else (none)))) else (none))) else (none))) else (none)) else (none)))) else (if (x5.length : Int) > 0 then ((spec_l1Cur_one.f x1000 x1001 x1002 25).bind fun bt377 => (spec_l1Cur_order.j1 k x5 bt377.1 x1000 bt377.2.1 bt377.2.2)) else (spec_l1Cur_order.j1 k x5 false x1000 x1001 x1002)))
def spec_l1Cur_order.j1 : Nat → List Int → Bool → List Int → Int → Int → Option (List Int × Int × Int)
 | 0, _, _, _, _, _ => none
 | k + 1, x5, x39, x1000, x1001, x1002 => if x39 = true then ((spec_l1Cur_pick.f x1000 x1001 x1002 (x5.length : Int)).bind fun bt380 => ((spec_l1Cur_among.f x1000 bt380.2.1 bt380.2.2 (([(-1), 0, (x5.length : Int), 4611686018427387904] : List Int))).bind fun bt386 => (if 0 ≤ bt380.1 then (if bt380.1 < (x5.length : Int) then (some ((x5.set (bt380.1 : Int).toNat bt386.1), bt386.2.1, bt386.2.2)) else (none)) else (none)))) else (some (x5, x1001, x1002))
end
def spec_l1Cur_order.f (k : Nat) (s0_0 : List Int) (s0_1 : Int) (s0_2 : Int) (a1 : Int) : Option (List Int × Int × Int) := spec_l1Cur_order.l0 k a1 ([] : List Int) 0 s0_0 s0_1 s0_2
theorem spec_l1Cur_order.mono_l : ∀ k, (∀ y0 y1 y2 y3 y4 y5, LeO (spec_l1Cur_order.l0 k y0 y1 y2 y3 y4 y5) (spec_l1Cur_order.l0 (k + 1) y0 y1 y2 y3 y4 y5)) ∧ (∀ y0 y1 y2 y3 y4, LeO (spec_l1Cur_order.j1 k y0 y1 y2 y3 y4) (spec_l1Cur_order.j1 (k + 1) y0 y1 y2 y3 y4))
 | 0 => ⟨fun _ _ _ _ _ _ r h => by simp [spec_l1Cur_order.l0] at h, fun _ _ _ _ _ r h => by simp [spec_l1Cur_order.j1] at h⟩
 | k + 1 => by
  obtain ⟨ih0, ih1⟩ := spec_l1Cur_order.mono_l k
  refine ⟨?_, ?_⟩
  ·intro y0 y1 y2 y3 y4 y5
   unfold spec_l1Cur_order.l0
   repeat' first
   | (with_reducible exact ih0 _ _ _ _ _ _)
   | (with_reducible exact ih1 _ _ _ _ _)
   | (with_reducible exact LeO.refl _)
   | (with_reducible exact LeO.none _)
   | (with_reducible refine LeO.ite ?_ ?_)
   | (with_reducible refine LeO.bind ?_ (fun _ => ?_))
   | exact ih0 _ _ _ _ _ _
   | exact ih1 _ _ _ _ _
   | exact LeO.none _
   | refine LeO.ite ?_ ?_
   | refine LeO.bind ?_ (fun _ => ?_)
  ·intro y0 y1 y2 y3 y4
   unfold spec_l1Cur_order.j1
   repeat' first
   | (with_reducible exact ih0 _ _ _ _ _ _)
   | (with_reducible exact ih1 _ _ _ _ _)
   | (with_reducible exact LeO.refl _)
   | (with_reducible exact LeO.none _)
   | (with_reducible refine LeO.ite ?_ ?_)
   | (with_reducible refine LeO.bind ?_ (fun _ => ?_))
   | exact ih0 _ _ _ _ _ _
   | exact ih1 _ _ _ _ _
   | exact LeO.none _
   | refine LeO.ite ?_ ?_
   | refine LeO.bind ?_ (fun _ => ?_)
theorem spec_l1Cur_order.mono : ∀ a0 a1 a2 a3 k, LeO (spec_l1Cur_order.f k a0 a1 a2 a3) (spec_l1Cur_order.f (k + 1) a0 a1 a2 a3) := by
 intro a0 a1 a2 a3 k
 obtain ⟨ih0, ih1⟩ := spec_l1Cur_order.mono_l k
 unfold spec_l1Cur_order.f
 repeat' first
   | (with_reducible exact ih0 _ _ _ _ _ _)
   | (with_reducible exact ih1 _ _ _ _ _)
   | (with_reducible exact LeO.refl _)
   | (with_reducible exact LeO.none _)
   | (with_reducible refine LeO.ite ?_ ?_)
   | (with_reducible refine LeO.bind ?_ (fun _ => ?_))
   | exact ih0 _ _ _ _ _ _
   | exact ih1 _ _ _ _ _
   | exact LeO.none _
   | refine LeO.ite ?_ ?_
   | refine LeO.bind ?_ (fun _ => ?_)
set_option maxHeartbeats 8000000 in
set_option maxRecDepth 100000 in
theorem spec_l1Cur_order.calls (k : Nat) (g : Nat) (s0_0 : List Int) (s0_1 : Int) (s0_2 : Int) (a1 : Int) (r1 : List Int) (r2 : Int) (r3 : Int) (w0 w : World) (hI : IsS88 w0 w g s0_0 s0_1 s0_2) (hB : Below w0.heap.size w0 w) (h : spec_l1Cur_order.f k s0_0 s0_1 s0_2 a1 = some (r1, r2, r3)) :
  Calls Try.prog 76 #[.pointer (some ⟨g, 0, none⟩), .int .i64 a1] w fun e w' => ∃ v0_ : Value, e = .returned (v0_) ∧ Kd.R (Kd.int .i64) 3 w' w.heap.size (fun _ => True) v0_ r1 ∧ IsS88 w0 w' g s0_0 r2 r3 ∧ Below w0.heap.size w0 w' ∧ KeepBut w w' g none := by
 have HI0 := Ya hI
 have HK := Ya (KeepBut.refl w g none)
 have HL := Ya hB.size
 clear hI
 have HW0 := Ya hB.size
 have HB := Ya hB
 clear hB
 have H : (spec_l1Cur_order.l0 k a1 ([] : List Int) 0 s0_0 s0_1 s0_2) = some (r1, r2, r3) := h
 clear h
 have H' := Ya H
 clear H
 go_enter Try.func76, Try.ntmps76
 go_wp2
 go_loopg [5, 6] k (fun kq v5 v6 w' => ∃ (x5_1 : List Int) (x6_1 : Int) (x1001_1 : Int) (x1002_1 : Int), v6 = .int .i64 x6_1 ∧ Aside0 (spec_l1Cur_order.l0 kq a1 x5_1 x6_1 s0_0 x1001_1 x1002_1 = some (r1, r2, r3)) ∧ Aside0 (kq ≤ k) ∧ Aside0 (Kd.R (Kd.int .i64) 3 w' w.heap.size (fun _ => True) v5 x5_1) ∧ Aside0 (IsS88 w0 w' g s0_0 x1001_1 x1002_1) ∧ Aside0 (KeepBut w w' g none) ∧ Aside0 (Below w0.heap.size w0 w'))
 case atStart => exact ⟨(([] : List Int)), (0), (s0_1), (s0_2), Q5, H', ⟨Nat.le_refl _⟩, ⟨Q11⟩, ⟨Q4⟩, ⟨Q13⟩, ⟨Q6⟩⟩
 case round =>
  clear H'
  try clear p2
  obtain ⟨x5_1, x6_1, x1001_1, x1002_1, rfl, HA, HK1, HO_5, HI0, HK, HB⟩ := hrel
  cases gk with
  | zero => exact absurd HA.out (by simp [spec_l1Cur_order.l0])
  | succ k1 =>
   have H := HA.out
   clear HA
   simp only [spec_l1Cur_order.l0] at H
   replace H := Z35.mp H
   obtain ⟨t353, A30, H⟩ := H
   replace H : (if x6_1 < t353 then ((spec_l1Cur_pick.f s0_0 x1001_1 x1002_1 (wrap64 (x6_1 + 1))).bind fun bt354 => ((some (([] : List Int) : List Int)).bind fun y357 => (if 0 ≤ bt354.1 then (if bt354.1 ≤ (x5_1.length : Int) then ((some (x5_1.take (bt354.1 : Int).toNat : List Int)).bind fun y360 => (if y357.length + y360.length < 17592186044416 then ((some (y357 ++ y360 : List Int)).bind fun y364 => (if y364.length < 17592186044416 then ((some (y364 ++ [x6_1] : List Int)).bind fun y367 => ((some (x5_1.drop (bt354.1 : Int).toNat : List Int)).bind fun y370 => (if y367.length + y370.length < 17592186044416 then (spec_l1Cur_order.l0 k1 a1 (y367 ++ y370) (wrap64 (x6_1 + 1)) s0_0 bt354.2.1 bt354.2.2) else (none)))) else (none))) else (none))) else (none)) else (none)))) else (if (x5_1.length : Int) > 0 then ((spec_l1Cur_one.f s0_0 x1001_1 x1002_1 25).bind fun bt377 => (spec_l1Cur_order.j1 k1 x5_1 bt377.1 s0_0 bt377.2.1 bt377.2.2)) else (spec_l1Cur_order.j1 k1 x5_1 false s0_0 x1001_1 x1002_1))) = some (r1, r2, r3) := H
   have A3 := Ya A30
   clear A30
   by_cases c4 : x6_1 < t353
   ·rw [if_pos c4] at H
    have c4b0 := Z37 c4
    clear c4
    replace H := Z35.mp H
    obtain ⟨⟨t354, t355, t356⟩, A50, H⟩ := H
    replace H : ((some (([] : List Int) : List Int)).bind fun y357 => (if 0 ≤ t354 then (if t354 ≤ (x5_1.length : Int) then ((some (x5_1.take (t354 : Int).toNat : List Int)).bind fun y360 => (if y357.length + y360.length < 17592186044416 then ((some (y357 ++ y360 : List Int)).bind fun y364 => (if y364.length < 17592186044416 then ((some (y364 ++ [x6_1] : List Int)).bind fun y367 => ((some (x5_1.drop (t354 : Int).toNat : List Int)).bind fun y370 => (if y367.length + y370.length < 17592186044416 then (spec_l1Cur_order.l0 k1 a1 (y367 ++ y370) (wrap64 (x6_1 + 1)) s0_0 t355 t356) else (none)))) else (none))) else (none))) else (none)) else (none))) = some (r1, r2, r3) := H
    have A5 := Ya A50
    clear A50
    obtain ⟨y357, hy357⟩ : ∃ y_ : List Int, y_ = (([] : List Int)) := ⟨_, rfl⟩
    replace H : (if 0 ≤ t354 then (if t354 ≤ (x5_1.length : Int) then ((some (x5_1.take (t354 : Int).toNat : List Int)).bind fun y360 => (if y357.length + y360.length < 17592186044416 then ((some (y357 ++ y360 : List Int)).bind fun y364 => (if y364.length < 17592186044416 then ((some (y364 ++ [x6_1] : List Int)).bind fun y367 => ((some (x5_1.drop (t354 : Int).toNat : List Int)).bind fun y370 => (if y367.length + y370.length < 17592186044416 then (spec_l1Cur_order.l0 k1 a1 (y367 ++ y370) (wrap64 (x6_1 + 1)) s0_0 t355 t356) else (none)))) else (none))) else (none))) else (none)) else (none)) = some (r1, r2, r3) := by first | (rw [hy357]; with_reducible exact H) | (have H2_ := (Option.bind_some _ _).symm.trans H; rw [hy357]; with_reducible exact H2_) | (have H2_ := (Option.bind_some _ _).symm.trans H; with_reducible exact H2_) | with_reducible exact H | (rw [hy357]; exact H) | exact H
    have Ny357 := Ya hy357
    clear hy357
    by_cases c6 : 0 ≤ t354
    ·rw [if_pos c6] at H
     have c6b0 := eq_true c6
     have c6b1 := Z37 c6
     clear c6
     by_cases c7 : t354 ≤ (x5_1.length : Int)
     ·rw [if_pos c7] at H
      have c7b0 := eq_true c7
      have c7b1 := Z37 c7
      have HLEc7 := Ya c7
      clear c7
      obtain ⟨y360, hy360⟩ : ∃ y_ : List Int, y_ = (x5_1.take (t354 : Int).toNat) := ⟨_, rfl⟩
      replace H : (if y357.length + y360.length < 17592186044416 then ((some (y357 ++ y360 : List Int)).bind fun y364 => (if y364.length < 17592186044416 then ((some (y364 ++ [x6_1] : List Int)).bind fun y367 => ((some (x5_1.drop (t354 : Int).toNat : List Int)).bind fun y370 => (if y367.length + y370.length < 17592186044416 then (spec_l1Cur_order.l0 k1 a1 (y367 ++ y370) (wrap64 (x6_1 + 1)) s0_0 t355 t356) else (none)))) else (none))) else (none)) = some (r1, r2, r3) := by first | (rw [hy360]; with_reducible exact H) | (have H2_ := (Option.bind_some _ _).symm.trans H; rw [hy360]; with_reducible exact H2_) | (have H2_ := (Option.bind_some _ _).symm.trans H; with_reducible exact H2_) | with_reducible exact H | (rw [hy360]; exact H) | exact H
      have Ny360 := Ya hy360
      clear hy360
      by_cases c8 : y357.length + y360.length < 17592186044416
      ·rw [if_pos c8] at H
       have LMc8 := Ya c8
       clear c8
       obtain ⟨y364, hy364⟩ : ∃ y_ : List Int, y_ = (y357 ++ y360) := ⟨_, rfl⟩
       replace H : (if y364.length < 17592186044416 then ((some (y364 ++ [x6_1] : List Int)).bind fun y367 => ((some (x5_1.drop (t354 : Int).toNat : List Int)).bind fun y370 => (if y367.length + y370.length < 17592186044416 then (spec_l1Cur_order.l0 k1 a1 (y367 ++ y370) (wrap64 (x6_1 + 1)) s0_0 t355 t356) else (none)))) else (none)) = some (r1, r2, r3) := by first | (rw [hy364]; with_reducible exact H) | (have H2_ := (Option.bind_some _ _).symm.trans H; rw [hy364]; with_reducible exact H2_) | (have H2_ := (Option.bind_some _ _).symm.trans H; with_reducible exact H2_) | with_reducible exact H | (rw [hy364]; exact H) | exact H
       have Ny364 := Ya hy364
       clear hy364
       by_cases c9 : y364.length < 17592186044416
       ·rw [if_pos c9] at H
        have LMc9 := Ya c9
        clear c9
        obtain ⟨y367, hy367⟩ : ∃ y_ : List Int, y_ = (y364 ++ [x6_1]) := ⟨_, rfl⟩
        replace H : ((some (x5_1.drop (t354 : Int).toNat : List Int)).bind fun y370 => (if y367.length + y370.length < 17592186044416 then (spec_l1Cur_order.l0 k1 a1 (y367 ++ y370) (wrap64 (x6_1 + 1)) s0_0 t355 t356) else (none))) = some (r1, r2, r3) := by first | (rw [hy367]; with_reducible exact H) | (have H2_ := (Option.bind_some _ _).symm.trans H; rw [hy367]; with_reducible exact H2_) | (have H2_ := (Option.bind_some _ _).symm.trans H; with_reducible exact H2_) | with_reducible exact H | (rw [hy367]; exact H) | exact H
        have Ny367 := Ya hy367
        clear hy367
        have c10b0 := eq_true (Z29 Q1 : 0 ≤ t354)
        have c11b0 := eq_true (Z29 Q1 : t354 ≤ (x5_1.length : Int))
        obtain ⟨y370, hy370⟩ : ∃ y_ : List Int, y_ = (x5_1.drop (t354 : Int).toNat) := ⟨_, rfl⟩
        replace H : (if y367.length + y370.length < 17592186044416 then (spec_l1Cur_order.l0 k1 a1 (y367 ++ y370) (wrap64 (x6_1 + 1)) s0_0 t355 t356) else (none)) = some (r1, r2, r3) := by first | (rw [hy370]; with_reducible exact H) | (have H2_ := (Option.bind_some _ _).symm.trans H; rw [hy370]; with_reducible exact H2_) | (have H2_ := (Option.bind_some _ _).symm.trans H; with_reducible exact H2_) | with_reducible exact H | (rw [hy370]; exact H) | exact H
        have Ny370 := Ya hy370
        clear hy370
        by_cases c12 : y367.length + y370.length < 17592186044416
        ·rw [if_pos c12] at H
         have LMc12 := Ya c12
         clear c12
         obtain ⟨y374, hy374⟩ : ∃ y_ : List Int, y_ = (y367 ++ y370) := ⟨_, rfl⟩
         replace H : (spec_l1Cur_order.l0 k1 a1 y374 (wrap64 (x6_1 + 1)) s0_0 t355 t356) = some (r1, r2, r3) := by first | (rw [hy374]; with_reducible exact H) | (have H2_ := (Option.bind_some _ _).symm.trans H; rw [hy374]; with_reducible exact H2_) | (have H2_ := (Option.bind_some _ _).symm.trans H; with_reducible exact H2_) | with_reducible exact H | (rw [hy374]; exact H) | exact H
         have Ny374 := Ya hy374
         clear hy374
         have H' := Ya H
         clear H
         go_wp2_with (first | ((with_reducible refine gate_callee (f := 96) rfl ?_); refine Yz 11 Try.func96 #[.int .i64 a1, .int .i64 20] ?_; (with_reducible refine (spec_l1Least.calls a1 20 t353 _ A3.out).mono ?_); rintro e w' ⟨rfl, ⟨nd, rfl⟩⟩; refine ⟨_, rfl, ?_⟩) | ((with_reducible refine gate_callee (f := 69) rfl ?_); refine Yz 18 Try.func69 #[.pointer (some ⟨g, 0, none⟩), .int .i64 (wrap64 (x6_1 + 1))] ?_; (with_reducible refine (spec_l1Cur_pick.calls g s0_0 x1001_1 x1002_1 (wrap64 (x6_1 + 1)) t354 t355 t356 w0 _ ?side1 ?side2 A5.out).mono ?_); (case side1 => repeat (first | (with_reducible first | exact HI0.out | apply IsS88.alloc | apply IsS88.drewN | apply IsS88.drew | apply IsS88.set_1 | apply IsS88.set_2) | exact HI0.out)); (case side2 => repeat (first | (with_reducible first | exact HB.out | apply Z5 | apply Z3 | apply Z4 | refine Z6 ?_ (IsS88.ge HI0.out)) | exact HB.out)); rintro e w13 ⟨rfl, hi, hb, hk⟩; refine ⟨_, rfl, ?_⟩; replace HO_5 := Ya (Z12 (Kd.R_keep (IsS88.apart (show IsS88 w0 _ g s0_0 x1001_1 x1002_1 from by repeat (first | (with_reducible first | exact HI0.out | apply IsS88.alloc | apply IsS88.drewN | apply IsS88.drew | apply IsS88.set_1 | apply IsS88.set_2) | exact HI0.out)) (Yr HO_5.out) (by decide)) hk (fun _ h => h.2)) (fun _ h => h.1)); replace HK := Ya (KeepBut.trans Q3 hk (.inl rfl)); replace HB := Ya hb; replace HI0 := Ya hi; (try clear hb hk hi)) | ((with_reducible refine gate_dst (N := 19) rfl ?_); refine Kd.R_lit (Kd.int .i64) _ 3 ?hg (N := 19) ?hd (xs := ([] : List Int)) (inner := []) (ok := fun _ => True) (okp := fun _ => True) ?hr ?hp (fun _ hk => hk) trivial (Below.refl _ _) (Nat.le_refl _) (by simp) ?_; (case hd => rfl); (case hg => rfl); (case hr => first | (go_simp; done) | (go_simp; rfl)); (case hp => exact (Reps.none _ _)); intro v358 w14 ho15 hb hg_ hnew_; clear hg_ hnew_; (first | rw [← Ny357.out] at ho15 | (simp only [Int.reduceToNat] at ho15; rw [← Ny357.out] at ho15)); have HO359 := Ya (Kd.R_lower (Kd.R_new' ho15 (Z16 (Yr HO_5.out))) (keep_size (w := w) (g := g) (row := none) Q3)); replace HO_5 := Ya (Kd.R_elder' (Yr HO_5.out) (Kd.R_base ho15) hb); replace HK := Ya (KeepBut.trans Q3 (KeepBut.of_below hb g none) (.inl rfl)); replace HB := Ya (Z8 Q20 hb); replace HI0 := Ya (IsS88.below Q14 hb); clear hb ho15; obtain ⟨Ao17, co17, rfl⟩ := Z17 HO_5.out; have q16 : (t354 : Int) ≤ ((x5_1.length : Int) : Int) := Z29 Q1; obtain ⟨i016, hi016, _, hsz16, _⟩ := info_parts info3; have hroom16 : x5_1.length ≤ co17 := (Kd.R_reads' HO_5.out).2.1; have hC16 : Kd.C (Kd.int .i64) _ Ao17 x5_1.length x5_1 := (Kd.R_reads' HO_5.out).2.2; have hcut16 := cut_to (P := Try.prog) 24 3 .i64 Try.underlying24 hi016 Ao17 x5_1.length co17 t354 (Z29 Q1) q16 hroom16; have hr16 := Kd.C_take (m := (t354 : Int).toNat) hC16 (by omega); have hy16 : y360.length = (t354 : Int).toNat := (by rw [Ny360.out, Z31]; omega); rw [← Ny360.out] at hr16; rw [← hy16] at hcut16; have HR363 := Ya hr16; have HC363 := Ya (show y360.length ≤ co17 from by omega); clear hr16 hC16 hroom16 hi016 hsz16; have KY16 := Ya hy16; clear hy16; have KL16 := Ya (show (t354 : Int).toNat ≤ x5_1.length from by omega); replace q16 := eq_true q16) | ((with_reducible refine gate_builtin (b := .append) (xs := #[.tmp 19, .tmp 22]) rfl ?_); at_builtin; refine Kd.R_append_rows (Kd.int .i64) w.heap.size rfl (.tmp 19) (.tmp 22) 24 3 (.int .i64 0) 8 rfl Try.underlying24 info3 rfl (by decide) (by omega) v358 y357 y360 _ _ _ (fun k_ => some k_ ≠ (.slice Ao17 x5_1.length co17 : Value).ownBlock) (fun _ => False) rfl rfl ?aO ?aR (fun _ _ h => h) (fun _ h => h.elim) ?aF (Below.refl _ _) ?aS ?aL ?_; (case aR => repeat (first | exact (by repeat (first | (with_reducible exact HR363.out) | (with_reducible refine Z18 ?_ _) | (with_reducible refine Z19 ?_ _) | (with_reducible refine Z20 ?_) | exact HR363.out)) | (with_reducible refine Z18 ?_ _) | (with_reducible refine Z19 ?_ _) | (with_reducible refine Z20 ?_))); (case aF => exact (fun k_ hk => Kd.fresh' (Z16 (Yr HO_5.out)) k_ hk)); (case aO => exact (Yj HO359.out (fun _ hk => hk.2))); (case aS => exact (keep_size (w := w) (g := g) (row := none) Q3)); (case aL => have := LMc8.out; omega); intro v365 w18 ho hb hg hat; rw [← Ny364.out] at ho; replace HB := Ya (below_weaken Q20 HL.out hb); replace HI0 := Ya (IsS88.grown Q14 hg (IsS88.own_ne HI0.out HO359.out (by decide))); replace HK := Ya (KeepBut.trans Q3 (KeepBut.of_grown hg g) (Kd.R_base2 HO359.out)); replace HR363 := Ya ((show Kd.C (Kd.int .i64) w18 Ao17 y360.length y360 from by rw [Ny360.out]; exact Kd.C_take (m := (t354 : Int).toNat) ((Kd.R_reads' (Kd.R_after (ok := (fun _ => True)) (Yr HO_5.out) hg hat)).2.2) KL16.out)); replace HO_5 := Ya (Kd.R_after (ok := (fun _ => True)) (Yr HO_5.out) hg hat); have HO366 := Ya ho; clear HO359; clear ho hb hg hat) | ((with_reducible refine gate_builtin (b := .append) (xs := #[.tmp 24, .tmp 26]) rfl ?_); at_builtin; refine Kd.R_append (Kd.int .i64) w.heap.size rfl (.tmp 24) (.tmp 26) 24 3 (.int .i64 0) 8 rfl Try.underlying24 info3 rfl (by decide) (by omega) v365 y364 x6_1 [.int .i64 x6_1] (fun k_ => some k_ ≠ (.slice Ao17 x5_1.length co17 : Value).ownBlock) (fun _ => False) rfl rfl ?aP (fun _ hk => hk.elim) ?aF ?aO (Below.refl _ _) ?aS ?aL ?_; (case aP => exact rfl); (case aF => exact (fun k_ hk => Kd.fresh' (Z16 (Yr HO_5.out)) k_ hk)); (case aO => exact (Yr HO366.out)); (case aS => exact (keep_size (w := w) (g := g) (row := none) Q3)); (case aL => have := LMc9.out; omega); intro v368 w19 ho hb hg hat; rw [← Ny367.out] at ho; replace HB := Ya (below_weaken Q20 HL.out hb); replace HI0 := Ya (IsS88.grown Q14 hg (IsS88.own_ne HI0.out HO366.out (by decide))); replace HK := Ya (KeepBut.trans Q3 (KeepBut.of_grown hg g) (Kd.R_base2 HO366.out)); replace HR363 := Ya ((show Kd.C (Kd.int .i64) w19 Ao17 y360.length y360 from by rw [Ny360.out]; exact Kd.C_take (m := (t354 : Int).toNat) ((Kd.R_reads' (Kd.R_after (ok := (fun _ => True)) (Yr HO_5.out) hg hat)).2.2) KL16.out)); replace HO_5 := Ya (Kd.R_after (ok := (fun _ => True)) (Yr HO_5.out) hg hat); have HO369 := Ya ho; clear HO366; clear ho hb hg hat; have q20 : (t354 : Int) ≤ ((x5_1.length : Int) : Int) := Z29 Q1; obtain ⟨i020, hi020, _, hsz20, _⟩ := info_parts info3; have hroom20 : x5_1.length ≤ co17 := (Kd.R_reads' HO_5.out).2.1; have hC20 : Kd.C (Kd.int .i64) _ Ao17 x5_1.length x5_1 := (Kd.R_reads' HO_5.out).2.2; have q020 : (0 : Int) ≤ (t354 : Int) := Z29 Q1; have hcut20 := cut_from (P := Try.prog) 24 3 .i64 Try.underlying24 hi020 1 hsz20 Ao17 x5_1.length co17 t354 q020 q20; have hr20 := Kd.C_drop (m := (t354 : Int).toNat) (c := co17) hC20 (by omega) hroom20; obtain ⟨A20, hA20⟩ : ∃ A1, A1 = (if co17 = (t354 : Int).toNat then Ao17 else (Ao17 : Option Addr).map (·.add ((t354 : Int).toNat * 1))) := ⟨_, rfl⟩; obtain ⟨c20, hc20⟩ : ∃ c1, c1 = co17 - (t354 : Int).toNat := ⟨_, rfl⟩; have hy20 : y370.length = x5_1.length - (t354 : Int).toNat := (by rw [Ny370.out, Z30] <;> omega); rw [show (x5_1).drop (t354 : Int).toNat = y370 from Ny370.out.symm] at hr20; replace hr20 : Kd.C (Kd.int .i64) _ A20 y370.length y370 := (by rw [hA20]; exact hr20); rw [← hy20, ← hA20, ← hc20] at hcut20; have HR373 := Ya hr20; have HC373 := Ya (show y370.length ≤ c20 from by rw [hy20, hc20]; exact Nat.sub_le_sub_right hroom20 _); clear hr20 hC20 hroom20 hi020 hsz20 hc20; have KY20 := Ya hy20; have KA20 := Ya hA20; clear hy20 hA20; have KL20 := Ya (show (t354 : Int).toNat ≤ x5_1.length from by omega); replace q20 := eq_true q20) | ((with_reducible refine gate_builtin (b := .append) (xs := #[.tmp 28, .tmp 31]) rfl ?_); at_builtin; refine Kd.R_append_rows (Kd.int .i64) w.heap.size rfl (.tmp 28) (.tmp 31) 24 3 (.int .i64 0) 8 rfl Try.underlying24 info3 rfl (by decide) (by omega) v368 y367 y370 _ _ _ (fun k_ => some k_ ≠ (.slice Ao17 x5_1.length co17 : Value).ownBlock) (fun _ => False) rfl rfl ?aO ?aR (fun _ _ h => h) (fun _ h => h.elim) ?aF (Below.refl _ _) ?aS ?aL ?_; (case aR => repeat (first | exact (by repeat (first | (with_reducible exact HR373.out) | (with_reducible refine Z18 ?_ _) | (with_reducible refine Z19 ?_ _) | (with_reducible refine Z20 ?_) | exact HR373.out)) | (with_reducible refine Z18 ?_ _) | (with_reducible refine Z19 ?_ _) | (with_reducible refine Z20 ?_))); (case aF => exact (fun k_ hk => Kd.fresh' (Z16 (Yr HO_5.out)) k_ hk)); (case aO => exact (Yr HO369.out)); (case aS => exact (keep_size (w := w) (g := g) (row := none) Q3)); (case aL => have := LMc12.out; omega); intro v375 w21 ho hb hg hat; rw [← Ny374.out] at ho; replace HB := Ya (below_weaken Q20 HL.out hb); replace HI0 := Ya (IsS88.grown Q14 hg (IsS88.own_ne HI0.out HO369.out (by decide))); replace HK := Ya (KeepBut.trans Q3 (KeepBut.of_grown hg g) (Kd.R_base2 HO369.out)); replace HR363 := Ya ((show Kd.C (Kd.int .i64) w21 Ao17 y360.length y360 from by rw [Ny360.out]; exact Kd.C_take (m := (t354 : Int).toNat) ((Kd.R_reads' (Kd.R_after (ok := (fun _ => True)) (Yr HO_5.out) hg hat)).2.2) KL16.out)); replace HR373 := Ya ((show Kd.C (Kd.int .i64) w21 A20 y370.length y370 from by rw [Ny370.out, KA20.out]; exact Kd.C_drop (m := (t354 : Int).toNat) (c := co17) ((Kd.R_reads' (Kd.R_after (ok := (fun _ => True)) (Yr HO_5.out) hg hat)).2.2) KL20.out ((Kd.R_reads' (Kd.R_after (ok := (fun _ => True)) (Yr HO_5.out) hg hat)).2.1))); replace HO_5 := Ya (Kd.R_after (ok := (fun _ => True)) (Yr HO_5.out) hg hat); have HO376 := Ya ho; clear HO369; clear ho hb hg hat))
         go_roundg k1
         case measure => have := HK1.out; omega
         case rel => exact ⟨(y374), (wrap64 (x6_1 + 1)), (t355), (t356), Q5, H', ⟨Q28⟩, ⟨Yj HO376.out (fun _ hk => trivial)⟩, ⟨Q4⟩, ⟨Q13⟩, ⟨Q6⟩⟩
        ·rw [if_neg c12] at H
         exact absurd H (by simp)
       ·rw [if_neg c9] at H
        exact absurd H (by simp)
      ·rw [if_neg c8] at H
       exact absurd H (by simp)
     ·rw [if_neg c7] at H
      exact absurd H (by simp)
    ·rw [if_neg c6] at H
     exact absurd H (by simp)
   ·rw [if_neg c4] at H
    have c4b0 := Z36 c4
    clear c4
    have HC22 := Ya H
    clear H
    go_upto_region 9 with (first | ((with_reducible refine gate_callee (f := 96) rfl ?_); refine Yz 11 Try.func96 #[.int .i64 a1, .int .i64 20] ?_; (with_reducible refine (spec_l1Least.calls a1 20 t353 _ A3.out).mono ?_); rintro e w' ⟨rfl, ⟨nd, rfl⟩⟩; refine ⟨_, rfl, ?_⟩))
    (try simp only [Act.put, Z0, Z1, Z2])
    go_cut [39] (fun v39 wc => ∃ (kq : Nat) (x39_21 : Bool) (x1001_21 : Int) (x1002_21 : Int), v39 = .bool x39_21 ∧ Aside0 (spec_l1Cur_order.j1 kq x5_1 x39_21 s0_0 x1001_21 x1002_21 = some (r1, r2, r3)) ∧ Aside0 (kq ≤ k1) ∧ Aside0 (Kd.R (Kd.int .i64) 3 wc w.heap.size (fun _ => True) u5 x5_1) ∧ Aside0 (IsS88 w0 wc g s0_0 x1001_21 x1002_21) ∧ Aside0 (KeepBut w wc g none) ∧ Aside0 (Below w0.heap.size w0 wc))
    case first =>
     have H := HC22.out
     clear HC22
     by_cases c23 : (x5_1.length : Int) > 0
     ·rw [if_pos c23] at H
      have c23b0 : decide (0 < (x5_1.length : Int)) = true := Z37 c23
      have c23b1 : decide (0 < x5_1.length) = true := Z37 (by omega)
      clear c23
      (first | rw [c23b0] | (simp only [i64_w, i32_w]; rw [c23b0]) | skip)
      replace H := Z35.mp H
      obtain ⟨⟨t377, t378, t379⟩, A240, H⟩ := H
      replace H : (spec_l1Cur_order.j1 k1 x5_1 t377 s0_0 t378 t379) = some (r1, r2, r3) := H
      have A24 := Ya A240
      clear A240
      have H' := Ya H
      clear H
      obtain ⟨Ao25, co25, rfl⟩ := Z17 HO_5.out
      go_wp2_with (first | (go_at_call 70; (with_reducible refine (spec_l1Cur_one.calls g s0_0 x1001_1 x1002_1 25 t377 t378 t379 w0 _ ?side1 ?side2 A24.out).mono ?_); (case side1 => repeat (first | (with_reducible first | exact HI0.out | apply IsS88.alloc | apply IsS88.drewN | apply IsS88.drew | apply IsS88.set_1 | apply IsS88.set_2) | exact HI0.out)); (case side2 => repeat (first | (with_reducible first | exact HB.out | apply Z5 | apply Z3 | apply Z4 | refine Z6 ?_ (IsS88.ge HI0.out)) | exact HB.out)); rintro e w26 ⟨rfl, hi, hb, hk⟩; replace HO_5 := Ya (Z12 (Kd.R_keep (IsS88.apart (show IsS88 w0 _ g s0_0 x1001_1 x1002_1 from by repeat (first | (with_reducible first | exact HI0.out | apply IsS88.alloc | apply IsS88.drewN | apply IsS88.drew | apply IsS88.set_1 | apply IsS88.set_2) | exact HI0.out)) (Yr HO_5.out) (by decide)) hk (fun _ h => h.2)) (fun _ h => h.1)); replace HK := Ya (KeepBut.trans Q3 hk (.inl rfl)); replace HB := Ya hb; replace HI0 := Ya hi; (try clear hb hk hi)))
      go_meet
      case rel => exact ⟨_, (t377), (t378), (t379), Q5, H', ⟨Q49⟩, ⟨Q21⟩, ⟨Q4⟩, ⟨Q13⟩, ⟨Q6⟩⟩
     ·rw [if_neg c23] at H
      have c23b0 : decide (0 < (x5_1.length : Int)) = false := Z36 c23
      have c23b1 : decide (0 < x5_1.length) = false := Z36 (by omega)
      clear c23
      (first | rw [c23b0] | (simp only [i64_w, i32_w]; rw [c23b0]) | skip)
      have H' := Ya H
      clear H
      obtain ⟨Ao27, co27, rfl⟩ := Z17 HO_5.out
      go_wp2
      go_meet
      case rel => exact ⟨_, (false), (x1001_1), (x1002_1), Q5, H', ⟨Q49⟩, ⟨Q21⟩, ⟨Q4⟩, ⟨Q13⟩, ⟨Q6⟩⟩
    case rest =>
     clear HC22
     try clear c1
     try clear q1
     try clear c2
     try clear p2
     try clear q2
     try clear c4
     try clear c4b0
     try clear c6
     try clear c6b0
     try clear c6b1
     try clear p6
     try clear c7
     try clear c7b0
     try clear c7b1
     try clear c8
     try clear c9
     try clear c10
     try clear c10b0
     try clear c11
     try clear c11b0
     try clear c12
     try clear q16
     try clear c20
     try clear q20
     try clear c23
     try clear c23b0
     try clear c23b1
     try clear p2
     try clear q020
     try clear q16
     try clear q20
     obtain ⟨kq, x39_21, x1001_21, x1002_21, rfl, HA, HJ21, HO_5, HI0, HK, HB⟩ := hcut
     cases kq with
     | zero => exact absurd HA.out (by simp [spec_l1Cur_order.j1])
     | succ kj21 =>
      have H := HA.out
      clear HA
      simp only [spec_l1Cur_order.j1] at H
      by_cases c28 : x39_21 = true
      ·subst c28
       have H1 : ((spec_l1Cur_pick.f s0_0 x1001_21 x1002_21 (x5_1.length : Int)).bind fun bt380 => ((spec_l1Cur_among.f s0_0 bt380.2.1 bt380.2.2 (([(-1), 0, (x5_1.length : Int), 4611686018427387904] : List Int))).bind fun bt386 => (if 0 ≤ bt380.1 then (if bt380.1 < (x5_1.length : Int) then (some ((x5_1.set (bt380.1 : Int).toNat bt386.1), bt386.2.1, bt386.2.2)) else (none)) else (none)))) = some (r1, r2, r3) := by rw [if_pos rfl] at H; exact H
       clear H
       have H := H1
       clear H1
       replace H := Z35.mp H
       obtain ⟨⟨t380, t381, t382⟩, A290, H⟩ := H
       replace H : ((spec_l1Cur_among.f s0_0 t381 t382 (([(-1), 0, (x5_1.length : Int), 4611686018427387904] : List Int))).bind fun bt386 => (if 0 ≤ t380 then (if t380 < (x5_1.length : Int) then (some ((x5_1.set (t380 : Int).toNat bt386.1), bt386.2.1, bt386.2.2)) else (none)) else (none))) = some (r1, r2, r3) := H
       have A29 := Ya A290
       clear A290
       obtain ⟨y383, hy383⟩ : ∃ y_ : List Int, y_ = (([(-1), 0, (x5_1.length : Int), 4611686018427387904] : List Int)) := ⟨_, rfl⟩
       replace H : ((spec_l1Cur_among.f s0_0 t381 t382 y383).bind fun bt386 => (if 0 ≤ t380 then (if t380 < (x5_1.length : Int) then (some ((x5_1.set (t380 : Int).toNat bt386.1), bt386.2.1, bt386.2.2)) else (none)) else (none))) = some (r1, r2, r3) := by first | (rw [hy383]; with_reducible exact H) | (have H2_ := (Option.bind_some _ _).symm.trans H; rw [hy383]; with_reducible exact H2_) | (have H2_ := (Option.bind_some _ _).symm.trans H; with_reducible exact H2_) | with_reducible exact H | (rw [hy383]; exact H) | exact H
       have Ny383 := Ya hy383
       clear hy383
       replace H := Z35.mp H
       obtain ⟨⟨t386, t387, t388⟩, A300, H⟩ := H
       replace H : (if 0 ≤ t380 then (if t380 < (x5_1.length : Int) then (some ((x5_1.set (t380 : Int).toNat t386), t387, t388)) else (none)) else (none)) = some (r1, r2, r3) := H
       have A30 := Ya A300
       clear A300
       by_cases c31 : 0 ≤ t380
       ·rw [if_pos c31] at H
        have c31b0 := Z37 c31
        clear c31
        by_cases c32 : t380 < (x5_1.length : Int)
        ·rw [if_pos c32] at H
         have c32b0 := Z37 c32
         clear c32
         obtain ⟨y389, hy389⟩ : ∃ y_ : List Int, y_ = (x5_1.set (t380 : Int).toNat t386) := ⟨_, rfl⟩
         replace H : (some (y389, t387, t388)) = some (r1, r2, r3) := by first | (rw [hy389]; with_reducible exact H) | (have H2_ := (Option.bind_some _ _).symm.trans H; rw [hy389]; with_reducible exact H2_) | (have H2_ := (Option.bind_some _ _).symm.trans H; with_reducible exact H2_) | with_reducible exact H | (rw [hy389]; exact H) | exact H
         have Ny389 := Ya hy389
         clear hy389
         simp only [Option.some.injEq, Prod.mk.injEq] at H
         obtain ⟨rfl, rfl, rfl⟩ := H
         obtain ⟨Ao34, co34, rfl⟩ := Z17 HO_5.out
         go_wp2_with (first | ((with_reducible refine gate_callee (f := 69) rfl ?_); refine Yz 44 Try.func69 #[.pointer (some ⟨g, 0, none⟩), .int .i64 (x5_1.length : Int)] ?_; (with_reducible refine (spec_l1Cur_pick.calls g s0_0 x1001_21 x1002_21 (x5_1.length : Int) t380 t381 t382 w0 _ ?side1 ?side2 A29.out).mono ?_); (case side1 => repeat (first | (with_reducible first | exact HI0.out | apply IsS88.alloc | apply IsS88.drewN | apply IsS88.drew | apply IsS88.set_1 | apply IsS88.set_2) | exact HI0.out)); (case side2 => repeat (first | (with_reducible first | exact HB.out | apply Z5 | apply Z3 | apply Z4 | refine Z6 ?_ (IsS88.ge HI0.out)) | exact HB.out)); rintro e w35 ⟨rfl, hi, hb, hk⟩; refine ⟨_, rfl, ?_⟩; replace HO_5 := Ya (Z12 (Kd.R_keep (IsS88.apart (show IsS88 w0 _ g s0_0 x1001_21 x1002_21 from by repeat (first | (with_reducible first | exact HI0.out | apply IsS88.alloc | apply IsS88.drewN | apply IsS88.drew | apply IsS88.set_1 | apply IsS88.set_2) | exact HI0.out)) (Yr HO_5.out) (by decide)) hk (fun _ h => h.2)) (fun _ h => h.1)); replace HK := Ya (KeepBut.trans Q3 hk (.inl rfl)); replace HB := Ya hb; replace HI0 := Ya hi; (try clear hb hk hi)) | ((with_reducible refine gate_dst (N := 48) rfl ?_); refine Kd.R_lit (Kd.int .i64) _ 3 ?hg (N := 48) ?hd (xs := ([(-1), 0, (x5_1.length : Int), 4611686018427387904] : List Int)) (inner := [.int .i64 (-1), .int .i64 0, .int .i64 (x5_1.length : Int), .int .i64 4611686018427387904]) (ok := fun _ => True) (okp := fun _ => True) ?hr ?hp (fun _ hk => hk) trivial (Below.refl _ _) (Nat.le_refl _) (by simp) ?_; (case hd => rfl); (case hg => rfl); (case hr => first | (go_simp; done) | (go_simp; rfl)); (case hp => exact (Reps.one (show Kd.M (Kd.int .i64) _ _ _ (-1) [.int .i64 (-1)] from rfl) (Reps.one (show Kd.M (Kd.int .i64) _ _ _ 0 [.int .i64 0] from rfl) (Reps.one (show Kd.M (Kd.int .i64) _ _ _ (x5_1.length : Int) [.int .i64 (x5_1.length : Int)] from rfl) (Reps.one (show Kd.M (Kd.int .i64) _ _ _ 4611686018427387904 [.int .i64 4611686018427387904] from rfl) (Reps.none _ _)))))); intro v384 w36 ho37 hb hg_ hnew_; clear hg_ hnew_; (first | rw [← Ny383.out] at ho37 | (simp only [Int.reduceToNat] at ho37; rw [← Ny383.out] at ho37)); have HO385 := Ya (Kd.R_lower (Kd.R_new' ho37 (Z16 (Yr HO_5.out))) (keep_size (w := w) (g := g) (row := none) Q3)); replace HO_5 := Ya (Kd.R_elder' (Yr HO_5.out) (Kd.R_base ho37) hb); replace HK := Ya (KeepBut.trans Q3 (KeepBut.of_below hb g none) (.inl rfl)); replace HB := Ya (Z8 Q20 hb); replace HI0 := Ya (IsS88.below Q14 hb); clear hb ho37; obtain ⟨Ao38, co38, rfl⟩ := Z17 HO385.out) | ((with_reducible refine gate_callee (f := 65) rfl ?_); refine Yz 49 Try.func65 #[.pointer (some ⟨g, 0, none⟩), .slice Ao38 y383.length co38] ?_; (with_reducible refine (spec_l1Cur_among.calls g s0_0 t381 t382 _ _ y383 t386 t387 t388 w0 _ ?side1 ?side2 (Yc (Kd.R_reads' HO385.out).2.2) ((Kd.R_reads' HO385.out).2.1) ?side5 A30.out).mono ?_); (case side1 => repeat (first | (with_reducible first | exact HI0.out | apply IsS88.alloc | apply IsS88.drewN | apply IsS88.drew | apply IsS88.set_1 | apply IsS88.set_2) | exact HI0.out)); (case side2 => repeat (first | (with_reducible first | exact HB.out | apply Z5 | apply Z3 | apply Z4 | refine Z6 ?_ (IsS88.ge HI0.out)) | exact HB.out)); (case side5 => exact far_slice (IsS88.own_ne HI0.out HO385.out (by decide))); rintro e w39 ⟨rfl, hi, hb, hk⟩; refine ⟨_, rfl, ?_⟩; replace HO_5 := Ya (Z12 (Kd.R_keep (IsS88.apart (show IsS88 w0 _ g s0_0 t381 t382 from by repeat (first | (with_reducible first | exact HI0.out | apply IsS88.alloc | apply IsS88.drewN | apply IsS88.drew | apply IsS88.set_1 | apply IsS88.set_2) | exact HI0.out)) (Yr HO_5.out) (by decide)) hk (fun _ h => h.2)) (fun _ h => h.1)); replace HO385 := Ya (Z12 (Kd.R_keep (IsS88.apart (show IsS88 w0 _ g s0_0 t381 t382 from by repeat (first | (with_reducible first | exact HI0.out | apply IsS88.alloc | apply IsS88.drewN | apply IsS88.drew | apply IsS88.set_1 | apply IsS88.set_2) | exact HI0.out)) (Yr HO385.out) (by decide)) hk (fun _ h => h.2)) (fun _ h => h.1)); replace HK := Ya (KeepBut.trans Q3 hk (.inl rfl)); replace HB := Ya hb; replace HI0 := Ya hi; (try clear hb hk hi); have p33 : 0 ≤ (t380 : Int) := Z29 Q1; have q33 : (t380 : Int) < ((x5_1.length : Int) : Int) := Z29 Q1; obtain ⟨go33, co33, eo33, gb33, gl33, cl33, HG33⟩ := Kd.R_form HO_5.out (by omega); (first | cases eo33 | (injection eo33 with ea_ en_ ec_; (first | subst ea_ | (injection ea_ with ea_; subst ea_)); subst ec_; clear en_)); have GB33 := Ya gb33; have GG33 := Ya HG33; clear gb33 gl33 HG33; obtain ⟨hx33_0, hf33_0⟩ := Kd.R_celln 0 HO_5.out (t380 : Int) p33 q33; replace p33 := eq_true p33; replace q33 := eq_true q33; have n_ := Ya (Z12 (ok' := (fun k_ => some k_ ≠ (.slice Ao38 y383.length co38 : Value).ownBlock)) HO_5.out (fun k_ hk => hk.2)); clear HO_5; have HO_5 := n_; clear n_; obtain ⟨hy40_, hz40_⟩ := Kd.R_celln 0 HO_5.out (t380 : Int) (Z29 Q1) (Z29 Q1); have HP40 := Kd.R_putg HO_5.out (t380 : Int) t386) | ((with_reducible refine gate_store (t := 3) (p := 50) rfl ?_); refine store_event (t := 3) (p := 50) (v := ?vo_w41) (w1 := (w39.setCell ⟨go33, (t380 : Int).toNat, none⟩ (.int .i64 t386))) ?hg ?ho ?hn ?hr ?_; (case ho => rfl); (case hg => rfl); (case hn => rfl); (case hr => first | (go_simp; done) | (go_simp; rfl)); intro w41 hw; have hg : w39.grownBy w41 (some go33) := (by rw [hw]; exact HP40.2); have hp_ : Kd.R (Kd.int .i64) 3 w41 w.heap.size (fun k_ => some k_ ≠ (.slice Ao38 y383.length co38 : Value).ownBlock) (.slice (some ⟨go33, 0, none⟩) x5_1.length co34) y389 := (by rw [hw, Ny389.out]; exact HP40.1); clear HP40; replace HI0 := Ya (IsS88.grown Q14 hg (IsS88.own_ne HI0.out HO_5.out (by decide))); replace HO385 := Ya (Kd.R_after (v := (.slice (some ⟨go33, 0, none⟩) x5_1.length co34)) (v1 := (.slice (some ⟨go33, 0, none⟩) x5_1.length co34)) (ok := (fun _ => True)) (Yr HO385.out) hg (.inl rfl)); replace HB := Ya ((by rw [hw]; exact Z6 (HB.out) (Nat.le_trans HL.out GB33.out) : Below w0.heap.size w0 w41)); replace HK := Ya (KeepBut.trans Q3 (KeepBut.of_grown hg g) (Kd.R_base2 HO_5.out)); replace HO_5 := Ya hp_; clear hg hw hp_))
         go_ret
         exact ⟨_, Q2, Yj HO_5.out (fun _ hk => trivial), Q4, Q6, Q13⟩
        ·rw [if_neg c32] at H
         exact absurd H (by simp)
       ·rw [if_neg c31] at H
        exact absurd H (by simp)
      ·replace c28 := Bool.eq_false_iff.mpr c28
       subst c28
       have H1 : (some (x5_1, x1001_21, x1002_21)) = some (r1, r2, r3) := by rw [if_neg (show ¬ (false = true) by decide)] at H; exact H
       clear H
       have H := H1
       clear H1
       simp only [Option.some.injEq, Prod.mk.injEq] at H
       obtain ⟨rfl, rfl, rfl⟩ := H
       go_wp2
       go_ret
       exact ⟨_, Q2, Q21, Q4, Q6, Q13⟩
def spec_moTrotter.f : Nat → Int → Int → Option (List Int)
 | 0, _, _ => none
 | k + 1, a0, a1 => if a0 = 0 then (some ([] : List Int)) else ((spec_moTrotter.f k (wrap64 (a0 - 1)) (wrap64 (Int.tdiv a1 a0))).bind fun t390 => (if (Int.tmod (wrap64 (Int.tdiv a1 a0)) 2) = 0 then (if 0 ≤ (wrap64 ((wrap64 (a0 - 1)) - (Int.tmod a1 a0))) then (if (wrap64 ((wrap64 (a0 - 1)) - (Int.tmod a1 a0))) ≤ (t390.length : Int) then ((spec_l1Own.f (t390.take ((wrap64 ((wrap64 (a0 - 1)) - (Int.tmod a1 a0))) : Int).toNat)).bind fun t397 => (if t397.length < 17592186044416 then ((some (t397 ++ [wrap64 (a0 - 1)] : List Int)).bind fun y400 => ((some (t390.drop ((wrap64 ((wrap64 (a0 - 1)) - (Int.tmod a1 a0))) : Int).toNat : List Int)).bind fun y403 => (if y400.length + y403.length < 17592186044416 then (some (y400 ++ y403)) else (none)))) else (none))) else (none)) else (none)) else (if 0 ≤ (Int.tmod a1 a0) then (if (Int.tmod a1 a0) ≤ (t390.length : Int) then ((spec_l1Own.f (t390.take ((Int.tmod a1 a0) : Int).toNat)).bind fun t414 => (if t414.length < 17592186044416 then ((some (t414 ++ [wrap64 (a0 - 1)] : List Int)).bind fun y417 => ((some (t390.drop ((Int.tmod a1 a0) : Int).toNat : List Int)).bind fun y420 => (if y417.length + y420.length < 17592186044416 then (some (y417 ++ y420)) else (none)))) else (none))) else (none)) else (none))))
theorem spec_moTrotter.mono_l : ∀ k, (∀ y0 y1, LeO (spec_moTrotter.f k y0 y1) (spec_moTrotter.f (k + 1) y0 y1))
 | 0 => fun _ _ r h => by simp [spec_moTrotter.f] at h
 | k + 1 => by
  have ih0 := spec_moTrotter.mono_l k
  ·intro y0 y1
   unfold spec_moTrotter.f
   repeat' first
   | (with_reducible exact ih0 _ _)
   | (with_reducible exact LeO.refl _)
   | (with_reducible exact LeO.none _)
   | (with_reducible refine LeO.ite ?_ ?_)
   | (with_reducible refine LeO.bind ?_ (fun _ => ?_))
   | exact ih0 _ _
   | exact LeO.none _
   | refine LeO.ite ?_ ?_
   | refine LeO.bind ?_ (fun _ => ?_)
theorem spec_moTrotter.mono : ∀ a0 a1 k, LeO (spec_moTrotter.f k a0 a1) (spec_moTrotter.f (k + 1) a0 a1) := by
 intro a0 a1 k
 have ih0 := spec_moTrotter.mono_l k
 exact ih0 a0 a1
set_option maxHeartbeats 8000000 in
set_option maxRecDepth 100000 in
theorem spec_moTrotter.calls (k : Nat) : ∀ (a0 : Int) (a1 : Int) (r : List Int) (w : World) (h : spec_moTrotter.f k a0 a1 = some r),
  Calls Try.prog 77 #[.int .i64 a0, .int .i64 a1] w fun e w' => ∃ v0_ : Value, e = .returned (v0_) ∧ Kd.R (Kd.int .i64) 3 w' w.heap.size (fun _ => True) v0_ r ∧ Below w.heap.size w w' := by
 induction k using Nat.strongRecOn with
 | _ k ih =>
 intro a0 a1 r w h
 cases k with
 | zero => exact absurd h (by simp [spec_moTrotter.f])
 | succ k =>
 simp only [spec_moTrotter.f] at h
 have HB := Ya (Below.refl w.heap.size w)
 have H : (if a0 = 0 then (some ([] : List Int)) else ((spec_moTrotter.f k (wrap64 (a0 - 1)) (wrap64 (Int.tdiv a1 a0))).bind fun t390 => (if (Int.tmod (wrap64 (Int.tdiv a1 a0)) 2) = 0 then (if 0 ≤ (wrap64 ((wrap64 (a0 - 1)) - (Int.tmod a1 a0))) then (if (wrap64 ((wrap64 (a0 - 1)) - (Int.tmod a1 a0))) ≤ (t390.length : Int) then ((spec_l1Own.f (t390.take ((wrap64 ((wrap64 (a0 - 1)) - (Int.tmod a1 a0))) : Int).toNat)).bind fun t397 => (if t397.length < 17592186044416 then ((some (t397 ++ [wrap64 (a0 - 1)] : List Int)).bind fun y400 => ((some (t390.drop ((wrap64 ((wrap64 (a0 - 1)) - (Int.tmod a1 a0))) : Int).toNat : List Int)).bind fun y403 => (if y400.length + y403.length < 17592186044416 then (some (y400 ++ y403)) else (none)))) else (none))) else (none)) else (none)) else (if 0 ≤ (Int.tmod a1 a0) then (if (Int.tmod a1 a0) ≤ (t390.length : Int) then ((spec_l1Own.f (t390.take ((Int.tmod a1 a0) : Int).toNat)).bind fun t414 => (if t414.length < 17592186044416 then ((some (t414 ++ [wrap64 (a0 - 1)] : List Int)).bind fun y417 => ((some (t390.drop ((Int.tmod a1 a0) : Int).toNat : List Int)).bind fun y420 => (if y417.length + y420.length < 17592186044416 then (some (y417 ++ y420)) else (none)))) else (none))) else (none)) else (none))))) = some r := h
 clear h
 by_cases c3 : a0 = 0
 ·rw [if_pos c3] at H
  have c3b0 : (a0 == 0) = true := beq_iff_eq.mpr c3
  have c3b1 : (a0 != 0) = false := bne_eq_false_iff_eq.mpr c3
  clear c3
  obtain rfl := Option.some.inj H
  go_enter Try.func77, Try.ntmps77
  go_wp2
  go_ret
  exact ⟨_, Q2, Q11, Q0⟩
 ·rw [if_neg c3] at H
  have c3b0 : (a0 == 0) = false := beq_eq_false_iff_ne.mpr c3
  have c3b1 : (a0 != 0) = true := bne_iff_ne.mpr c3
  replace H := Z35.mp H
  obtain ⟨t390, A40, H⟩ := H
  replace H : (if (Int.tmod (wrap64 (Int.tdiv a1 a0)) 2) = 0 then (if 0 ≤ (wrap64 ((wrap64 (a0 - 1)) - (Int.tmod a1 a0))) then (if (wrap64 ((wrap64 (a0 - 1)) - (Int.tmod a1 a0))) ≤ (t390.length : Int) then ((spec_l1Own.f (t390.take ((wrap64 ((wrap64 (a0 - 1)) - (Int.tmod a1 a0))) : Int).toNat)).bind fun t397 => (if t397.length < 17592186044416 then ((some (t397 ++ [wrap64 (a0 - 1)] : List Int)).bind fun y400 => ((some (t390.drop ((wrap64 ((wrap64 (a0 - 1)) - (Int.tmod a1 a0))) : Int).toNat : List Int)).bind fun y403 => (if y400.length + y403.length < 17592186044416 then (some (y400 ++ y403)) else (none)))) else (none))) else (none)) else (none)) else (if 0 ≤ (Int.tmod a1 a0) then (if (Int.tmod a1 a0) ≤ (t390.length : Int) then ((spec_l1Own.f (t390.take ((Int.tmod a1 a0) : Int).toNat)).bind fun t414 => (if t414.length < 17592186044416 then ((some (t414 ++ [wrap64 (a0 - 1)] : List Int)).bind fun y417 => ((some (t390.drop ((Int.tmod a1 a0) : Int).toNat : List Int)).bind fun y420 => (if y417.length + y420.length < 17592186044416 then (some (y417 ++ y420)) else (none)))) else (none))) else (none)) else (none))) = some r := H
  have A4 := Ya A40
  clear A40
  by_cases c5 : (Int.tmod (wrap64 (Int.tdiv a1 a0)) 2) = 0
  ·rw [if_pos c5] at H
   have c5b0 : ((Int.tmod (wrap64 (Int.tdiv a1 a0)) 2) == 0) = true := beq_iff_eq.mpr c5
   have c5b1 : ((Int.tmod (wrap64 (Int.tdiv a1 a0)) 2) != 0) = false := bne_eq_false_iff_eq.mpr c5
   clear c5
   obtain ⟨ji6, hji6⟩ : ∃ j_ : Int, (wrap64 ((wrap64 (a0 - 1)) - (Int.tmod a1 a0))) = j_ := ⟨_, rfl⟩
   replace H : (if 0 ≤ (ji6) then (if (ji6) ≤ (t390.length : Int) then ((spec_l1Own.f (t390.take ((ji6) : Int).toNat)).bind fun t397 => (if t397.length < 17592186044416 then ((some (t397 ++ [wrap64 (a0 - 1)] : List Int)).bind fun y400 => ((some (t390.drop ((ji6) : Int).toNat : List Int)).bind fun y403 => (if y400.length + y403.length < 17592186044416 then (some (y400 ++ y403)) else (none)))) else (none))) else (none)) else (none)) = some r := by first | (rw [hji6] at H; exact H) | (simp only [hji6] at H ⊢; exact H)
   (try rw [hji6] at A4)
   have hji6w : (IntKind.i64.wrap ((wrap64 (a0 - 1)) - (Int.tmod a1 a0))) = ji6 := (i64_w _).trans hji6
   by_cases c7 : 0 ≤ (ji6)
   ·rw [if_pos c7] at H
    have c7b0 := eq_true c7
    have c7b1 := Z37 c7
    clear c7
    by_cases c8 : (ji6) ≤ (t390.length : Int)
    ·rw [if_pos c8] at H
     have c8b0 := eq_true c8
     have c8b1 := Z37 c8
     clear c8
     obtain ⟨y393, hy393⟩ : ∃ y_ : List Int, y_ = (t390.take ((ji6) : Int).toNat) := ⟨_, rfl⟩
     replace H : ((spec_l1Own.f y393).bind fun t397 => (if t397.length < 17592186044416 then ((some (t397 ++ [wrap64 (a0 - 1)] : List Int)).bind fun y400 => ((some (t390.drop ((ji6) : Int).toNat : List Int)).bind fun y403 => (if y400.length + y403.length < 17592186044416 then (some (y400 ++ y403)) else (none)))) else (none))) = some r := by first | (rw [hy393]; with_reducible exact H) | (have H2_ := (Option.bind_some _ _).symm.trans H; rw [hy393]; with_reducible exact H2_) | (have H2_ := (Option.bind_some _ _).symm.trans H; with_reducible exact H2_) | with_reducible exact H | (rw [hy393]; exact H) | exact H
     have Ny393 := Ya hy393
     clear hy393
     replace H := Z35.mp H
     obtain ⟨t397, A90, H⟩ := H
     replace H : (if t397.length < 17592186044416 then ((some (t397 ++ [wrap64 (a0 - 1)] : List Int)).bind fun y400 => ((some (t390.drop ((ji6) : Int).toNat : List Int)).bind fun y403 => (if y400.length + y403.length < 17592186044416 then (some (y400 ++ y403)) else (none)))) else (none)) = some r := H
     have A9 := Ya A90
     clear A90
     by_cases c10 : t397.length < 17592186044416
     ·rw [if_pos c10] at H
      have LMc10 := Ya c10
      clear c10
      obtain ⟨y400, hy400⟩ : ∃ y_ : List Int, y_ = (t397 ++ [wrap64 (a0 - 1)]) := ⟨_, rfl⟩
      replace H : ((some (t390.drop ((ji6) : Int).toNat : List Int)).bind fun y403 => (if y400.length + y403.length < 17592186044416 then (some (y400 ++ y403)) else (none))) = some r := by first | (rw [hy400]; with_reducible exact H) | (have H2_ := (Option.bind_some _ _).symm.trans H; rw [hy400]; with_reducible exact H2_) | (have H2_ := (Option.bind_some _ _).symm.trans H; with_reducible exact H2_) | with_reducible exact H | (rw [hy400]; exact H) | exact H
      have Ny400 := Ya hy400
      clear hy400
      have c11b0 := eq_true (Z29 Q1 : 0 ≤ (ji6))
      have c12b0 := eq_true (Z29 Q1 : (ji6) ≤ (t390.length : Int))
      obtain ⟨y403, hy403⟩ : ∃ y_ : List Int, y_ = (t390.drop ((ji6) : Int).toNat) := ⟨_, rfl⟩
      replace H : (if y400.length + y403.length < 17592186044416 then (some (y400 ++ y403)) else (none)) = some r := by first | (rw [hy403]; with_reducible exact H) | (have H2_ := (Option.bind_some _ _).symm.trans H; rw [hy403]; with_reducible exact H2_) | (have H2_ := (Option.bind_some _ _).symm.trans H; with_reducible exact H2_) | with_reducible exact H | (rw [hy403]; exact H) | exact H
      have Ny403 := Ya hy403
      clear hy403
      by_cases c13 : y400.length + y403.length < 17592186044416
      ·rw [if_pos c13] at H
       have LMc13 := Ya c13
       clear c13
       obtain ⟨y407, hy407⟩ : ∃ y_ : List Int, y_ = (y400 ++ y403) := ⟨_, rfl⟩
       replace H : (some y407) = some r := by first | (rw [hy407]; with_reducible exact H) | (have H2_ := (Option.bind_some _ _).symm.trans H; rw [hy407]; with_reducible exact H2_) | (have H2_ := (Option.bind_some _ _).symm.trans H; with_reducible exact H2_) | with_reducible exact H | (rw [hy407]; exact H) | exact H
       have Ny407 := Ya hy407
       clear hy407
       obtain rfl := Option.some.inj H
       go_enter Try.func77, Try.ntmps77
       go_wp2_with (first | ((with_reducible refine gate_callee (f := 77) rfl ?_); refine Yz 15 Try.func77 #[.int .i64 (wrap64 (a0 - 1)), .int .i64 (wrap64 (Int.tdiv a1 a0))] ?_; (with_reducible refine (ih k (by omega) (wrap64 (a0 - 1)) (wrap64 (Int.tdiv a1 a0)) t390 _ A4.out).mono ?_); rintro e w14 ⟨v391, rfl, ho0, hb⟩; refine ⟨_, rfl, ?_⟩; have HO392 := Yl ho0; replace HB := Yh hb; (try clear hb ho0); obtain ⟨Ao16, co16, rfl⟩ := Z17 HO392.out; have q15 : ((ji6) : Int) ≤ ((t390.length : Int) : Int) := Z29 Q1; obtain ⟨i015, hi015, _, hsz15, _⟩ := info_parts info3; have hroom15 : t390.length ≤ co16 := (Kd.R_reads' HO392.out).2.1; have hC15 : Kd.C (Kd.int .i64) _ Ao16 t390.length t390 := (Kd.R_reads' HO392.out).2.2; have hcut15 := cut_to (P := Try.prog) 24 3 .i64 Try.underlying24 hi015 Ao16 t390.length co16 (ji6) (Z29 Q1) q15 hroom15; have hr15 := Kd.C_take (m := ((ji6) : Int).toNat) hC15 (by omega); have hy15 : y393.length = ((ji6) : Int).toNat := (by rw [Ny393.out, Z31]; omega); rw [← Ny393.out] at hr15; rw [← hy15] at hcut15; have HR396 := Ya hr15; have HC396 := Ya (show y393.length ≤ co16 from by omega); clear hr15 hC15 hroom15 hi015 hsz15; have KY15 := Ya hy15; clear hy15; have KL15 := Ya (show ((ji6) : Int).toNat ≤ t390.length from by omega); replace q15 := eq_true q15) | ((with_reducible refine gate_callee (f := 83) rfl ?_); refine Yz 31 Try.func83 #[.slice Ao16 y393.length co16] ?_; (with_reducible refine (spec_l1Own.calls _ _ y393 t397 _ ?side1 HC396.out A9.out).mono ?_); (case side1 => exact Yc (by repeat (first | (with_reducible exact HR396.out) | (with_reducible refine Z18 ?_ _) | (with_reducible refine Z19 ?_ _) | (with_reducible refine Z20 ?_) | exact HR396.out))); rintro e w17 ⟨v398, rfl, ho0, hb⟩; refine ⟨_, rfl, ?_⟩; have HO399 := Yl (Kd.R_new' ho0 (Z16 (Yr HO392.out))); replace HO392 := Ya (Kd.R_elder' (Yr HO392.out) (Kd.R_base ho0) hb); replace HR396 := Ya (Z21 (by first | (with_reducible exact HR396.out) | (with_reducible exact Z19 HR396.out _) | (with_reducible exact Z20 HR396.out) | (with_reducible exact Z18 HR396.out _) | repeat (first | (with_reducible exact HR396.out) | (with_reducible refine Z18 ?_ _) | (with_reducible refine Z19 ?_ _) | (with_reducible refine Z20 ?_) | exact HR396.out)) hb); replace HB := Yh hb; (try clear hb ho0)) | ((with_reducible refine gate_builtin (b := .append) (xs := #[.tmp 31, .tmp 34]) rfl ?_); at_builtin; refine Kd.R_append (Kd.int .i64) (w0 := w) w.heap.size rfl (.tmp 31) (.tmp 34) 24 3 (.int .i64 0) 8 rfl Try.underlying24 info3 rfl (by decide) (by omega) v398 t397 (wrap64 (a0 - 1)) [.int .i64 (wrap64 (a0 - 1))] (fun k_ => some k_ ≠ (.slice Ao16 t390.length co16 : Value).ownBlock) (fun _ => False) rfl rfl ?aP (fun _ hk => hk.elim) ?aF ?aO ?aB ?aS ?aL ?_; (case aP => exact rfl); (case aB => exact Q12); (case aF => exact (fun k_ hk => Kd.fresh' (Z16 (Yr HO392.out)) k_ hk)); (case aO => exact (Yj HO399.out (fun _ hk => hk.2))); (case aS => exact (Z7 Q12)); (case aL => have := LMc10.out; omega); intro v401 w18 ho hb hg hat; rw [← Ny400.out] at ho; replace HB := Ya hb; replace HR396 := Ya ((show Kd.C (Kd.int .i64) w18 Ao16 y393.length y393 from by rw [Ny393.out]; exact Kd.C_take (m := ((ji6) : Int).toNat) ((Kd.R_reads' (Kd.R_after (ok := (fun _ => True)) (Yr HO392.out) hg hat)).2.2) KL15.out)); replace HO392 := Ya (Kd.R_after (ok := (fun _ => True)) (Yr HO392.out) hg hat); have HO402 := Ya ho; clear HO399; clear ho hb hg hat; have q19 : ((ji6) : Int) ≤ ((t390.length : Int) : Int) := Z29 Q1; obtain ⟨i019, hi019, _, hsz19, _⟩ := info_parts info3; have hroom19 : t390.length ≤ co16 := (Kd.R_reads' HO392.out).2.1; have hC19 : Kd.C (Kd.int .i64) _ Ao16 t390.length t390 := (Kd.R_reads' HO392.out).2.2; have q019 : (0 : Int) ≤ ((ji6) : Int) := Z29 Q1; have hcut19 := cut_from (P := Try.prog) 24 3 .i64 Try.underlying24 hi019 1 hsz19 Ao16 t390.length co16 (ji6) q019 q19; have hr19 := Kd.C_drop (m := ((ji6) : Int).toNat) (c := co16) hC19 (by omega) hroom19; obtain ⟨A19, hA19⟩ : ∃ A1, A1 = (if co16 = ((ji6) : Int).toNat then Ao16 else (Ao16 : Option Addr).map (·.add (((ji6) : Int).toNat * 1))) := ⟨_, rfl⟩; obtain ⟨c19, hc19⟩ : ∃ c1, c1 = co16 - ((ji6) : Int).toNat := ⟨_, rfl⟩; have hy19 : y403.length = t390.length - ((ji6) : Int).toNat := (by rw [Ny403.out, Z30] <;> omega); rw [show (t390).drop ((ji6) : Int).toNat = y403 from Ny403.out.symm] at hr19; replace hr19 : Kd.C (Kd.int .i64) _ A19 y403.length y403 := (by rw [hA19]; exact hr19); rw [← hy19, ← hA19, ← hc19] at hcut19; have HR406 := Ya hr19; have HC406 := Ya (show y403.length ≤ c19 from by rw [hy19, hc19]; exact Nat.sub_le_sub_right hroom19 _); clear hr19 hC19 hroom19 hi019 hsz19 hc19; have KY19 := Ya hy19; have KA19 := Ya hA19; clear hy19 hA19; have KL19 := Ya (show ((ji6) : Int).toNat ≤ t390.length from by omega); replace q19 := eq_true q19) | ((with_reducible refine gate_builtin (b := .append) (xs := #[.tmp 36, .tmp 39]) rfl ?_); at_builtin; refine Kd.R_append_rows (Kd.int .i64) (w0 := w) w.heap.size rfl (.tmp 36) (.tmp 39) 24 3 (.int .i64 0) 8 rfl Try.underlying24 info3 rfl (by decide) (by omega) v401 y400 y403 _ _ _ (fun k_ => some k_ ≠ (.slice Ao16 t390.length co16 : Value).ownBlock) (fun _ => False) rfl rfl ?aO ?aR (fun _ _ h => h) (fun _ h => h.elim) ?aF ?aB ?aS ?aL ?_; (case aR => repeat (first | exact (by repeat (first | (with_reducible exact HR406.out) | (with_reducible refine Z18 ?_ _) | (with_reducible refine Z19 ?_ _) | (with_reducible refine Z20 ?_) | exact HR406.out)) | (with_reducible refine Z18 ?_ _) | (with_reducible refine Z19 ?_ _) | (with_reducible refine Z20 ?_))); (case aB => exact Q12); (case aF => exact (fun k_ hk => Kd.fresh' (Z16 (Yr HO392.out)) k_ hk)); (case aO => exact (Yr HO402.out)); (case aS => exact (Z7 Q12)); (case aL => have := LMc13.out; omega); intro v408 w20 ho hb hg hat; rw [← Ny407.out] at ho; replace HB := Ya hb; replace HR396 := Ya ((show Kd.C (Kd.int .i64) w20 Ao16 y393.length y393 from by rw [Ny393.out]; exact Kd.C_take (m := ((ji6) : Int).toNat) ((Kd.R_reads' (Kd.R_after (ok := (fun _ => True)) (Yr HO392.out) hg hat)).2.2) KL15.out)); replace HR406 := Ya ((show Kd.C (Kd.int .i64) w20 A19 y403.length y403 from by rw [Ny403.out, KA19.out]; exact Kd.C_drop (m := ((ji6) : Int).toNat) (c := co16) ((Kd.R_reads' (Kd.R_after (ok := (fun _ => True)) (Yr HO392.out) hg hat)).2.2) KL19.out ((Kd.R_reads' (Kd.R_after (ok := (fun _ => True)) (Yr HO392.out) hg hat)).2.1))); replace HO392 := Ya (Kd.R_after (ok := (fun _ => True)) (Yr HO392.out) hg hat); have HO409 := Ya ho; clear HO402; clear ho hb hg hat))
       go_ret
       exact ⟨_, Q52, Yj HO409.out (fun _ hk => trivial), Q0⟩
      ·rw [if_neg c13] at H
       exact absurd H (by simp)
     ·rw [if_neg c10] at H
      exact absurd H (by simp)
    ·rw [if_neg c8] at H
     exact absurd H (by simp)
   ·rw [if_neg c7] at H
    exact absurd H (by simp)
  ·rw [if_neg c5] at H
   have c5b0 : ((Int.tmod (wrap64 (Int.tdiv a1 a0)) 2) == 0) = false := beq_eq_false_iff_ne.mpr c5
   have c5b1 : ((Int.tmod (wrap64 (Int.tdiv a1 a0)) 2) != 0) = true := bne_iff_ne.mpr c5
   obtain ⟨ji21, hji21⟩ : ∃ j_ : Int, (Int.tmod a1 a0) = j_ := ⟨_, rfl⟩
   replace H : (if 0 ≤ (ji21) then (if (ji21) ≤ (t390.length : Int) then ((spec_l1Own.f (t390.take ((ji21) : Int).toNat)).bind fun t414 => (if t414.length < 17592186044416 then ((some (t414 ++ [wrap64 (a0 - 1)] : List Int)).bind fun y417 => ((some (t390.drop ((ji21) : Int).toNat : List Int)).bind fun y420 => (if y417.length + y420.length < 17592186044416 then (some (y417 ++ y420)) else (none)))) else (none))) else (none)) else (none)) = some r := by first | (rw [hji21] at H; exact H) | (simp only [hji21] at H ⊢; exact H)
   (try rw [hji21] at A4)
   by_cases c22 : 0 ≤ (ji21)
   ·rw [if_pos c22] at H
    have c22b0 := eq_true c22
    have c22b1 := Z37 c22
    clear c22
    by_cases c23 : (ji21) ≤ (t390.length : Int)
    ·rw [if_pos c23] at H
     have c23b0 := eq_true c23
     have c23b1 := Z37 c23
     clear c23
     obtain ⟨y410, hy410⟩ : ∃ y_ : List Int, y_ = (t390.take ((ji21) : Int).toNat) := ⟨_, rfl⟩
     replace H : ((spec_l1Own.f y410).bind fun t414 => (if t414.length < 17592186044416 then ((some (t414 ++ [wrap64 (a0 - 1)] : List Int)).bind fun y417 => ((some (t390.drop ((ji21) : Int).toNat : List Int)).bind fun y420 => (if y417.length + y420.length < 17592186044416 then (some (y417 ++ y420)) else (none)))) else (none))) = some r := by first | (rw [hy410]; with_reducible exact H) | (have H2_ := (Option.bind_some _ _).symm.trans H; rw [hy410]; with_reducible exact H2_) | (have H2_ := (Option.bind_some _ _).symm.trans H; with_reducible exact H2_) | with_reducible exact H | (rw [hy410]; exact H) | exact H
     have Ny410 := Ya hy410
     clear hy410
     replace H := Z35.mp H
     obtain ⟨t414, A240, H⟩ := H
     replace H : (if t414.length < 17592186044416 then ((some (t414 ++ [wrap64 (a0 - 1)] : List Int)).bind fun y417 => ((some (t390.drop ((ji21) : Int).toNat : List Int)).bind fun y420 => (if y417.length + y420.length < 17592186044416 then (some (y417 ++ y420)) else (none)))) else (none)) = some r := H
     have A24 := Ya A240
     clear A240
     by_cases c25 : t414.length < 17592186044416
     ·rw [if_pos c25] at H
      have LMc25 := Ya c25
      clear c25
      obtain ⟨y417, hy417⟩ : ∃ y_ : List Int, y_ = (t414 ++ [wrap64 (a0 - 1)]) := ⟨_, rfl⟩
      replace H : ((some (t390.drop ((ji21) : Int).toNat : List Int)).bind fun y420 => (if y417.length + y420.length < 17592186044416 then (some (y417 ++ y420)) else (none))) = some r := by first | (rw [hy417]; with_reducible exact H) | (have H2_ := (Option.bind_some _ _).symm.trans H; rw [hy417]; with_reducible exact H2_) | (have H2_ := (Option.bind_some _ _).symm.trans H; with_reducible exact H2_) | with_reducible exact H | (rw [hy417]; exact H) | exact H
      have Ny417 := Ya hy417
      clear hy417
      have c26b0 := eq_true (Z29 Q1 : 0 ≤ (ji21))
      have c27b0 := eq_true (Z29 Q1 : (ji21) ≤ (t390.length : Int))
      obtain ⟨y420, hy420⟩ : ∃ y_ : List Int, y_ = (t390.drop ((ji21) : Int).toNat) := ⟨_, rfl⟩
      replace H : (if y417.length + y420.length < 17592186044416 then (some (y417 ++ y420)) else (none)) = some r := by first | (rw [hy420]; with_reducible exact H) | (have H2_ := (Option.bind_some _ _).symm.trans H; rw [hy420]; with_reducible exact H2_) | (have H2_ := (Option.bind_some _ _).symm.trans H; with_reducible exact H2_) | with_reducible exact H | (rw [hy420]; exact H) | exact H
      have Ny420 := Ya hy420
      clear hy420
      by_cases c28 : y417.length + y420.length < 17592186044416
      ·rw [if_pos c28] at H
       have LMc28 := Ya c28
       clear c28
       obtain ⟨y424, hy424⟩ : ∃ y_ : List Int, y_ = (y417 ++ y420) := ⟨_, rfl⟩
       replace H : (some y424) = some r := by first | (rw [hy424]; with_reducible exact H) | (have H2_ := (Option.bind_some _ _).symm.trans H; rw [hy424]; with_reducible exact H2_) | (have H2_ := (Option.bind_some _ _).symm.trans H; with_reducible exact H2_) | with_reducible exact H | (rw [hy424]; exact H) | exact H
       have Ny424 := Ya hy424
       clear hy424
       obtain rfl := Option.some.inj H
       go_enter Try.func77, Try.ntmps77
       go_wp2_with (first | ((with_reducible refine gate_callee (f := 77) rfl ?_); refine Yz 15 Try.func77 #[.int .i64 (wrap64 (a0 - 1)), .int .i64 (wrap64 (Int.tdiv a1 a0))] ?_; (with_reducible refine (ih k (by omega) (wrap64 (a0 - 1)) (wrap64 (Int.tdiv a1 a0)) t390 _ A4.out).mono ?_); rintro e w29 ⟨v391, rfl, ho0, hb⟩; refine ⟨_, rfl, ?_⟩; have HO392 := Yl ho0; replace HB := Yh hb; (try clear hb ho0); obtain ⟨Ao31, co31, rfl⟩ := Z17 HO392.out; have q30 : ((ji21) : Int) ≤ ((t390.length : Int) : Int) := Z29 Q1; obtain ⟨i030, hi030, _, hsz30, _⟩ := info_parts info3; have hroom30 : t390.length ≤ co31 := (Kd.R_reads' HO392.out).2.1; have hC30 : Kd.C (Kd.int .i64) _ Ao31 t390.length t390 := (Kd.R_reads' HO392.out).2.2; have hcut30 := cut_to (P := Try.prog) 24 3 .i64 Try.underlying24 hi030 Ao31 t390.length co31 (ji21) (Z29 Q1) q30 hroom30; have hr30 := Kd.C_take (m := ((ji21) : Int).toNat) hC30 (by omega); have hy30 : y410.length = ((ji21) : Int).toNat := (by rw [Ny410.out, Z31]; omega); rw [← Ny410.out] at hr30; rw [← hy30] at hcut30; have HR413 := Ya hr30; have HC413 := Ya (show y410.length ≤ co31 from by omega); clear hr30 hC30 hroom30 hi030 hsz30; have KY30 := Ya hy30; clear hy30; have KL30 := Ya (show ((ji21) : Int).toNat ≤ t390.length from by omega); replace q30 := eq_true q30) | ((with_reducible refine gate_callee (f := 83) rfl ?_); refine Yz 31 Try.func83 #[.slice Ao31 y410.length co31] ?_; (with_reducible refine (spec_l1Own.calls _ _ y410 t414 _ ?side1 HC413.out A24.out).mono ?_); (case side1 => exact Yc (by repeat (first | (with_reducible exact HR413.out) | (with_reducible refine Z18 ?_ _) | (with_reducible refine Z19 ?_ _) | (with_reducible refine Z20 ?_) | exact HR413.out))); rintro e w32 ⟨v415, rfl, ho0, hb⟩; refine ⟨_, rfl, ?_⟩; have HO416 := Yl (Kd.R_new' ho0 (Z16 (Yr HO392.out))); replace HO392 := Ya (Kd.R_elder' (Yr HO392.out) (Kd.R_base ho0) hb); replace HR413 := Ya (Z21 (by first | (with_reducible exact HR413.out) | (with_reducible exact Z19 HR413.out _) | (with_reducible exact Z20 HR413.out) | (with_reducible exact Z18 HR413.out _) | repeat (first | (with_reducible exact HR413.out) | (with_reducible refine Z18 ?_ _) | (with_reducible refine Z19 ?_ _) | (with_reducible refine Z20 ?_) | exact HR413.out)) hb); replace HB := Yh hb; (try clear hb ho0)) | ((with_reducible refine gate_builtin (b := .append) (xs := #[.tmp 31, .tmp 34]) rfl ?_); at_builtin; refine Kd.R_append (Kd.int .i64) (w0 := w) w.heap.size rfl (.tmp 31) (.tmp 34) 24 3 (.int .i64 0) 8 rfl Try.underlying24 info3 rfl (by decide) (by omega) v415 t414 (wrap64 (a0 - 1)) [.int .i64 (wrap64 (a0 - 1))] (fun k_ => some k_ ≠ (.slice Ao31 t390.length co31 : Value).ownBlock) (fun _ => False) rfl rfl ?aP (fun _ hk => hk.elim) ?aF ?aO ?aB ?aS ?aL ?_; (case aP => exact rfl); (case aB => exact Q12); (case aF => exact (fun k_ hk => Kd.fresh' (Z16 (Yr HO392.out)) k_ hk)); (case aO => exact (Yj HO416.out (fun _ hk => hk.2))); (case aS => exact (Z7 Q12)); (case aL => have := LMc25.out; omega); intro v418 w33 ho hb hg hat; rw [← Ny417.out] at ho; replace HB := Ya hb; replace HR413 := Ya ((show Kd.C (Kd.int .i64) w33 Ao31 y410.length y410 from by rw [Ny410.out]; exact Kd.C_take (m := ((ji21) : Int).toNat) ((Kd.R_reads' (Kd.R_after (ok := (fun _ => True)) (Yr HO392.out) hg hat)).2.2) KL30.out)); replace HO392 := Ya (Kd.R_after (ok := (fun _ => True)) (Yr HO392.out) hg hat); have HO419 := Ya ho; clear HO416; clear ho hb hg hat; have q34 : ((ji21) : Int) ≤ ((t390.length : Int) : Int) := Z29 Q1; obtain ⟨i034, hi034, _, hsz34, _⟩ := info_parts info3; have hroom34 : t390.length ≤ co31 := (Kd.R_reads' HO392.out).2.1; have hC34 : Kd.C (Kd.int .i64) _ Ao31 t390.length t390 := (Kd.R_reads' HO392.out).2.2; have q034 : (0 : Int) ≤ ((ji21) : Int) := Z29 Q1; have hcut34 := cut_from (P := Try.prog) 24 3 .i64 Try.underlying24 hi034 1 hsz34 Ao31 t390.length co31 (ji21) q034 q34; have hr34 := Kd.C_drop (m := ((ji21) : Int).toNat) (c := co31) hC34 (by omega) hroom34; obtain ⟨A34, hA34⟩ : ∃ A1, A1 = (if co31 = ((ji21) : Int).toNat then Ao31 else (Ao31 : Option Addr).map (·.add (((ji21) : Int).toNat * 1))) := ⟨_, rfl⟩; obtain ⟨c34, hc34⟩ : ∃ c1, c1 = co31 - ((ji21) : Int).toNat := ⟨_, rfl⟩; have hy34 : y420.length = t390.length - ((ji21) : Int).toNat := (by rw [Ny420.out, Z30] <;> omega); rw [show (t390).drop ((ji21) : Int).toNat = y420 from Ny420.out.symm] at hr34; replace hr34 : Kd.C (Kd.int .i64) _ A34 y420.length y420 := (by rw [hA34]; exact hr34); rw [← hy34, ← hA34, ← hc34] at hcut34; have HR423 := Ya hr34; have HC423 := Ya (show y420.length ≤ c34 from by rw [hy34, hc34]; exact Nat.sub_le_sub_right hroom34 _); clear hr34 hC34 hroom34 hi034 hsz34 hc34; have KY34 := Ya hy34; have KA34 := Ya hA34; clear hy34 hA34; have KL34 := Ya (show ((ji21) : Int).toNat ≤ t390.length from by omega); replace q34 := eq_true q34) | ((with_reducible refine gate_builtin (b := .append) (xs := #[.tmp 36, .tmp 39]) rfl ?_); at_builtin; refine Kd.R_append_rows (Kd.int .i64) (w0 := w) w.heap.size rfl (.tmp 36) (.tmp 39) 24 3 (.int .i64 0) 8 rfl Try.underlying24 info3 rfl (by decide) (by omega) v418 y417 y420 _ _ _ (fun k_ => some k_ ≠ (.slice Ao31 t390.length co31 : Value).ownBlock) (fun _ => False) rfl rfl ?aO ?aR (fun _ _ h => h) (fun _ h => h.elim) ?aF ?aB ?aS ?aL ?_; (case aR => repeat (first | exact (by repeat (first | (with_reducible exact HR423.out) | (with_reducible refine Z18 ?_ _) | (with_reducible refine Z19 ?_ _) | (with_reducible refine Z20 ?_) | exact HR423.out)) | (with_reducible refine Z18 ?_ _) | (with_reducible refine Z19 ?_ _) | (with_reducible refine Z20 ?_))); (case aB => exact Q12); (case aF => exact (fun k_ hk => Kd.fresh' (Z16 (Yr HO392.out)) k_ hk)); (case aO => exact (Yr HO419.out)); (case aS => exact (Z7 Q12)); (case aL => have := LMc28.out; omega); intro v425 w35 ho hb hg hat; rw [← Ny424.out] at ho; replace HB := Ya hb; replace HR413 := Ya ((show Kd.C (Kd.int .i64) w35 Ao31 y410.length y410 from by rw [Ny410.out]; exact Kd.C_take (m := ((ji21) : Int).toNat) ((Kd.R_reads' (Kd.R_after (ok := (fun _ => True)) (Yr HO392.out) hg hat)).2.2) KL30.out)); replace HR423 := Ya ((show Kd.C (Kd.int .i64) w35 A34 y420.length y420 from by rw [Ny420.out, KA34.out]; exact Kd.C_drop (m := ((ji21) : Int).toNat) (c := co31) ((Kd.R_reads' (Kd.R_after (ok := (fun _ => True)) (Yr HO392.out) hg hat)).2.2) KL34.out ((Kd.R_reads' (Kd.R_after (ok := (fun _ => True)) (Yr HO392.out) hg hat)).2.1))); replace HO392 := Ya (Kd.R_after (ok := (fun _ => True)) (Yr HO392.out) hg hat); have HO426 := Ya ho; clear HO419; clear ho hb hg hat))
       go_ret
       exact ⟨_, by first | rfl | (simp [errW_none, errW_some] <;> rfl) | (simp only [← hji21]; first | rfl | (simp [errW_none, errW_some] <;> rfl)) | (simp [*, errW_none, errW_some] <;> rfl), Yj HO426.out (fun _ hk => trivial), Q0⟩
      ·rw [if_neg c28] at H
       exact absurd H (by simp)
     ·rw [if_neg c25] at H
      exact absurd H (by simp)
    ·rw [if_neg c23] at H
     exact absurd H (by simp)
   ·rw [if_neg c22] at H
    exact absurd H (by simp)
end Go.Proofs.Ytllhnnjkonghlaa.MFnGreedyLists
