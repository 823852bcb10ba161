import Derived.Test.YtllhnnjkonghlaaMFnGreedyListsx0
import Derived.Test.YtllhnnjkonghlaaMFnGreedyListsx4
import Derived.Test.YtllhnnjkonghlaaMFnGreedyListsx5
import Derived.Test.YtllhnnjkonghlaaMFnGreedyListsx6
import Derived.Test.YtllhnnjkonghlaaMFnGreedyListsx7
import Derived.Test.YtllhnnjkonghlaaMFnGreedyListsx8
namespace Go.Proofs.Ytllhnnjkonghlaa.MFnGreedyLists
open Go.RowKit Go.Proofs.YtllhnnjkonghlaaW.PrintWords Go.Proofs.YtllhnnjkonghlaaW.PrintLast Go.Proofs.YtllhnnjkonghlaaW.PrintMore
attribute [local go_sem] max2_int min2_int max_two min_two max_three min_three max_four min_four   
set_option linter.unusedVariables false
set_option linter.unusedSimpArgs false
mutual
def spec_DrawIsMoveList.j1 : Nat → Int → List (S45) → List (List Int) → List Int → Int → Int → Option (Int × (List (List Int)) × (List (S45)))
 | 0, _, _, _, _, _, _ => none
 | k + 1, x6, x7, x8, x428000, x428001, x428002 => if (x8.length : Int) > 0 then ((spec_l1Cur_one.f x428000 x428001 x428002 8).bind fun bt458 => (spec_DrawIsMoveList.j2 k x6 x7 x8 bt458.1 x428000 bt458.2.1 bt458.2.2)) else (spec_DrawIsMoveList.j2 k x6 x7 x8 false x428000 x428001 x428002)
def spec_DrawIsMoveList.j2 : Nat → Int → List (S45) → List (List Int) → Bool → List Int → Int → Int → Option (Int × (List (List Int)) × (List (S45)))
 | 0, _, _, _, _, _, _, _ => none
 | k + 1, x6, x7, x8, x57, x428000, x428001, x428002 => if x57 = true then ((spec_l1Cur_pick.f x428000 x428001 x428002 (x8.length : Int)).bind fun bt461 => ((spec_l1Cur_order.f k x428000 bt461.2.1 bt461.2.2 x6).bind fun bt464 => (if 0 ≤ bt461.1 then (if bt461.1 < (x8.length : Int) then ((some (x8.set (bt461.1 : Int).toNat bt464.1 : List (List Int))).bind fun y469 => (if (x8.length : Int) > 0 then ((spec_l1Cur_one.f x428000 bt464.2.1 bt464.2.2 8).bind fun bt470 => (if bt470.1 = true then (if 0 ≤ (wrap64 ((x8.length : Int) - 1)) then (if (wrap64 ((x8.length : Int) - 1)) ≤ (x8.length : Int) then (some (x6, (y469.take ((wrap64 ((x8.length : Int) - 1)) : Int).toNat), x7)) else (none)) else (none)) else (some (x6, y469, x7)))) else (some (x6, y469, x7)))) else (none)) else (none)))) else (if (x8.length : Int) > 0 then ((spec_l1Cur_one.f x428000 x428001 x428002 8).bind fun bt476 => (if bt476.1 = true then (if 0 ≤ (wrap64 ((x8.length : Int) - 1)) then (if (wrap64 ((x8.length : Int) - 1)) ≤ (x8.length : Int) then (some (x6, (x8.take ((wrap64 ((x8.length : Int) - 1)) : Int).toNat), x7)) else (none)) else (none)) else (some (x6, x8, x7)))) else (some (x6, x8, x7)))
def spec_DrawIsMoveList.l0 : Nat → Int → List (S45) → List (List Int) → Int → List Int → Int → Int → Option (Int × (List (List Int)) × (List (S45)))
 | 0, _, _, _, _, _, _, _ => none
 | k + 1, x6, x7, x8, x9, x428000, x428001, x428002 => (spec_raFactorial.f k x6).bind fun t438 => (if x9 < t438 then ((spec_moTrotter.f k x6 x9).bind fun t439 => (if x8.length < 5864062014805 then (spec_DrawIsMoveList.l0 k x6 x7 (x8 ++ [t439]) (wrap64 (x9 + 1)) x428000 x428001 x428002) else (none))) else (spec_DrawIsMoveList.j1 k x6 x7 x8 x428000 x428001 x428002))
end
def spec_DrawIsMoveList.f (k : Nat) (l0 : List Int) : Option (Int × (List (List Int)) × (List (S45))) := (spec_l1Cur_moves.f k l0 0 0).bind fun bt428 => ((spec_l1In.f bt428.1 1 4).bind fun t434 => (if t434 = true then ((spec_l1Cur_one.f l0 bt428.2.2.1 bt428.2.2.2 2).bind fun bt435 => (if bt435.1 = true then (spec_DrawIsMoveList.l0 k bt428.1 bt428.2.1 ([] : List (List Int)) 0 l0 bt435.2.1 bt435.2.2) else ((spec_moTask.f k bt428.1 bt428.2.1).bind fun t445 => (if t445 = true then ((spec_GreedyList.f k bt428.1 bt428.2.1).bind fun bt446 => (spec_DrawIsMoveList.j1 k bt428.1 bt428.2.1 bt446.1 l0 bt435.2.1 bt435.2.2)) else (spec_DrawIsMoveList.j1 k bt428.1 bt428.2.1 ([] : List (List Int)) l0 bt435.2.1 bt435.2.2))))) else ((spec_l1Cur_order.f k l0 bt428.2.2.1 bt428.2.2.2 bt428.1).bind fun bt450 => (spec_DrawIsMoveList.j1 k bt428.1 bt428.2.1 (([bt450.1] : List (List Int))) l0 bt450.2.1 bt450.2.2))))
theorem spec_DrawIsMoveList.mono_l : ∀ k, (∀ y0 y1 y2 y3 y4 y5, LeO (spec_DrawIsMoveList.j1 k y0 y1 y2 y3 y4 y5) (spec_DrawIsMoveList.j1 (k + 1) y0 y1 y2 y3 y4 y5)) ∧ (∀ y0 y1 y2 y3 y4 y5 y6, LeO (spec_DrawIsMoveList.j2 k y0 y1 y2 y3 y4 y5 y6) (spec_DrawIsMoveList.j2 (k + 1) y0 y1 y2 y3 y4 y5 y6)) ∧ (∀ y0 y1 y2 y3 y4 y5 y6, LeO (spec_DrawIsMoveList.l0 k y0 y1 y2 y3 y4 y5 y6) (spec_DrawIsMoveList.l0 (k + 1) y0 y1 y2 y3 y4 y5 y6))
 | 0 => ⟨fun _ _ _ _ _ _ r h => by simp [spec_DrawIsMoveList.j1] at h, fun _ _ _ _ _ _ _ r h => by simp [spec_DrawIsMoveList.j2] at h, fun _ _ _ _ _ _ _ r h => by simp [spec_DrawIsMoveList.l0] at h⟩
 | k + 1 => by
  obtain ⟨ih0, ih1, ih2⟩ := spec_DrawIsMoveList.mono_l k
  refine ⟨?_, ?_, ?_⟩
  ·intro y0 y1 y2 y3 y4 y5
   unfold spec_DrawIsMoveList.j1
   repeat' first
   | (with_reducible exact ih0 _ _ _ _ _ _)
   | (with_reducible exact ih1 _ _ _ _ _ _ _)
   | (with_reducible exact ih2 _ _ _ _ _ _ _)
   | (with_reducible exact spec_GreedyList.mono _ _ _)
   | (with_reducible exact spec_l1Cur_moves.mono _ _ _ _)
   | (with_reducible exact spec_l1Cur_order.mono _ _ _ _ _)
   | (with_reducible exact spec_moTask.mono _ _ _)
   | (with_reducible exact spec_moTrotter.mono _ _ _)
   | (with_reducible exact spec_raFactorial.mono _ _)
   | (with_reducible exact LeO.refl _)
   | (with_reducible exact LeO.none _)
   | (with_reducible refine LeO.ite ?_ ?_)
   | (with_reducible refine LeO.bind ?_ (fun _ => ?_))
   | exact ih0 _ _ _ _ _ _
   | exact ih1 _ _ _ _ _ _ _
   | exact ih2 _ _ _ _ _ _ _
   | exact spec_GreedyList.mono _ _ _
   | exact spec_l1Cur_moves.mono _ _ _ _
   | exact spec_l1Cur_order.mono _ _ _ _ _
   | exact spec_moTask.mono _ _ _
   | exact spec_moTrotter.mono _ _ _
   | exact spec_raFactorial.mono _ _
   | exact LeO.none _
   | refine LeO.ite ?_ ?_
   | refine LeO.bind ?_ (fun _ => ?_)
  ·intro y0 y1 y2 y3 y4 y5 y6
   unfold spec_DrawIsMoveList.j2
   repeat' first
   | (with_reducible exact ih0 _ _ _ _ _ _)
   | (with_reducible exact ih1 _ _ _ _ _ _ _)
   | (with_reducible exact ih2 _ _ _ _ _ _ _)
   | (with_reducible exact spec_GreedyList.mono _ _ _)
   | (with_reducible exact spec_l1Cur_moves.mono _ _ _ _)
   | (with_reducible exact spec_l1Cur_order.mono _ _ _ _ _)
   | (with_reducible exact spec_moTask.mono _ _ _)
   | (with_reducible exact spec_moTrotter.mono _ _ _)
   | (with_reducible exact spec_raFactorial.mono _ _)
   | (with_reducible exact LeO.refl _)
   | (with_reducible exact LeO.none _)
   | (with_reducible refine LeO.ite ?_ ?_)
   | (with_reducible refine LeO.bind ?_ (fun _ => ?_))
   | exact ih0 _ _ _ _ _ _
   | exact ih1 _ _ _ _ _ _ _
   | exact ih2 _ _ _ _ _ _ _
   | exact spec_GreedyList.mono _ _ _
   | exact spec_l1Cur_moves.mono _ _ _ _
   | exact spec_l1Cur_order.mono _ _ _ _ _
   | exact spec_moTask.mono _ _ _
   | exact spec_moTrotter.mono _ _ _
   | exact spec_raFactorial.mono _ _
   | exact LeO.none _
   | refine LeO.ite ?_ ?_
   | refine LeO.bind ?_ (fun _ => ?_)
  ·intro y0 y1 y2 y3 y4 y5 y6
   unfold spec_DrawIsMoveList.l0
   repeat' first
   | (with_reducible exact ih0 _ _ _ _ _ _)
   | (with_reducible exact ih1 _ _ _ _ _ _ _)
   | (with_reducible exact ih2 _ _ _ _ _ _ _)
   | (with_reducible exact spec_GreedyList.mono _ _ _)
   | (with_reducible exact spec_l1Cur_moves.mono _ _ _ _)
   | (with_reducible exact spec_l1Cur_order.mono _ _ _ _ _)
   | (with_reducible exact spec_moTask.mono _ _ _)
   | (with_reducible exact spec_moTrotter.mono _ _ _)
   | (with_reducible exact spec_raFactorial.mono _ _)
   | (with_reducible exact LeO.refl _)
   | (with_reducible exact LeO.none _)
   | (with_reducible refine LeO.ite ?_ ?_)
   | (with_reducible refine LeO.bind ?_ (fun _ => ?_))
   | exact ih0 _ _ _ _ _ _
   | exact ih1 _ _ _ _ _ _ _
   | exact ih2 _ _ _ _ _ _ _
   | exact spec_GreedyList.mono _ _ _
   | exact spec_l1Cur_moves.mono _ _ _ _
   | exact spec_l1Cur_order.mono _ _ _ _ _
   | exact spec_moTask.mono _ _ _
   | exact spec_moTrotter.mono _ _ _
   | exact spec_raFactorial.mono _ _
   | exact LeO.none _
   | refine LeO.ite ?_ ?_
   | refine LeO.bind ?_ (fun _ => ?_)
theorem spec_DrawIsMoveList.mono : ∀ a0 k, LeO (spec_DrawIsMoveList.f k a0) (spec_DrawIsMoveList.f (k + 1) a0) := by
 intro a0 k
 obtain ⟨ih0, ih1, ih2⟩ := spec_DrawIsMoveList.mono_l k
 unfold spec_DrawIsMoveList.f
 repeat' first
   | (with_reducible exact ih0 _ _ _ _ _ _)
   | (with_reducible exact ih1 _ _ _ _ _ _ _)
   | (with_reducible exact ih2 _ _ _ _ _ _ _)
   | (with_reducible exact spec_GreedyList.mono _ _ _)
   | (with_reducible exact spec_l1Cur_moves.mono _ _ _ _)
   | (with_reducible exact spec_l1Cur_order.mono _ _ _ _ _)
   | (with_reducible exact spec_moTask.mono _ _ _)
   | (with_reducible exact spec_moTrotter.mono _ _ _)
   | (with_reducible exact spec_raFactorial.mono _ _)
   | (with_reducible exact LeO.refl _)
   | (with_reducible exact LeO.none _)
   | (with_reducible refine LeO.ite ?_ ?_)
   | (with_reducible refine LeO.bind ?_ (fun _ => ?_))
   | exact ih0 _ _ _ _ _ _
   | exact ih1 _ _ _ _ _ _ _
   | exact ih2 _ _ _ _ _ _ _
   | exact spec_GreedyList.mono _ _ _
   | exact spec_l1Cur_moves.mono _ _ _ _
   | exact spec_l1Cur_order.mono _ _ _ _ _
   | exact spec_moTask.mono _ _ _
   | exact spec_moTrotter.mono _ _ _
   | exact spec_raFactorial.mono _ _
   | exact LeO.none _
   | refine LeO.ite ?_ ?_
   | refine LeO.bind ?_ (fun _ => ?_)
set_option maxHeartbeats 8000000 in
set_option maxRecDepth 100000 in
theorem spec_DrawIsMoveList.calls (k : Nat) (A0 : Option Addr) (c0 : Nat) (l0 : List Int) (r1 : Int) (r2 : List (List Int)) (r3 : List (S45)) (w : World) (hr0 : Kd.C (Kd.int .u8) w A0 l0.length l0) (hc0 : l0.length ≤ c0) (h : spec_DrawIsMoveList.f k l0 = some (r1, r2, r3)) :
  Calls Try.prog 38 #[.slice A0 l0.length c0] w fun e w' => ∃ v1_ v2_ : Value, e = .returned (.tuple #[.int .i64 r1, v1_, v2_]) ∧ Kd.N (Kd.slice 3 (Kd.int .i64)) 24 w' w.heap.size (fun k_ => (w.heap.size ≤ k_) ∧ some k_ ≠ (v2_ : Value).ownBlock) v1_ r2 ∧ Kd.R k45 45 w' w.heap.size (fun k_ => (w.heap.size ≤ k_)) v2_ r3 ∧ Below w.heap.size w w' := by
 have hu88 := Try.underlying88
 have HR0 := Ya hr0
 have HC0 := Ya hc0
 clear hr0 hc0
 have HB := Ya (Below.refl w.heap.size w)
 have H : ((spec_l1Cur_moves.f k l0 0 0).bind fun bt428 => ((spec_l1In.f bt428.1 1 4).bind fun t434 => (if t434 = true then ((spec_l1Cur_one.f l0 bt428.2.2.1 bt428.2.2.2 2).bind fun bt435 => (if bt435.1 = true then (spec_DrawIsMoveList.l0 k bt428.1 bt428.2.1 ([] : List (List Int)) 0 l0 bt435.2.1 bt435.2.2) else ((spec_moTask.f k bt428.1 bt428.2.1).bind fun t445 => (if t445 = true then ((spec_GreedyList.f k bt428.1 bt428.2.1).bind fun bt446 => (spec_DrawIsMoveList.j1 k bt428.1 bt428.2.1 bt446.1 l0 bt435.2.1 bt435.2.2)) else (spec_DrawIsMoveList.j1 k bt428.1 bt428.2.1 ([] : List (List Int)) l0 bt435.2.1 bt435.2.2))))) else ((spec_l1Cur_order.f k l0 bt428.2.2.1 bt428.2.2.2 bt428.1).bind fun bt450 => (spec_DrawIsMoveList.j1 k bt428.1 bt428.2.1 (([bt450.1] : List (List Int))) l0 bt450.2.1 bt450.2.2))))) = some (r1, r2, r3) := h
 clear h
 replace H := Z35.mp H
 obtain ⟨⟨t428, t429, t432, t433⟩, A20, H⟩ := H
 replace H : ((spec_l1In.f t428 1 4).bind fun t434 => (if t434 = true then ((spec_l1Cur_one.f l0 t432 t433 2).bind fun bt435 => (if bt435.1 = true then (spec_DrawIsMoveList.l0 k t428 t429 ([] : List (List Int)) 0 l0 bt435.2.1 bt435.2.2) else ((spec_moTask.f k t428 t429).bind fun t445 => (if t445 = true then ((spec_GreedyList.f k t428 t429).bind fun bt446 => (spec_DrawIsMoveList.j1 k t428 t429 bt446.1 l0 bt435.2.1 bt435.2.2)) else (spec_DrawIsMoveList.j1 k t428 t429 ([] : List (List Int)) l0 bt435.2.1 bt435.2.2))))) else ((spec_l1Cur_order.f k l0 t432 t433 t428).bind fun bt450 => (spec_DrawIsMoveList.j1 k t428 t429 (([bt450.1] : List (List Int))) l0 bt450.2.1 bt450.2.2)))) = some (r1, r2, r3) := H
 have A2 := Ya A20
 clear A20
 have HC3 := Ya H
 clear H
 go_enter Try.func38, Try.ntmps38
 go_upto_block 0 with (first | ((with_reducible refine gate_dst (N := 12) rfl ?_); refine Yx 12 #[.slice A0 l0.length c0, .int .i64 0, .int .u64 0] 88 ?_; intro gb427 hg w4 hbox hb; have HI427 := Ya ((show IsS88 w w4 gb427 l0 0 0 from ⟨_, _, hbox, (by rw [hg]; exact (Z7 Q12) : w.heap.size ≤ gb427), HR0.out⟩)); replace HB := Yh hb; clear hb hbox hg) | ((with_reducible refine gate_callee (f := 64) rfl ?_); refine Yz 15 Try.func64 #[.pointer (some ⟨gb427, 0, none⟩)] ?_; (with_reducible refine (spec_l1Cur_moves.calls k gb427 l0 0 0 t428 t429 t432 t433 w _ ?side1 ?side2 A2.out).mono ?_); (case side1 => repeat (first | (with_reducible first | exact HI427.out | apply IsS88.alloc | apply IsS88.drewN | apply IsS88.drew | apply IsS88.set_1 | apply IsS88.set_2) | exact HI427.out)); (case side2 => repeat (first | (with_reducible first | exact HB.out | apply Z5 | apply Z3 | apply Z4 | refine Z6 ?_ (IsS88.ge HI427.out)) | exact HB.out)); rintro e w5 ⟨v430, rfl, ho0, hi, hb, hk⟩; refine ⟨_, rfl, ?_⟩; have HO431 := Ya (Kd.R_lower (Kd.R_newM (M := fun k_ => (w.heap.size ≤ k_)) ho0 (Z7 Q8) (fun k_ h_ => h_)) (Z7 Q8)); replace HB := Ya hb; replace HI427 := Ya hi; (try clear hb hk hi ho0)))
 (try simp only [Act.put, Z0, Z1, Z2])
 go_cut [8] (fun v8 wc => ∃ (kq : Nat) (x8_2 : List (List Int)) (x428001_2 : Int) (x428002_2 : Int), Aside0 (spec_DrawIsMoveList.j1 kq t428 t429 x8_2 l0 x428001_2 x428002_2 = some (r1, r2, r3)) ∧ Aside0 (kq ≤ k) ∧ Aside0 (Kd.R k45 45 wc w.heap.size (fun k_ => (w.heap.size ≤ k_)) v430 t429) ∧ Aside0 (Kd.N (Kd.slice 3 (Kd.int .i64)) 24 wc w.heap.size (fun k_ => (w.heap.size ≤ k_) ∧ some k_ ≠ (v430 : Value).ownBlock ∧ k_ ≠ gb427) v8 x8_2) ∧ Aside0 (IsS88 w wc gb427 l0 x428001_2 x428002_2) ∧ Aside0 (Below w.heap.size w wc))
 case first =>
  have H := HC3.out
  clear HC3
  replace H := Z35.mp H
  obtain ⟨t434, A60, H⟩ := H
  replace H : (if t434 = true then ((spec_l1Cur_one.f l0 t432 t433 2).bind fun bt435 => (if bt435.1 = true then (spec_DrawIsMoveList.l0 k t428 t429 ([] : List (List Int)) 0 l0 bt435.2.1 bt435.2.2) else ((spec_moTask.f k t428 t429).bind fun t445 => (if t445 = true then ((spec_GreedyList.f k t428 t429).bind fun bt446 => (spec_DrawIsMoveList.j1 k t428 t429 bt446.1 l0 bt435.2.1 bt435.2.2)) else (spec_DrawIsMoveList.j1 k t428 t429 ([] : List (List Int)) l0 bt435.2.1 bt435.2.2))))) else ((spec_l1Cur_order.f k l0 t432 t433 t428).bind fun bt450 => (spec_DrawIsMoveList.j1 k t428 t429 (([bt450.1] : List (List Int))) l0 bt450.2.1 bt450.2.2))) = some (r1, r2, r3) := H
  have A6 := Ya A60
  clear A60
  by_cases c7 : t434 = true
  ·subst c7
   have H1 : ((spec_l1Cur_one.f l0 t432 t433 2).bind fun bt435 => (if bt435.1 = true then (spec_DrawIsMoveList.l0 k t428 t429 ([] : List (List Int)) 0 l0 bt435.2.1 bt435.2.2) else ((spec_moTask.f k t428 t429).bind fun t445 => (if t445 = true then ((spec_GreedyList.f k t428 t429).bind fun bt446 => (spec_DrawIsMoveList.j1 k t428 t429 bt446.1 l0 bt435.2.1 bt435.2.2)) else (spec_DrawIsMoveList.j1 k t428 t429 ([] : List (List Int)) l0 bt435.2.1 bt435.2.2))))) = some (r1, r2, r3) := by rw [if_pos rfl] at H; exact H
   clear H
   have H := H1
   clear H1
   replace H := Z35.mp H
   obtain ⟨⟨t435, t436, t437⟩, A80, H⟩ := H
   replace H : (if t435 = true then (spec_DrawIsMoveList.l0 k t428 t429 ([] : List (List Int)) 0 l0 t436 t437) else ((spec_moTask.f k t428 t429).bind fun t445 => (if t445 = true then ((spec_GreedyList.f k t428 t429).bind fun bt446 => (spec_DrawIsMoveList.j1 k t428 t429 bt446.1 l0 t436 t437)) else (spec_DrawIsMoveList.j1 k t428 t429 ([] : List (List Int)) l0 t436 t437)))) = some (r1, r2, r3) := H
   have A8 := Ya A80
   clear A80
   by_cases c9 : t435 = true
   ·subst c9
    have H1 : (spec_DrawIsMoveList.l0 k t428 t429 ([] : List (List Int)) 0 l0 t436 t437) = some (r1, r2, r3) := by rw [if_pos rfl] at H; exact H
    clear H
    have H := H1
    clear H1
    have H' := Ya H
    clear H
    go_wp2_with (first | ((with_reducible refine gate_callee (f := 42) rfl ?_); refine Yz 20 Try.func42 #[.int .i64 t428, .int .i64 1, .int .i64 4] ?_; (with_reducible refine (spec_l1In.calls t428 1 4 true _ A6.out).mono ?_); rintro e w' ⟨rfl, ⟨nd, rfl⟩⟩; refine ⟨_, rfl, ?_⟩) | ((with_reducible refine gate_callee (f := 70) rfl ?_); refine Yz 28 Try.func70 #[.pointer (some ⟨gb427, 0, none⟩), .int .i64 2] ?_; (with_reducible refine (spec_l1Cur_one.calls gb427 l0 t432 t433 2 true t436 t437 w _ ?side1 ?side2 A8.out).mono ?_); (case side1 => repeat (first | (with_reducible first | exact HI427.out | apply IsS88.alloc | apply IsS88.drewN | apply IsS88.drew | apply IsS88.set_1 | apply IsS88.set_2) | exact HI427.out)); (case side2 => repeat (first | (with_reducible first | exact HB.out | apply Z5 | apply Z3 | apply Z4 | refine Z6 ?_ (IsS88.ge HI427.out)) | exact HB.out)); rintro e w10 ⟨rfl, hi, hb, hk⟩; refine ⟨_, rfl, ?_⟩; replace HO431 := Ya (Z12 (Kd.R_keep (IsS88.apart (show IsS88 w _ gb427 l0 t432 t433 from by repeat (first | (with_reducible first | exact HI427.out | apply IsS88.alloc | apply IsS88.drewN | apply IsS88.drew | apply IsS88.set_1 | apply IsS88.set_2) | exact HI427.out)) (Yr HO431.out) (by decide)) hk (fun _ h => h.2)) (fun _ h => h.1)); replace HB := Ya hb; replace HI427 := Ya hi; (try clear hb hk hi)))
    go_loopg [8, 9] k (fun kq v8 v9 w' => ∃ (x8_1 : List (List Int)) (x9_1 : Int), v9 = .int .i64 x9_1 ∧ Aside0 (spec_DrawIsMoveList.l0 kq t428 t429 x8_1 x9_1 l0 t436 t437 = some (r1, r2, r3)) ∧ Aside0 (kq ≤ k) ∧ Aside0 (Kd.R k45 45 w' w.heap.size (fun k_ => (w.heap.size ≤ k_)) v430 t429) ∧ Aside0 (Kd.N (Kd.slice 3 (Kd.int .i64)) 24 w' w.heap.size (fun k_ => (w.heap.size ≤ k_) ∧ some k_ ≠ (v430 : Value).ownBlock ∧ k_ ≠ gb427) v8 x8_1) ∧ Aside0 (IsS88 w w' gb427 l0 t436 t437) ∧ Aside0 (Below w.heap.size w w'))
    case atStart => exact ⟨(([] : List (List Int))), (0), Q5, H', ⟨Nat.le_refl _⟩, ⟨Yj HO431.out (fun _ hk => hk.1)⟩, ⟨Q45⟩, ⟨Q24⟩, ⟨Q19⟩⟩
    case round =>
     clear H'
     try clear p2
     try clear c3
     try clear c4
     try clear c6
     try clear c7
     try clear c9
     obtain ⟨x8_1, x9_1, rfl, HA, HK1, HO_7, HO_8, HI427, HB⟩ := hrel
     cases gk with
     | zero => exact absurd HA.out (by simp [spec_DrawIsMoveList.l0])
     | succ k1 =>
      have H := HA.out
      clear HA
      simp only [spec_DrawIsMoveList.l0] at H
      replace H := Z35.mp H
      obtain ⟨t438, A110, H⟩ := H
      replace H : (if x9_1 < t438 then ((spec_moTrotter.f k1 t428 x9_1).bind fun t439 => (if x8_1.length < 5864062014805 then (spec_DrawIsMoveList.l0 k1 t428 t429 (x8_1 ++ [t439]) (wrap64 (x9_1 + 1)) l0 t436 t437) else (none))) else (spec_DrawIsMoveList.j1 k1 t428 t429 x8_1 l0 t436 t437)) = some (r1, r2, r3) := H
      have A11 := Ya A110
      clear A110
      by_cases c12 : x9_1 < t438
      ·rw [if_pos c12] at H
       have c12b0 := Z37 c12
       clear c12
       (first | rw [c12b0] | (simp only [i64_w, i32_w]; rw [c12b0]) | skip)
       replace H := Z35.mp H
       obtain ⟨t439, A130, H⟩ := H
       replace H : (if x8_1.length < 5864062014805 then (spec_DrawIsMoveList.l0 k1 t428 t429 (x8_1 ++ [t439]) (wrap64 (x9_1 + 1)) l0 t436 t437) else (none)) = some (r1, r2, r3) := H
       have A13 := Ya A130
       clear A130
       by_cases c14 : x8_1.length < 5864062014805
       ·rw [if_pos c14] at H
        have LMc14 := Ya c14
        clear c14
        obtain ⟨y442, hy442⟩ : ∃ y_ : List (List Int), y_ = (x8_1 ++ [t439]) := ⟨_, rfl⟩
        replace H : (spec_DrawIsMoveList.l0 k1 t428 t429 y442 (wrap64 (x9_1 + 1)) l0 t436 t437) = some (r1, r2, r3) := by first | (rw [hy442]; with_reducible exact H) | (have H2_ := (Option.bind_some _ _).symm.trans H; rw [hy442]; with_reducible exact H2_) | (have H2_ := (Option.bind_some _ _).symm.trans H; with_reducible exact H2_) | with_reducible exact H | (rw [hy442]; exact H) | exact H
        have Ny442 := Ya hy442
        clear hy442
        have H' := Ya H
        clear H
        go_wp2_with (first | ((with_reducible refine gate_callee (f := 43) rfl ?_); refine Yz 31 Try.func43 #[.int .i64 t428] ?_; (with_reducible refine (spec_raFactorial.calls k1 t428 t438 _ A11.out).mono ?_); rintro e w' ⟨rfl, ⟨nd, rfl⟩⟩; refine ⟨_, rfl, ?_⟩) | ((with_reducible refine gate_callee (f := 77) rfl ?_); refine Yz 38 Try.func77 #[.int .i64 t428, .int .i64 x9_1] ?_; (with_reducible refine (spec_moTrotter.calls k1 t428 x9_1 t439 _ A13.out).mono ?_); rintro e w15 ⟨v440, rfl, ho0, hb⟩; refine ⟨_, rfl, ?_⟩; replace HO_7 := Yw HO_7 hb; replace HO_8 := Ya (Kd.N_elder' (Qm0 HO_8.out) (Kd.R_base ho0) hb); have HO441 := Ya (Kd.R_lower (Kd.R_newM (M := fun k_ => (w.heap.size ≤ k_)) ho0 (Z7 Q8) (fun k_ h_ => h_)) (Z7 Q8)); replace HB := Ya (Z8 Q8 hb); replace HI427 := Ya (IsS88.below Q16 hb); (try clear hb ho0); obtain ⟨Ao17, co17, rfl⟩ := Z17 HO441.out) | ((with_reducible refine gate_builtin (b := .append) (xs := #[.tmp 35, .tmp 39]) rfl ?_); at_builtin; refine Kd.N_append (Kd.slice 3 (Kd.int .i64)) (w0 := w) w.heap.size rfl (.tmp 35) (.tmp 39) 50 24 (.slice none 0 0) 24 rfl Try.underlying50 info24 rfl (by decide) (by omega) u8 x8_1 t439 [.slice Ao17 t439.length co17] (fun k_ => (w.heap.size ≤ k_) ∧ some k_ ≠ (v430 : Value).ownBlock ∧ k_ ≠ gb427) (fun k_ => ((fun k_ => (w.heap.size ≤ k_) ∧ some k_ ≠ (v430 : Value).ownBlock ∧ k_ ≠ gb427)) k_ ∧ some k_ ≠ (u8 : Value).ownBlock) rfl rfl ?aP (fun _ hk => hk) ?aF ?aO ?aB ?aS ?aL ?_; (case aP => exact (Kd.FK_slice_mk (Kd.R_reads' (Z12 (ok' := (fun k_ => ((fun k_ => (w.heap.size ≤ k_) ∧ some k_ ≠ (v430 : Value).ownBlock ∧ k_ ≠ gb427)) k_ ∧ some k_ ≠ (u8 : Value).ownBlock)) (IsS88.apart HI427.out (Kd.R_apart' (Kd.R_apart' (HO441.out) (Kd.R_typed HO_7.out) (by decide)) (Kd.N_typed HO_8.out) (by decide)) (by decide)) (fun k_ hk => ⟨⟨hk.1.1.1.1, ⟨hk.1.1.2, hk.2⟩⟩, hk.1.2⟩))).2.1 (Kd.R_F (Z12 (ok' := (fun k_ => ((fun k_ => (w.heap.size ≤ k_) ∧ some k_ ≠ (v430 : Value).ownBlock ∧ k_ ≠ gb427)) k_ ∧ some k_ ≠ (u8 : Value).ownBlock)) (IsS88.apart HI427.out (Kd.R_apart' (Kd.R_apart' (HO441.out) (Kd.R_typed HO_7.out) (by decide)) (Kd.N_typed HO_8.out) (by decide)) (by decide)) (fun k_ hk => ⟨⟨hk.1.1.1.1, ⟨hk.1.1.2, hk.2⟩⟩, hk.1.2⟩))))); (case aB => exact Q8); (case aF => exact (fun k_ hk => ⟨(Nat.le_trans (Z7 Q8) hk), Kd.fresh' (Z16 (Yr HO_7.out)) k_ hk, IsS88.fresh Q16 k_ hk⟩)); (case aO => exact (by (with_reducible repeat (first | apply Kd.N_alloc | apply Kd.N_drewN | apply Kd.N_drew)); exact Kd.N_mono HO_8.out (fun _ hk => ⟨hk.1.1, ⟨hk.1.2.1, hk.1.2.2⟩⟩))); (case aS => exact (Z7 Q8)); (case aL => have := LMc14.out; omega); intro v443 w16 ho hb hg hat; rw [← Ny442.out] at ho; replace HO_7 := Ya (Kd.R_over' (Yr HO_7.out) (Kd.N_typed (Qm0 HO_8.out)) (by decide) hg); replace HI427 := Ya (IsS88.grown Q16 hg (IsS88.own_neN HI427.out HO_8.out (by decide))); replace HB := Ya hb; have HO444 := Ya ho; clear HO_8 HO441; clear ho hb hg hat))
        go_roundg k1
        case measure => have := HK1.out; omega
        case rel => exact ⟨(y442), (wrap64 (x9_1 + 1)), Q5, H', ⟨Q28⟩, ⟨Q29⟩, ⟨by (with_reducible repeat (first | apply Kd.N_alloc | apply Kd.N_drewN | apply Kd.N_drew)); exact HO444.out⟩, ⟨Q24⟩, ⟨Q19⟩⟩
       ·rw [if_neg c14] at H
        exact absurd H (by simp)
      ·rw [if_neg c12] at H
       have c12b0 := Z36 c12
       clear c12
       (first | rw [c12b0] | (simp only [i64_w, i32_w]; rw [c12b0]) | skip)
       have H' := Ya H
       clear H
       go_wp2_with (first | ((with_reducible refine gate_callee (f := 43) rfl ?_); refine Yz 31 Try.func43 #[.int .i64 t428] ?_; (with_reducible refine (spec_raFactorial.calls k1 t428 t438 _ A11.out).mono ?_); rintro e w' ⟨rfl, ⟨nd, rfl⟩⟩; refine ⟨_, rfl, ?_⟩))
       go_meet
       case rel => exact ⟨_, (x8_1), (t436), (t437), H', ⟨Q49⟩, ⟨Q29⟩, ⟨Q50⟩, ⟨Q24⟩, ⟨Q19⟩⟩
   ·replace c9 := Bool.eq_false_iff.mpr c9
    subst c9
    have H1 : ((spec_moTask.f k t428 t429).bind fun t445 => (if t445 = true then ((spec_GreedyList.f k t428 t429).bind fun bt446 => (spec_DrawIsMoveList.j1 k t428 t429 bt446.1 l0 t436 t437)) else (spec_DrawIsMoveList.j1 k t428 t429 ([] : List (List Int)) l0 t436 t437))) = some (r1, r2, r3) := by rw [if_neg (show ¬ (false = true) by decide)] at H; exact H
    clear H
    have H := H1
    clear H1
    replace H := Z35.mp H
    obtain ⟨t445, A180, H⟩ := H
    replace H : (if t445 = true then ((spec_GreedyList.f k t428 t429).bind fun bt446 => (spec_DrawIsMoveList.j1 k t428 t429 bt446.1 l0 t436 t437)) else (spec_DrawIsMoveList.j1 k t428 t429 ([] : List (List Int)) l0 t436 t437)) = some (r1, r2, r3) := H
    have A18 := Ya A180
    clear A180
    by_cases c19 : t445 = true
    ·subst c19
     have H1 : ((spec_GreedyList.f k t428 t429).bind fun bt446 => (spec_DrawIsMoveList.j1 k t428 t429 bt446.1 l0 t436 t437)) = some (r1, r2, r3) := by rw [if_pos rfl] at H; exact H
     clear H
     have H := H1
     clear H1
     replace H := Z35.mp H
     obtain ⟨⟨t446, t449⟩, A200, H⟩ := H
     replace H : (spec_DrawIsMoveList.j1 k t428 t429 t446 l0 t436 t437) = some (r1, r2, r3) := H
     have A20 := Ya A200
     clear A200
     have H' := Ya H
     clear H
     go_wp2_with (first | ((with_reducible refine gate_callee (f := 42) rfl ?_); refine Yz 20 Try.func42 #[.int .i64 t428, .int .i64 1, .int .i64 4] ?_; (with_reducible refine (spec_l1In.calls t428 1 4 true _ A6.out).mono ?_); rintro e w' ⟨rfl, ⟨nd, rfl⟩⟩; refine ⟨_, rfl, ?_⟩) | ((with_reducible refine gate_callee (f := 70) rfl ?_); refine Yz 28 Try.func70 #[.pointer (some ⟨gb427, 0, none⟩), .int .i64 2] ?_; (with_reducible refine (spec_l1Cur_one.calls gb427 l0 t432 t433 2 false t436 t437 w _ ?side1 ?side2 A8.out).mono ?_); (case side1 => repeat (first | (with_reducible first | exact HI427.out | apply IsS88.alloc | apply IsS88.drewN | apply IsS88.drew | apply IsS88.set_1 | apply IsS88.set_2) | exact HI427.out)); (case side2 => repeat (first | (with_reducible first | exact HB.out | apply Z5 | apply Z3 | apply Z4 | refine Z6 ?_ (IsS88.ge HI427.out)) | exact HB.out)); rintro e w21 ⟨rfl, hi, hb, hk⟩; refine ⟨_, rfl, ?_⟩; replace HO431 := Ya (Z12 (Kd.R_keep (IsS88.apart (show IsS88 w _ gb427 l0 t432 t433 from by repeat (first | (with_reducible first | exact HI427.out | apply IsS88.alloc | apply IsS88.drewN | apply IsS88.drew | apply IsS88.set_1 | apply IsS88.set_2) | exact HI427.out)) (Yr HO431.out) (by decide)) hk (fun _ h => h.2)) (fun _ h => h.1)); replace HB := Ya hb; replace HI427 := Ya hi; (try clear hb hk hi); obtain ⟨Ao22, co22, rfl⟩ := Z17 HO431.out) | ((with_reducible refine gate_callee (f := 41) rfl ?_); refine Yz 44 Try.func41 #[.int .i64 t428, .slice Ao22 t429.length co22] ?_; (with_reducible refine (spec_moTask.calls k t428 _ _ t429 true _ (Yc (Kd.R_reads' HO431.out).2.2) ((Kd.R_reads' HO431.out).2.1) A18.out).mono ?_); rintro e w23 ⟨rfl, hb⟩; refine ⟨_, rfl, ?_⟩; replace HO431 := Yw HO431 hb; replace HB := Ya (Z8 Q8 hb); replace HI427 := Ya (IsS88.below Q16 hb); (try clear hb)) | ((with_reducible refine gate_callee (f := 34) rfl ?_); refine Yz 48 Try.func34 #[.int .i64 t428, .slice Ao22 t429.length co22] ?_; (with_reducible refine (spec_GreedyList.calls k t428 _ _ t429 t446 t449 _ (Yc (Kd.R_reads' HO431.out).2.2) ((Kd.R_reads' HO431.out).2.1) A20.out).mono ?_); rintro e w24 ⟨v447, rfl, ho0, hb⟩; refine ⟨_, rfl, ?_⟩; have HO448 := Ya (Kd.N_lower (Kd.N_mono (ok' := fun k_ => (w.heap.size ≤ k_) ∧ some k_ ≠ (.slice Ao22 t429.length co22 : Value).ownBlock ∧ k_ ≠ gb427) ho0 (fun k_ hk_ => ⟨(Nat.le_trans (Z7 Q8) hk_), (Kd.fresh' (Z16 (Yr HO431.out)) k_ hk_), (IsS88.fresh Q16 k_ hk_)⟩)) (Z7 Q8)); replace HO431 := Yw HO431 hb; replace HB := Ya (Z8 Q8 hb); replace HI427 := Ya (IsS88.below Q16 hb); (try clear hb ho0)))
     go_meet
     case rel => exact ⟨_, (t446), (t436), (t437), H', ⟨Q46⟩, ⟨Yj HO431.out (fun _ hk => hk.1)⟩, ⟨by (with_reducible repeat (first | apply Kd.N_alloc | apply Kd.N_drewN | apply Kd.N_drew)); exact HO448.out⟩, ⟨Q24⟩, ⟨Q19⟩⟩
    ·replace c19 := Bool.eq_false_iff.mpr c19
     subst c19
     have H1 : (spec_DrawIsMoveList.j1 k t428 t429 ([] : List (List Int)) l0 t436 t437) = some (r1, r2, r3) := by rw [if_neg (show ¬ (false = true) by decide)] at H; exact H
     clear H
     have H := H1
     clear H1
     have H' := Ya H
     clear H
     go_wp2_with (first | ((with_reducible refine gate_callee (f := 42) rfl ?_); refine Yz 20 Try.func42 #[.int .i64 t428, .int .i64 1, .int .i64 4] ?_; (with_reducible refine (spec_l1In.calls t428 1 4 true _ A6.out).mono ?_); rintro e w' ⟨rfl, ⟨nd, rfl⟩⟩; refine ⟨_, rfl, ?_⟩) | ((with_reducible refine gate_callee (f := 70) rfl ?_); refine Yz 28 Try.func70 #[.pointer (some ⟨gb427, 0, none⟩), .int .i64 2] ?_; (with_reducible refine (spec_l1Cur_one.calls gb427 l0 t432 t433 2 false t436 t437 w _ ?side1 ?side2 A8.out).mono ?_); (case side1 => repeat (first | (with_reducible first | exact HI427.out | apply IsS88.alloc | apply IsS88.drewN | apply IsS88.drew | apply IsS88.set_1 | apply IsS88.set_2) | exact HI427.out)); (case side2 => repeat (first | (with_reducible first | exact HB.out | apply Z5 | apply Z3 | apply Z4 | refine Z6 ?_ (IsS88.ge HI427.out)) | exact HB.out)); rintro e w25 ⟨rfl, hi, hb, hk⟩; refine ⟨_, rfl, ?_⟩; replace HO431 := Ya (Z12 (Kd.R_keep (IsS88.apart (show IsS88 w _ gb427 l0 t432 t433 from by repeat (first | (with_reducible first | exact HI427.out | apply IsS88.alloc | apply IsS88.drewN | apply IsS88.drew | apply IsS88.set_1 | apply IsS88.set_2) | exact HI427.out)) (Yr HO431.out) (by decide)) hk (fun _ h => h.2)) (fun _ h => h.1)); replace HB := Ya hb; replace HI427 := Ya hi; (try clear hb hk hi); obtain ⟨Ao26, co26, rfl⟩ := Z17 HO431.out) | ((with_reducible refine gate_callee (f := 41) rfl ?_); refine Yz 44 Try.func41 #[.int .i64 t428, .slice Ao26 t429.length co26] ?_; (with_reducible refine (spec_moTask.calls k t428 _ _ t429 false _ (Yc (Kd.R_reads' HO431.out).2.2) ((Kd.R_reads' HO431.out).2.1) A18.out).mono ?_); rintro e w27 ⟨rfl, hb⟩; refine ⟨_, rfl, ?_⟩; replace HO431 := Yw HO431 hb; replace HB := Ya (Z8 Q8 hb); replace HI427 := Ya (IsS88.below Q16 hb); (try clear hb)))
     go_meet
     case rel => exact ⟨_, (([] : List (List Int))), (t436), (t437), H', ⟨Q46⟩, ⟨Yj HO431.out (fun _ hk => hk.1)⟩, ⟨Q45⟩, ⟨Q24⟩, ⟨Q19⟩⟩
  ·replace c7 := Bool.eq_false_iff.mpr c7
   subst c7
   have H1 : ((spec_l1Cur_order.f k l0 t432 t433 t428).bind fun bt450 => (spec_DrawIsMoveList.j1 k t428 t429 (([bt450.1] : List (List Int))) l0 bt450.2.1 bt450.2.2)) = some (r1, r2, r3) := by rw [if_neg (show ¬ (false = true) by decide)] at H; exact H
   clear H
   have H := H1
   clear H1
   replace H := Z35.mp H
   obtain ⟨⟨t450, t453, t454⟩, A280, H⟩ := H
   replace H : (spec_DrawIsMoveList.j1 k t428 t429 (([t450] : List (List Int))) l0 t453 t454) = some (r1, r2, r3) := H
   have A28 := Ya A280
   clear A280
   obtain ⟨y455, hy455⟩ : ∃ y_ : List (List Int), y_ = (([t450] : List (List Int))) := ⟨_, rfl⟩
   replace H : (spec_DrawIsMoveList.j1 k t428 t429 y455 l0 t453 t454) = some (r1, r2, r3) := by first | (rw [hy455]; with_reducible exact H) | (have H2_ := (Option.bind_some _ _).symm.trans H; rw [hy455]; with_reducible exact H2_) | (have H2_ := (Option.bind_some _ _).symm.trans H; with_reducible exact H2_) | with_reducible exact H | (rw [hy455]; exact H) | exact H
   have Ny455 := Ya hy455
   clear hy455
   have H' := Ya H
   clear H
   go_wp2_with (first | ((with_reducible refine gate_callee (f := 42) rfl ?_); refine Yz 20 Try.func42 #[.int .i64 t428, .int .i64 1, .int .i64 4] ?_; (with_reducible refine (spec_l1In.calls t428 1 4 false _ A6.out).mono ?_); rintro e w' ⟨rfl, ⟨nd, rfl⟩⟩; refine ⟨_, rfl, ?_⟩) | ((with_reducible refine gate_callee (f := 76) rfl ?_); refine Yz 24 Try.func76 #[.pointer (some ⟨gb427, 0, none⟩), .int .i64 t428] ?_; (with_reducible refine (spec_l1Cur_order.calls k gb427 l0 t432 t433 t428 t450 t453 t454 w _ ?side1 ?side2 A28.out).mono ?_); (case side1 => repeat (first | (with_reducible first | exact HI427.out | apply IsS88.alloc | apply IsS88.drewN | apply IsS88.drew | apply IsS88.set_1 | apply IsS88.set_2) | exact HI427.out)); (case side2 => repeat (first | (with_reducible first | exact HB.out | apply Z5 | apply Z3 | apply Z4 | refine Z6 ?_ (IsS88.ge HI427.out)) | exact HB.out)); rintro e w29 ⟨v451, rfl, ho0, hi, hb, hk⟩; refine ⟨_, rfl, ?_⟩; replace HO431 := Ya (Z12 (Kd.R_keep (IsS88.apart (show IsS88 w _ gb427 l0 t432 t433 from by repeat (first | (with_reducible first | exact HI427.out | apply IsS88.alloc | apply IsS88.drewN | apply IsS88.drew | apply IsS88.set_1 | apply IsS88.set_2) | exact HI427.out)) (Yr HO431.out) (by decide)) hk (fun _ h => h.2)) (fun _ h => h.1)); have HO452 := Ya (Kd.R_lower (Kd.R_newM (M := fun k_ => (w.heap.size ≤ k_)) ho0 (Z7 Q8) (fun k_ h_ => h_)) (Z7 Q8)); replace HB := Ya hb; replace HI427 := Ya hi; (try clear hb hk hi ho0); obtain ⟨Ao30, co30, rfl⟩ := Z17 HO452.out) | ((with_reducible refine gate_dst (N := 25) rfl ?_); refine Kd.N_lit (Kd.slice 3 (Kd.int .i64)) _ 24 ?hg (N' := 25) ?hd (xs := ([t450] : List (List Int))) (inner := [.slice Ao30 t450.length co30]) (ok := (fun k_ => (w.heap.size ≤ k_) ∧ some k_ ≠ (v430 : Value).ownBlock ∧ k_ ≠ gb427)) (okp := (fun k_ => (w.heap.size ≤ k_) ∧ some k_ ≠ (v430 : Value).ownBlock ∧ k_ ≠ gb427)) ?hr ?hp (fun _ hk => hk) ((show ∀ k_, w29.heap.size ≤ k_ → (fun k_ => (w.heap.size ≤ k_) ∧ some k_ ≠ (v430 : Value).ownBlock ∧ k_ ≠ gb427) k_ from fun k_ hk => ⟨(Nat.le_trans (Z7 Q8) hk), Kd.fresh' (Z16 (Yr HO431.out)) k_ hk, IsS88.fresh Q16 k_ hk⟩) _ (Nat.le_refl _)) (Below.refl _ _) (Nat.le_refl _) (by simp) ?_; (case hd => rfl); (case hg => rfl); (case hr => first | (go_simp; done) | (go_simp; rfl)); (case hp => exact (Reps.one (show Kd.FK (Kd.slice 3 (Kd.int .i64)) _ _ t450 [.slice Ao30 t450.length co30] from (Kd.FK_slice_mk (Kd.R_reads' (Z12 (ok' := (fun k_ => (w.heap.size ≤ k_) ∧ some k_ ≠ (v430 : Value).ownBlock ∧ k_ ≠ gb427)) (IsS88.apart HI427.out (Kd.R_apart' (HO452.out) (Kd.R_typed HO431.out) (by decide)) (by decide)) (fun k_ hk => ⟨hk.1.1.1, ⟨hk.1.2, hk.2⟩⟩))).2.1 (Kd.R_F (Z12 (ok' := (fun k_ => (w.heap.size ≤ k_) ∧ some k_ ≠ (v430 : Value).ownBlock ∧ k_ ≠ gb427)) (IsS88.apart HI427.out (Kd.R_apart' (HO452.out) (Kd.R_typed HO431.out) (by decide)) (by decide)) (fun k_ hk => ⟨hk.1.1.1, ⟨hk.1.2, hk.2⟩⟩))))) (Reps.none _ _))); intro v456 w31 ho32 hb hg_ hnew_; clear hg_ hnew_; (first | rw [← Ny455.out] at ho32 | (simp only [Int.reduceToNat] at ho32; rw [← Ny455.out] at ho32)); replace HO431 := Yw HO431 hb; have HO457 := Ya (Kd.N_lower ho32 (Z7 Q8)); replace HB := Ya (Z8 Q8 hb); replace HI427 := Ya (IsS88.below Q16 hb); clear HO452; clear hb ho32))
   go_meet
   case rel => exact ⟨_, (y455), (t453), (t454), H', ⟨Q46⟩, ⟨Yj HO431.out (fun _ hk => hk.1)⟩, ⟨by (with_reducible repeat (first | apply Kd.N_alloc | apply Kd.N_drewN | apply Kd.N_drew)); exact HO457.out⟩, ⟨Q24⟩, ⟨Q19⟩⟩
 case rest =>
  clear HC3
  try clear c1
  try clear p2
  try clear c3
  try clear c4
  try clear c6
  try clear p6
  try clear c7
  try clear c9
  try clear c12
  try clear c12b0
  try clear c14
  try clear c19
  try clear p2
  obtain ⟨kq, x8_2, x428001_2, x428002_2, HA, HJ2, HO_7, HO_8, HI427, HB⟩ := hcut
  cases kq with
  | zero => exact absurd HA.out (by simp [spec_DrawIsMoveList.j1])
  | succ kj2 =>
   have H := HA.out
   clear HA
   simp only [spec_DrawIsMoveList.j1] at H
   have HC33 := Ya H
   clear H
   go_upto_region 13 with (fail)
   go_cut [57] (fun v57 wc => ∃ (kq : Nat) (x57_32 : Bool) (x428001_32 : Int) (x428002_32 : Int), v57 = .bool x57_32 ∧ Aside0 (spec_DrawIsMoveList.j2 kq t428 t429 x8_2 x57_32 l0 x428001_32 x428002_32 = some (r1, r2, r3)) ∧ Aside0 (kq ≤ kj2) ∧ Aside0 (Kd.R k45 45 wc w.heap.size (fun k_ => (w.heap.size ≤ k_)) v430 t429) ∧ Aside0 (Kd.N (Kd.slice 3 (Kd.int .i64)) 24 wc w.heap.size (fun k_ => (w.heap.size ≤ k_) ∧ some k_ ≠ (v430 : Value).ownBlock ∧ k_ ≠ gb427) u8 x8_2) ∧ Aside0 (IsS88 w wc gb427 l0 x428001_32 x428002_32) ∧ Aside0 (Below w.heap.size w wc))
   case first =>
    have H := HC33.out
    clear HC33
    by_cases c34 : (x8_2.length : Int) > 0
    ·rw [if_pos c34] at H
     have c34b0 : decide (0 < (x8_2.length : Int)) = true := Z37 c34
     have c34b1 : decide (0 < x8_2.length) = true := Z37 (by omega)
     clear c34
     (first | rw [c34b0] | (simp only [i64_w, i32_w]; rw [c34b0]) | skip)
     replace H := Z35.mp H
     obtain ⟨⟨t458, t459, t460⟩, A350, H⟩ := H
     replace H : (spec_DrawIsMoveList.j2 kj2 t428 t429 x8_2 t458 l0 t459 t460) = some (r1, r2, r3) := H
     have A35 := Ya A350
     clear A350
     have H' := Ya H
     clear H
     obtain ⟨Ao36, co36, eo36⟩ := Kd.N_slice HO_8.out
     subst eo36
     go_wp2_with (first | (go_at_call 70; (with_reducible refine (spec_l1Cur_one.calls gb427 l0 x428001_2 x428002_2 8 t458 t459 t460 w _ ?side1 ?side2 A35.out).mono ?_); (case side1 => repeat (first | (with_reducible first | exact HI427.out | apply IsS88.alloc | apply IsS88.drewN | apply IsS88.drew | apply IsS88.set_1 | apply IsS88.set_2) | exact HI427.out)); (case side2 => repeat (first | (with_reducible first | exact HB.out | apply Z5 | apply Z3 | apply Z4 | refine Z6 ?_ (IsS88.ge HI427.out)) | exact HB.out)); rintro e w37 ⟨rfl, hi, hb, hk⟩; replace HO_7 := Ya (Z12 (Kd.R_keep (IsS88.apart (show IsS88 w _ gb427 l0 x428001_2 x428002_2 from by repeat (first | (with_reducible first | exact HI427.out | apply IsS88.alloc | apply IsS88.drewN | apply IsS88.drew | apply IsS88.set_1 | apply IsS88.set_2) | exact HI427.out)) (Yr HO_7.out) (by decide)) hk (fun _ h => h.2)) (fun _ h => h.1)); replace HO_8 := Ya (Kd.N_mono (Kd.N_keep (Kd.N_mono (ok := fun k_ => (((w.heap.size ≤ k_)) ∧ (some k_ ≠ (v430 : Value).ownBlock ∧ k_ ≠ gb427))) (Qm0 HO_8.out) (fun k_ hk_ => (⟨hk_, hk_.2.2⟩ : _ ∧ k_ ≠ gb427))) hk (fun _ h => h.2)) (fun _ h => h.1)); replace HB := Ya hb; replace HI427 := Ya hi; (try clear hb hk hi)))
     go_meet
     case rel => exact ⟨_, (t458), (t459), (t460), Q5, H', ⟨by have := HJ2.out; first | omega | exact Nat.le_refl _⟩, ⟨Q29⟩, ⟨Q50⟩, ⟨Q24⟩, ⟨Q19⟩⟩
    ·rw [if_neg c34] at H
     have c34b0 : decide (0 < (x8_2.length : Int)) = false := Z36 c34
     have c34b1 : decide (0 < x8_2.length) = false := Z36 (by omega)
     clear c34
     (first | rw [c34b0] | (simp only [i64_w, i32_w]; rw [c34b0]) | skip)
     have H' := Ya H
     clear H
     obtain ⟨Ao38, co38, eo38⟩ := Kd.N_slice HO_8.out
     subst eo38
     go_wp2
     go_meet
     case rel => exact ⟨_, (false), (x428001_2), (x428002_2), Q5, H', ⟨by have := HJ2.out; first | omega | exact Nat.le_refl _⟩, ⟨Q29⟩, ⟨Q50⟩, ⟨Q24⟩, ⟨Q19⟩⟩
   case rest =>
    clear HC33
    try clear c1
    try clear p2
    try clear c3
    try clear c4
    try clear c6
    try clear p6
    try clear c7
    try clear c9
    try clear c12
    try clear c12b0
    try clear c14
    try clear c19
    try clear c34
    try clear c34b0
    try clear c34b1
    try clear c38
    try clear p2
    try clear p6
    obtain ⟨kq, x57_32, x428001_32, x428002_32, rfl, HA, HJ32, HO_7, HO_8, HI427, HB⟩ := hcut
    cases kq with
    | zero => exact absurd HA.out (by simp [spec_DrawIsMoveList.j2])
    | succ kj32 =>
     have H := HA.out
     clear HA
     simp only [spec_DrawIsMoveList.j2] at H
     by_cases c39 : x57_32 = true
     ·subst c39
      have H1 : ((spec_l1Cur_pick.f l0 x428001_32 x428002_32 (x8_2.length : Int)).bind fun bt461 => ((spec_l1Cur_order.f kj32 l0 bt461.2.1 bt461.2.2 t428).bind fun bt464 => (if 0 ≤ bt461.1 then (if bt461.1 < (x8_2.length : Int) then ((some (x8_2.set (bt461.1 : Int).toNat bt464.1 : List (List Int))).bind fun y469 => (if (x8_2.length : Int) > 0 then ((spec_l1Cur_one.f l0 bt464.2.1 bt464.2.2 8).bind fun bt470 => (if bt470.1 = true then (if 0 ≤ (wrap64 ((x8_2.length : Int) - 1)) then (if (wrap64 ((x8_2.length : Int) - 1)) ≤ (x8_2.length : Int) then (some (t428, (y469.take ((wrap64 ((x8_2.length : Int) - 1)) : Int).toNat), t429)) else (none)) else (none)) else (some (t428, y469, t429)))) else (some (t428, y469, t429)))) else (none)) else (none)))) = some (r1, r2, r3) := by rw [if_pos rfl] at H; exact H
      clear H
      have H := H1
      clear H1
      replace H := Z35.mp H
      obtain ⟨⟨t461, t462, t463⟩, A400, H⟩ := H
      replace H : ((spec_l1Cur_order.f kj32 l0 t462 t463 t428).bind fun bt464 => (if 0 ≤ t461 then (if t461 < (x8_2.length : Int) then ((some (x8_2.set (t461 : Int).toNat bt464.1 : List (List Int))).bind fun y469 => (if (x8_2.length : Int) > 0 then ((spec_l1Cur_one.f l0 bt464.2.1 bt464.2.2 8).bind fun bt470 => (if bt470.1 = true then (if 0 ≤ (wrap64 ((x8_2.length : Int) - 1)) then (if (wrap64 ((x8_2.length : Int) - 1)) ≤ (x8_2.length : Int) then (some (t428, (y469.take ((wrap64 ((x8_2.length : Int) - 1)) : Int).toNat), t429)) else (none)) else (none)) else (some (t428, y469, t429)))) else (some (t428, y469, t429)))) else (none)) else (none))) = some (r1, r2, r3) := H
      have A40 := Ya A400
      clear A400
      replace H := Z35.mp H
      obtain ⟨⟨t464, t467, t468⟩, A410, H⟩ := H
      replace H : (if 0 ≤ t461 then (if t461 < (x8_2.length : Int) then ((some (x8_2.set (t461 : Int).toNat t464 : List (List Int))).bind fun y469 => (if (x8_2.length : Int) > 0 then ((spec_l1Cur_one.f l0 t467 t468 8).bind fun bt470 => (if bt470.1 = true then (if 0 ≤ (wrap64 ((x8_2.length : Int) - 1)) then (if (wrap64 ((x8_2.length : Int) - 1)) ≤ (x8_2.length : Int) then (some (t428, (y469.take ((wrap64 ((x8_2.length : Int) - 1)) : Int).toNat), t429)) else (none)) else (none)) else (some (t428, y469, t429)))) else (some (t428, y469, t429)))) else (none)) else (none)) = some (r1, r2, r3) := H
      have A41 := Ya A410
      clear A410
      by_cases c42 : 0 ≤ t461
      ·rw [if_pos c42] at H
       have c42b0 := Z37 c42
       clear c42
       by_cases c43 : t461 < (x8_2.length : Int)
       ·rw [if_pos c43] at H
        have c43b0 := Z37 c43
        clear c43
        obtain ⟨y469, hy469⟩ : ∃ y_ : List (List Int), y_ = (x8_2.set (t461 : Int).toNat t464) := ⟨_, rfl⟩
        replace H : (if (x8_2.length : Int) > 0 then ((spec_l1Cur_one.f l0 t467 t468 8).bind fun bt470 => (if bt470.1 = true then (if 0 ≤ (wrap64 ((x8_2.length : Int) - 1)) then (if (wrap64 ((x8_2.length : Int) - 1)) ≤ (x8_2.length : Int) then (some (t428, (y469.take ((wrap64 ((x8_2.length : Int) - 1)) : Int).toNat), t429)) else (none)) else (none)) else (some (t428, y469, t429)))) else (some (t428, y469, t429))) = some (r1, r2, r3) := by first | (rw [hy469]; with_reducible exact H) | (have H2_ := (Option.bind_some _ _).symm.trans H; rw [hy469]; with_reducible exact H2_) | (have H2_ := (Option.bind_some _ _).symm.trans H; with_reducible exact H2_) | with_reducible exact H | (rw [hy469]; exact H) | exact H
        have Ny469 := Ya hy469
        clear hy469
        by_cases c45 : (x8_2.length : Int) > 0
        ·rw [if_pos c45] at H
         have c45b0 : decide (0 < (x8_2.length : Int)) = true := Z37 c45
         have c45b1 : decide (0 < x8_2.length) = true := Z37 (by omega)
         clear c45
         replace H := Z35.mp H
         obtain ⟨⟨t470, t471, t472⟩, A460, H⟩ := H
         replace H : (if t470 = true then (if 0 ≤ (wrap64 ((x8_2.length : Int) - 1)) then (if (wrap64 ((x8_2.length : Int) - 1)) ≤ (x8_2.length : Int) then (some (t428, (y469.take ((wrap64 ((x8_2.length : Int) - 1)) : Int).toNat), t429)) else (none)) else (none)) else (some (t428, y469, t429))) = some (r1, r2, r3) := H
         have A46 := Ya A460
         clear A460
         by_cases c47 : t470 = true
         ·subst c47
          have H1 : (if 0 ≤ (wrap64 ((x8_2.length : Int) - 1)) then (if (wrap64 ((x8_2.length : Int) - 1)) ≤ (x8_2.length : Int) then (some (t428, (y469.take ((wrap64 ((x8_2.length : Int) - 1)) : Int).toNat), t429)) else (none)) else (none)) = some (r1, r2, r3) := by rw [if_pos rfl] at H; exact H
          clear H
          have H := H1
          clear H1
          obtain ⟨ji48, hji48⟩ : ∃ j_ : Int, (wrap64 ((x8_2.length : Int) - 1)) = j_ := ⟨_, rfl⟩
          replace H : (if 0 ≤ (ji48) then (if (ji48) ≤ (x8_2.length : Int) then (some (t428, (y469.take ((ji48) : Int).toNat), t429)) else (none)) else (none)) = some (r1, r2, r3) := by first | (rw [hji48] at H; exact H) | (simp only [hji48] at H ⊢; exact H)
          (try rw [hji48] at A40)
          (try rw [hji48] at A41)
          (try rw [hji48] at A46)
          have hji48w : (IntKind.i64.wrap ((x8_2.length : Int) - 1)) = ji48 := (i64_w _).trans hji48
          by_cases c49 : 0 ≤ (ji48)
          ·rw [if_pos c49] at H
           have c49b0 := eq_true c49
           have c49b1 := Z37 c49
           clear c49
           by_cases c50 : (ji48) ≤ (x8_2.length : Int)
           ·rw [if_pos c50] at H
            have c50b0 := eq_true c50
            have c50b1 := Z37 c50
            clear c50
            obtain ⟨y473, hy473⟩ : ∃ y_ : List (List Int), y_ = (y469.take ((ji48) : Int).toNat) := ⟨_, rfl⟩
            replace H : (some (t428, y473, t429)) = some (r1, r2, r3) := by first | (rw [hy473]; with_reducible exact H) | (have H2_ := (Option.bind_some _ _).symm.trans H; rw [hy473]; with_reducible exact H2_) | (have H2_ := (Option.bind_some _ _).symm.trans H; with_reducible exact H2_) | with_reducible exact H | (rw [hy473]; exact H) | exact H
            have Ny473 := Ya hy473
            clear hy473
            simp only [Option.some.injEq, Prod.mk.injEq] at H
            obtain ⟨rfl, rfl, rfl⟩ := H
            obtain ⟨Ao51, co51, eo51⟩ := Kd.N_slice HO_8.out
            subst eo51
            go_wp2_with (first | ((with_reducible refine gate_callee (f := 69) rfl ?_); refine Yz 62 Try.func69 #[.pointer (some ⟨gb427, 0, none⟩), .int .i64 (x8_2.length : Int)] ?_; (with_reducible refine (spec_l1Cur_pick.calls gb427 l0 x428001_32 x428002_32 (x8_2.length : Int) t461 t462 t463 w _ ?side1 ?side2 A40.out).mono ?_); (case side1 => repeat (first | (with_reducible first | exact HI427.out | apply IsS88.alloc | apply IsS88.drewN | apply IsS88.drew | apply IsS88.set_1 | apply IsS88.set_2) | exact HI427.out)); (case side2 => repeat (first | (with_reducible first | exact HB.out | apply Z5 | apply Z3 | apply Z4 | refine Z6 ?_ (IsS88.ge HI427.out)) | exact HB.out)); rintro e w52 ⟨rfl, hi, hb, hk⟩; refine ⟨_, rfl, ?_⟩; replace HO_7 := Ya (Z12 (Kd.R_keep (IsS88.apart (show IsS88 w _ gb427 l0 x428001_32 x428002_32 from by repeat (first | (with_reducible first | exact HI427.out | apply IsS88.alloc | apply IsS88.drewN | apply IsS88.drew | apply IsS88.set_1 | apply IsS88.set_2) | exact HI427.out)) (Yr HO_7.out) (by decide)) hk (fun _ h => h.2)) (fun _ h => h.1)); replace HO_8 := Ya (Kd.N_mono (Kd.N_keep (Kd.N_mono (ok := fun k_ => (((w.heap.size ≤ k_)) ∧ (some k_ ≠ (v430 : Value).ownBlock ∧ k_ ≠ gb427))) (Qm0 HO_8.out) (fun k_ hk_ => (⟨hk_, hk_.2.2⟩ : _ ∧ k_ ≠ gb427))) hk (fun _ h => h.2)) (fun _ h => h.1)); replace HB := Ya hb; replace HI427 := Ya hi; (try clear hb hk hi)) | ((with_reducible refine gate_callee (f := 76) rfl ?_); refine Yz 65 Try.func76 #[.pointer (some ⟨gb427, 0, none⟩), .int .i64 t428] ?_; (with_reducible refine (spec_l1Cur_order.calls kj32 gb427 l0 t462 t463 t428 t464 t467 t468 w _ ?side1 ?side2 A41.out).mono ?_); (case side1 => repeat (first | (with_reducible first | exact HI427.out | apply IsS88.alloc | apply IsS88.drewN | apply IsS88.drew | apply IsS88.set_1 | apply IsS88.set_2) | exact HI427.out)); (case side2 => repeat (first | (with_reducible first | exact HB.out | apply Z5 | apply Z3 | apply Z4 | refine Z6 ?_ (IsS88.ge HI427.out)) | exact HB.out)); rintro e w53 ⟨v465, rfl, ho0, hi, hb, hk⟩; refine ⟨_, rfl, ?_⟩; replace HO_7 := Ya (Z12 (Kd.R_keep (IsS88.apart (show IsS88 w _ gb427 l0 t462 t463 from by repeat (first | (with_reducible first | exact HI427.out | apply IsS88.alloc | apply IsS88.drewN | apply IsS88.drew | apply IsS88.set_1 | apply IsS88.set_2) | exact HI427.out)) (Yr HO_7.out) (by decide)) hk (fun _ h => h.2)) (fun _ h => h.1)); replace HO_8 := Ya (Kd.N_mono (Kd.N_told (Kd.N_oldK (Kd.N_mono (ok := fun k_ => (((w.heap.size ≤ k_)) ∧ (some k_ ≠ (v430 : Value).ownBlock ∧ k_ ≠ gb427))) (Qm0 HO_8.out) (fun k_ hk_ => (⟨hk_, hk_.2.2⟩ : _ ∧ k_ ≠ gb427))) hk) (Kd.R_base ho0)) (fun _ h_ => h_.1)); have HO466 := Ya (Kd.R_lower (Kd.R_newM (M := fun k_ => (w.heap.size ≤ k_)) ho0 (Z7 Q8) (fun k_ h_ => h_)) (Z7 Q8)); replace HB := Ya hb; replace HI427 := Ya hi; (try clear hb hk hi ho0); obtain ⟨Az_, cz_, ez_⟩ := Z17 HO466.out; subst ez_; have p44 : 0 ≤ (t461 : Int) := Z29 Q1; have q44 : (t461 : Int) < ((x8_2.length : Int) : Int) := Z29 Q1; obtain ⟨go44, co44, eo44, gb44, gl44, cl44, HG44⟩ := Kd.N_form HO_8.out (by omega); (first | cases eo44 | (injection eo44 with ea_ en_ ec_; (first | subst ea_ | (injection ea_ with ea_; subst ea_)); subst ec_; clear en_)); have GB44 := Ya gb44; have GG44 := Ya HG44; clear gb44 gl44 HG44; obtain ⟨ce44, hcl44, hM44, hcc44, hfr44⟩ := Kd.N_elem HO_8.out [] (t461 : Int) p44 q44; obtain ⟨ua44_0, uc44_0, rfl, ul44_0, ge44_0⟩ := Kd.FK_slice_open hM44; have hx44_0 := hcc44 0 _ rfl; have hf44_0 := hfr44 0; (try simp only [show ((Kd.slice 3 (Kd.int .i64))).sz = 1 from rfl, Nat.mul_one, Nat.add_zero] at hx44_0); (try simp only [show ((Kd.slice 3 (Kd.int .i64))).sz = 1 from rfl, Nat.mul_one, Nat.add_zero] at hf44_0); clear hcl44 hcc44 hfr44; (try clear hM44); replace p44 := eq_true p44; replace q44 := eq_true q44; have n_ := Ya (Kd.N_mono (ok' := (fun k_ => (w.heap.size ≤ k_) ∧ some k_ ≠ (v430 : Value).ownBlock ∧ some k_ ≠ ((.slice Az_ t464.length cz_) : Value).ownBlock ∧ k_ ≠ gb427)) HO_8.out (fun k_ hk => ⟨hk.1.1, ⟨hk.1.2.1, ⟨hk.2, hk.1.2.2⟩⟩⟩)); clear HO_8; have HO_8 := n_; clear n_; have HX54 := Ya (show Kd.N (Kd.slice 3 (Kd.int .i64)) 24 w53 w.heap.size (fun k_ => (w.heap.size ≤ k_) ∧ some k_ ≠ (v430 : Value).ownBlock ∧ k_ ≠ gb427) (.slice (some ⟨go44, 0, none⟩) x8_2.length co51) x8_2 from Q41); obtain ⟨ce54, hcl54, hM54, hcc54, hfr54⟩ := Kd.N_elem HX54.out [] (t461 : Int) (Z29 Q1) (by have h_ : (t461 : Int) < ((x8_2.length : Int) : Int) := Z29 Q1; first | exact h_ | (have e_ := (Kd.N_reads' HO_8.out).1; omega) | simpa using h_); obtain ⟨ua54_0, uc54_0, rfl, ul54_0, ge54_0⟩ := Kd.FK_slice_open hM54; have HP54 := Kd.N_seg HX54.out (t461 : Int) (Z29 Q1) (by have h_ : (t461 : Int) < ((x8_2.length : Int) : Int) := Z29 Q1; first | exact h_ | (have e_ := (Kd.N_reads' HO_8.out).1; omega) | simpa using h_) (seg := [(.slice Az_ t464.length cz_)]) (j := 0) hcl54 hcc54 (show 1 ≤ 1 from by decide) (x' := t464) (Kd.FK_slice_mk (Kd.R_reads' (Z12 (ok' := (fun k_ => ((fun k_ => (w.heap.size ≤ k_) ∧ some k_ ≠ (v430 : Value).ownBlock ∧ k_ ≠ gb427)) k_ ∧ k_ ≠ go44)) (IsS88.apart HI427.out (Kd.R_apart' (Kd.R_apart' (HO466.out) (Kd.R_typed HO_7.out) (by decide)) (Kd.N_typed HO_8.out) (by decide)) (by decide)) (fun k_ hk => ⟨⟨hk.1.1.1.1, ⟨hk.1.1.2, hk.2⟩⟩, fun e_ => (hk.1.2) (by rw [e_]; rfl)⟩))).2.1 (Kd.R_F (Z12 (ok' := (fun k_ => ((fun k_ => (w.heap.size ≤ k_) ∧ some k_ ≠ (v430 : Value).ownBlock ∧ k_ ≠ gb427)) k_ ∧ k_ ≠ go44)) (IsS88.apart HI427.out (Kd.R_apart' (Kd.R_apart' (HO466.out) (Kd.R_typed HO_7.out) (by decide)) (Kd.N_typed HO_8.out) (by decide)) (by decide)) (fun k_ hk => ⟨⟨hk.1.1.1.1, ⟨hk.1.1.2, hk.2⟩⟩, fun e_ => (hk.1.2) (by rw [e_]; rfl)⟩)))) (fun _ hk => hk); have hx54_0 := hcc54 0 _ rfl; (try simp only [show ((Kd.slice 3 (Kd.int .i64))).sz = 1 from rfl, Nat.mul_one, Nat.add_zero] at hx54_0); have hf54_0 := hfr54 0; (try simp only [show ((Kd.slice 3 (Kd.int .i64))).sz = 1 from rfl, Nat.mul_one, Nat.add_zero] at hf54_0); clear hcl54 hcc54 hfr54; (try clear hM54); (try simp only [show ((Kd.slice 3 (Kd.int .i64))).sz = 1 from rfl, Nat.mul_one, Nat.add_zero] at HP54); (try simp only [show ((Kd.slice 3 (Kd.int .i64))).sz = 1 from rfl, Nat.mul_one, Nat.add_zero] at HP54)) | ((with_reducible refine gate_store (t := 24) (p := 66) rfl ?_); refine store_event (t := 24) (p := 66) (v := ?vo_w55) (w1 := (w53.setCell ⟨go44, (t461 : Int).toNat, none⟩ ((.slice Az_ t464.length cz_)))) ?hg ?ho ?hn ?hr ?_; (case ho => rfl); (case hg => rfl); (case hn => rfl); (case hr => first | (go_simp; done) | (go_simp; rfl)); intro w55 hw; have hg : w53.grownBy w55 (some go44) := (by rw [hw]; exact HP54.2); have hp_ : Kd.N (Kd.slice 3 (Kd.int .i64)) 24 w55 w.heap.size (fun k_ => (w.heap.size ≤ k_) ∧ some k_ ≠ (v430 : Value).ownBlock ∧ k_ ≠ gb427) (.slice (some ⟨go44, 0, none⟩) x8_2.length co51) y469 := (by rw [hw, Ny469.out]; exact HP54.1); clear HP54; replace HO_7 := Ya (Kd.R_over' (v := (.slice (some ⟨go44, 0, none⟩) x8_2.length co51)) (Yr HO_7.out) (Kd.N_typed HO_8.out) (by decide) hg); replace HI427 := Ya (IsS88.grown Q16 hg (IsS88.own_neN HI427.out HO_8.out (by decide))); replace HO_8 := Ya hp_; replace HB := Ya ((by rw [hw]; exact Z6 (HB.out) GB44.out : Below w.heap.size w w55)); clear HO466; clear hg hw hp_) | (go_at_call 70; (with_reducible refine (spec_l1Cur_one.calls gb427 l0 t467 t468 8 true t471 t472 w _ ?side1 ?side2 A46.out).mono ?_); (case side1 => repeat (first | (with_reducible first | exact HI427.out | apply IsS88.alloc | apply IsS88.drewN | apply IsS88.drew | apply IsS88.set_1 | apply IsS88.set_2) | exact HI427.out)); (case side2 => repeat (first | (with_reducible first | exact HB.out | apply Z5 | apply Z3 | apply Z4 | refine Z6 ?_ (IsS88.ge HI427.out)) | exact HB.out)); rintro e w56 ⟨rfl, hi, hb, hk⟩; replace HO_7 := Ya (Z12 (Kd.R_keep (IsS88.apart (show IsS88 w _ gb427 l0 t467 t468 from by repeat (first | (with_reducible first | exact HI427.out | apply IsS88.alloc | apply IsS88.drewN | apply IsS88.drew | apply IsS88.set_1 | apply IsS88.set_2) | exact HI427.out)) (Yr HO_7.out) (by decide)) hk (fun _ h => h.2)) (fun _ h => h.1)); replace HO_8 := Ya (Kd.N_mono (Kd.N_keep (Kd.N_mono (ok := fun k_ => (((w.heap.size ≤ k_)) ∧ (some k_ ≠ (v430 : Value).ownBlock ∧ k_ ≠ gb427))) (Qm0 HO_8.out) (fun k_ hk_ => (⟨hk_, hk_.2.2⟩ : _ ∧ k_ ≠ gb427))) hk (fun _ h => h.2)) (fun _ h => h.1)); replace HB := Ya hb; replace HI427 := Ya hi; (try clear hb hk hi); have q57 : ((ji48) : Int) ≤ ((x8_2.length : Int) : Int) := Z29 Q1; obtain ⟨i057, hi057, _, hsz57, _⟩ := info_parts info24; have hcut57 := cut_to (P := Try.prog) 50 24 .i64 Try.underlying50 hi057 (some ⟨go44, 0, none⟩) x8_2.length co51 (ji48) (Z29 Q1) q57 (Kd.N_reads' HO_8.out).2.1; have hls_ := congrArg List.length Ny469.out; rw [List.length_set] at hls_; have hr57 := Kd.N_take (m := ((ji48) : Int).toNat) HO_8.out (by omega); have hy57 : y473.length = ((ji48) : Int).toNat := (by rw [Ny473.out, Z31]; omega); rw [← Ny473.out] at hr57; rw [← hy57] at hr57 hcut57; clear hy57 hi057 hsz57 HO_8; have HO475 := Ya hr57; clear hr57; replace q57 := eq_true q57))
            go_ret3
            exact ⟨_, _, by first | rfl | (simp [errW_none, errW_some] <;> rfl) | (simp only [← hji48]; first | rfl | (simp [errW_none, errW_some] <;> rfl)) | (simp [*, errW_none, errW_some] <;> rfl), by (with_reducible repeat (first | apply Kd.N_alloc | apply Kd.N_drewN | apply Kd.N_drew)); exact Kd.N_mono HO475.out (fun _ hk => ⟨hk.1, hk.2.1⟩), Q29, Q19⟩
           ·rw [if_neg c50] at H
            exact absurd H (by simp)
          ·rw [if_neg c49] at H
           exact absurd H (by simp)
         ·replace c47 := Bool.eq_false_iff.mpr c47
          subst c47
          have H1 : (some (t428, y469, t429)) = some (r1, r2, r3) := by rw [if_neg (show ¬ (false = true) by decide)] at H; exact H
          clear H
          have H := H1
          clear H1
          simp only [Option.some.injEq, Prod.mk.injEq] at H
          obtain ⟨rfl, rfl, rfl⟩ := H
          obtain ⟨Ao58, co58, eo58⟩ := Kd.N_slice HO_8.out
          subst eo58
          go_wp2_with (first | ((with_reducible refine gate_callee (f := 69) rfl ?_); refine Yz 62 Try.func69 #[.pointer (some ⟨gb427, 0, none⟩), .int .i64 (x8_2.length : Int)] ?_; (with_reducible refine (spec_l1Cur_pick.calls gb427 l0 x428001_32 x428002_32 (x8_2.length : Int) t461 t462 t463 w _ ?side1 ?side2 A40.out).mono ?_); (case side1 => repeat (first | (with_reducible first | exact HI427.out | apply IsS88.alloc | apply IsS88.drewN | apply IsS88.drew | apply IsS88.set_1 | apply IsS88.set_2) | exact HI427.out)); (case side2 => repeat (first | (with_reducible first | exact HB.out | apply Z5 | apply Z3 | apply Z4 | refine Z6 ?_ (IsS88.ge HI427.out)) | exact HB.out)); rintro e w59 ⟨rfl, hi, hb, hk⟩; refine ⟨_, rfl, ?_⟩; replace HO_7 := Ya (Z12 (Kd.R_keep (IsS88.apart (show IsS88 w _ gb427 l0 x428001_32 x428002_32 from by repeat (first | (with_reducible first | exact HI427.out | apply IsS88.alloc | apply IsS88.drewN | apply IsS88.drew | apply IsS88.set_1 | apply IsS88.set_2) | exact HI427.out)) (Yr HO_7.out) (by decide)) hk (fun _ h => h.2)) (fun _ h => h.1)); replace HO_8 := Ya (Kd.N_mono (Kd.N_keep (Kd.N_mono (ok := fun k_ => (((w.heap.size ≤ k_)) ∧ (some k_ ≠ (v430 : Value).ownBlock ∧ k_ ≠ gb427))) (Qm0 HO_8.out) (fun k_ hk_ => (⟨hk_, hk_.2.2⟩ : _ ∧ k_ ≠ gb427))) hk (fun _ h => h.2)) (fun _ h => h.1)); replace HB := Ya hb; replace HI427 := Ya hi; (try clear hb hk hi)) | ((with_reducible refine gate_callee (f := 76) rfl ?_); refine Yz 65 Try.func76 #[.pointer (some ⟨gb427, 0, none⟩), .int .i64 t428] ?_; (with_reducible refine (spec_l1Cur_order.calls kj32 gb427 l0 t462 t463 t428 t464 t467 t468 w _ ?side1 ?side2 A41.out).mono ?_); (case side1 => repeat (first | (with_reducible first | exact HI427.out | apply IsS88.alloc | apply IsS88.drewN | apply IsS88.drew | apply IsS88.set_1 | apply IsS88.set_2) | exact HI427.out)); (case side2 => repeat (first | (with_reducible first | exact HB.out | apply Z5 | apply Z3 | apply Z4 | refine Z6 ?_ (IsS88.ge HI427.out)) | exact HB.out)); rintro e w60 ⟨v465, rfl, ho0, hi, hb, hk⟩; refine ⟨_, rfl, ?_⟩; replace HO_7 := Ya (Z12 (Kd.R_keep (IsS88.apart (show IsS88 w _ gb427 l0 t462 t463 from by repeat (first | (with_reducible first | exact HI427.out | apply IsS88.alloc | apply IsS88.drewN | apply IsS88.drew | apply IsS88.set_1 | apply IsS88.set_2) | exact HI427.out)) (Yr HO_7.out) (by decide)) hk (fun _ h => h.2)) (fun _ h => h.1)); replace HO_8 := Ya (Kd.N_mono (Kd.N_told (Kd.N_oldK (Kd.N_mono (ok := fun k_ => (((w.heap.size ≤ k_)) ∧ (some k_ ≠ (v430 : Value).ownBlock ∧ k_ ≠ gb427))) (Qm0 HO_8.out) (fun k_ hk_ => (⟨hk_, hk_.2.2⟩ : _ ∧ k_ ≠ gb427))) hk) (Kd.R_base ho0)) (fun _ h_ => h_.1)); have HO466 := Ya (Kd.R_lower (Kd.R_newM (M := fun k_ => (w.heap.size ≤ k_)) ho0 (Z7 Q8) (fun k_ h_ => h_)) (Z7 Q8)); replace HB := Ya hb; replace HI427 := Ya hi; (try clear hb hk hi ho0); obtain ⟨Az_, cz_, ez_⟩ := Z17 HO466.out; subst ez_; have p44 : 0 ≤ (t461 : Int) := Z29 Q1; have q44 : (t461 : Int) < ((x8_2.length : Int) : Int) := Z29 Q1; obtain ⟨go44, co44, eo44, gb44, gl44, cl44, HG44⟩ := Kd.N_form HO_8.out (by omega); (first | cases eo44 | (injection eo44 with ea_ en_ ec_; (first | subst ea_ | (injection ea_ with ea_; subst ea_)); subst ec_; clear en_)); have GB44 := Ya gb44; have GG44 := Ya HG44; clear gb44 gl44 HG44; obtain ⟨ce44, hcl44, hM44, hcc44, hfr44⟩ := Kd.N_elem HO_8.out [] (t461 : Int) p44 q44; obtain ⟨ua44_0, uc44_0, rfl, ul44_0, ge44_0⟩ := Kd.FK_slice_open hM44; have hx44_0 := hcc44 0 _ rfl; have hf44_0 := hfr44 0; (try simp only [show ((Kd.slice 3 (Kd.int .i64))).sz = 1 from rfl, Nat.mul_one, Nat.add_zero] at hx44_0); (try simp only [show ((Kd.slice 3 (Kd.int .i64))).sz = 1 from rfl, Nat.mul_one, Nat.add_zero] at hf44_0); clear hcl44 hcc44 hfr44; (try clear hM44); replace p44 := eq_true p44; replace q44 := eq_true q44; have n_ := Ya (Kd.N_mono (ok' := (fun k_ => (w.heap.size ≤ k_) ∧ some k_ ≠ (v430 : Value).ownBlock ∧ some k_ ≠ ((.slice Az_ t464.length cz_) : Value).ownBlock ∧ k_ ≠ gb427)) HO_8.out (fun k_ hk => ⟨hk.1.1, ⟨hk.1.2.1, ⟨hk.2, hk.1.2.2⟩⟩⟩)); clear HO_8; have HO_8 := n_; clear n_; have HX61 := Ya (show Kd.N (Kd.slice 3 (Kd.int .i64)) 24 w60 w.heap.size (fun k_ => (w.heap.size ≤ k_) ∧ some k_ ≠ (v430 : Value).ownBlock ∧ k_ ≠ gb427) (.slice (some ⟨go44, 0, none⟩) x8_2.length co58) x8_2 from Q41); obtain ⟨ce61, hcl61, hM61, hcc61, hfr61⟩ := Kd.N_elem HX61.out [] (t461 : Int) (Z29 Q1) (by have h_ : (t461 : Int) < ((x8_2.length : Int) : Int) := Z29 Q1; first | exact h_ | (have e_ := (Kd.N_reads' HO_8.out).1; omega) | simpa using h_); obtain ⟨ua61_0, uc61_0, rfl, ul61_0, ge61_0⟩ := Kd.FK_slice_open hM61; have HP61 := Kd.N_seg HX61.out (t461 : Int) (Z29 Q1) (by have h_ : (t461 : Int) < ((x8_2.length : Int) : Int) := Z29 Q1; first | exact h_ | (have e_ := (Kd.N_reads' HO_8.out).1; omega) | simpa using h_) (seg := [(.slice Az_ t464.length cz_)]) (j := 0) hcl61 hcc61 (show 1 ≤ 1 from by decide) (x' := t464) (Kd.FK_slice_mk (Kd.R_reads' (Z12 (ok' := (fun k_ => ((fun k_ => (w.heap.size ≤ k_) ∧ some k_ ≠ (v430 : Value).ownBlock ∧ k_ ≠ gb427)) k_ ∧ k_ ≠ go44)) (IsS88.apart HI427.out (Kd.R_apart' (Kd.R_apart' (HO466.out) (Kd.R_typed HO_7.out) (by decide)) (Kd.N_typed HO_8.out) (by decide)) (by decide)) (fun k_ hk => ⟨⟨hk.1.1.1.1, ⟨hk.1.1.2, hk.2⟩⟩, fun e_ => (hk.1.2) (by rw [e_]; rfl)⟩))).2.1 (Kd.R_F (Z12 (ok' := (fun k_ => ((fun k_ => (w.heap.size ≤ k_) ∧ some k_ ≠ (v430 : Value).ownBlock ∧ k_ ≠ gb427)) k_ ∧ k_ ≠ go44)) (IsS88.apart HI427.out (Kd.R_apart' (Kd.R_apart' (HO466.out) (Kd.R_typed HO_7.out) (by decide)) (Kd.N_typed HO_8.out) (by decide)) (by decide)) (fun k_ hk => ⟨⟨hk.1.1.1.1, ⟨hk.1.1.2, hk.2⟩⟩, fun e_ => (hk.1.2) (by rw [e_]; rfl)⟩)))) (fun _ hk => hk); have hx61_0 := hcc61 0 _ rfl; (try simp only [show ((Kd.slice 3 (Kd.int .i64))).sz = 1 from rfl, Nat.mul_one, Nat.add_zero] at hx61_0); have hf61_0 := hfr61 0; (try simp only [show ((Kd.slice 3 (Kd.int .i64))).sz = 1 from rfl, Nat.mul_one, Nat.add_zero] at hf61_0); clear hcl61 hcc61 hfr61; (try clear hM61); (try simp only [show ((Kd.slice 3 (Kd.int .i64))).sz = 1 from rfl, Nat.mul_one, Nat.add_zero] at HP61); (try simp only [show ((Kd.slice 3 (Kd.int .i64))).sz = 1 from rfl, Nat.mul_one, Nat.add_zero] at HP61)) | ((with_reducible refine gate_store (t := 24) (p := 66) rfl ?_); refine store_event (t := 24) (p := 66) (v := ?vo_w62) (w1 := (w60.setCell ⟨go44, (t461 : Int).toNat, none⟩ ((.slice Az_ t464.length cz_)))) ?hg ?ho ?hn ?hr ?_; (case ho => rfl); (case hg => rfl); (case hn => rfl); (case hr => first | (go_simp; done) | (go_simp; rfl)); intro w62 hw; have hg : w60.grownBy w62 (some go44) := (by rw [hw]; exact HP61.2); have hp_ : Kd.N (Kd.slice 3 (Kd.int .i64)) 24 w62 w.heap.size (fun k_ => (w.heap.size ≤ k_) ∧ some k_ ≠ (v430 : Value).ownBlock ∧ k_ ≠ gb427) (.slice (some ⟨go44, 0, none⟩) x8_2.length co58) y469 := (by rw [hw, Ny469.out]; exact HP61.1); clear HP61; replace HO_7 := Ya (Kd.R_over' (v := (.slice (some ⟨go44, 0, none⟩) x8_2.length co58)) (Yr HO_7.out) (Kd.N_typed HO_8.out) (by decide) hg); replace HI427 := Ya (IsS88.grown Q16 hg (IsS88.own_neN HI427.out HO_8.out (by decide))); replace HO_8 := Ya hp_; replace HB := Ya ((by rw [hw]; exact Z6 (HB.out) GB44.out : Below w.heap.size w w62)); clear HO466; clear hg hw hp_) | (go_at_call 70; (with_reducible refine (spec_l1Cur_one.calls gb427 l0 t467 t468 8 false t471 t472 w _ ?side1 ?side2 A46.out).mono ?_); (case side1 => repeat (first | (with_reducible first | exact HI427.out | apply IsS88.alloc | apply IsS88.drewN | apply IsS88.drew | apply IsS88.set_1 | apply IsS88.set_2) | exact HI427.out)); (case side2 => repeat (first | (with_reducible first | exact HB.out | apply Z5 | apply Z3 | apply Z4 | refine Z6 ?_ (IsS88.ge HI427.out)) | exact HB.out)); rintro e w63 ⟨rfl, hi, hb, hk⟩; replace HO_7 := Ya (Z12 (Kd.R_keep (IsS88.apart (show IsS88 w _ gb427 l0 t467 t468 from by repeat (first | (with_reducible first | exact HI427.out | apply IsS88.alloc | apply IsS88.drewN | apply IsS88.drew | apply IsS88.set_1 | apply IsS88.set_2) | exact HI427.out)) (Yr HO_7.out) (by decide)) hk (fun _ h => h.2)) (fun _ h => h.1)); replace HO_8 := Ya (Kd.N_mono (Kd.N_keep (Kd.N_mono (ok := fun k_ => (((w.heap.size ≤ k_)) ∧ (some k_ ≠ (v430 : Value).ownBlock ∧ k_ ≠ gb427))) (Qm0 HO_8.out) (fun k_ hk_ => (⟨hk_, hk_.2.2⟩ : _ ∧ k_ ≠ gb427))) hk (fun _ h => h.2)) (fun _ h => h.1)); replace HB := Ya hb; replace HI427 := Ya hi; (try clear hb hk hi)))
          go_ret3
          exact ⟨_, _, Q2, Q35, Q29, Q19⟩
        ·rw [if_neg c45] at H
         have c45b0 : decide (0 < (x8_2.length : Int)) = false := Z36 c45
         have c45b1 : decide (0 < x8_2.length) = false := Z36 (by omega)
         clear c45
         simp only [Option.some.injEq, Prod.mk.injEq] at H
         obtain ⟨rfl, rfl, rfl⟩ := H
         obtain ⟨Ao64, co64, eo64⟩ := Kd.N_slice HO_8.out
         subst eo64
         go_wp2_with (first | ((with_reducible refine gate_callee (f := 69) rfl ?_); refine Yz 62 Try.func69 #[.pointer (some ⟨gb427, 0, none⟩), .int .i64 (x8_2.length : Int)] ?_; (with_reducible refine (spec_l1Cur_pick.calls gb427 l0 x428001_32 x428002_32 (x8_2.length : Int) t461 t462 t463 w _ ?side1 ?side2 A40.out).mono ?_); (case side1 => repeat (first | (with_reducible first | exact HI427.out | apply IsS88.alloc | apply IsS88.drewN | apply IsS88.drew | apply IsS88.set_1 | apply IsS88.set_2) | exact HI427.out)); (case side2 => repeat (first | (with_reducible first | exact HB.out | apply Z5 | apply Z3 | apply Z4 | refine Z6 ?_ (IsS88.ge HI427.out)) | exact HB.out)); rintro e w65 ⟨rfl, hi, hb, hk⟩; refine ⟨_, rfl, ?_⟩; replace HO_7 := Ya (Z12 (Kd.R_keep (IsS88.apart (show IsS88 w _ gb427 l0 x428001_32 x428002_32 from by repeat (first | (with_reducible first | exact HI427.out | apply IsS88.alloc | apply IsS88.drewN | apply IsS88.drew | apply IsS88.set_1 | apply IsS88.set_2) | exact HI427.out)) (Yr HO_7.out) (by decide)) hk (fun _ h => h.2)) (fun _ h => h.1)); replace HO_8 := Ya (Kd.N_mono (Kd.N_keep (Kd.N_mono (ok := fun k_ => (((w.heap.size ≤ k_)) ∧ (some k_ ≠ (v430 : Value).ownBlock ∧ k_ ≠ gb427))) (Qm0 HO_8.out) (fun k_ hk_ => (⟨hk_, hk_.2.2⟩ : _ ∧ k_ ≠ gb427))) hk (fun _ h => h.2)) (fun _ h => h.1)); replace HB := Ya hb; replace HI427 := Ya hi; (try clear hb hk hi)) | ((with_reducible refine gate_callee (f := 76) rfl ?_); refine Yz 65 Try.func76 #[.pointer (some ⟨gb427, 0, none⟩), .int .i64 t428] ?_; (with_reducible refine (spec_l1Cur_order.calls kj32 gb427 l0 t462 t463 t428 t464 t467 t468 w _ ?side1 ?side2 A41.out).mono ?_); (case side1 => repeat (first | (with_reducible first | exact HI427.out | apply IsS88.alloc | apply IsS88.drewN | apply IsS88.drew | apply IsS88.set_1 | apply IsS88.set_2) | exact HI427.out)); (case side2 => repeat (first | (with_reducible first | exact HB.out | apply Z5 | apply Z3 | apply Z4 | refine Z6 ?_ (IsS88.ge HI427.out)) | exact HB.out)); rintro e w66 ⟨v465, rfl, ho0, hi, hb, hk⟩; refine ⟨_, rfl, ?_⟩; replace HO_7 := Ya (Z12 (Kd.R_keep (IsS88.apart (show IsS88 w _ gb427 l0 t462 t463 from by repeat (first | (with_reducible first | exact HI427.out | apply IsS88.alloc | apply IsS88.drewN | apply IsS88.drew | apply IsS88.set_1 | apply IsS88.set_2) | exact HI427.out)) (Yr HO_7.out) (by decide)) hk (fun _ h => h.2)) (fun _ h => h.1)); replace HO_8 := Ya (Kd.N_mono (Kd.N_told (Kd.N_oldK (Kd.N_mono (ok := fun k_ => (((w.heap.size ≤ k_)) ∧ (some k_ ≠ (v430 : Value).ownBlock ∧ k_ ≠ gb427))) (Qm0 HO_8.out) (fun k_ hk_ => (⟨hk_, hk_.2.2⟩ : _ ∧ k_ ≠ gb427))) hk) (Kd.R_base ho0)) (fun _ h_ => h_.1)); have HO466 := Ya (Kd.R_lower (Kd.R_newM (M := fun k_ => (w.heap.size ≤ k_)) ho0 (Z7 Q8) (fun k_ h_ => h_)) (Z7 Q8)); replace HB := Ya hb; replace HI427 := Ya hi; (try clear hb hk hi ho0); obtain ⟨Az_, cz_, ez_⟩ := Z17 HO466.out; subst ez_; have p44 : 0 ≤ (t461 : Int) := Z29 Q1; have q44 : (t461 : Int) < ((x8_2.length : Int) : Int) := Z29 Q1; obtain ⟨go44, co44, eo44, gb44, gl44, cl44, HG44⟩ := Kd.N_form HO_8.out (by omega); (first | cases eo44 | (injection eo44 with ea_ en_ ec_; (first | subst ea_ | (injection ea_ with ea_; subst ea_)); subst ec_; clear en_)); have GB44 := Ya gb44; have GG44 := Ya HG44; clear gb44 gl44 HG44; obtain ⟨ce44, hcl44, hM44, hcc44, hfr44⟩ := Kd.N_elem HO_8.out [] (t461 : Int) p44 q44; obtain ⟨ua44_0, uc44_0, rfl, ul44_0, ge44_0⟩ := Kd.FK_slice_open hM44; have hx44_0 := hcc44 0 _ rfl; have hf44_0 := hfr44 0; (try simp only [show ((Kd.slice 3 (Kd.int .i64))).sz = 1 from rfl, Nat.mul_one, Nat.add_zero] at hx44_0); (try simp only [show ((Kd.slice 3 (Kd.int .i64))).sz = 1 from rfl, Nat.mul_one, Nat.add_zero] at hf44_0); clear hcl44 hcc44 hfr44; (try clear hM44); replace p44 := eq_true p44; replace q44 := eq_true q44; have n_ := Ya (Kd.N_mono (ok' := (fun k_ => (w.heap.size ≤ k_) ∧ some k_ ≠ (v430 : Value).ownBlock ∧ some k_ ≠ ((.slice Az_ t464.length cz_) : Value).ownBlock ∧ k_ ≠ gb427)) HO_8.out (fun k_ hk => ⟨hk.1.1, ⟨hk.1.2.1, ⟨hk.2, hk.1.2.2⟩⟩⟩)); clear HO_8; have HO_8 := n_; clear n_; have HX67 := Ya (show Kd.N (Kd.slice 3 (Kd.int .i64)) 24 w66 w.heap.size (fun k_ => (w.heap.size ≤ k_) ∧ some k_ ≠ (v430 : Value).ownBlock ∧ k_ ≠ gb427) (.slice (some ⟨go44, 0, none⟩) x8_2.length co64) x8_2 from Q41); obtain ⟨ce67, hcl67, hM67, hcc67, hfr67⟩ := Kd.N_elem HX67.out [] (t461 : Int) (Z29 Q1) (by have h_ : (t461 : Int) < ((x8_2.length : Int) : Int) := Z29 Q1; first | exact h_ | (have e_ := (Kd.N_reads' HO_8.out).1; omega) | simpa using h_); obtain ⟨ua67_0, uc67_0, rfl, ul67_0, ge67_0⟩ := Kd.FK_slice_open hM67; have HP67 := Kd.N_seg HX67.out (t461 : Int) (Z29 Q1) (by have h_ : (t461 : Int) < ((x8_2.length : Int) : Int) := Z29 Q1; first | exact h_ | (have e_ := (Kd.N_reads' HO_8.out).1; omega) | simpa using h_) (seg := [(.slice Az_ t464.length cz_)]) (j := 0) hcl67 hcc67 (show 1 ≤ 1 from by decide) (x' := t464) (Kd.FK_slice_mk (Kd.R_reads' (Z12 (ok' := (fun k_ => ((fun k_ => (w.heap.size ≤ k_) ∧ some k_ ≠ (v430 : Value).ownBlock ∧ k_ ≠ gb427)) k_ ∧ k_ ≠ go44)) (IsS88.apart HI427.out (Kd.R_apart' (Kd.R_apart' (HO466.out) (Kd.R_typed HO_7.out) (by decide)) (Kd.N_typed HO_8.out) (by decide)) (by decide)) (fun k_ hk => ⟨⟨hk.1.1.1.1, ⟨hk.1.1.2, hk.2⟩⟩, fun e_ => (hk.1.2) (by rw [e_]; rfl)⟩))).2.1 (Kd.R_F (Z12 (ok' := (fun k_ => ((fun k_ => (w.heap.size ≤ k_) ∧ some k_ ≠ (v430 : Value).ownBlock ∧ k_ ≠ gb427)) k_ ∧ k_ ≠ go44)) (IsS88.apart HI427.out (Kd.R_apart' (Kd.R_apart' (HO466.out) (Kd.R_typed HO_7.out) (by decide)) (Kd.N_typed HO_8.out) (by decide)) (by decide)) (fun k_ hk => ⟨⟨hk.1.1.1.1, ⟨hk.1.1.2, hk.2⟩⟩, fun e_ => (hk.1.2) (by rw [e_]; rfl)⟩)))) (fun _ hk => hk); have hx67_0 := hcc67 0 _ rfl; (try simp only [show ((Kd.slice 3 (Kd.int .i64))).sz = 1 from rfl, Nat.mul_one, Nat.add_zero] at hx67_0); have hf67_0 := hfr67 0; (try simp only [show ((Kd.slice 3 (Kd.int .i64))).sz = 1 from rfl, Nat.mul_one, Nat.add_zero] at hf67_0); clear hcl67 hcc67 hfr67; (try clear hM67); (try simp only [show ((Kd.slice 3 (Kd.int .i64))).sz = 1 from rfl, Nat.mul_one, Nat.add_zero] at HP67); (try simp only [show ((Kd.slice 3 (Kd.int .i64))).sz = 1 from rfl, Nat.mul_one, Nat.add_zero] at HP67)) | ((with_reducible refine gate_store (t := 24) (p := 66) rfl ?_); refine store_event (t := 24) (p := 66) (v := ?vo_w68) (w1 := (w66.setCell ⟨go44, (t461 : Int).toNat, none⟩ ((.slice Az_ t464.length cz_)))) ?hg ?ho ?hn ?hr ?_; (case ho => rfl); (case hg => rfl); (case hn => rfl); (case hr => first | (go_simp; done) | (go_simp; rfl)); intro w68 hw; have hg : w66.grownBy w68 (some go44) := (by rw [hw]; exact HP67.2); have hp_ : Kd.N (Kd.slice 3 (Kd.int .i64)) 24 w68 w.heap.size (fun k_ => (w.heap.size ≤ k_) ∧ some k_ ≠ (v430 : Value).ownBlock ∧ k_ ≠ gb427) (.slice (some ⟨go44, 0, none⟩) x8_2.length co64) y469 := (by rw [hw, Ny469.out]; exact HP67.1); clear HP67; replace HO_7 := Ya (Kd.R_over' (v := (.slice (some ⟨go44, 0, none⟩) x8_2.length co64)) (Yr HO_7.out) (Kd.N_typed HO_8.out) (by decide) hg); replace HI427 := Ya (IsS88.grown Q16 hg (IsS88.own_neN HI427.out HO_8.out (by decide))); replace HO_8 := Ya hp_; replace HB := Ya ((by rw [hw]; exact Z6 (HB.out) GB44.out : Below w.heap.size w w68)); clear HO466; clear hg hw hp_))
         go_ret3
         exact ⟨_, _, Q2, Q35, Q29, Q19⟩
       ·rw [if_neg c43] at H
        exact absurd H (by simp)
      ·rw [if_neg c42] at H
       exact absurd H (by simp)
     ·replace c39 := Bool.eq_false_iff.mpr c39
      subst c39
      have H1 : (if (x8_2.length : Int) > 0 then ((spec_l1Cur_one.f l0 x428001_32 x428002_32 8).bind fun bt476 => (if bt476.1 = true then (if 0 ≤ (wrap64 ((x8_2.length : Int) - 1)) then (if (wrap64 ((x8_2.length : Int) - 1)) ≤ (x8_2.length : Int) then (some (t428, (x8_2.take ((wrap64 ((x8_2.length : Int) - 1)) : Int).toNat), t429)) else (none)) else (none)) else (some (t428, x8_2, t429)))) else (some (t428, x8_2, t429))) = some (r1, r2, r3) := by rw [if_neg (show ¬ (false = true) by decide)] at H; exact H
      clear H
      have H := H1
      clear H1
      by_cases c69 : (x8_2.length : Int) > 0
      ·rw [if_pos c69] at H
       have c69b0 : decide (0 < (x8_2.length : Int)) = true := Z37 c69
       have c69b1 : decide (0 < x8_2.length) = true := Z37 (by omega)
       clear c69
       replace H := Z35.mp H
       obtain ⟨⟨t476, t477, t478⟩, A700, H⟩ := H
       replace H : (if t476 = true then (if 0 ≤ (wrap64 ((x8_2.length : Int) - 1)) then (if (wrap64 ((x8_2.length : Int) - 1)) ≤ (x8_2.length : Int) then (some (t428, (x8_2.take ((wrap64 ((x8_2.length : Int) - 1)) : Int).toNat), t429)) else (none)) else (none)) else (some (t428, x8_2, t429))) = some (r1, r2, r3) := H
       have A70 := Ya A700
       clear A700
       by_cases c71 : t476 = true
       ·subst c71
        have H1 : (if 0 ≤ (wrap64 ((x8_2.length : Int) - 1)) then (if (wrap64 ((x8_2.length : Int) - 1)) ≤ (x8_2.length : Int) then (some (t428, (x8_2.take ((wrap64 ((x8_2.length : Int) - 1)) : Int).toNat), t429)) else (none)) else (none)) = some (r1, r2, r3) := by rw [if_pos rfl] at H; exact H
        clear H
        have H := H1
        clear H1
        obtain ⟨ji72, hji72⟩ : ∃ j_ : Int, (wrap64 ((x8_2.length : Int) - 1)) = j_ := ⟨_, rfl⟩
        replace H : (if 0 ≤ (ji72) then (if (ji72) ≤ (x8_2.length : Int) then (some (t428, (x8_2.take ((ji72) : Int).toNat), t429)) else (none)) else (none)) = some (r1, r2, r3) := by first | (rw [hji72] at H; exact H) | (simp only [hji72] at H ⊢; exact H)
        (try rw [hji72] at A70)
        have hji72w : (IntKind.i64.wrap ((x8_2.length : Int) - 1)) = ji72 := (i64_w _).trans hji72
        by_cases c73 : 0 ≤ (ji72)
        ·rw [if_pos c73] at H
         have c73b0 := eq_true c73
         have c73b1 := Z37 c73
         clear c73
         by_cases c74 : (ji72) ≤ (x8_2.length : Int)
         ·rw [if_pos c74] at H
          have c74b0 := eq_true c74
          have c74b1 := Z37 c74
          clear c74
          obtain ⟨y479, hy479⟩ : ∃ y_ : List (List Int), y_ = (x8_2.take ((ji72) : Int).toNat) := ⟨_, rfl⟩
          replace H : (some (t428, y479, t429)) = some (r1, r2, r3) := by first | (rw [hy479]; with_reducible exact H) | (have H2_ := (Option.bind_some _ _).symm.trans H; rw [hy479]; with_reducible exact H2_) | (have H2_ := (Option.bind_some _ _).symm.trans H; with_reducible exact H2_) | with_reducible exact H | (rw [hy479]; exact H) | exact H
          have Ny479 := Ya hy479
          clear hy479
          simp only [Option.some.injEq, Prod.mk.injEq] at H
          obtain ⟨rfl, rfl, rfl⟩ := H
          obtain ⟨Ao75, co75, eo75⟩ := Kd.N_slice HO_8.out
          subst eo75
          go_wp2_with (first | (go_at_call 70; (with_reducible refine (spec_l1Cur_one.calls gb427 l0 x428001_32 x428002_32 8 true t477 t478 w _ ?side1 ?side2 A70.out).mono ?_); (case side1 => repeat (first | (with_reducible first | exact HI427.out | apply IsS88.alloc | apply IsS88.drewN | apply IsS88.drew | apply IsS88.set_1 | apply IsS88.set_2) | exact HI427.out)); (case side2 => repeat (first | (with_reducible first | exact HB.out | apply Z5 | apply Z3 | apply Z4 | refine Z6 ?_ (IsS88.ge HI427.out)) | exact HB.out)); rintro e w76 ⟨rfl, hi, hb, hk⟩; replace HO_7 := Ya (Z12 (Kd.R_keep (IsS88.apart (show IsS88 w _ gb427 l0 x428001_32 x428002_32 from by repeat (first | (with_reducible first | exact HI427.out | apply IsS88.alloc | apply IsS88.drewN | apply IsS88.drew | apply IsS88.set_1 | apply IsS88.set_2) | exact HI427.out)) (Yr HO_7.out) (by decide)) hk (fun _ h => h.2)) (fun _ h => h.1)); replace HO_8 := Ya (Kd.N_mono (Kd.N_keep (Kd.N_mono (ok := fun k_ => (((w.heap.size ≤ k_)) ∧ (some k_ ≠ (v430 : Value).ownBlock ∧ k_ ≠ gb427))) (Qm0 HO_8.out) (fun k_ hk_ => (⟨hk_, hk_.2.2⟩ : _ ∧ k_ ≠ gb427))) hk (fun _ h => h.2)) (fun _ h => h.1)); replace HB := Ya hb; replace HI427 := Ya hi; (try clear hb hk hi); have q77 : ((ji72) : Int) ≤ ((x8_2.length : Int) : Int) := Z29 Q1; obtain ⟨i077, hi077, _, hsz77, _⟩ := info_parts info24; have hcut77 := cut_to (P := Try.prog) 50 24 .i64 Try.underlying50 hi077 Ao75 x8_2.length co75 (ji72) (Z29 Q1) q77 (Kd.N_reads' HO_8.out).2.1; have hr77 := Kd.N_take (m := ((ji72) : Int).toNat) HO_8.out (by omega); have hy77 : y479.length = ((ji72) : Int).toNat := (by rw [Ny479.out, Z31]; omega); rw [← Ny479.out] at hr77; rw [← hy77] at hr77 hcut77; clear hy77 hi077 hsz77 HO_8; have HO481 := Ya hr77; clear hr77; replace q77 := eq_true q77))
          go_ret3
          exact ⟨_, _, by first | rfl | (simp [errW_none, errW_some] <;> rfl) | (simp only [← hji72]; first | rfl | (simp [errW_none, errW_some] <;> rfl)) | (simp [*, errW_none, errW_some] <;> rfl), by (with_reducible repeat (first | apply Kd.N_alloc | apply Kd.N_drewN | apply Kd.N_drew)); exact Kd.N_mono HO481.out (fun _ hk => ⟨hk.1, hk.2.1⟩), Q29, Q19⟩
         ·rw [if_neg c74] at H
          exact absurd H (by simp)
        ·rw [if_neg c73] at H
         exact absurd H (by simp)
       ·replace c71 := Bool.eq_false_iff.mpr c71
        subst c71
        have H1 : (some (t428, x8_2, t429)) = some (r1, r2, r3) := by rw [if_neg (show ¬ (false = true) by decide)] at H; exact H
        clear H
        have H := H1
        clear H1
        simp only [Option.some.injEq, Prod.mk.injEq] at H
        obtain ⟨rfl, rfl, rfl⟩ := H
        obtain ⟨Ao78, co78, eo78⟩ := Kd.N_slice HO_8.out
        subst eo78
        go_wp2_with (first | (go_at_call 70; (with_reducible refine (spec_l1Cur_one.calls gb427 l0 x428001_32 x428002_32 8 false t477 t478 w _ ?side1 ?side2 A70.out).mono ?_); (case side1 => repeat (first | (with_reducible first | exact HI427.out | apply IsS88.alloc | apply IsS88.drewN | apply IsS88.drew | apply IsS88.set_1 | apply IsS88.set_2) | exact HI427.out)); (case side2 => repeat (first | (with_reducible first | exact HB.out | apply Z5 | apply Z3 | apply Z4 | refine Z6 ?_ (IsS88.ge HI427.out)) | exact HB.out)); rintro e w79 ⟨rfl, hi, hb, hk⟩; replace HO_7 := Ya (Z12 (Kd.R_keep (IsS88.apart (show IsS88 w _ gb427 l0 x428001_32 x428002_32 from by repeat (first | (with_reducible first | exact HI427.out | apply IsS88.alloc | apply IsS88.drewN | apply IsS88.drew | apply IsS88.set_1 | apply IsS88.set_2) | exact HI427.out)) (Yr HO_7.out) (by decide)) hk (fun _ h => h.2)) (fun _ h => h.1)); replace HO_8 := Ya (Kd.N_mono (Kd.N_keep (Kd.N_mono (ok := fun k_ => (((w.heap.size ≤ k_)) ∧ (some k_ ≠ (v430 : Value).ownBlock ∧ k_ ≠ gb427))) (Qm0 HO_8.out) (fun k_ hk_ => (⟨hk_, hk_.2.2⟩ : _ ∧ k_ ≠ gb427))) hk (fun _ h => h.2)) (fun _ h => h.1)); replace HB := Ya hb; replace HI427 := Ya hi; (try clear hb hk hi)))
        go_ret3
        exact ⟨_, _, Q2, Q35, Q29, Q19⟩
      ·rw [if_neg c69] at H
       have c69b0 : decide (0 < (x8_2.length : Int)) = false := Z36 c69
       have c69b1 : decide (0 < x8_2.length) = false := Z36 (by omega)
       clear c69
       simp only [Option.some.injEq, Prod.mk.injEq] at H
       obtain ⟨rfl, rfl, rfl⟩ := H
       obtain ⟨Ao80, co80, eo80⟩ := Kd.N_slice HO_8.out
       subst eo80
       go_wp2
       go_ret3
       exact ⟨_, _, Q2, Q35, Q29, Q19⟩
def spec_l1Has.l0 : Nat → Int → List Int → Int → Int → Option (Bool)
 | 0, _, _, _, _ => none
 | k + 1, x1, x7, x8, x9 => if x9 < x8 then (if 0 ≤ x9 then (if x9 < (x7.length : Int) then (if (rd x7 x9) = x1 then (some true) else (spec_l1Has.l0 k x1 x7 x8 (wrap64 (x9 + 1)))) else (none)) else (none)) else (some false)
def spec_l1Has.f (k : Nat) (l0 : List Int) (a1 : Int) : Option (Bool) := spec_l1Has.l0 k a1 l0 (l0.length : Int) 0
theorem spec_l1Has.mono_l : ∀ k, (∀ y0 y1 y2 y3, LeO (spec_l1Has.l0 k y0 y1 y2 y3) (spec_l1Has.l0 (k + 1) y0 y1 y2 y3))
 | 0 => fun _ _ _ _ r h => by simp [spec_l1Has.l0] at h
 | k + 1 => by
  have ih0 := spec_l1Has.mono_l k
  ·intro y0 y1 y2 y3
   unfold spec_l1Has.l0
   repeat' first
   | (with_reducible exact ih0 _ _ _ _)
   | (with_reducible exact LeO.refl _)
   | (with_reducible exact LeO.none _)
   | (with_reducible refine LeO.ite ?_ ?_)
   | (with_reducible refine LeO.bind ?_ (fun _ => ?_))
   | exact ih0 _ _ _ _
   | exact LeO.none _
   | refine LeO.ite ?_ ?_
   | refine LeO.bind ?_ (fun _ => ?_)
theorem spec_l1Has.mono : ∀ a0 a1 k, LeO (spec_l1Has.f k a0 a1) (spec_l1Has.f (k + 1) a0 a1) := by
 intro a0 a1 k
 have ih0 := spec_l1Has.mono_l k
 unfold spec_l1Has.f
 repeat' first
   | (with_reducible exact ih0 _ _ _ _)
   | (with_reducible exact LeO.refl _)
   | (with_reducible exact LeO.none _)
   | (with_reducible refine LeO.ite ?_ ?_)
   | (with_reducible refine LeO.bind ?_ (fun _ => ?_))
   | exact ih0 _ _ _ _
   | exact LeO.none _
   | refine LeO.ite ?_ ?_
   | refine LeO.bind ?_ (fun _ => ?_)
set_option maxHeartbeats 8000000 in
set_option maxRecDepth 100000 in
theorem spec_l1Has.calls (k : Nat) (A0 : Option Addr) (c0 : Nat) (l0 : List Int) (a1 : Int) (r : Bool) (w : World) (hr0 : Kd.C (Kd.int .i64) w A0 l0.length l0) (hc0 : l0.length ≤ c0) (h : spec_l1Has.f k l0 a1 = some r) :
  Calls Try.prog 104 #[.slice A0 l0.length c0, .int .i64 a1] w fun e w' => e = .returned (.bool r) ∧ Drawn0 w w' := by
 have HR0 := Ya hr0
 have HC0 := Ya hc0
 clear hr0 hc0
 have H : (spec_l1Has.l0 k a1 l0 (l0.length : Int) 0) = some r := h
 clear h
 have H' := Ya H
 clear H
 go_enter Try.func104, Try.ntmps104
 go_wp2
 go_loopg [9] k (fun kq v9 w' => ∃ (x9_1 : Int), v9 = .int .i64 x9_1 ∧ Aside0 (spec_l1Has.l0 kq a1 l0 (l0.length : Int) x9_1 = some r) ∧ Aside0 (kq ≤ k) ∧ Drawn0 w w')
 case atStart => exact ⟨(0), Q5, H', ⟨Nat.le_refl _⟩, Q7⟩
 case round =>
  clear H'
  try clear c1
  try clear p2
  obtain ⟨x9_1, rfl, HA, HK1, ⟨m1, rfl⟩⟩ := hrel
  cases gk with
  | zero => exact absurd HA.out (by simp [spec_l1Has.l0])
  | succ k1 =>
   have H := HA.out
   clear HA
   simp only [spec_l1Has.l0] at H
   by_cases c3 : x9_1 < (l0.length : Int)
   ·rw [if_pos c3] at H
    have c3b0 := Z37 c3
    clear c3
    by_cases c4 : 0 ≤ x9_1
    ·rw [if_pos c4] at H
     have c4b0 := Z37 c4
     clear c4
     by_cases c5 : x9_1 < (l0.length : Int)
     ·rw [if_pos c5] at H
      have c5b0 := Z37 c5
      clear c5
      by_cases c6 : (rd l0 x9_1) = a1
      ·rw [if_pos c6] at H
       have c6b0 : ((rd l0 x9_1) == a1) = true := beq_iff_eq.mpr c6
       have c6b1 : ((rd l0 x9_1) != a1) = false := bne_eq_false_iff_eq.mpr c6
       clear c6
       obtain rfl := Option.some.inj H
       have p482 : 0 ≤ (x9_1 : Int) := Z29 Q1
       have q482 : x9_1 < (l0.length : Int) := Z29 Q1
       obtain ⟨ad482, e482, hx482_0⟩ := Kd.at_int HR0.out x9_1 p482 q482
       cases e482
       replace p482 := eq_true p482
       replace q482 := eq_true q482
       go_wp2
       go_ret
       exact ⟨Q18, Q7⟩
      ·rw [if_neg c6] at H
       have c6b0 : ((rd l0 x9_1) == a1) = false := beq_eq_false_iff_ne.mpr c6
       have c6b1 : ((rd l0 x9_1) != a1) = true := bne_iff_ne.mpr c6
       have H' := Ya H
       clear H
       have p482 : 0 ≤ (x9_1 : Int) := Z29 Q1
       have q482 : x9_1 < (l0.length : Int) := Z29 Q1
       obtain ⟨ad482, e482, hx482_0⟩ := Kd.at_int HR0.out x9_1 p482 q482
       cases e482
       replace p482 := eq_true p482
       replace q482 := eq_true q482
       go_wp2
       go_roundg k1
       case measure => have := HK1.out; omega
       case rel => exact ⟨(wrap64 (x9_1 + 1)), Q5, H', ⟨Q28⟩, Q7⟩
     ·rw [if_neg c5] at H
      exact absurd H (by simp)
    ·rw [if_neg c4] at H
     exact absurd H (by simp)
   ·rw [if_neg c3] at H
    have c3b0 := Z36 c3
    clear c3
    obtain rfl := Option.some.inj H
    go_wp2
    go_ret
    exact ⟨Q18, Q7⟩
def spec_raPermutation.l0 : Nat → List Int → List Int → Int → Int → Option (Bool)
 | 0, _, _, _, _ => none
 | k + 1, x0, x5, x6, x7 => if x7 < x6 then (if 0 ≤ x7 then (if x7 < (x5.length : Int) then (if x7 ≥ 12 then (some false) else ((spec_l1In.f (rd x5 x7) 0 (wrap64 ((x0.length : Int) - 1))).bind fun t484 => (if t484 = true then (if x7 ≤ (x0.length : Int) then ((spec_l1Has.f k (x0.take (x7 : Int).toNat) (rd x5 x7)).bind fun t486 => (if t486 = true then (some false) else (spec_raPermutation.l0 k x0 x5 x6 (wrap64 (x7 + 1))))) else (none)) else (some false)))) else (none)) else (none)) else (some true)
def spec_raPermutation.f (k : Nat) (l0 : List Int) : Option (Bool) := spec_raPermutation.l0 k l0 l0 (l0.length : Int) 0
theorem spec_raPermutation.mono_l : ∀ k, (∀ y0 y1 y2 y3, LeO (spec_raPermutation.l0 k y0 y1 y2 y3) (spec_raPermutation.l0 (k + 1) y0 y1 y2 y3))
 | 0 => fun _ _ _ _ r h => by simp [spec_raPermutation.l0] at h
 | k + 1 => by
  have ih0 := spec_raPermutation.mono_l k
  ·intro y0 y1 y2 y3
   unfold spec_raPermutation.l0
   repeat' first
   | (with_reducible exact ih0 _ _ _ _)
   | (with_reducible exact spec_l1Has.mono _ _ _)
   | (with_reducible exact LeO.refl _)
   | (with_reducible exact LeO.none _)
   | (with_reducible refine LeO.ite ?_ ?_)
   | (with_reducible refine LeO.bind ?_ (fun _ => ?_))
   | exact ih0 _ _ _ _
   | exact spec_l1Has.mono _ _ _
   | exact LeO.none _
   | refine LeO.ite ?_ ?_
   | refine LeO.bind ?_ (fun _ => ?_)
theorem spec_raPermutation.mono : ∀ a0 k, LeO (spec_raPermutation.f k a0) (spec_raPermutation.f (k + 1) a0) := by
 intro a0 k
 have ih0 := spec_raPermutation.mono_l k
 unfold spec_raPermutation.f
 repeat' first
   | (with_reducible exact ih0 _ _ _ _)
   | (with_reducible exact spec_l1Has.mono _ _ _)
   | (with_reducible exact LeO.refl _)
   | (with_reducible exact LeO.none _)
   | (with_reducible refine LeO.ite ?_ ?_)
   | (with_reducible refine LeO.bind ?_ (fun _ => ?_))
   | exact ih0 _ _ _ _
   | exact spec_l1Has.mono _ _ _
   | exact LeO.none _
   | refine LeO.ite ?_ ?_
   | refine LeO.bind ?_ (fun _ => ?_)
set_option maxHeartbeats 8000000 in
set_option maxRecDepth 100000 in
theorem spec_raPermutation.calls (k : Nat) (A0 : Option Addr) (c0 : Nat) (l0 : List Int) (r : Bool) (w : World) (hr0 : Kd.C (Kd.int .i64) w A0 l0.length l0) (hc0 : l0.length ≤ c0) (h : spec_raPermutation.f k l0 = some r) :
  Calls Try.prog 97 #[.slice A0 l0.length c0] w fun e w' => e = .returned (.bool r) ∧ Drawn0 w w' := by
 have HR0 := Ya hr0
 have HC0 := Ya hc0
 clear hr0 hc0
 have H : (spec_raPermutation.l0 k l0 l0 (l0.length : Int) 0) = some r := h
 clear h
 have H' := Ya H
 clear H
 go_enter Try.func97, Try.ntmps97
 go_wp2
 go_loopg [7] k (fun kq v7 w' => ∃ (x7_1 : Int), v7 = .int .i64 x7_1 ∧ Aside0 (spec_raPermutation.l0 kq l0 l0 (l0.length : Int) x7_1 = some r) ∧ Aside0 (kq ≤ k) ∧ Drawn0 w w')
 case atStart => exact ⟨(0), Q5, H', ⟨Nat.le_refl _⟩, Q7⟩
 case round =>
  clear H'
  obtain ⟨x7_1, rfl, HA, HK1, ⟨m1, rfl⟩⟩ := hrel
  cases gk with
  | zero => exact absurd HA.out (by simp [spec_raPermutation.l0])
  | succ k1 =>
   have H := HA.out
   clear HA
   simp only [spec_raPermutation.l0] at H
   by_cases c2 : x7_1 < (l0.length : Int)
   ·rw [if_pos c2] at H
    have c2b0 := Z37 c2
    clear c2
    by_cases c3 : 0 ≤ x7_1
    ·rw [if_pos c3] at H
     have c3b0 := Z37 c3
     clear c3
     by_cases c4 : x7_1 < (l0.length : Int)
     ·rw [if_pos c4] at H
      have c4b0 := Z37 c4
      clear c4
      by_cases c5 : x7_1 ≥ 12
      ·rw [if_pos c5] at H
       have c5b0 : decide (12 ≤ x7_1) = true := Z37 c5
       clear c5
       obtain rfl := Option.some.inj H
       have p483 : 0 ≤ (x7_1 : Int) := Z29 Q1
       have q483 : x7_1 < (l0.length : Int) := Z29 Q1
       obtain ⟨ad483, e483, hx483_0⟩ := Kd.at_int HR0.out x7_1 p483 q483
       cases e483
       replace p483 := eq_true p483
       replace q483 := eq_true q483
       go_wp2
       go_ret
       exact ⟨Q18, Q7⟩
      ·rw [if_neg c5] at H
       have c5b0 : decide (12 ≤ x7_1) = false := Z36 c5
       clear c5
       replace H := Z35.mp H
       obtain ⟨t484, A60, H⟩ := H
       replace H : (if t484 = true then (if x7_1 ≤ (l0.length : Int) then ((spec_l1Has.f k1 (l0.take (x7_1 : Int).toNat) (rd l0 x7_1)).bind fun t486 => (if t486 = true then (some false) else (spec_raPermutation.l0 k1 l0 l0 (l0.length : Int) (wrap64 (x7_1 + 1))))) else (none)) else (some false)) = some r := H
       have A6 := Ya A60
       clear A60
       by_cases c7 : t484 = true
       ·subst c7
        have H1 : (if x7_1 ≤ (l0.length : Int) then ((spec_l1Has.f k1 (l0.take (x7_1 : Int).toNat) (rd l0 x7_1)).bind fun t486 => (if t486 = true then (some false) else (spec_raPermutation.l0 k1 l0 l0 (l0.length : Int) (wrap64 (x7_1 + 1))))) else (none)) = some r := by rw [if_pos rfl] at H; exact H
        clear H
        have H := H1
        clear H1
        have c8b0 := eq_true (Z29 Q1 : 0 ≤ x7_1)
        by_cases c9 : x7_1 ≤ (l0.length : Int)
        ·rw [if_pos c9] at H
         have c9b0 := eq_true c9
         have c9b1 := Z37 c9
         have HLEc9 := Ya c9
         clear c9
         replace H := Z35.mp H
         obtain ⟨t486, A100, H⟩ := H
         replace H : (if t486 = true then (some false) else (spec_raPermutation.l0 k1 l0 l0 (l0.length : Int) (wrap64 (x7_1 + 1)))) = some r := H
         have A10 := Ya A100
         clear A100
         by_cases c11 : t486 = true
         ·subst c11
          have H1 : (some false) = some r := by rw [if_pos rfl] at H; exact H
          clear H
          have H := H1
          clear H1
          obtain rfl := Option.some.inj H
          have p483 : 0 ≤ (x7_1 : Int) := Z29 Q1
          have q483 : x7_1 < (l0.length : Int) := Z29 Q1
          obtain ⟨ad483, e483, hx483_0⟩ := Kd.at_int HR0.out x7_1 p483 q483
          cases e483
          replace p483 := eq_true p483
          replace q483 := eq_true q483
          go_wp2_with (first | (go_at_call 42; (with_reducible refine (spec_l1In.calls (rd l0 x7_1) 0 (wrap64 ((l0.length : Int) - 1)) true _ A6.out).mono ?_); rintro e w' ⟨rfl, ⟨nd, rfl⟩⟩; obtain ⟨i012, hi012, _, hsz12, _⟩ := info_parts info3; obtain ⟨hcut12, hA12, hC12⟩ := print_take_of (P := Try.prog) (Value.int .i64) 0 24 3 .i64 Try.underlying24 hi012 hsz12 (some ad483) c0 l0 x7_1 (Z29 Q1) (Z29 Q1) HC0.out; have HR485 := Ya (Kd.C_of_reads (h1 := fun _ => rfl) (hA12 _ (Kd.reads_of_C HR0.out))); have HC485 := Ya hC12; clear hA12 hC12 hi012 hsz12) | (go_at_call 104; (first | (with_reducible refine (spec_l1Has.calls k1 _ _ (l0.take (x7_1 : Int).toNat) (rd l0 x7_1) true _ ?side1 ?side2 A10.out).mono ?_) | (refine lenEq (show (l0.take (x7_1 : Int).toNat).length = (x7_1 : Int).toNat from (by rw [Z31]; have h_ := (‹Aside0 (x7_1 ≤ (l0.length : Int))›).out; omega)) ?_; (with_reducible refine (spec_l1Has.calls k1 _ _ (l0.take (x7_1 : Int).toNat) (rd l0 x7_1) true _ ?side1 ?side2 A10.out).mono ?_))); (case side1 => exact Yc HR485.out); (case side2 => exact HC485.out); rintro e w' ⟨rfl, ⟨nd, rfl⟩⟩))
          go_ret
          exact ⟨Q18, Q7⟩
         ·replace c11 := Bool.eq_false_iff.mpr c11
          subst c11
          have H1 : (spec_raPermutation.l0 k1 l0 l0 (l0.length : Int) (wrap64 (x7_1 + 1))) = some r := by rw [if_neg (show ¬ (false = true) by decide)] at H; exact H
          clear H
          have H := H1
          clear H1
          have H' := Ya H
          clear H
          have p483 : 0 ≤ (x7_1 : Int) := Z29 Q1
          have q483 : x7_1 < (l0.length : Int) := Z29 Q1
          obtain ⟨ad483, e483, hx483_0⟩ := Kd.at_int HR0.out x7_1 p483 q483
          cases e483
          replace p483 := eq_true p483
          replace q483 := eq_true q483
          go_wp2_with (first | (go_at_call 42; (with_reducible refine (spec_l1In.calls (rd l0 x7_1) 0 (wrap64 ((l0.length : Int) - 1)) true _ A6.out).mono ?_); rintro e w' ⟨rfl, ⟨nd, rfl⟩⟩; obtain ⟨i013, hi013, _, hsz13, _⟩ := info_parts info3; obtain ⟨hcut13, hA13, hC13⟩ := print_take_of (P := Try.prog) (Value.int .i64) 0 24 3 .i64 Try.underlying24 hi013 hsz13 (some ad483) c0 l0 x7_1 (Z29 Q1) (Z29 Q1) HC0.out; have HR485 := Ya (Kd.C_of_reads (h1 := fun _ => rfl) (hA13 _ (Kd.reads_of_C HR0.out))); have HC485 := Ya hC13; clear hA13 hC13 hi013 hsz13) | (go_at_call 104; (first | (with_reducible refine (spec_l1Has.calls k1 _ _ (l0.take (x7_1 : Int).toNat) (rd l0 x7_1) false _ ?side1 ?side2 A10.out).mono ?_) | (refine lenEq (show (l0.take (x7_1 : Int).toNat).length = (x7_1 : Int).toNat from (by rw [Z31]; have h_ := (‹Aside0 (x7_1 ≤ (l0.length : Int))›).out; omega)) ?_; (with_reducible refine (spec_l1Has.calls k1 _ _ (l0.take (x7_1 : Int).toNat) (rd l0 x7_1) false _ ?side1 ?side2 A10.out).mono ?_))); (case side1 => exact Yc HR485.out); (case side2 => exact HC485.out); rintro e w' ⟨rfl, ⟨nd, rfl⟩⟩))
          go_roundg k1
          case measure => have := HK1.out; omega
          case rel => exact ⟨(wrap64 (x7_1 + 1)), Q5, H', ⟨Q28⟩, Q7⟩
        ·rw [if_neg c9] at H
         exact absurd H (by simp)
       ·replace c7 := Bool.eq_false_iff.mpr c7
        subst c7
        have H1 : (some false) = some r := by rw [if_neg (show ¬ (false = true) by decide)] at H; exact H
        clear H
        have H := H1
        clear H1
        obtain rfl := Option.some.inj H
        have p483 : 0 ≤ (x7_1 : Int) := Z29 Q1
        have q483 : x7_1 < (l0.length : Int) := Z29 Q1
        obtain ⟨ad483, e483, hx483_0⟩ := Kd.at_int HR0.out x7_1 p483 q483
        cases e483
        replace p483 := eq_true p483
        replace q483 := eq_true q483
        go_wp2_with (first | (go_at_call 42; (with_reducible refine (spec_l1In.calls (rd l0 x7_1) 0 (wrap64 ((l0.length : Int) - 1)) false _ A6.out).mono ?_); rintro e w' ⟨rfl, ⟨nd, rfl⟩⟩))
        go_ret
        exact ⟨Q18, Q7⟩
     ·rw [if_neg c4] at H
      exact absurd H (by simp)
    ·rw [if_neg c3] at H
     exact absurd H (by simp)
   ·rw [if_neg c2] at H
    have c2b0 := Z36 c2
    clear c2
    obtain rfl := Option.some.inj H
    go_wp2
    go_ret
    exact ⟨Q18, Q7⟩
end Go.Proofs.Ytllhnnjkonghlaa.MFnGreedyLists
