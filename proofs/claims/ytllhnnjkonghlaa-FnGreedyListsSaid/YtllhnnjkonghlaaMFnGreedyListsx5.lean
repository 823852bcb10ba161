import Derived.Test.YtllhnnjkonghlaaMFnGreedyListsx0
import Derived.Test.YtllhnnjkonghlaaMFnGreedyListsx4
namespace Go.Proofs.Ytllhnnjkonghlaa.MFnGreedyLists
open Go.RowKit Go.Proofs.YtllhnnjkonghlaaW.PrintWords Go.Proofs.YtllhnnjkonghlaaW.PrintLast Go.Proofs.YtllhnnjkonghlaaW.PrintMore
attribute [local go_sem] max2_int min2_int max_two min_two max_three min_three max_four min_four   
set_option linter.unusedVariables false
set_option linter.unusedSimpArgs false
mutual
def spec_l1Cur_moves.j1 : Nat → Int → List (S45) → List Int → Int → Int → Option (Int × (List (S45)) × Int × Int)
 | 0, _, _, _, _, _ => none
 | k + 1, x4, x5, x1000, x1001, x1002 => (spec_l1Cur_pick.f x1000 x1001 x1002 16).bind fun bt252 => (if bt252.1 = 0 then ((spec_l1Cur_among.f x1000 bt252.2.1 bt252.2.2 (([(-1), 0, 5, 6] : List Int))).bind fun bt258 => (some (bt258.1, x5, bt258.2.1, bt258.2.2))) else (if bt252.1 = 1 then (spec_l1Cur_moves.l1 k x4 x5 x1000 bt252.2.1 bt252.2.2) else (if bt252.1 = 2 then (spec_l1Cur_moves.j3 k x4 x5 bt252.1 (bt252.1 == 2) x1000 bt252.2.1 bt252.2.2) else (if bt252.1 = 3 then (spec_l1Cur_moves.j3 k x4 x5 bt252.1 (bt252.1 == 3) x1000 bt252.2.1 bt252.2.2) else (spec_l1Cur_moves.j3 k x4 x5 bt252.1 (bt252.1 == 4) x1000 bt252.2.1 bt252.2.2)))))
def spec_l1Cur_moves.l1 : Nat → Int → List (S45) → List Int → Int → Int → Option (Int × (List (S45)) × Int × Int)
 | 0, _, _, _, _, _ => none
 | k + 1, x4, x5, x1000, x1001, x1002 => (spec_l1Cur_pick.f x1000 x1001 x1002 2).bind fun bt261 => (if (x5.length : Int) < (wrap64 (12 + bt261.1)) then (if x4 > 1 then ((spec_l1Cur_move.f k x1000 bt261.2.1 bt261.2.2 x4).bind fun bt264 => (if x5.length < 5864062014805 then (spec_l1Cur_moves.l1 k x4 (x5 ++ [(⟨bt264.1, bt264.2.1, bt264.2.2.1⟩ : S45)]) x1000 bt264.2.2.2.1 bt264.2.2.2.2) else (none))) else (some (x4, x5, bt261.2.1, bt261.2.2))) else (some (x4, x5, bt261.2.1, bt261.2.2)))
def spec_l1Cur_moves.j3 : Nat → Int → List (S45) → Int → Bool → List Int → Int → Int → Option (Int × (List (S45)) × Int × Int)
 | 0, _, _, _, _, _, _, _ => none
 | k + 1, x4, x5, x32, x56, x1000, x1001, x1002 => if x56 = true then (spec_l1Cur_moves.l2 k x4 ([] : List (S45)) 1 x1000 x1001 x1002) else (if x32 = 5 then (spec_l1Cur_moves.j5 k x4 x5 (x32 == 5) x1000 x1001 x1002) else (spec_l1Cur_moves.j5 k x4 x5 (x32 == 6) x1000 x1001 x1002))
def spec_l1Cur_moves.l2 : Nat → Int → List (S45) → Int → List Int → Int → Int → Option (Int × (List (S45)) × Int × Int)
 | 0, _, _, _, _, _, _ => none
 | k + 1, x4, x5, x7, x1000, x1001, x1002 => if x7 < x4 then (if x5.length < 5864062014805 then (spec_l1Cur_moves.l2 k x4 (x5 ++ [(⟨0, wrap64 (x7 - 1), x7⟩ : S45)]) (wrap64 (x7 + 1)) x1000 x1001 x1002) else (none)) else (some (x4, x5, x1001, x1002))
def spec_l1Cur_moves.j5 : Nat → Int → List (S45) → Bool → List Int → Int → Int → Option (Int × (List (S45)) × Int × Int)
 | 0, _, _, _, _, _, _ => none
 | k + 1, x4, x5, x72, x1000, x1001, x1002 => if x72 = true then (spec_l1Cur_moves.l3 k x4 ([] : List (S45)) 2 x1000 x1001 x1002) else (some (x4, x5, x1001, x1002))
def spec_l1Cur_moves.l3 : Nat → Int → List (S45) → Int → List Int → Int → Int → Option (Int × (List (S45)) × Int × Int)
 | 0, _, _, _, _, _, _ => none
 | k + 1, x4, x5, x8, x1000, x1001, x1002 => if x8 ≤ x4 then (if x5.length < 5864062014805 then (spec_l1Cur_moves.l3 k x4 (x5 ++ [(⟨1, x8, 0⟩ : S45)]) (wrap64 (x8 + 1)) x1000 x1001 x1002) else (none)) else (some (x4, x5, x1001, x1002))
def spec_l1Cur_moves.l0 : Nat → Int → List (S45) → Int → List Int → Int → Int → Option (Int × (List (S45)) × Int × Int)
 | 0, _, _, _, _, _, _ => none
 | k + 1, x4, x5, x6, x1000, x1001, x1002 => if x6 > 0 then (if x4 > 1 then ((spec_l1Cur_move.f k x1000 x1001 x1002 x4).bind fun bt244 => (if x5.length < 5864062014805 then (spec_l1Cur_moves.l0 k x4 (x5 ++ [(⟨bt244.1, bt244.2.1, bt244.2.2.1⟩ : S45)]) (wrap64 (x6 - 1)) x1000 bt244.2.2.2.1 bt244.2.2.2.2) else (none))) else (spec_l1Cur_moves.j1 k x4 x5 x1000 x1001 x1002)) else (spec_l1Cur_moves.j1 k x4 x5 x1000 x1001 x1002)
end
def spec_l1Cur_moves.f (k : Nat) (s0_0 : List Int) (s0_1 : Int) (s0_2 : Int) : Option (Int × (List (S45)) × Int × Int) := (spec_l1Cur_among.f s0_0 s0_1 s0_2 (([1, 2, 3, 3, 4, 4, 5] : List Int))).bind fun bt232 => ((spec_l1Cur_among.f s0_0 bt232.2.1 bt232.2.2 (([2, 4, 5] : List Int))).bind fun bt238 => ((spec_l1Cur_pick.f s0_0 bt238.2.1 bt238.2.2 bt238.1).bind fun bt241 => (spec_l1Cur_moves.l0 k bt232.1 ([] : List (S45)) bt241.1 s0_0 bt241.2.1 bt241.2.2)))
theorem spec_l1Cur_moves.mono_l : ∀ k, (∀ y0 y1 y2 y3 y4, LeO (spec_l1Cur_moves.j1 k y0 y1 y2 y3 y4) (spec_l1Cur_moves.j1 (k + 1) y0 y1 y2 y3 y4)) ∧ (∀ y0 y1 y2 y3 y4, LeO (spec_l1Cur_moves.l1 k y0 y1 y2 y3 y4) (spec_l1Cur_moves.l1 (k + 1) y0 y1 y2 y3 y4)) ∧ (∀ y0 y1 y2 y3 y4 y5 y6, LeO (spec_l1Cur_moves.j3 k y0 y1 y2 y3 y4 y5 y6) (spec_l1Cur_moves.j3 (k + 1) y0 y1 y2 y3 y4 y5 y6)) ∧ (∀ y0 y1 y2 y3 y4 y5, LeO (spec_l1Cur_moves.l2 k y0 y1 y2 y3 y4 y5) (spec_l1Cur_moves.l2 (k + 1) y0 y1 y2 y3 y4 y5)) ∧ (∀ y0 y1 y2 y3 y4 y5, LeO (spec_l1Cur_moves.j5 k y0 y1 y2 y3 y4 y5) (spec_l1Cur_moves.j5 (k + 1) y0 y1 y2 y3 y4 y5)) ∧ (∀ y0 y1 y2 y3 y4 y5, LeO (spec_l1Cur_moves.l3 k y0 y1 y2 y3 y4 y5) (spec_l1Cur_moves.l3 (k + 1) y0 y1 y2 y3 y4 y5)) ∧ (∀ y0 y1 y2 y3 y4 y5, LeO (spec_l1Cur_moves.l0 k y0 y1 y2 y3 y4 y5) (spec_l1Cur_moves.l0 (k + 1) y0 y1 y2 y3 y4 y5))
 | 0 => ⟨fun _ _ _ _ _ r h => by simp [spec_l1Cur_moves.j1] at h, fun _ _ _ _ _ r h => by simp [spec_l1Cur_moves.l1] at h, fun _ _ _ _ _ _ _ r h => by simp [spec_l1Cur_moves.j3] at h, fun _ _ _ _ _ _ r h => by simp [spec_l1Cur_moves.l2] at h, fun _ _ _ _ _ _ r h => by simp [spec_l1Cur_moves.j5] at h, fun _ _ _ _ _ _ r h => by simp [spec_l1Cur_moves.l3] at h, fun _ _ _ _ _ _ r h => by simp [spec_l1Cur_moves.l0] at h⟩
 | k + 1 => by
  obtain ⟨ih0, ih1, ih2, ih3, ih4, ih5, ih6⟩ := spec_l1Cur_moves.mono_l k
  refine ⟨?_, ?_, ?_, ?_, ?_, ?_, ?_⟩
  ·intro y0 y1 y2 y3 y4
   unfold spec_l1Cur_moves.j1
   repeat' first
   | (with_reducible exact ih0 _ _ _ _ _)
   | (with_reducible exact ih1 _ _ _ _ _)
   | (with_reducible exact ih2 _ _ _ _ _ _ _)
   | (with_reducible exact ih3 _ _ _ _ _ _)
   | (with_reducible exact ih4 _ _ _ _ _ _)
   | (with_reducible exact ih5 _ _ _ _ _ _)
   | (with_reducible exact ih6 _ _ _ _ _ _)
   | (with_reducible exact spec_l1Cur_move.mono _ _ _ _ _)
   | (with_reducible exact LeO.refl _)
   | (with_reducible exact LeO.none _)
   | (with_reducible refine LeO.ite ?_ ?_)
   | (with_reducible refine LeO.bind ?_ (fun _ => ?_))
   | exact ih0 _ _ _ _ _
   | exact ih1 _ _ _ _ _
   | exact ih2 _ _ _ _ _ _ _
   | exact ih3 _ _ _ _ _ _
   | exact ih4 _ _ _ _ _ _
   | exact ih5 _ _ _ _ _ _
   | exact ih6 _ _ _ _ _ _
   | exact spec_l1Cur_move.mono _ _ _ _ _
   | exact LeO.none _
   | refine LeO.ite ?_ ?_
   | refine LeO.bind ?_ (fun _ => ?_)
  ·intro y0 y1 y2 y3 y4
   unfold spec_l1Cur_moves.l1
   repeat' first
   | (with_reducible exact ih0 _ _ _ _ _)
   | (with_reducible exact ih1 _ _ _ _ _)
   | (with_reducible exact ih2 _ _ _ _ _ _ _)
   | (with_reducible exact ih3 _ _ _ _ _ _)
   | (with_reducible exact ih4 _ _ _ _ _ _)
   | (with_reducible exact ih5 _ _ _ _ _ _)
   | (with_reducible exact ih6 _ _ _ _ _ _)
   | (with_reducible exact spec_l1Cur_move.mono _ _ _ _ _)
   | (with_reducible exact LeO.refl _)
   | (with_reducible exact LeO.none _)
   | (with_reducible refine LeO.ite ?_ ?_)
   | (with_reducible refine LeO.bind ?_ (fun _ => ?_))
   | exact ih0 _ _ _ _ _
   | exact ih1 _ _ _ _ _
   | exact ih2 _ _ _ _ _ _ _
   | exact ih3 _ _ _ _ _ _
   | exact ih4 _ _ _ _ _ _
   | exact ih5 _ _ _ _ _ _
   | exact ih6 _ _ _ _ _ _
   | exact spec_l1Cur_move.mono _ _ _ _ _
   | exact LeO.none _
   | refine LeO.ite ?_ ?_
   | refine LeO.bind ?_ (fun _ => ?_)
  ·intro y0 y1 y2 y3 y4 y5 y6
   unfold spec_l1Cur_moves.j3
   repeat' first
   | (with_reducible exact ih0 _ _ _ _ _)
   | (with_reducible exact ih1 _ _ _ _ _)
   | (with_reducible exact ih2 _ _ _ _ _ _ _)
   | (with_reducible exact ih3 _ _ _ _ _ _)
   | (with_reducible exact ih4 _ _ _ _ _ _)
   | (with_reducible exact ih5 _ _ _ _ _ _)
   | (with_reducible exact ih6 _ _ _ _ _ _)
   | (with_reducible exact spec_l1Cur_move.mono _ _ _ _ _)
   | (with_reducible exact LeO.refl _)
   | (with_reducible exact LeO.none _)
   | (with_reducible refine LeO.ite ?_ ?_)
   | (with_reducible refine LeO.bind ?_ (fun _ => ?_))
   | exact ih0 _ _ _ _ _
   | exact ih1 _ _ _ _ _
   | exact ih2 _ _ _ _ _ _ _
   | exact ih3 _ _ _ _ _ _
   | exact ih4 _ _ _ _ _ _
   | exact ih5 _ _ _ _ _ _
   | exact ih6 _ _ _ _ _ _
   | exact spec_l1Cur_move.mono _ _ _ _ _
   | exact LeO.none _
   | refine LeO.ite ?_ ?_
   | refine LeO.bind ?_ (fun _ => ?_)
  ·intro y0 y1 y2 y3 y4 y5
   unfold spec_l1Cur_moves.l2
   repeat' first
   | (with_reducible exact ih0 _ _ _ _ _)
   | (with_reducible exact ih1 _ _ _ _ _)
   | (with_reducible exact ih2 _ _ _ _ _ _ _)
   | (with_reducible exact ih3 _ _ _ _ _ _)
   | (with_reducible exact ih4 _ _ _ _ _ _)
   | (with_reducible exact ih5 _ _ _ _ _ _)
   | (with_reducible exact ih6 _ _ _ _ _ _)
   | (with_reducible exact spec_l1Cur_move.mono _ _ _ _ _)
   | (with_reducible exact LeO.refl _)
   | (with_reducible exact LeO.none _)
   | (with_reducible refine LeO.ite ?_ ?_)
   | (with_reducible refine LeO.bind ?_ (fun _ => ?_))
   | exact ih0 _ _ _ _ _
   | exact ih1 _ _ _ _ _
   | exact ih2 _ _ _ _ _ _ _
   | exact ih3 _ _ _ _ _ _
   | exact ih4 _ _ _ _ _ _
   | exact ih5 _ _ _ _ _ _
   | exact ih6 _ _ _ _ _ _
   | exact spec_l1Cur_move.mono _ _ _ _ _
   | exact LeO.none _
   | refine LeO.ite ?_ ?_
   | refine LeO.bind ?_ (fun _ => ?_)
  ·intro y0 y1 y2 y3 y4 y5
   unfold spec_l1Cur_moves.j5
   repeat' first
   | (with_reducible exact ih0 _ _ _ _ _)
   | (with_reducible exact ih1 _ _ _ _ _)
   | (with_reducible exact ih2 _ _ _ _ _ _ _)
   | (with_reducible exact ih3 _ _ _ _ _ _)
   | (with_reducible exact ih4 _ _ _ _ _ _)
   | (with_reducible exact ih5 _ _ _ _ _ _)
   | (with_reducible exact ih6 _ _ _ _ _ _)
   | (with_reducible exact spec_l1Cur_move.mono _ _ _ _ _)
   | (with_reducible exact LeO.refl _)
   | (with_reducible exact LeO.none _)
   | (with_reducible refine LeO.ite ?_ ?_)
   | (with_reducible refine LeO.bind ?_ (fun _ => ?_))
   | exact ih0 _ _ _ _ _
   | exact ih1 _ _ _ _ _
   | exact ih2 _ _ _ _ _ _ _
   | exact ih3 _ _ _ _ _ _
   | exact ih4 _ _ _ _ _ _
   | exact ih5 _ _ _ _ _ _
   | exact ih6 _ _ _ _ _ _
   | exact spec_l1Cur_move.mono _ _ _ _ _
   | exact LeO.none _
   | refine LeO.ite ?_ ?_
   | refine LeO.bind ?_ (fun _ => ?_)
  ·intro y0 y1 y2 y3 y4 y5
   unfold spec_l1Cur_moves.l3
   repeat' first
   | (with_reducible exact ih0 _ _ _ _ _)
   | (with_reducible exact ih1 _ _ _ _ _)
   | (with_reducible exact ih2 _ _ _ _ _ _ _)
   | (with_reducible exact ih3 _ _ _ _ _ _)
   | (with_reducible exact ih4 _ _ _ _ _ _)
   | (with_reducible exact ih5 _ _ _ _ _ _)
   | (with_reducible exact ih6 _ _ _ _ _ _)
   | (with_reducible exact spec_l1Cur_move.mono _ _ _ _ _)
   | (with_reducible exact LeO.refl _)
   | (with_reducible exact LeO.none _)
   | (with_reducible refine LeO.ite ?_ ?_)
   | (with_reducible refine LeO.bind ?_ (fun _ => ?_))
   | exact ih0 _ _ _ _ _
   | exact ih1 _ _ _ _ _
   | exact ih2 _ _ _ _ _ _ _
   | exact ih3 _ _ _ _ _ _
   | exact ih4 _ _ _ _ _ _
   | exact ih5 _ _ _ _ _ _
   | exact ih6 _ _ _ _ _ _
   | exact spec_l1Cur_move.mono _ _ _ _ _
   | exact LeO.none _
   | refine LeO.ite ?_ ?_
   | refine LeO.bind ?_ (fun _ => ?_)
  ·intro y0 y1 y2 y3 y4 y5
   unfold spec_l1Cur_moves.l0
   repeat' first
   | (with_reducible exact ih0 _ _ _ _ _)
   | (with_reducible exact ih1 _ _ _ _ _)
   | (with_reducible exact ih2 _ _ _ _ _ _ _)
   | (with_reducible exact ih3 _ _ _ _ _ _)
   | (with_reducible exact ih4 _ _ _ _ _ _)
   | (with_reducible exact ih5 _ _ _ _ _ _)
   | (with_reducible exact ih6 _ _ _ _ _ _)
   | (with_reducible exact spec_l1Cur_move.mono _ _ _ _ _)
   | (with_reducible exact LeO.refl _)
   | (with_reducible exact LeO.none _)
   | (with_reducible refine LeO.ite ?_ ?_)
   | (with_reducible refine LeO.bind ?_ (fun _ => ?_))
   | exact ih0 _ _ _ _ _
   | exact ih1 _ _ _ _ _
   | exact ih2 _ _ _ _ _ _ _
   | exact ih3 _ _ _ _ _ _
   | exact ih4 _ _ _ _ _ _
   | exact ih5 _ _ _ _ _ _
   | exact ih6 _ _ _ _ _ _
   | exact spec_l1Cur_move.mono _ _ _ _ _
   | exact LeO.none _
   | refine LeO.ite ?_ ?_
   | refine LeO.bind ?_ (fun _ => ?_)
theorem spec_l1Cur_moves.mono : ∀ a0 a1 a2 k, LeO (spec_l1Cur_moves.f k a0 a1 a2) (spec_l1Cur_moves.f (k + 1) a0 a1 a2) := by
 intro a0 a1 a2 k
 obtain ⟨ih0, ih1, ih2, ih3, ih4, ih5, ih6⟩ := spec_l1Cur_moves.mono_l k
 unfold spec_l1Cur_moves.f
 repeat' first
   | (with_reducible exact ih0 _ _ _ _ _)
   | (with_reducible exact ih1 _ _ _ _ _)
   | (with_reducible exact ih2 _ _ _ _ _ _ _)
   | (with_reducible exact ih3 _ _ _ _ _ _)
   | (with_reducible exact ih4 _ _ _ _ _ _)
   | (with_reducible exact ih5 _ _ _ _ _ _)
   | (with_reducible exact ih6 _ _ _ _ _ _)
   | (with_reducible exact spec_l1Cur_move.mono _ _ _ _ _)
   | (with_reducible exact LeO.refl _)
   | (with_reducible exact LeO.none _)
   | (with_reducible refine LeO.ite ?_ ?_)
   | (with_reducible refine LeO.bind ?_ (fun _ => ?_))
   | exact ih0 _ _ _ _ _
   | exact ih1 _ _ _ _ _
   | exact ih2 _ _ _ _ _ _ _
   | exact ih3 _ _ _ _ _ _
   | exact ih4 _ _ _ _ _ _
   | exact ih5 _ _ _ _ _ _
   | exact ih6 _ _ _ _ _ _
   | exact spec_l1Cur_move.mono _ _ _ _ _
   | exact LeO.none _
   | refine LeO.ite ?_ ?_
   | refine LeO.bind ?_ (fun _ => ?_)
set_option maxHeartbeats 8000000 in
set_option maxRecDepth 100000 in
theorem spec_l1Cur_moves.calls (k : Nat) (g : Nat) (s0_0 : List Int) (s0_1 : Int) (s0_2 : Int) (r1 : Int) (r2 : List (S45)) (r3 : Int) (r4 : Int) (w0 w : World) (hI : IsS88 w0 w g s0_0 s0_1 s0_2) (hB : Below w0.heap.size w0 w) (h : spec_l1Cur_moves.f k s0_0 s0_1 s0_2 = some (r1, r2, r3, r4)) :
  Calls Try.prog 64 #[.pointer (some ⟨g, 0, none⟩)] w fun e w' => ∃ v1_ : Value, e = .returned (.tuple #[.int .i64 r1, v1_]) ∧ Kd.R k45 45 w' w.heap.size (fun _ => True) v1_ r2 ∧ IsS88 w0 w' g s0_0 r3 r4 ∧ Below w0.heap.size w0 w' ∧ KeepBut w w' g none := by
 have hu45 := Try.underlying45
 have HI0 := Ya hI
 have HK := Ya (KeepBut.refl w g none)
 have HL := Ya hB.size
 clear hI
 have HW0 := Ya hB.size
 have HB := Ya hB
 clear hB
 have H : ((spec_l1Cur_among.f s0_0 s0_1 s0_2 (([1, 2, 3, 3, 4, 4, 5] : List Int))).bind fun bt232 => ((spec_l1Cur_among.f s0_0 bt232.2.1 bt232.2.2 (([2, 4, 5] : List Int))).bind fun bt238 => ((spec_l1Cur_pick.f s0_0 bt238.2.1 bt238.2.2 bt238.1).bind fun bt241 => (spec_l1Cur_moves.l0 k bt232.1 ([] : List (S45)) bt241.1 s0_0 bt241.2.1 bt241.2.2)))) = some (r1, r2, r3, r4) := h
 clear h
 obtain ⟨y229, hy229⟩ : ∃ y_ : List Int, y_ = (([1, 2, 3, 3, 4, 4, 5] : List Int)) := ⟨_, rfl⟩
 replace H : ((spec_l1Cur_among.f s0_0 s0_1 s0_2 y229).bind fun bt232 => ((spec_l1Cur_among.f s0_0 bt232.2.1 bt232.2.2 (([2, 4, 5] : List Int))).bind fun bt238 => ((spec_l1Cur_pick.f s0_0 bt238.2.1 bt238.2.2 bt238.1).bind fun bt241 => (spec_l1Cur_moves.l0 k bt232.1 ([] : List (S45)) bt241.1 s0_0 bt241.2.1 bt241.2.2)))) = some (r1, r2, r3, r4) := by first | (rw [hy229]; with_reducible exact H) | (have H2_ := (Option.bind_some _ _).symm.trans H; rw [hy229]; with_reducible exact H2_) | (have H2_ := (Option.bind_some _ _).symm.trans H; with_reducible exact H2_) | with_reducible exact H | (rw [hy229]; exact H) | exact H
 have Ny229 := Ya hy229
 clear hy229
 replace H := Z35.mp H
 obtain ⟨⟨t232, t233, t234⟩, A20, H⟩ := H
 replace H : ((spec_l1Cur_among.f s0_0 t233 t234 (([2, 4, 5] : List Int))).bind fun bt238 => ((spec_l1Cur_pick.f s0_0 bt238.2.1 bt238.2.2 bt238.1).bind fun bt241 => (spec_l1Cur_moves.l0 k t232 ([] : List (S45)) bt241.1 s0_0 bt241.2.1 bt241.2.2))) = some (r1, r2, r3, r4) := H
 have A2 := Ya A20
 clear A20
 obtain ⟨y235, hy235⟩ : ∃ y_ : List Int, y_ = (([2, 4, 5] : List Int)) := ⟨_, rfl⟩
 replace H : ((spec_l1Cur_among.f s0_0 t233 t234 y235).bind fun bt238 => ((spec_l1Cur_pick.f s0_0 bt238.2.1 bt238.2.2 bt238.1).bind fun bt241 => (spec_l1Cur_moves.l0 k t232 ([] : List (S45)) bt241.1 s0_0 bt241.2.1 bt241.2.2))) = some (r1, r2, r3, r4) := by first | (rw [hy235]; with_reducible exact H) | (have H2_ := (Option.bind_some _ _).symm.trans H; rw [hy235]; with_reducible exact H2_) | (have H2_ := (Option.bind_some _ _).symm.trans H; with_reducible exact H2_) | with_reducible exact H | (rw [hy235]; exact H) | exact H
 have Ny235 := Ya hy235
 clear hy235
 replace H := Z35.mp H
 obtain ⟨⟨t238, t239, t240⟩, A30, H⟩ := H
 replace H : ((spec_l1Cur_pick.f s0_0 t239 t240 t238).bind fun bt241 => (spec_l1Cur_moves.l0 k t232 ([] : List (S45)) bt241.1 s0_0 bt241.2.1 bt241.2.2)) = some (r1, r2, r3, r4) := H
 have A3 := Ya A30
 clear A30
 replace H := Z35.mp H
 obtain ⟨⟨t241, t242, t243⟩, A40, H⟩ := H
 replace H : (spec_l1Cur_moves.l0 k t232 ([] : List (S45)) t241 s0_0 t242 t243) = some (r1, r2, r3, r4) := H
 have A4 := Ya A40
 clear A40
 have HC5 := Ya H
 clear H
 go_enter Try.func64, Try.ntmps64
 go_upto_block 0 with (first | ((with_reducible refine gate_dst (N := 10) rfl ?_); refine Kd.R_lit (Kd.int .i64) _ 3 ?hg (N := 10) ?hd (xs := ([1, 2, 3, 3, 4, 4, 5] : List Int)) (inner := [.int .i64 1, .int .i64 2, .int .i64 3, .int .i64 3, .int .i64 4, .int .i64 4, .int .i64 5]) (ok := fun _ => True) (okp := fun _ => True) ?hr ?hp (fun _ hk => hk) trivial (Below.refl _ _) (Nat.le_refl _) (by simp) ?_; (case hd => rfl); (case hg => rfl); (case hr => first | (go_simp; done) | (go_simp; rfl)); (case hp => exact (Reps.one (show Kd.M (Kd.int .i64) _ _ _ 1 [.int .i64 1] from rfl) (Reps.one (show Kd.M (Kd.int .i64) _ _ _ 2 [.int .i64 2] from rfl) (Reps.one (show Kd.M (Kd.int .i64) _ _ _ 3 [.int .i64 3] from rfl) (Reps.one (show Kd.M (Kd.int .i64) _ _ _ 3 [.int .i64 3] from rfl) (Reps.one (show Kd.M (Kd.int .i64) _ _ _ 4 [.int .i64 4] from rfl) (Reps.one (show Kd.M (Kd.int .i64) _ _ _ 4 [.int .i64 4] from rfl) (Reps.one (show Kd.M (Kd.int .i64) _ _ _ 5 [.int .i64 5] from rfl) (Reps.none _ _))))))))); intro v230 w6 ho7 hb hg_ hnew_; clear hg_ hnew_; (first | rw [← Ny229.out] at ho7 | (simp only [Int.reduceToNat] at ho7; rw [← Ny229.out] at ho7)); have HO231 := Ya (Kd.R_lower ho7 (keep_size (w := w) (g := g) (row := none) Q3)); replace HK := Ya (KeepBut.trans Q3 (KeepBut.of_below hb g none) (.inl rfl)); replace HB := Ya (Z8 Q20 hb); replace HI0 := Ya (IsS88.below Q14 hb); clear hb ho7; obtain ⟨Ao8, co8, rfl⟩ := Z17 HO231.out) | ((with_reducible refine gate_callee (f := 65) rfl ?_); refine Yz 11 Try.func65 #[.pointer (some ⟨g, 0, none⟩), .slice Ao8 y229.length co8] ?_; (with_reducible refine (spec_l1Cur_among.calls g s0_0 s0_1 s0_2 _ _ y229 t232 t233 t234 w0 _ ?side1 ?side2 (Yc (Kd.R_reads' HO231.out).2.2) ((Kd.R_reads' HO231.out).2.1) ?side5 A2.out).mono ?_); (case side1 => repeat (first | (with_reducible first | exact HI0.out | apply IsS88.alloc | apply IsS88.drewN | apply IsS88.drew | apply IsS88.set_1 | apply IsS88.set_2) | exact HI0.out)); (case side2 => repeat (first | (with_reducible first | exact HB.out | apply Z5 | apply Z3 | apply Z4 | refine Z6 ?_ (IsS88.ge HI0.out)) | exact HB.out)); (case side5 => exact far_slice (IsS88.own_ne HI0.out HO231.out (by decide))); rintro e w9 ⟨rfl, hi, hb, hk⟩; refine ⟨_, rfl, ?_⟩; replace HO231 := Ya (Z12 (Kd.R_keep (IsS88.apart (show IsS88 w0 _ g s0_0 s0_1 s0_2 from by repeat (first | (with_reducible first | exact HI0.out | apply IsS88.alloc | apply IsS88.drewN | apply IsS88.drew | apply IsS88.set_1 | apply IsS88.set_2) | exact HI0.out)) (Yr HO231.out) (by decide)) hk (fun _ h => h.2)) (fun _ h => h.1)); replace HK := Ya (KeepBut.trans Q3 hk (.inl rfl)); replace HB := Ya hb; replace HI0 := Ya hi; (try clear hb hk hi)) | ((with_reducible refine gate_dst (N := 14) rfl ?_); refine Kd.R_lit (Kd.int .i64) _ 3 ?hg (N := 14) ?hd (xs := ([2, 4, 5] : List Int)) (inner := [.int .i64 2, .int .i64 4, .int .i64 5]) (ok := fun _ => True) (okp := fun _ => True) ?hr ?hp (fun _ hk => hk) trivial (Below.refl _ _) (Nat.le_refl _) (by simp) ?_; (case hd => rfl); (case hg => rfl); (case hr => first | (go_simp; done) | (go_simp; rfl)); (case hp => exact (Reps.one (show Kd.M (Kd.int .i64) _ _ _ 2 [.int .i64 2] from rfl) (Reps.one (show Kd.M (Kd.int .i64) _ _ _ 4 [.int .i64 4] from rfl) (Reps.one (show Kd.M (Kd.int .i64) _ _ _ 5 [.int .i64 5] from rfl) (Reps.none _ _))))); intro v236 w10 ho11 hb hg_ hnew_; clear hg_ hnew_; (first | rw [← Ny235.out] at ho11 | (simp only [Int.reduceToNat] at ho11; rw [← Ny235.out] at ho11)); have HO237 := Ya (Kd.R_lower (Kd.R_new' ho11 (Z16 (Yr HO231.out))) (keep_size (w := w) (g := g) (row := none) Q3)); replace HO231 := Ya (Kd.R_elder' (Yr HO231.out) (Kd.R_base ho11) hb); replace HK := Ya (KeepBut.trans Q3 (KeepBut.of_below hb g none) (.inl rfl)); replace HB := Ya (Z8 Q20 hb); replace HI0 := Ya (IsS88.below Q14 hb); clear hb ho11; obtain ⟨Ao12, co12, rfl⟩ := Z17 HO237.out) | ((with_reducible refine gate_callee (f := 65) rfl ?_); refine Yz 15 Try.func65 #[.pointer (some ⟨g, 0, none⟩), .slice Ao12 y235.length co12] ?_; (with_reducible refine (spec_l1Cur_among.calls g s0_0 t233 t234 _ _ y235 t238 t239 t240 w0 _ ?side1 ?side2 (Yc (Kd.R_reads' HO237.out).2.2) ((Kd.R_reads' HO237.out).2.1) ?side5 A3.out).mono ?_); (case side1 => repeat (first | (with_reducible first | exact HI0.out | apply IsS88.alloc | apply IsS88.drewN | apply IsS88.drew | apply IsS88.set_1 | apply IsS88.set_2) | exact HI0.out)); (case side2 => repeat (first | (with_reducible first | exact HB.out | apply Z5 | apply Z3 | apply Z4 | refine Z6 ?_ (IsS88.ge HI0.out)) | exact HB.out)); (case side5 => exact far_slice (IsS88.own_ne HI0.out HO237.out (by decide))); rintro e w13 ⟨rfl, hi, hb, hk⟩; refine ⟨_, rfl, ?_⟩; replace HO231 := Ya (Z12 (Kd.R_keep (IsS88.apart (show IsS88 w0 _ g s0_0 t233 t234 from by repeat (first | (with_reducible first | exact HI0.out | apply IsS88.alloc | apply IsS88.drewN | apply IsS88.drew | apply IsS88.set_1 | apply IsS88.set_2) | exact HI0.out)) (Yr HO231.out) (by decide)) hk (fun _ h => h.2)) (fun _ h => h.1)); replace HO237 := Ya (Z12 (Kd.R_keep (IsS88.apart (show IsS88 w0 _ g s0_0 t233 t234 from by repeat (first | (with_reducible first | exact HI0.out | apply IsS88.alloc | apply IsS88.drewN | apply IsS88.drew | apply IsS88.set_1 | apply IsS88.set_2) | exact HI0.out)) (Yr HO237.out) (by decide)) hk (fun _ h => h.2)) (fun _ h => h.1)); replace HK := Ya (KeepBut.trans Q3 hk (.inl rfl)); replace HB := Ya hb; replace HI0 := Ya hi; (try clear hb hk hi)) | ((with_reducible refine gate_callee (f := 69) rfl ?_); refine Yz 16 Try.func69 #[.pointer (some ⟨g, 0, none⟩), .int .i64 t238] ?_; (with_reducible refine (spec_l1Cur_pick.calls g s0_0 t239 t240 t238 t241 t242 t243 w0 _ ?side1 ?side2 A4.out).mono ?_); (case side1 => repeat (first | (with_reducible first | exact HI0.out | apply IsS88.alloc | apply IsS88.drewN | apply IsS88.drew | apply IsS88.set_1 | apply IsS88.set_2) | exact HI0.out)); (case side2 => repeat (first | (with_reducible first | exact HB.out | apply Z5 | apply Z3 | apply Z4 | refine Z6 ?_ (IsS88.ge HI0.out)) | exact HB.out)); rintro e w14 ⟨rfl, hi, hb, hk⟩; refine ⟨_, rfl, ?_⟩; replace HO231 := Ya (Z12 (Kd.R_keep (IsS88.apart (show IsS88 w0 _ g s0_0 t239 t240 from by repeat (first | (with_reducible first | exact HI0.out | apply IsS88.alloc | apply IsS88.drewN | apply IsS88.drew | apply IsS88.set_1 | apply IsS88.set_2) | exact HI0.out)) (Yr HO231.out) (by decide)) hk (fun _ h => h.2)) (fun _ h => h.1)); replace HO237 := Ya (Z12 (Kd.R_keep (IsS88.apart (show IsS88 w0 _ g s0_0 t239 t240 from by repeat (first | (with_reducible first | exact HI0.out | apply IsS88.alloc | apply IsS88.drewN | apply IsS88.drew | apply IsS88.set_1 | apply IsS88.set_2) | exact HI0.out)) (Yr HO237.out) (by decide)) hk (fun _ h => h.2)) (fun _ h => h.1)); replace HK := Ya (KeepBut.trans Q3 hk (.inl rfl)); replace HB := Ya hb; replace HI0 := Ya hi; (try clear hb hk hi)))
 (try simp only [Act.put, Z0, Z1, Z2])
 go_cut [5] (fun v5 wc => ∃ (kq : Nat) (x5_4 : List (S45)) (x1001_4 : Int) (x1002_4 : Int), Aside0 (spec_l1Cur_moves.j1 kq t232 x5_4 s0_0 x1001_4 x1002_4 = some (r1, r2, r3, r4)) ∧ Aside0 (kq ≤ k) ∧ Aside0 (Kd.R k45 45 wc w.heap.size (fun _ => True) v5 x5_4) ∧ Aside0 (IsS88 w0 wc g s0_0 x1001_4 x1002_4) ∧ Aside0 (KeepBut w wc g none) ∧ Aside0 (Below w0.heap.size w0 wc))
 case first =>
  have H := HC5.out
  clear HC5
  have H' := Ya H
  clear H
  go_wp2
  go_loopg [5, 6] k (fun kq v5 v6 w' => ∃ (x5_1 : List (S45)) (x6_1 : Int) (x1001_1 : Int) (x1002_1 : Int), v6 = .int .i64 x6_1 ∧ Aside0 (spec_l1Cur_moves.l0 kq t232 x5_1 x6_1 s0_0 x1001_1 x1002_1 = some (r1, r2, r3, r4)) ∧ Aside0 (kq ≤ k) ∧ Aside0 (Kd.R k45 45 w' w.heap.size (fun _ => True) v5 x5_1) ∧ Aside0 (IsS88 w0 w' g s0_0 x1001_1 x1002_1) ∧ Aside0 (KeepBut w w' g none) ∧ Aside0 (Below w0.heap.size w0 w'))
  case atStart => exact ⟨(([] : List (S45))), (t241), (t242), (t243), Q5, H', ⟨Nat.le_refl _⟩, ⟨Q11⟩, ⟨Q4⟩, ⟨Q13⟩, ⟨Q6⟩⟩
  case round =>
   clear H'
   try clear p2
   try clear c6
   obtain ⟨x5_1, x6_1, x1001_1, x1002_1, rfl, HA, HK1, HO_5, HI0, HK, HB⟩ := hrel
   cases gk with
   | zero => exact absurd HA.out (by simp [spec_l1Cur_moves.l0])
   | succ k1 =>
    have H := HA.out
    clear HA
    simp only [spec_l1Cur_moves.l0] at H
    by_cases c15 : x6_1 > 0
    ·rw [if_pos c15] at H
     have c15b0 : decide (0 < x6_1) = true := Z37 c15
     clear c15
     (first | rw [c15b0] | (simp only [i64_w, i32_w]; rw [c15b0]) | skip)
     by_cases c16 : t232 > 1
     ·rw [if_pos c16] at H
      have c16b0 : decide (1 < t232) = true := Z37 c16
      clear c16
      replace H := Z35.mp H
      obtain ⟨⟨t244, t245, t246, t247, t248⟩, A170, H⟩ := H
      replace H : (if x5_1.length < 5864062014805 then (spec_l1Cur_moves.l0 k1 t232 (x5_1 ++ [(⟨t244, t245, t246⟩ : S45)]) (wrap64 (x6_1 - 1)) s0_0 t247 t248) else (none)) = some (r1, r2, r3, r4) := H
      have A17 := Ya A170
      clear A170
      by_cases c18 : x5_1.length < 5864062014805
      ·rw [if_pos c18] at H
       have LMc18 := Ya c18
       clear c18
       obtain ⟨y249, hy249⟩ : ∃ y_ : List (S45), y_ = (x5_1 ++ [(⟨t244, t245, t246⟩ : S45)]) := ⟨_, rfl⟩
       replace H : (spec_l1Cur_moves.l0 k1 t232 y249 (wrap64 (x6_1 - 1)) s0_0 t247 t248) = some (r1, r2, r3, r4) := by first | (rw [hy249]; with_reducible exact H) | (have H2_ := (Option.bind_some _ _).symm.trans H; rw [hy249]; with_reducible exact H2_) | (have H2_ := (Option.bind_some _ _).symm.trans H; with_reducible exact H2_) | with_reducible exact H | (rw [hy249]; exact H) | exact H
       have Ny249 := Ya hy249
       clear hy249
       have H' := Ya H
       clear H
       go_wp2_with (first | ((with_reducible refine gate_callee (f := 93) rfl ?_); refine Yz 28 Try.func93 #[.pointer (some ⟨g, 0, none⟩), .int .i64 t232] ?_; (with_reducible refine (spec_l1Cur_move.calls k1 g s0_0 x1001_1 x1002_1 t232 t244 t245 t246 t247 t248 w0 _ ?side1 ?side2 A17.out).mono ?_); (case side1 => repeat (first | (with_reducible first | exact HI0.out | apply IsS88.alloc | apply IsS88.drewN | apply IsS88.drew | apply IsS88.set_1 | apply IsS88.set_2) | exact HI0.out)); (case side2 => repeat (first | (with_reducible first | exact HB.out | apply Z5 | apply Z3 | apply Z4 | refine Z6 ?_ (IsS88.ge HI0.out)) | exact HB.out)); rintro e w19 ⟨rfl, hi, hb, hk⟩; refine ⟨_, rfl, ?_⟩; replace HO_5 := Ya (Z12 (Kd.R_keep (IsS88.apart (show IsS88 w0 _ g s0_0 x1001_1 x1002_1 from by repeat (first | (with_reducible first | exact HI0.out | apply IsS88.alloc | apply IsS88.drewN | apply IsS88.drew | apply IsS88.set_1 | apply IsS88.set_2) | exact HI0.out)) (Yr HO_5.out) (by decide)) hk (fun _ h => h.2)) (fun _ h => h.1)); replace HK := Ya (KeepBut.trans Q3 hk (.inl rfl)); replace HB := Ya hb; replace HI0 := Ya hi; (try clear hb hk hi)) | ((with_reducible refine gate_builtin (b := .append) (xs := #[.tmp 25, .tmp 29]) rfl ?_); at_builtin; refine Kd.R_append k45 w.heap.size rfl (.tmp 25) (.tmp 29) 27 45 (.agg #[(.int .i64 0), (.int .i64 0), (.int .i64 0)]) 24 rfl Try.underlying27 info45 rfl (by decide) (by omega) u5 x5_1 (⟨t244, t245, t246⟩ : S45) [.int .i64 t244, .int .i64 t245, .int .i64 t246] (fun _ => True) (fun _ => False) rfl rfl ?aP (fun _ hk => hk.elim) ?aF ?aO (Below.refl _ _) ?aS ?aL ?_; (case aP => exact k45_mkM _ _ _ (⟨t244, t245, t246⟩ : S45)); (case aF => exact (fun _ _ => trivial)); (case aO => exact (Yr HO_5.out)); (case aS => exact (keep_size (w := w) (g := g) (row := none) Q3)); (case aL => have := LMc18.out; omega); intro v250 w20 ho hb hg hat; rw [← Ny249.out] at ho; replace HB := Ya (below_weaken Q20 HL.out hb); replace HI0 := Ya (IsS88.grown Q14 hg (IsS88.own_ne HI0.out HO_5.out (by decide))); replace HK := Ya (KeepBut.trans Q3 (KeepBut.of_grown hg g) (Kd.R_base2 HO_5.out)); have HO251 := Ya ho; clear HO_5; clear ho hb hg hat))
       go_roundg k1
       case measure => have := HK1.out; omega
       case rel => exact ⟨(y249), (wrap64 (x6_1 - 1)), (t247), (t248), Q5, H', ⟨Q28⟩, ⟨by (with_reducible repeat (first | apply Z9 | apply Z10 | apply Z11)); exact HO251.out⟩, ⟨Q4⟩, ⟨Q13⟩, ⟨Q6⟩⟩
      ·rw [if_neg c18] at H
       exact absurd H (by simp)
     ·rw [if_neg c16] at H
      have c16b0 : decide (1 < t232) = false := Z36 c16
      clear c16
      have H' := Ya H
      clear H
      go_wp2
      go_meet
      case rel => exact ⟨_, (x5_1), (x1001_1), (x1002_1), H', ⟨Q49⟩, ⟨Q21⟩, ⟨Q4⟩, ⟨Q13⟩, ⟨Q6⟩⟩
    ·rw [if_neg c15] at H
     have c15b0 : decide (0 < x6_1) = false := Z36 c15
     clear c15
     (first | rw [c15b0] | (simp only [i64_w, i32_w]; rw [c15b0]) | skip)
     have H' := Ya H
     clear H
     go_wp2
     go_meet
     case rel => exact ⟨_, (x5_1), (x1001_1), (x1002_1), H', ⟨Q49⟩, ⟨Q21⟩, ⟨Q4⟩, ⟨Q13⟩, ⟨Q6⟩⟩
 case rest =>
  clear HC5
  try clear c1
  try clear p2
  try clear c6
  try clear p6
  try clear c9
  try clear c15
  try clear c15b0
  try clear c16
  try clear c16b0
  try clear c18
  try clear p2
  obtain ⟨kq, x5_4, x1001_4, x1002_4, HA, HJ4, HO_5, HI0, HK, HB⟩ := hcut
  cases kq with
  | zero => exact absurd HA.out (by simp [spec_l1Cur_moves.j1])
  | succ kj4 =>
   have H := HA.out
   clear HA
   simp only [spec_l1Cur_moves.j1] at H
   replace H := Z35.mp H
   obtain ⟨⟨t252, t253, t254⟩, A210, H⟩ := H
   replace H : (if t252 = 0 then ((spec_l1Cur_among.f s0_0 t253 t254 (([(-1), 0, 5, 6] : List Int))).bind fun bt258 => (some (bt258.1, x5_4, bt258.2.1, bt258.2.2))) else (if t252 = 1 then (spec_l1Cur_moves.l1 kj4 t232 x5_4 s0_0 t253 t254) else (if t252 = 2 then (spec_l1Cur_moves.j3 kj4 t232 x5_4 t252 (t252 == 2) s0_0 t253 t254) else (if t252 = 3 then (spec_l1Cur_moves.j3 kj4 t232 x5_4 t252 (t252 == 3) s0_0 t253 t254) else (spec_l1Cur_moves.j3 kj4 t232 x5_4 t252 (t252 == 4) s0_0 t253 t254))))) = some (r1, r2, r3, r4) := H
   have A21 := Ya A210
   clear A210
   by_cases c22 : t252 = 0
   ·rw [if_pos c22] at H
    have c22b0 : (t252 == 0) = true := beq_iff_eq.mpr c22
    have c22b1 : (t252 != 0) = false := bne_eq_false_iff_eq.mpr c22
    clear c22
    obtain ⟨y255, hy255⟩ : ∃ y_ : List Int, y_ = (([(-1), 0, 5, 6] : List Int)) := ⟨_, rfl⟩
    replace H : ((spec_l1Cur_among.f s0_0 t253 t254 y255).bind fun bt258 => (some (bt258.1, x5_4, bt258.2.1, bt258.2.2))) = some (r1, r2, r3, r4) := by first | (rw [hy255]; with_reducible exact H) | (have H2_ := (Option.bind_some _ _).symm.trans H; rw [hy255]; with_reducible exact H2_) | (have H2_ := (Option.bind_some _ _).symm.trans H; with_reducible exact H2_) | with_reducible exact H | (rw [hy255]; exact H) | exact H
    have Ny255 := Ya hy255
    clear hy255
    replace H := Z35.mp H
    obtain ⟨⟨t258, t259, t260⟩, A230, H⟩ := H
    replace H : (some (t258, x5_4, t259, t260)) = some (r1, r2, r3, r4) := H
    have A23 := Ya A230
    clear A230
    simp only [Option.some.injEq, Prod.mk.injEq] at H
    obtain ⟨rfl, rfl, rfl, rfl⟩ := H
    go_wp2_with (first | ((with_reducible refine gate_callee (f := 69) rfl ?_); refine Yz 32 Try.func69 #[.pointer (some ⟨g, 0, none⟩), .int .i64 16] ?_; (with_reducible refine (spec_l1Cur_pick.calls g s0_0 x1001_4 x1002_4 16 t252 t253 t254 w0 _ ?side1 ?side2 A21.out).mono ?_); (case side1 => repeat (first | (with_reducible first | exact HI0.out | apply IsS88.alloc | apply IsS88.drewN | apply IsS88.drew | apply IsS88.set_1 | apply IsS88.set_2) | exact HI0.out)); (case side2 => repeat (first | (with_reducible first | exact HB.out | apply Z5 | apply Z3 | apply Z4 | refine Z6 ?_ (IsS88.ge HI0.out)) | exact HB.out)); rintro e w24 ⟨rfl, hi, hb, hk⟩; refine ⟨_, rfl, ?_⟩; replace HO_5 := Ya (Z12 (Kd.R_keep (IsS88.apart (show IsS88 w0 _ g s0_0 x1001_4 x1002_4 from by repeat (first | (with_reducible first | exact HI0.out | apply IsS88.alloc | apply IsS88.drewN | apply IsS88.drew | apply IsS88.set_1 | apply IsS88.set_2) | exact HI0.out)) (Yr HO_5.out) (by decide)) hk (fun _ h => h.2)) (fun _ h => h.1)); replace HK := Ya (KeepBut.trans Q3 hk (.inl rfl)); replace HB := Ya hb; replace HI0 := Ya hi; (try clear hb hk hi)) | ((with_reducible refine gate_dst (N := 36) rfl ?_); refine Kd.R_lit (Kd.int .i64) _ 3 ?hg (N := 36) ?hd (xs := ([(-1), 0, 5, 6] : List Int)) (inner := [.int .i64 (-1), .int .i64 0, .int .i64 5, .int .i64 6]) (ok := fun _ => True) (okp := fun _ => True) ?hr ?hp (fun _ hk => hk) trivial (Below.refl _ _) (Nat.le_refl _) (by simp) ?_; (case hd => rfl); (case hg => rfl); (case hr => first | (go_simp; done) | (go_simp; rfl)); (case hp => exact (Reps.one (show Kd.M (Kd.int .i64) _ _ _ (-1) [.int .i64 (-1)] from rfl) (Reps.one (show Kd.M (Kd.int .i64) _ _ _ 0 [.int .i64 0] from rfl) (Reps.one (show Kd.M (Kd.int .i64) _ _ _ 5 [.int .i64 5] from rfl) (Reps.one (show Kd.M (Kd.int .i64) _ _ _ 6 [.int .i64 6] from rfl) (Reps.none _ _)))))); intro v256 w25 ho26 hb hg_ hnew_; clear hg_ hnew_; (first | rw [← Ny255.out] at ho26 | (simp only [Int.reduceToNat] at ho26; rw [← Ny255.out] at ho26)); replace HO_5 := Yw HO_5 hb; have HO257 := Ya (Kd.R_lower ho26 (keep_size (w := w) (g := g) (row := none) Q3)); replace HK := Ya (KeepBut.trans Q3 (KeepBut.of_below hb g none) (.inl rfl)); replace HB := Ya (Z8 Q20 hb); replace HI0 := Ya (IsS88.below Q14 hb); clear hb ho26; obtain ⟨Ao27, co27, rfl⟩ := Z17 HO257.out) | ((with_reducible refine gate_callee (f := 65) rfl ?_); refine Yz 37 Try.func65 #[.pointer (some ⟨g, 0, none⟩), .slice Ao27 y255.length co27] ?_; (with_reducible refine (spec_l1Cur_among.calls g s0_0 t253 t254 _ _ y255 t258 t259 t260 w0 _ ?side1 ?side2 (Yc (Kd.R_reads' HO257.out).2.2) ((Kd.R_reads' HO257.out).2.1) ?side5 A23.out).mono ?_); (case side1 => repeat (first | (with_reducible first | exact HI0.out | apply IsS88.alloc | apply IsS88.drewN | apply IsS88.drew | apply IsS88.set_1 | apply IsS88.set_2) | exact HI0.out)); (case side2 => repeat (first | (with_reducible first | exact HB.out | apply Z5 | apply Z3 | apply Z4 | refine Z6 ?_ (IsS88.ge HI0.out)) | exact HB.out)); (case side5 => exact far_slice (IsS88.own_ne HI0.out HO257.out (by decide))); rintro e w28 ⟨rfl, hi, hb, hk⟩; refine ⟨_, rfl, ?_⟩; replace HO_5 := Ya (Z12 (Kd.R_keep (IsS88.apart (show IsS88 w0 _ g s0_0 t253 t254 from by repeat (first | (with_reducible first | exact HI0.out | apply IsS88.alloc | apply IsS88.drewN | apply IsS88.drew | apply IsS88.set_1 | apply IsS88.set_2) | exact HI0.out)) (Yr HO_5.out) (by decide)) hk (fun _ h => h.2)) (fun _ h => h.1)); replace HO257 := Ya (Z12 (Kd.R_keep (IsS88.apart (show IsS88 w0 _ g s0_0 t253 t254 from by repeat (first | (with_reducible first | exact HI0.out | apply IsS88.alloc | apply IsS88.drewN | apply IsS88.drew | apply IsS88.set_1 | apply IsS88.set_2) | exact HI0.out)) (Yr HO257.out) (by decide)) hk (fun _ h => h.2)) (fun _ h => h.1)); replace HK := Ya (KeepBut.trans Q3 hk (.inl rfl)); replace HB := Ya hb; replace HI0 := Ya hi; (try clear hb hk hi)))
    go_ret2
    exact ⟨_, Q2, Q21, Q4, Q6, Q13⟩
   ·rw [if_neg c22] at H
    have c22b0 : (t252 == 0) = false := beq_eq_false_iff_ne.mpr c22
    have c22b1 : (t252 != 0) = true := bne_iff_ne.mpr c22
    by_cases c29 : t252 = 1
    ·rw [if_pos c29] at H
     have c29b0 : (t252 == 1) = true := beq_iff_eq.mpr c29
     have c29b1 : (t252 != 1) = false := bne_eq_false_iff_eq.mpr c29
     clear c29
     have H' := Ya H
     clear H
     go_wp2_with (first | ((with_reducible refine gate_callee (f := 69) rfl ?_); refine Yz 32 Try.func69 #[.pointer (some ⟨g, 0, none⟩), .int .i64 16] ?_; (with_reducible refine (spec_l1Cur_pick.calls g s0_0 x1001_4 x1002_4 16 t252 t253 t254 w0 _ ?side1 ?side2 A21.out).mono ?_); (case side1 => repeat (first | (with_reducible first | exact HI0.out | apply IsS88.alloc | apply IsS88.drewN | apply IsS88.drew | apply IsS88.set_1 | apply IsS88.set_2) | exact HI0.out)); (case side2 => repeat (first | (with_reducible first | exact HB.out | apply Z5 | apply Z3 | apply Z4 | refine Z6 ?_ (IsS88.ge HI0.out)) | exact HB.out)); rintro e w30 ⟨rfl, hi, hb, hk⟩; refine ⟨_, rfl, ?_⟩; replace HO_5 := Ya (Z12 (Kd.R_keep (IsS88.apart (show IsS88 w0 _ g s0_0 x1001_4 x1002_4 from by repeat (first | (with_reducible first | exact HI0.out | apply IsS88.alloc | apply IsS88.drewN | apply IsS88.drew | apply IsS88.set_1 | apply IsS88.set_2) | exact HI0.out)) (Yr HO_5.out) (by decide)) hk (fun _ h => h.2)) (fun _ h => h.1)); replace HK := Ya (KeepBut.trans Q3 hk (.inl rfl)); replace HB := Ya hb; replace HI0 := Ya hi; (try clear hb hk hi)))
     go_loopg [5] kj4 (fun kq v5 w' => ∃ (x5_2 : List (S45)) (x1001_2 : Int) (x1002_2 : Int), Aside0 (spec_l1Cur_moves.l1 kq t232 x5_2 s0_0 x1001_2 x1002_2 = some (r1, r2, r3, r4)) ∧ Aside0 (kq ≤ kj4) ∧ Aside0 (Kd.R k45 45 w' w.heap.size (fun _ => True) v5 x5_2) ∧ Aside0 (IsS88 w0 w' g s0_0 x1001_2 x1002_2) ∧ Aside0 (KeepBut w w' g none) ∧ Aside0 (Below w0.heap.size w0 w'))
     case atStart => exact ⟨(x5_4), (t253), (t254), H', ⟨Nat.le_refl _⟩, ⟨Q21⟩, ⟨Q4⟩, ⟨Q13⟩, ⟨Q6⟩⟩
     case round =>
      clear H'
      try clear c1
      try clear c2
      try clear p2
      try clear c6
      try clear p6
      try clear c9
      try clear c15
      try clear c15b0
      try clear c16
      try clear c16b0
      try clear c18
      try clear c22
      try clear c22b0
      try clear c22b1
      try clear c29
      try clear c29b0
      try clear c29b1
      try clear p2
      try clear p6
      obtain ⟨x5_2, x1001_2, x1002_2, HA, HK2, HO_5, HI0, HK, HB⟩ := hrel
      cases gk with
      | zero => exact absurd HA.out (by simp [spec_l1Cur_moves.l1])
      | succ k2 =>
       have H := HA.out
       clear HA
       simp only [spec_l1Cur_moves.l1] at H
       replace H := Z35.mp H
       obtain ⟨⟨t261, t262, t263⟩, A310, H⟩ := H
       replace H : (if (x5_2.length : Int) < (wrap64 (12 + t261)) then (if t232 > 1 then ((spec_l1Cur_move.f k2 s0_0 t262 t263 t232).bind fun bt264 => (if x5_2.length < 5864062014805 then (spec_l1Cur_moves.l1 k2 t232 (x5_2 ++ [(⟨bt264.1, bt264.2.1, bt264.2.2.1⟩ : S45)]) s0_0 bt264.2.2.2.1 bt264.2.2.2.2) else (none))) else (some (t232, x5_2, t262, t263))) else (some (t232, x5_2, t262, t263))) = some (r1, r2, r3, r4) := H
       have A31 := Ya A310
       clear A310
       by_cases c32 : (x5_2.length : Int) < (wrap64 (12 + t261))
       ·rw [if_pos c32] at H
        have c32b0 := Z37 c32
        clear c32
        by_cases c33 : t232 > 1
        ·rw [if_pos c33] at H
         have c33b0 : decide (1 < t232) = true := Z37 c33
         clear c33
         replace H := Z35.mp H
         obtain ⟨⟨t264, t265, t266, t267, t268⟩, A340, H⟩ := H
         replace H : (if x5_2.length < 5864062014805 then (spec_l1Cur_moves.l1 k2 t232 (x5_2 ++ [(⟨t264, t265, t266⟩ : S45)]) s0_0 t267 t268) else (none)) = some (r1, r2, r3, r4) := H
         have A34 := Ya A340
         clear A340
         by_cases c35 : x5_2.length < 5864062014805
         ·rw [if_pos c35] at H
          have LMc35 := Ya c35
          clear c35
          obtain ⟨y269, hy269⟩ : ∃ y_ : List (S45), y_ = (x5_2 ++ [(⟨t264, t265, t266⟩ : S45)]) := ⟨_, rfl⟩
          replace H : (spec_l1Cur_moves.l1 k2 t232 y269 s0_0 t267 t268) = some (r1, r2, r3, r4) := by first | (rw [hy269]; with_reducible exact H) | (have H2_ := (Option.bind_some _ _).symm.trans H; rw [hy269]; with_reducible exact H2_) | (have H2_ := (Option.bind_some _ _).symm.trans H; with_reducible exact H2_) | with_reducible exact H | (rw [hy269]; exact H) | exact H
          have Ny269 := Ya hy269
          clear hy269
          have H' := Ya H
          clear H
          obtain ⟨Ao36, co36, rfl⟩ := Z17 HO_5.out
          go_wp2_with (first | ((with_reducible refine gate_callee (f := 69) rfl ?_); refine Yz 43 Try.func69 #[.pointer (some ⟨g, 0, none⟩), .int .i64 2] ?_; (with_reducible refine (spec_l1Cur_pick.calls g s0_0 x1001_2 x1002_2 2 t261 t262 t263 w0 _ ?side1 ?side2 A31.out).mono ?_); (case side1 => repeat (first | (with_reducible first | exact HI0.out | apply IsS88.alloc | apply IsS88.drewN | apply IsS88.drew | apply IsS88.set_1 | apply IsS88.set_2) | exact HI0.out)); (case side2 => repeat (first | (with_reducible first | exact HB.out | apply Z5 | apply Z3 | apply Z4 | refine Z6 ?_ (IsS88.ge HI0.out)) | exact HB.out)); rintro e w37 ⟨rfl, hi, hb, hk⟩; refine ⟨_, rfl, ?_⟩; replace HO_5 := Ya (Z12 (Kd.R_keep (IsS88.apart (show IsS88 w0 _ g s0_0 x1001_2 x1002_2 from by repeat (first | (with_reducible first | exact HI0.out | apply IsS88.alloc | apply IsS88.drewN | apply IsS88.drew | apply IsS88.set_1 | apply IsS88.set_2) | exact HI0.out)) (Yr HO_5.out) (by decide)) hk (fun _ h => h.2)) (fun _ h => h.1)); replace HK := Ya (KeepBut.trans Q3 hk (.inl rfl)); replace HB := Ya hb; replace HI0 := Ya hi; (try clear hb hk hi)) | ((with_reducible refine gate_callee (f := 93) rfl ?_); refine Yz 53 Try.func93 #[.pointer (some ⟨g, 0, none⟩), .int .i64 t232] ?_; (with_reducible refine (spec_l1Cur_move.calls k2 g s0_0 t262 t263 t232 t264 t265 t266 t267 t268 w0 _ ?side1 ?side2 A34.out).mono ?_); (case side1 => repeat (first | (with_reducible first | exact HI0.out | apply IsS88.alloc | apply IsS88.drewN | apply IsS88.drew | apply IsS88.set_1 | apply IsS88.set_2) | exact HI0.out)); (case side2 => repeat (first | (with_reducible first | exact HB.out | apply Z5 | apply Z3 | apply Z4 | refine Z6 ?_ (IsS88.ge HI0.out)) | exact HB.out)); rintro e w38 ⟨rfl, hi, hb, hk⟩; refine ⟨_, rfl, ?_⟩; replace HO_5 := Ya (Z12 (Kd.R_keep (IsS88.apart (show IsS88 w0 _ g s0_0 t262 t263 from by repeat (first | (with_reducible first | exact HI0.out | apply IsS88.alloc | apply IsS88.drewN | apply IsS88.drew | apply IsS88.set_1 | apply IsS88.set_2) | exact HI0.out)) (Yr HO_5.out) (by decide)) hk (fun _ h => h.2)) (fun _ h => h.1)); replace HK := Ya (KeepBut.trans Q3 hk (.inl rfl)); replace HB := Ya hb; replace HI0 := Ya hi; (try clear hb hk hi)) | ((with_reducible refine gate_builtin (b := .append) (xs := #[.tmp 50, .tmp 54]) rfl ?_); at_builtin; refine Kd.R_append k45 w.heap.size rfl (.tmp 50) (.tmp 54) 27 45 (.agg #[(.int .i64 0), (.int .i64 0), (.int .i64 0)]) 24 rfl Try.underlying27 info45 rfl (by decide) (by omega) (.slice Ao36 x5_2.length co36) x5_2 (⟨t264, t265, t266⟩ : S45) [.int .i64 t264, .int .i64 t265, .int .i64 t266] (fun _ => True) (fun _ => False) rfl rfl ?aP (fun _ hk => hk.elim) ?aF ?aO (Below.refl _ _) ?aS ?aL ?_; (case aP => exact k45_mkM _ _ _ (⟨t264, t265, t266⟩ : S45)); (case aF => exact (fun _ _ => trivial)); (case aO => exact (Yr HO_5.out)); (case aS => exact (keep_size (w := w) (g := g) (row := none) Q3)); (case aL => have := LMc35.out; omega); intro v270 w39 ho hb hg hat; rw [← Ny269.out] at ho; replace HB := Ya (below_weaken Q20 HL.out hb); replace HI0 := Ya (IsS88.grown Q14 hg (IsS88.own_ne HI0.out HO_5.out (by decide))); replace HK := Ya (KeepBut.trans Q3 (KeepBut.of_grown hg g) (Kd.R_base2 HO_5.out)); have HO271 := Ya ho; clear HO_5; clear ho hb hg hat))
          go_roundg k2
          case measure => have := HJ4.out; have := HK2.out; omega
          case rel => exact ⟨(y269), (t267), (t268), H', ⟨by have := HJ4.out; have := HK2.out; omega⟩, ⟨by (with_reducible repeat (first | apply Z9 | apply Z10 | apply Z11)); exact HO271.out⟩, ⟨Q4⟩, ⟨Q13⟩, ⟨Q6⟩⟩
         ·rw [if_neg c35] at H
          exact absurd H (by simp)
        ·rw [if_neg c33] at H
         have c33b0 : decide (1 < t232) = false := Z36 c33
         clear c33
         simp only [Option.some.injEq, Prod.mk.injEq] at H
         obtain ⟨rfl, rfl, rfl, rfl⟩ := H
         obtain ⟨Ao40, co40, rfl⟩ := Z17 HO_5.out
         go_wp2_with (first | ((with_reducible refine gate_callee (f := 69) rfl ?_); refine Yz 43 Try.func69 #[.pointer (some ⟨g, 0, none⟩), .int .i64 2] ?_; (with_reducible refine (spec_l1Cur_pick.calls g s0_0 x1001_2 x1002_2 2 t261 t262 t263 w0 _ ?side1 ?side2 A31.out).mono ?_); (case side1 => repeat (first | (with_reducible first | exact HI0.out | apply IsS88.alloc | apply IsS88.drewN | apply IsS88.drew | apply IsS88.set_1 | apply IsS88.set_2) | exact HI0.out)); (case side2 => repeat (first | (with_reducible first | exact HB.out | apply Z5 | apply Z3 | apply Z4 | refine Z6 ?_ (IsS88.ge HI0.out)) | exact HB.out)); rintro e w41 ⟨rfl, hi, hb, hk⟩; refine ⟨_, rfl, ?_⟩; replace HO_5 := Ya (Z12 (Kd.R_keep (IsS88.apart (show IsS88 w0 _ g s0_0 x1001_2 x1002_2 from by repeat (first | (with_reducible first | exact HI0.out | apply IsS88.alloc | apply IsS88.drewN | apply IsS88.drew | apply IsS88.set_1 | apply IsS88.set_2) | exact HI0.out)) (Yr HO_5.out) (by decide)) hk (fun _ h => h.2)) (fun _ h => h.1)); replace HK := Ya (KeepBut.trans Q3 hk (.inl rfl)); replace HB := Ya hb; replace HI0 := Ya hi; (try clear hb hk hi)))
         go_ret2
         exact ⟨_, Q2, Q21, Q4, Q6, Q13⟩
       ·rw [if_neg c32] at H
        have c32b0 := Z36 c32
        clear c32
        simp only [Option.some.injEq, Prod.mk.injEq] at H
        obtain ⟨rfl, rfl, rfl, rfl⟩ := H
        obtain ⟨Ao42, co42, rfl⟩ := Z17 HO_5.out
        go_wp2_with (first | ((with_reducible refine gate_callee (f := 69) rfl ?_); refine Yz 43 Try.func69 #[.pointer (some ⟨g, 0, none⟩), .int .i64 2] ?_; (with_reducible refine (spec_l1Cur_pick.calls g s0_0 x1001_2 x1002_2 2 t261 t262 t263 w0 _ ?side1 ?side2 A31.out).mono ?_); (case side1 => repeat (first | (with_reducible first | exact HI0.out | apply IsS88.alloc | apply IsS88.drewN | apply IsS88.drew | apply IsS88.set_1 | apply IsS88.set_2) | exact HI0.out)); (case side2 => repeat (first | (with_reducible first | exact HB.out | apply Z5 | apply Z3 | apply Z4 | refine Z6 ?_ (IsS88.ge HI0.out)) | exact HB.out)); rintro e w43 ⟨rfl, hi, hb, hk⟩; refine ⟨_, rfl, ?_⟩; replace HO_5 := Ya (Z12 (Kd.R_keep (IsS88.apart (show IsS88 w0 _ g s0_0 x1001_2 x1002_2 from by repeat (first | (with_reducible first | exact HI0.out | apply IsS88.alloc | apply IsS88.drewN | apply IsS88.drew | apply IsS88.set_1 | apply IsS88.set_2) | exact HI0.out)) (Yr HO_5.out) (by decide)) hk (fun _ h => h.2)) (fun _ h => h.1)); replace HK := Ya (KeepBut.trans Q3 hk (.inl rfl)); replace HB := Ya hb; replace HI0 := Ya hi; (try clear hb hk hi)))
        go_ret2
        exact ⟨_, Q2, Q21, Q4, Q6, Q13⟩
    ·rw [if_neg c29] at H
     have c29b0 : (t252 == 1) = false := beq_eq_false_iff_ne.mpr c29
     have c29b1 : (t252 != 1) = true := bne_iff_ne.mpr c29
     have HC44 := Ya H
     clear H
     go_upto_if 56 with (first | ((with_reducible refine gate_callee (f := 69) rfl ?_); refine Yz 32 Try.func69 #[.pointer (some ⟨g, 0, none⟩), .int .i64 16] ?_; (with_reducible refine (spec_l1Cur_pick.calls g s0_0 x1001_4 x1002_4 16 t252 t253 t254 w0 _ ?side1 ?side2 A21.out).mono ?_); (case side1 => repeat (first | (with_reducible first | exact HI0.out | apply IsS88.alloc | apply IsS88.drewN | apply IsS88.drew | apply IsS88.set_1 | apply IsS88.set_2) | exact HI0.out)); (case side2 => repeat (first | (with_reducible first | exact HB.out | apply Z5 | apply Z3 | apply Z4 | refine Z6 ?_ (IsS88.ge HI0.out)) | exact HB.out)); rintro e w45 ⟨rfl, hi, hb, hk⟩; refine ⟨_, rfl, ?_⟩; replace HO_5 := Ya (Z12 (Kd.R_keep (IsS88.apart (show IsS88 w0 _ g s0_0 x1001_4 x1002_4 from by repeat (first | (with_reducible first | exact HI0.out | apply IsS88.alloc | apply IsS88.drewN | apply IsS88.drew | apply IsS88.set_1 | apply IsS88.set_2) | exact HI0.out)) (Yr HO_5.out) (by decide)) hk (fun _ h => h.2)) (fun _ h => h.1)); replace HK := Ya (KeepBut.trans Q3 hk (.inl rfl)); replace HB := Ya hb; replace HI0 := Ya hi; (try clear hb hk hi)))
     (try simp only [Act.put, Z0, Z1, Z2])
     go_cut [56] (fun v56 wc => ∃ (kq : Nat) (x56_43 : Bool), v56 = .bool x56_43 ∧ Aside0 (spec_l1Cur_moves.j3 kq t232 x5_4 t252 x56_43 s0_0 t253 t254 = some (r1, r2, r3, r4)) ∧ Aside0 (kq ≤ kj4) ∧ Aside0 (Kd.R k45 45 wc w.heap.size (fun _ => True) u5 x5_4) ∧ Aside0 (IsS88 w0 wc g s0_0 t253 t254) ∧ Aside0 (KeepBut w wc g none) ∧ Aside0 (Below w0.heap.size w0 wc))
     case first =>
      have H := HC44.out
      clear HC44
      by_cases c46 : t252 = 2
      ·rw [if_pos c46] at H
       have c46b0 : (t252 == 2) = true := beq_iff_eq.mpr c46
       have c46b1 : (t252 != 2) = false := bne_eq_false_iff_eq.mpr c46
       clear c46
       (first | rw [c46b0] | (simp only [i64_w, i32_w]; rw [c46b0]) | skip)
       have H' := Ya H
       clear H
       go_wp2
       go_meet
       case rel => exact ⟨_, ((t252 == 2)), Q5, H', ⟨by have := HJ4.out; first | omega | exact Nat.le_refl _⟩, ⟨Q21⟩, ⟨Q4⟩, ⟨Q13⟩, ⟨Q6⟩⟩
      ·rw [if_neg c46] at H
       have c46b0 : (t252 == 2) = false := beq_eq_false_iff_ne.mpr c46
       have c46b1 : (t252 != 2) = true := bne_iff_ne.mpr c46
       (first | rw [c46b0] | (simp only [i64_w, i32_w]; rw [c46b0]) | skip)
       by_cases c47 : t252 = 3
       ·rw [if_pos c47] at H
        have c47b0 : (t252 == 3) = true := beq_iff_eq.mpr c47
        have c47b1 : (t252 != 3) = false := bne_eq_false_iff_eq.mpr c47
        clear c47
        have H' := Ya H
        clear H
        go_wp2
        go_meet
        case rel => exact ⟨_, ((t252 == 3)), Q5, H', ⟨by have := HJ4.out; first | omega | exact Nat.le_refl _⟩, ⟨Q21⟩, ⟨Q4⟩, ⟨Q13⟩, ⟨Q6⟩⟩
       ·rw [if_neg c47] at H
        have c47b0 : (t252 == 3) = false := beq_eq_false_iff_ne.mpr c47
        have c47b1 : (t252 != 3) = true := bne_iff_ne.mpr c47
        have H' := Ya H
        clear H
        go_wp2
        go_meet
        case rel => exact ⟨_, ((t252 == 4)), Q5, H', ⟨by have := HJ4.out; first | omega | exact Nat.le_refl _⟩, ⟨Q21⟩, ⟨Q4⟩, ⟨Q13⟩, ⟨Q6⟩⟩
     case rest =>
      clear HC44
      try clear c1
      try clear c2
      try clear p2
      try clear c3
      try clear c4
      try clear c6
      try clear p6
      try clear c9
      try clear c15
      try clear c15b0
      try clear c16
      try clear c16b0
      try clear c18
      try clear c22
      try clear c22b0
      try clear c22b1
      try clear c29
      try clear c29b0
      try clear c29b1
      try clear c32
      try clear c32b0
      try clear c33
      try clear c33b0
      try clear c35
      try clear c46
      try clear c46b0
      try clear c46b1
      try clear c47
      try clear c47b0
      try clear c47b1
      try clear p2
      try clear p6
      obtain ⟨kq, x56_43, rfl, HA, HJ43, HO_5, HI0, HK, HB⟩ := hcut
      cases kq with
      | zero => exact absurd HA.out (by simp [spec_l1Cur_moves.j3])
      | succ kj43 =>
       have H := HA.out
       clear HA
       simp only [spec_l1Cur_moves.j3] at H
       by_cases c48 : x56_43 = true
       ·subst c48
        have H1 : (spec_l1Cur_moves.l2 kj43 t232 ([] : List (S45)) 1 s0_0 t253 t254) = some (r1, r2, r3, r4) := by rw [if_pos rfl] at H; exact H
        clear H
        have H := H1
        clear H1
        have H' := Ya H
        clear H
        go_wp2
        go_loopg [5, 7] kj43 (fun kq v5 v7 w' => ∃ (x5_3 : List (S45)) (x7_3 : Int), v7 = .int .i64 x7_3 ∧ Aside0 (spec_l1Cur_moves.l2 kq t232 x5_3 x7_3 s0_0 t253 t254 = some (r1, r2, r3, r4)) ∧ Aside0 (kq ≤ kj43) ∧ Aside0 (Kd.R k45 45 w' w.heap.size (fun _ => True) v5 x5_3) ∧ Aside0 (IsS88 w0 w' g s0_0 t253 t254) ∧ Aside0 (KeepBut w w' g none) ∧ Aside0 (Below w0.heap.size w0 w'))
        case atStart => exact ⟨(([] : List (S45))), (1), Q5, H', ⟨Nat.le_refl _⟩, ⟨Q11⟩, ⟨Q4⟩, ⟨Q13⟩, ⟨Q6⟩⟩
        case round =>
         clear H'
         try clear c1
         try clear c2
         try clear p2
         try clear c3
         try clear c4
         try clear c6
         try clear p6
         try clear c9
         try clear c15
         try clear c15b0
         try clear c16
         try clear c16b0
         try clear c18
         try clear c22
         try clear c22b0
         try clear c22b1
         try clear c29
         try clear c29b0
         try clear c29b1
         try clear c32
         try clear c32b0
         try clear c33
         try clear c33b0
         try clear c35
         try clear c46
         try clear c46b0
         try clear c46b1
         try clear c47
         try clear c47b0
         try clear c47b1
         try clear c48
         try clear p2
         try clear p6
         obtain ⟨x5_3, x7_3, rfl, HA, HK3, HO_5, HI0, HK, HB⟩ := hrel
         cases gk with
         | zero => exact absurd HA.out (by simp [spec_l1Cur_moves.l2])
         | succ k3 =>
          have H := HA.out
          clear HA
          simp only [spec_l1Cur_moves.l2] at H
          by_cases c49 : x7_3 < t232
          ·rw [if_pos c49] at H
           have c49b0 := Z37 c49
           clear c49
           by_cases c50 : x5_3.length < 5864062014805
           ·rw [if_pos c50] at H
            have LMc50 := Ya c50
            clear c50
            obtain ⟨y272, hy272⟩ : ∃ y_ : List (S45), y_ = (x5_3 ++ [(⟨0, wrap64 (x7_3 - 1), x7_3⟩ : S45)]) := ⟨_, rfl⟩
            replace H : (spec_l1Cur_moves.l2 k3 t232 y272 (wrap64 (x7_3 + 1)) s0_0 t253 t254) = some (r1, r2, r3, r4) := by first | (rw [hy272]; with_reducible exact H) | (have H2_ := (Option.bind_some _ _).symm.trans H; rw [hy272]; with_reducible exact H2_) | (have H2_ := (Option.bind_some _ _).symm.trans H; with_reducible exact H2_) | with_reducible exact H | (rw [hy272]; exact H) | exact H
            have Ny272 := Ya hy272
            clear hy272
            have H' := Ya H
            clear H
            go_wp2_with (first | ((with_reducible refine gate_builtin (b := .append) (xs := #[.tmp 65, .tmp 70]) rfl ?_); at_builtin; refine Kd.R_append k45 w.heap.size rfl (.tmp 65) (.tmp 70) 27 45 (.agg #[(.int .i64 0), (.int .i64 0), (.int .i64 0)]) 24 rfl Try.underlying27 info45 rfl (by decide) (by omega) u5 x5_3 (⟨0, wrap64 (x7_3 - 1), x7_3⟩ : S45) [.int .i64 0, .int .i64 (wrap64 (x7_3 - 1)), .int .i64 x7_3] (fun _ => True) (fun _ => False) rfl rfl ?aP (fun _ hk => hk.elim) ?aF ?aO (Below.refl _ _) ?aS ?aL ?_; (case aP => exact k45_mkM _ _ _ (⟨0, wrap64 (x7_3 - 1), x7_3⟩ : S45)); (case aF => exact (fun _ _ => trivial)); (case aO => exact (Yr HO_5.out)); (case aS => exact (keep_size (w := w) (g := g) (row := none) Q3)); (case aL => have := LMc50.out; omega); intro v273 w51 ho hb hg hat; rw [← Ny272.out] at ho; replace HB := Ya (below_weaken Q20 HL.out hb); replace HI0 := Ya (IsS88.grown Q14 hg (IsS88.own_ne HI0.out HO_5.out (by decide))); replace HK := Ya (KeepBut.trans Q3 (KeepBut.of_grown hg g) (Kd.R_base2 HO_5.out)); have HO274 := Ya ho; clear HO_5; clear ho hb hg hat))
            go_roundg k3
            case measure => have := HJ4.out; have := HJ43.out; have := HK3.out; omega
            case rel => exact ⟨(y272), (wrap64 (x7_3 + 1)), Q5, H', ⟨by have := HJ4.out; have := HJ43.out; have := HK3.out; omega⟩, ⟨by (with_reducible repeat (first | apply Z9 | apply Z10 | apply Z11)); exact HO274.out⟩, ⟨Q4⟩, ⟨Q13⟩, ⟨Q6⟩⟩
           ·rw [if_neg c50] at H
            exact absurd H (by simp)
          ·rw [if_neg c49] at H
           have c49b0 := Z36 c49
           clear c49
           simp only [Option.some.injEq, Prod.mk.injEq] at H
           obtain ⟨rfl, rfl, rfl, rfl⟩ := H
           go_wp2
           go_ret2
           exact ⟨_, Q2, Q21, Q4, Q6, Q13⟩
       ·replace c48 := Bool.eq_false_iff.mpr c48
        subst c48
        have H1 : (if t252 = 5 then (spec_l1Cur_moves.j5 kj43 t232 x5_4 (t252 == 5) s0_0 t253 t254) else (spec_l1Cur_moves.j5 kj43 t232 x5_4 (t252 == 6) s0_0 t253 t254)) = some (r1, r2, r3, r4) := by rw [if_neg (show ¬ (false = true) by decide)] at H; exact H
        clear H
        have H := H1
        clear H1
        have HC52 := Ya H
        clear H
        go_upto_if 72 with (fail)
        go_cut [72] (fun v72 wc => ∃ (kq : Nat) (x72_51 : Bool), v72 = .bool x72_51 ∧ Aside0 (spec_l1Cur_moves.j5 kq t232 x5_4 x72_51 s0_0 t253 t254 = some (r1, r2, r3, r4)) ∧ Aside0 (kq ≤ kj43) ∧ Aside0 (Kd.R k45 45 wc w.heap.size (fun _ => True) u5 x5_4) ∧ Aside0 (IsS88 w0 wc g s0_0 t253 t254) ∧ Aside0 (KeepBut w wc g none) ∧ Aside0 (Below w0.heap.size w0 wc))
        case first =>
         have H := HC52.out
         clear HC52
         by_cases c53 : t252 = 5
         ·rw [if_pos c53] at H
          have c53b0 : (t252 == 5) = true := beq_iff_eq.mpr c53
          have c53b1 : (t252 != 5) = false := bne_eq_false_iff_eq.mpr c53
          clear c53
          (first | rw [c53b0] | (simp only [i64_w, i32_w]; rw [c53b0]) | skip)
          have H' := Ya H
          clear H
          go_wp2
          go_meet
          case rel => exact ⟨_, ((t252 == 5)), Q5, H', ⟨by have := HJ4.out; have := HJ43.out; first | omega | exact Nat.le_refl _⟩, ⟨Q21⟩, ⟨Q4⟩, ⟨Q13⟩, ⟨Q6⟩⟩
         ·rw [if_neg c53] at H
          have c53b0 : (t252 == 5) = false := beq_eq_false_iff_ne.mpr c53
          have c53b1 : (t252 != 5) = true := bne_iff_ne.mpr c53
          (first | rw [c53b0] | (simp only [i64_w, i32_w]; rw [c53b0]) | skip)
          have H' := Ya H
          clear H
          go_wp2
          go_meet
          case rel => exact ⟨_, ((t252 == 6)), Q5, H', ⟨by have := HJ4.out; have := HJ43.out; first | omega | exact Nat.le_refl _⟩, ⟨Q21⟩, ⟨Q4⟩, ⟨Q13⟩, ⟨Q6⟩⟩
        case rest =>
         clear HC52
         try clear c1
         try clear c2
         try clear p2
         try clear c3
         try clear c4
         try clear c5
         try clear c6
         try clear p6
         try clear c9
         try clear c15
         try clear c15b0
         try clear c16
         try clear c16b0
         try clear c18
         try clear c22
         try clear c22b0
         try clear c22b1
         try clear c29
         try clear c29b0
         try clear c29b1
         try clear c32
         try clear c32b0
         try clear c33
         try clear c33b0
         try clear c35
         try clear c46
         try clear c46b0
         try clear c46b1
         try clear c47
         try clear c47b0
         try clear c47b1
         try clear c48
         try clear c49
         try clear c49b0
         try clear c50
         try clear c53
         try clear c53b0
         try clear c53b1
         try clear p2
         try clear p6
         obtain ⟨kq, x72_51, rfl, HA, HJ51, HO_5, HI0, HK, HB⟩ := hcut
         cases kq with
         | zero => exact absurd HA.out (by simp [spec_l1Cur_moves.j5])
         | succ kj51 =>
          have H := HA.out
          clear HA
          simp only [spec_l1Cur_moves.j5] at H
          by_cases c54 : x72_51 = true
          ·subst c54
           have H1 : (spec_l1Cur_moves.l3 kj51 t232 ([] : List (S45)) 2 s0_0 t253 t254) = some (r1, r2, r3, r4) := by rw [if_pos rfl] at H; exact H
           clear H
           have H := H1
           clear H1
           have H' := Ya H
           clear H
           go_wp2
           go_loopg [5, 8] kj51 (fun kq v5 v8 w' => ∃ (x5_4 : List (S45)) (x8_4 : Int), v8 = .int .i64 x8_4 ∧ Aside0 (spec_l1Cur_moves.l3 kq t232 x5_4 x8_4 s0_0 t253 t254 = some (r1, r2, r3, r4)) ∧ Aside0 (kq ≤ kj51) ∧ Aside0 (Kd.R k45 45 w' w.heap.size (fun _ => True) v5 x5_4) ∧ Aside0 (IsS88 w0 w' g s0_0 t253 t254) ∧ Aside0 (KeepBut w w' g none) ∧ Aside0 (Below w0.heap.size w0 w'))
           case atStart => exact ⟨(([] : List (S45))), (2), Q5, H', ⟨Nat.le_refl _⟩, ⟨Q11⟩, ⟨Q4⟩, ⟨Q13⟩, ⟨Q6⟩⟩
           case round =>
            clear H'
            try clear c1
            try clear c2
            try clear p2
            try clear c3
            try clear c4
            try clear c5
            try clear c6
            try clear p6
            try clear c9
            try clear c15
            try clear c15b0
            try clear c16
            try clear c16b0
            try clear c18
            try clear c22
            try clear c22b0
            try clear c22b1
            try clear c29
            try clear c29b0
            try clear c29b1
            try clear c32
            try clear c32b0
            try clear c33
            try clear c33b0
            try clear c35
            try clear c46
            try clear c46b0
            try clear c46b1
            try clear c47
            try clear c47b0
            try clear c47b1
            try clear c48
            try clear c49
            try clear c49b0
            try clear c50
            try clear c53
            try clear c53b0
            try clear c53b1
            try clear c54
            try clear p2
            try clear p6
            obtain ⟨x5_4, x8_4, rfl, HA, HK4, HO_5, HI0, HK, HB⟩ := hrel
            cases gk with
            | zero => exact absurd HA.out (by simp [spec_l1Cur_moves.l3])
            | succ k4 =>
             have H := HA.out
             clear HA
             simp only [spec_l1Cur_moves.l3] at H
             by_cases c55 : x8_4 ≤ t232
             ·rw [if_pos c55] at H
              have c55b0 := Z37 c55
              clear c55
              by_cases c56 : x5_4.length < 5864062014805
              ·rw [if_pos c56] at H
               have LMc56 := Ya c56
               clear c56
               obtain ⟨y275, hy275⟩ : ∃ y_ : List (S45), y_ = (x5_4 ++ [(⟨1, x8_4, 0⟩ : S45)]) := ⟨_, rfl⟩
               replace H : (spec_l1Cur_moves.l3 k4 t232 y275 (wrap64 (x8_4 + 1)) s0_0 t253 t254) = some (r1, r2, r3, r4) := by first | (rw [hy275]; with_reducible exact H) | (have H2_ := (Option.bind_some _ _).symm.trans H; rw [hy275]; with_reducible exact H2_) | (have H2_ := (Option.bind_some _ _).symm.trans H; with_reducible exact H2_) | with_reducible exact H | (rw [hy275]; exact H) | exact H
               have Ny275 := Ya hy275
               clear hy275
               have H' := Ya H
               clear H
               go_wp2_with (first | ((with_reducible refine gate_builtin (b := .append) (xs := #[.tmp 80, .tmp 83]) rfl ?_); at_builtin; refine Kd.R_append k45 w.heap.size rfl (.tmp 80) (.tmp 83) 27 45 (.agg #[(.int .i64 0), (.int .i64 0), (.int .i64 0)]) 24 rfl Try.underlying27 info45 rfl (by decide) (by omega) u5 x5_4 (⟨1, x8_4, 0⟩ : S45) [.int .i64 1, .int .i64 x8_4, .int .i64 0] (fun _ => True) (fun _ => False) rfl rfl ?aP (fun _ hk => hk.elim) ?aF ?aO (Below.refl _ _) ?aS ?aL ?_; (case aP => exact k45_mkM _ _ _ (⟨1, x8_4, 0⟩ : S45)); (case aF => exact (fun _ _ => trivial)); (case aO => exact (Yr HO_5.out)); (case aS => exact (keep_size (w := w) (g := g) (row := none) Q3)); (case aL => have := LMc56.out; omega); intro v276 w57 ho hb hg hat; rw [← Ny275.out] at ho; replace HB := Ya (below_weaken Q20 HL.out hb); replace HI0 := Ya (IsS88.grown Q14 hg (IsS88.own_ne HI0.out HO_5.out (by decide))); replace HK := Ya (KeepBut.trans Q3 (KeepBut.of_grown hg g) (Kd.R_base2 HO_5.out)); have HO277 := Ya ho; clear HO_5; clear ho hb hg hat))
               go_roundg k4
               case measure => have := HJ4.out; have := HJ43.out; have := HJ51.out; have := HK4.out; omega
               case rel => exact ⟨(y275), (wrap64 (x8_4 + 1)), Q5, H', ⟨by have := HJ4.out; have := HJ43.out; have := HJ51.out; have := HK4.out; omega⟩, ⟨by (with_reducible repeat (first | apply Z9 | apply Z10 | apply Z11)); exact HO277.out⟩, ⟨Q4⟩, ⟨Q13⟩, ⟨Q6⟩⟩
              ·rw [if_neg c56] at H
               exact absurd H (by simp)
             ·rw [if_neg c55] at H
              have c55b0 := Z36 c55
              clear c55
              simp only [Option.some.injEq, Prod.mk.injEq] at H
              obtain ⟨rfl, rfl, rfl, rfl⟩ := H
              go_wp2
              go_ret2
              exact ⟨_, Q2, Q21, Q4, Q6, Q13⟩
          ·replace c54 := Bool.eq_false_iff.mpr c54
           subst c54
           have H1 : (some (t232, x5_4, t253, t254)) = some (r1, r2, r3, r4) := by rw [if_neg (show ¬ (false = true) by decide)] at H; exact H
           clear H
           have H := H1
           clear H1
           simp only [Option.some.injEq, Prod.mk.injEq] at H
           obtain ⟨rfl, rfl, rfl, rfl⟩ := H
           go_wp2
           go_ret2
           exact ⟨_, Q2, Q21, Q4, Q6, Q13⟩
def spec_DrawGreedyList.f (k : Nat) (l0 : List Int) : Option (Int × (List (S45))) := (spec_l1Cur_moves.f k l0 0 0).bind fun bt279 => (some (bt279.1, bt279.2.1))
theorem spec_DrawGreedyList.mono : ∀ a0 k, LeO (spec_DrawGreedyList.f k a0) (spec_DrawGreedyList.f (k + 1) a0) := by
 intro a0 k
 unfold spec_DrawGreedyList.f
 repeat' first
   | (with_reducible exact spec_l1Cur_moves.mono _ _ _ _)
   | (with_reducible exact LeO.refl _)
   | (with_reducible exact LeO.none _)
   | (with_reducible refine LeO.ite ?_ ?_)
   | (with_reducible refine LeO.bind ?_ (fun _ => ?_))
   | exact spec_l1Cur_moves.mono _ _ _ _
   | exact LeO.none _
   | refine LeO.ite ?_ ?_
   | refine LeO.bind ?_ (fun _ => ?_)
set_option maxHeartbeats 8000000 in
set_option maxRecDepth 100000 in
theorem spec_DrawGreedyList.calls (k : Nat) (A0 : Option Addr) (c0 : Nat) (l0 : List Int) (r1 : Int) (r2 : List (S45)) (w : World) (hr0 : Kd.C (Kd.int .u8) w A0 l0.length l0) (hc0 : l0.length ≤ c0) (h : spec_DrawGreedyList.f k l0 = some (r1, r2)) :
  Calls Try.prog 32 #[.slice A0 l0.length c0] w fun e w' => ∃ v1_ : Value, e = .returned (.tuple #[.int .i64 r1, v1_]) ∧ Kd.R k45 45 w' w.heap.size (fun _ => True) v1_ r2 ∧ Below w.heap.size w w' := by
 have hu88 := Try.underlying88
 have HR0 := Ya hr0
 have HC0 := Ya hc0
 clear hr0 hc0
 have HB := Ya (Below.refl w.heap.size w)
 have H : ((spec_l1Cur_moves.f k l0 0 0).bind fun bt279 => (some (bt279.1, bt279.2.1))) = some (r1, r2) := h
 clear h
 replace H := Z35.mp H
 obtain ⟨⟨t279, t280, t283, t284⟩, A20, H⟩ := H
 replace H : (some (t279, t280)) = some (r1, r2) := H
 have A2 := Ya A20
 clear A20
 simp only [Option.some.injEq, Prod.mk.injEq] at H
 obtain ⟨rfl, rfl⟩ := H
 go_enter Try.func32, Try.ntmps32
 go_wp2_with (first | ((with_reducible refine gate_dst (N := 7) rfl ?_); refine Yx 7 #[.slice A0 l0.length c0, .int .i64 0, .int .u64 0] 88 ?_; intro gb278 hg w3 hbox hb; have HI278 := Ya ((show IsS88 w w3 gb278 l0 0 0 from ⟨_, _, hbox, (by rw [hg]; exact (Z7 Q12) : w.heap.size ≤ gb278), HR0.out⟩)); replace HB := Yh hb; clear hb hbox hg) | ((with_reducible refine gate_callee (f := 64) rfl ?_); refine Yz 9 Try.func64 #[.pointer (some ⟨gb278, 0, none⟩)] ?_; (with_reducible refine (spec_l1Cur_moves.calls k gb278 l0 0 0 t279 t280 t283 t284 w _ ?side1 ?side2 A2.out).mono ?_); (case side1 => repeat (first | (with_reducible first | exact HI278.out | apply IsS88.alloc | apply IsS88.drewN | apply IsS88.drew | apply IsS88.set_1 | apply IsS88.set_2) | exact HI278.out)); (case side2 => repeat (first | (with_reducible first | exact HB.out | apply Z5 | apply Z3 | apply Z4 | refine Z6 ?_ (IsS88.ge HI278.out)) | exact HB.out)); rintro e w4 ⟨v281, rfl, ho0, hi, hb, hk⟩; refine ⟨_, rfl, ?_⟩; have HO282 := Ya (Kd.R_lower ho0 (Z7 (by repeat (first | (with_reducible first | exact HB.out | apply Z5 | apply Z3 | apply Z4 | refine Z6 ?_ (IsS88.ge HI278.out)) | exact HB.out)))); replace HB := Ya hb; replace HI278 := Ya hi; (try clear hb hk hi ho0)))
 go_ret2
 exact ⟨_, Q2, by (with_reducible repeat (first | apply Z9 | apply Z10 | apply Z11)); exact HO282.out, by repeat (first | (with_reducible first | exact HB.out | apply Z5 | apply Z3 | apply Z4 | refine Z6 ?_ (IsS88.ge HI278.out)) | exact HB.out)⟩
end Go.Proofs.Ytllhnnjkonghlaa.MFnGreedyLists
